/-
  Printed by gsx.py: functions of the program as Lean functions, and that the code computes them.
-/
import Derived.Test.YtbjnjffckhdhgaaGreatDoorShelf
set_option linter.unusedVariables false
set_option maxRecDepth 10000
namespace Go.Proofs.YtbjnjffckhdhgaaGreatDoor
open Go.SX
def F_field_times (n : Nat) (a0 : Int) (a1 : Int) (a2 : Int) (a3 : Int) : Option (Int × Int × Int) :=
 if inI64 (a0 * a1) then
 if inI64 (a0 * a2) then
 if inI64 (a0 * a3) then
 some ((a0 * a1), (a0 * a2), (a0 * a3))
 else none
 else none
 else none
theorem c_field_times {n : Nat} {a0 : Int} {a1 : Int} {a2 : Int} {a3 : Int} {r : Int × Int × Int} (h : F_field_times n a0 a1 a2 a3 = some r) : Computes cx 73 [I a0, .agg [I a1, I a2, I a3]] (.agg [I r.1, I r.2.1, I r.2.2]) := by
 unfold F_field_times at h
 obtain ⟨h1, h⟩ := gd h; obtain ⟨h2, h⟩ := gd h; obtain ⟨h3, h⟩ := gd h
 obtain rfl := oi h
 exact run_fr (n := 100) (orc := []) (allC h3 (allC h2 (allC h1 allN))) (by kernel_rfl)
def F_field_plus (n : Nat) (a0 : Int) (a1 : Int) (a2 : Int) (a3 : Int) (a4 : Int) (a5 : Int) : Option (Int × Int × Int) :=
 if inI64 (a0 + a3) then
 if inI64 (a1 + a4) then
 if inI64 (a2 + a5) then
 some ((a0 + a3), (a1 + a4), (a2 + a5))
 else none
 else none
 else none
theorem c_field_plus {n : Nat} {a0 : Int} {a1 : Int} {a2 : Int} {a3 : Int} {a4 : Int} {a5 : Int} {r : Int × Int × Int} (h : F_field_plus n a0 a1 a2 a3 a4 a5 = some r) : Computes cx 72 [.agg [I a0, I a1, I a2], .agg [I a3, I a4, I a5]] (.agg [I r.1, I r.2.1, I r.2.2]) := by
 unfold F_field_plus at h
 obtain ⟨h1, h⟩ := gd h; obtain ⟨h2, h⟩ := gd h; obtain ⟨h3, h⟩ := gd h
 obtain rfl := oi h
 exact run_fr (n := 100) (orc := []) (allC h3 (allC h2 (allC h1 allN))) (by kernel_rfl)
def F_field_cross (n : Nat) (a0 : Int) (a1 : Int) (a2 : Int) (a3 : Int) (a4 : Int) (a5 : Int) : Option (Int × Int × Int) :=
 if inI64 (a1 * a5) then
 if inI64 (a2 * a4) then
 if inI64 ((a1 * a5) - (a2 * a4)) then
 if inI64 (a2 * a3) then
 if inI64 (a0 * a5) then
 if inI64 ((a2 * a3) - (a0 * a5)) then
 if inI64 (a0 * a4) then
 if inI64 (a1 * a3) then
 if inI64 ((a0 * a4) - (a1 * a3)) then
 some (((a1 * a5) - (a2 * a4)), ((a2 * a3) - (a0 * a5)), ((a0 * a4) - (a1 * a3)))
 else none
 else none
 else none
 else none
 else none
 else none
 else none
 else none
 else none
theorem c_field_cross {n : Nat} {a0 : Int} {a1 : Int} {a2 : Int} {a3 : Int} {a4 : Int} {a5 : Int} {r : Int × Int × Int} (h : F_field_cross n a0 a1 a2 a3 a4 a5 = some r) : Computes cx 89 [.agg [I a0, I a1, I a2], .agg [I a3, I a4, I a5]] (.agg [I r.1, I r.2.1, I r.2.2]) := by
 unfold F_field_cross at h
 obtain ⟨h1, h⟩ := gd h; obtain ⟨h2, h⟩ := gd h; obtain ⟨h3, h⟩ := gd h; obtain ⟨h4, h⟩ := gd h; obtain ⟨h5, h⟩ := gd h; obtain ⟨h6, h⟩ := gd h; obtain ⟨h7, h⟩ := gd h; obtain ⟨h8, h⟩ := gd h; obtain ⟨h9, h⟩ := gd h
 obtain rfl := oi h
 exact run_fr (n := 100) (orc := []) (allC h9 (allC h8 (allC h7 (allC h6 (allC h5 (allC h4 (allC h3 (allC h2 (allC h1 allN))))))))) (by kernel_rfl)
/- (spillage/field.Mirror).normal: .agg [.v (.string a0), I a1, I a2, I a3, I a4, I a5, I a6, I a7, I a8, I a9] -/
def F_field_Mirror_normal (n : Nat) (a0 : ByteArray) (a1 : Int) (a2 : Int) (a3 : Int) (a4 : Int) (a5 : Int) (a6 : Int) (a7 : Int) (a8 : Int) (a9 : Int) : Option (Int × Int × Int) :=
 (F_field_cross n a4 a5 a6 a7 a8 a9).bind fun t1 =>
 some (t1.1, t1.2.1, t1.2.2)
theorem c_field_Mirror_normal {n : Nat} {a0 : ByteArray} {a1 : Int} {a2 : Int} {a3 : Int} {a4 : Int} {a5 : Int} {a6 : Int} {a7 : Int} {a8 : Int} {a9 : Int} {r : Int × Int × Int} (h : F_field_Mirror_normal n a0 a1 a2 a3 a4 a5 a6 a7 a8 a9 = some r) : Computes cx 55 [.agg [.v (.string a0), I a1, I a2, I a3, I a4, I a5, I a6, I a7, I a8, I a9]] (.agg [I r.1, I r.2.1, I r.2.2]) := by
 unfold F_field_Mirror_normal at h
 obtain ⟨t1, h1, h⟩ := bo h
 obtain rfl := oi h
 exact run_fr (n := 100) (orc := [.ret (.agg [I t1.1, I t1.2.1, I t1.2.2])]) (allC (c_field_cross h1) allN) (by kernel_rfl)
def F_field_dot (n : Nat) (a0 : Int) (a1 : Int) (a2 : Int) (a3 : Int) (a4 : Int) (a5 : Int) : Option (Int) :=
 if inI64 (a0 * a3) then
 if inI64 (a1 * a4) then
 if inI64 ((a0 * a3) + (a1 * a4)) then
 if inI64 (a2 * a5) then
 if inI64 (((a0 * a3) + (a1 * a4)) + (a2 * a5)) then
 some (((a0 * a3) + (a1 * a4)) + (a2 * a5))
 else none
 else none
 else none
 else none
 else none
theorem c_field_dot {n : Nat} {a0 : Int} {a1 : Int} {a2 : Int} {a3 : Int} {a4 : Int} {a5 : Int} {r : Int} (h : F_field_dot n a0 a1 a2 a3 a4 a5 = some r) : Computes cx 58 [.agg [I a0, I a1, I a2], .agg [I a3, I a4, I a5]] (I r) := by
 unfold F_field_dot at h
 obtain ⟨h1, h⟩ := gd h; obtain ⟨h2, h⟩ := gd h; obtain ⟨h3, h⟩ := gd h; obtain ⟨h4, h⟩ := gd h; obtain ⟨h5, h⟩ := gd h
 obtain rfl := oi h
 exact run_fr (n := 100) (orc := []) (allC h5 (allC h4 (allC h3 (allC h2 (allC h1 allN))))) (by kernel_rfl)
theorem e_field_Mirror_meets_0 (a0 : ByteArray) (a1 : Int) (a2 : Int) (a3 : Int) (a4 : Int) (a5 : Int) (a6 : Int) (a7 : Int) (a8 : Int) (a9 : Int) (a10 : Int) (a11 : Int) (a12 : Int) (a13 : Int) (a14 : Int) (a15 : Int) (a16 : Int) (a17 : Bool) (t1 : Int × Int × Int) (t2 : Int × Int × Int) (t3 : Int × Int × Int) (t4 : Int) (t5 : Int) : runFn true 100 cx 80 [.agg [.v (.string a0), I a1, I a2, I a3, I a4, I a5, I a6, I a7, I a8, I a9], I a10, .agg [I a11, I a12, I a13, I a14, I a15, I a16, B a17]] [.ret (.agg [I t1.1, I t1.2.1, I t1.2.2]), .ret (.agg [I t2.1, I t2.2.1, I t2.2.2]), .ret (.agg [I t3.1, I t3.2.1, I t3.2.2]), .ret (I t4), .ret (.agg [I t3.1, I t3.2.1, I t3.2.2]), .ret (I t5), .br true, .br true, .no, .no] = some (B false, [((IntKind.wrap .i64 (0 - t4)) == 0) = true, (decide (t4 < 0)) = true, Computes cx 58 [.agg [I t3.1, I t3.2.1, I t3.2.2], .agg [I t2.1, I t2.2.1, I t2.2.2]] (I t5), Computes cx 55 [.agg [.v (.string a0), I a1, I a2, I a3, I a4, I a5, I a6, I a7, I a8, I a9]] (.agg [I t3.1, I t3.2.1, I t3.2.2]), Computes cx 58 [.agg [I t3.1, I t3.2.1, I t3.2.2], .agg [I a14, I a15, I a16]] (I t4), Computes cx 55 [.agg [.v (.string a0), I a1, I a2, I a3, I a4, I a5, I a6, I a7, I a8, I a9]] (.agg [I t3.1, I t3.2.1, I t3.2.2]), Computes cx 72 [.agg [I a11, I a12, I a13], .agg [I t1.1, I t1.2.1, I t1.2.2]] (.agg [I t2.1, I t2.2.1, I t2.2.2]), Computes cx 73 [I (IntKind.wrap .i64 (0 - a10)), .agg [I a1, I a2, I a3]] (.agg [I t1.1, I t1.2.1, I t1.2.2])]) := by kernel_rfl
theorem e_field_Mirror_meets_1 (a0 : ByteArray) (a1 : Int) (a2 : Int) (a3 : Int) (a4 : Int) (a5 : Int) (a6 : Int) (a7 : Int) (a8 : Int) (a9 : Int) (a10 : Int) (a11 : Int) (a12 : Int) (a13 : Int) (a14 : Int) (a15 : Int) (a16 : Int) (a17 : Bool) (t1 : Int × Int × Int) (t2 : Int × Int × Int) (t3 : Int × Int × Int) (t4 : Int) (t5 : Int) : runFn true 100 cx 80 [.agg [.v (.string a0), I a1, I a2, I a3, I a4, I a5, I a6, I a7, I a8, I a9], I a10, .agg [I a11, I a12, I a13, I a14, I a15, I a16, B a17]] [.ret (.agg [I t1.1, I t1.2.1, I t1.2.2]), .ret (.agg [I t2.1, I t2.2.1, I t2.2.2]), .ret (.agg [I t3.1, I t3.2.1, I t3.2.2]), .ret (I t4), .ret (.agg [I t3.1, I t3.2.1, I t3.2.2]), .ret (I t5), .br true, .br false, .br true, .no] = some (B false, [(decide ((IntKind.wrap .i64 (0 - (IntKind.wrap .i64 (0 - t5)))) ≤ 0)) = true, ((IntKind.wrap .i64 (0 - t4)) == 0) = false, (decide (t4 < 0)) = true, Computes cx 58 [.agg [I t3.1, I t3.2.1, I t3.2.2], .agg [I t2.1, I t2.2.1, I t2.2.2]] (I t5), Computes cx 55 [.agg [.v (.string a0), I a1, I a2, I a3, I a4, I a5, I a6, I a7, I a8, I a9]] (.agg [I t3.1, I t3.2.1, I t3.2.2]), Computes cx 58 [.agg [I t3.1, I t3.2.1, I t3.2.2], .agg [I a14, I a15, I a16]] (I t4), Computes cx 55 [.agg [.v (.string a0), I a1, I a2, I a3, I a4, I a5, I a6, I a7, I a8, I a9]] (.agg [I t3.1, I t3.2.1, I t3.2.2]), Computes cx 72 [.agg [I a11, I a12, I a13], .agg [I t1.1, I t1.2.1, I t1.2.2]] (.agg [I t2.1, I t2.2.1, I t2.2.2]), Computes cx 73 [I (IntKind.wrap .i64 (0 - a10)), .agg [I a1, I a2, I a3]] (.agg [I t1.1, I t1.2.1, I t1.2.2])]) := by kernel_rfl
theorem e_field_Mirror_meets_2 (a0 : ByteArray) (a1 : Int) (a2 : Int) (a3 : Int) (a4 : Int) (a5 : Int) (a6 : Int) (a7 : Int) (a8 : Int) (a9 : Int) (a10 : Int) (a11 : Int) (a12 : Int) (a13 : Int) (a14 : Int) (a15 : Int) (a16 : Int) (a17 : Bool) (t1 : Int × Int × Int) (t2 : Int × Int × Int) (t3 : Int × Int × Int) (t4 : Int) (t5 : Int) : runFn true 100 cx 80 [.agg [.v (.string a0), I a1, I a2, I a3, I a4, I a5, I a6, I a7, I a8, I a9], I a10, .agg [I a11, I a12, I a13, I a14, I a15, I a16, B a17]] [.ret (.agg [I t1.1, I t1.2.1, I t1.2.2]), .ret (.agg [I t2.1, I t2.2.1, I t2.2.2]), .ret (.agg [I t3.1, I t3.2.1, I t3.2.2]), .ret (I t4), .ret (.agg [I t3.1, I t3.2.1, I t3.2.2]), .ret (I t5), .br true, .br false, .br false, .br true, .br true] = some (B false, [(decide ((IntKind.wrap .i64 (0 - (IntKind.wrap .i64 (0 - t5)))) ≥ (IntKind.wrap .i64 (0 - t4)))) = true, a17 = true, (decide ((IntKind.wrap .i64 (0 - (IntKind.wrap .i64 (0 - t5)))) ≤ 0)) = false, ((IntKind.wrap .i64 (0 - t4)) == 0) = false, (decide (t4 < 0)) = true, Computes cx 58 [.agg [I t3.1, I t3.2.1, I t3.2.2], .agg [I t2.1, I t2.2.1, I t2.2.2]] (I t5), Computes cx 55 [.agg [.v (.string a0), I a1, I a2, I a3, I a4, I a5, I a6, I a7, I a8, I a9]] (.agg [I t3.1, I t3.2.1, I t3.2.2]), Computes cx 58 [.agg [I t3.1, I t3.2.1, I t3.2.2], .agg [I a14, I a15, I a16]] (I t4), Computes cx 55 [.agg [.v (.string a0), I a1, I a2, I a3, I a4, I a5, I a6, I a7, I a8, I a9]] (.agg [I t3.1, I t3.2.1, I t3.2.2]), Computes cx 72 [.agg [I a11, I a12, I a13], .agg [I t1.1, I t1.2.1, I t1.2.2]] (.agg [I t2.1, I t2.2.1, I t2.2.2]), Computes cx 73 [I (IntKind.wrap .i64 (0 - a10)), .agg [I a1, I a2, I a3]] (.agg [I t1.1, I t1.2.1, I t1.2.2])]) := by kernel_rfl
theorem e_field_Mirror_meets_3 (a0 : ByteArray) (a1 : Int) (a2 : Int) (a3 : Int) (a4 : Int) (a5 : Int) (a6 : Int) (a7 : Int) (a8 : Int) (a9 : Int) (a10 : Int) (a11 : Int) (a12 : Int) (a13 : Int) (a14 : Int) (a15 : Int) (a16 : Int) (a17 : Bool) (t1 : Int × Int × Int) (t2 : Int × Int × Int) (t3 : Int × Int × Int) (t4 : Int) (t5 : Int) (t11 : Int × Int × Int) (t12 : Int) (t13 : Int) : runFn true 100 cx 80 [.agg [.v (.string a0), I a1, I a2, I a3, I a4, I a5, I a6, I a7, I a8, I a9], I a10, .agg [I a11, I a12, I a13, I a14, I a15, I a16, B a17]] [.ret (.agg [I t1.1, I t1.2.1, I t1.2.2]), .ret (.agg [I t2.1, I t2.2.1, I t2.2.2]), .ret (.agg [I t3.1, I t3.2.1, I t3.2.2]), .ret (I t4), .ret (.agg [I t3.1, I t3.2.1, I t3.2.2]), .ret (I t5), .br true, .br false, .br false, .br true, .br false, .ret (.agg [I t11.1, I t11.2.1, I t11.2.2]), .ret (I t12), .ret (I t13), .br true] = some (B (decide ((maxI t13 (IntKind.wrap .i64 (0 - t13))) ≤ (a10 * (IntKind.wrap .i64 (0 - t4))))), [inI64 (a10 * (IntKind.wrap .i64 (0 - t4))), (decide ((maxI t12 (IntKind.wrap .i64 (0 - t12))) ≤ (a10 * (IntKind.wrap .i64 (0 - t4))))) = true, inI64 (a10 * (IntKind.wrap .i64 (0 - t4))), Computes cx 58 [.agg [I t11.1, I t11.2.1, I t11.2.2], .agg [I a4, I a5, I a6]] (I t13), Computes cx 58 [.agg [I t11.1, I t11.2.1, I t11.2.2], .agg [I a7, I a8, I a9]] (I t12), Computes cx 89 [.agg [I a14, I a15, I a16], .agg [I t2.1, I t2.2.1, I t2.2.2]] (.agg [I t11.1, I t11.2.1, I t11.2.2]), (decide ((IntKind.wrap .i64 (0 - (IntKind.wrap .i64 (0 - t5)))) ≥ (IntKind.wrap .i64 (0 - t4)))) = false, a17 = true, (decide ((IntKind.wrap .i64 (0 - (IntKind.wrap .i64 (0 - t5)))) ≤ 0)) = false, ((IntKind.wrap .i64 (0 - t4)) == 0) = false, (decide (t4 < 0)) = true, Computes cx 58 [.agg [I t3.1, I t3.2.1, I t3.2.2], .agg [I t2.1, I t2.2.1, I t2.2.2]] (I t5), Computes cx 55 [.agg [.v (.string a0), I a1, I a2, I a3, I a4, I a5, I a6, I a7, I a8, I a9]] (.agg [I t3.1, I t3.2.1, I t3.2.2]), Computes cx 58 [.agg [I t3.1, I t3.2.1, I t3.2.2], .agg [I a14, I a15, I a16]] (I t4), Computes cx 55 [.agg [.v (.string a0), I a1, I a2, I a3, I a4, I a5, I a6, I a7, I a8, I a9]] (.agg [I t3.1, I t3.2.1, I t3.2.2]), Computes cx 72 [.agg [I a11, I a12, I a13], .agg [I t1.1, I t1.2.1, I t1.2.2]] (.agg [I t2.1, I t2.2.1, I t2.2.2]), Computes cx 73 [I (IntKind.wrap .i64 (0 - a10)), .agg [I a1, I a2, I a3]] (.agg [I t1.1, I t1.2.1, I t1.2.2])]) := by kernel_rfl
theorem e_field_Mirror_meets_4 (a0 : ByteArray) (a1 : Int) (a2 : Int) (a3 : Int) (a4 : Int) (a5 : Int) (a6 : Int) (a7 : Int) (a8 : Int) (a9 : Int) (a10 : Int) (a11 : Int) (a12 : Int) (a13 : Int) (a14 : Int) (a15 : Int) (a16 : Int) (a17 : Bool) (t1 : Int × Int × Int) (t2 : Int × Int × Int) (t3 : Int × Int × Int) (t4 : Int) (t5 : Int) (t11 : Int × Int × Int) (t12 : Int) (t13 : Int) : runFn true 100 cx 80 [.agg [.v (.string a0), I a1, I a2, I a3, I a4, I a5, I a6, I a7, I a8, I a9], I a10, .agg [I a11, I a12, I a13, I a14, I a15, I a16, B a17]] [.ret (.agg [I t1.1, I t1.2.1, I t1.2.2]), .ret (.agg [I t2.1, I t2.2.1, I t2.2.2]), .ret (.agg [I t3.1, I t3.2.1, I t3.2.2]), .ret (I t4), .ret (.agg [I t3.1, I t3.2.1, I t3.2.2]), .ret (I t5), .br true, .br false, .br false, .br true, .br false, .ret (.agg [I t11.1, I t11.2.1, I t11.2.2]), .ret (I t12), .ret (I t13), .br false] = some (B false, [(decide ((maxI t12 (IntKind.wrap .i64 (0 - t12))) ≤ (a10 * (IntKind.wrap .i64 (0 - t4))))) = false, inI64 (a10 * (IntKind.wrap .i64 (0 - t4))), Computes cx 58 [.agg [I t11.1, I t11.2.1, I t11.2.2], .agg [I a4, I a5, I a6]] (I t13), Computes cx 58 [.agg [I t11.1, I t11.2.1, I t11.2.2], .agg [I a7, I a8, I a9]] (I t12), Computes cx 89 [.agg [I a14, I a15, I a16], .agg [I t2.1, I t2.2.1, I t2.2.2]] (.agg [I t11.1, I t11.2.1, I t11.2.2]), (decide ((IntKind.wrap .i64 (0 - (IntKind.wrap .i64 (0 - t5)))) ≥ (IntKind.wrap .i64 (0 - t4)))) = false, a17 = true, (decide ((IntKind.wrap .i64 (0 - (IntKind.wrap .i64 (0 - t5)))) ≤ 0)) = false, ((IntKind.wrap .i64 (0 - t4)) == 0) = false, (decide (t4 < 0)) = true, Computes cx 58 [.agg [I t3.1, I t3.2.1, I t3.2.2], .agg [I t2.1, I t2.2.1, I t2.2.2]] (I t5), Computes cx 55 [.agg [.v (.string a0), I a1, I a2, I a3, I a4, I a5, I a6, I a7, I a8, I a9]] (.agg [I t3.1, I t3.2.1, I t3.2.2]), Computes cx 58 [.agg [I t3.1, I t3.2.1, I t3.2.2], .agg [I a14, I a15, I a16]] (I t4), Computes cx 55 [.agg [.v (.string a0), I a1, I a2, I a3, I a4, I a5, I a6, I a7, I a8, I a9]] (.agg [I t3.1, I t3.2.1, I t3.2.2]), Computes cx 72 [.agg [I a11, I a12, I a13], .agg [I t1.1, I t1.2.1, I t1.2.2]] (.agg [I t2.1, I t2.2.1, I t2.2.2]), Computes cx 73 [I (IntKind.wrap .i64 (0 - a10)), .agg [I a1, I a2, I a3]] (.agg [I t1.1, I t1.2.1, I t1.2.2])]) := by kernel_rfl
theorem e_field_Mirror_meets_5 (a0 : ByteArray) (a1 : Int) (a2 : Int) (a3 : Int) (a4 : Int) (a5 : Int) (a6 : Int) (a7 : Int) (a8 : Int) (a9 : Int) (a10 : Int) (a11 : Int) (a12 : Int) (a13 : Int) (a14 : Int) (a15 : Int) (a16 : Int) (a17 : Bool) (t1 : Int × Int × Int) (t2 : Int × Int × Int) (t3 : Int × Int × Int) (t4 : Int) (t5 : Int) (t10 : Int × Int × Int) (t11 : Int) (t12 : Int) : runFn true 100 cx 80 [.agg [.v (.string a0), I a1, I a2, I a3, I a4, I a5, I a6, I a7, I a8, I a9], I a10, .agg [I a11, I a12, I a13, I a14, I a15, I a16, B a17]] [.ret (.agg [I t1.1, I t1.2.1, I t1.2.2]), .ret (.agg [I t2.1, I t2.2.1, I t2.2.2]), .ret (.agg [I t3.1, I t3.2.1, I t3.2.2]), .ret (I t4), .ret (.agg [I t3.1, I t3.2.1, I t3.2.2]), .ret (I t5), .br true, .br false, .br false, .br false, .no, .ret (.agg [I t10.1, I t10.2.1, I t10.2.2]), .ret (I t11), .ret (I t12), .br true] = some (B (decide ((maxI t12 (IntKind.wrap .i64 (0 - t12))) ≤ (a10 * (IntKind.wrap .i64 (0 - t4))))), [inI64 (a10 * (IntKind.wrap .i64 (0 - t4))), (decide ((maxI t11 (IntKind.wrap .i64 (0 - t11))) ≤ (a10 * (IntKind.wrap .i64 (0 - t4))))) = true, inI64 (a10 * (IntKind.wrap .i64 (0 - t4))), Computes cx 58 [.agg [I t10.1, I t10.2.1, I t10.2.2], .agg [I a4, I a5, I a6]] (I t12), Computes cx 58 [.agg [I t10.1, I t10.2.1, I t10.2.2], .agg [I a7, I a8, I a9]] (I t11), Computes cx 89 [.agg [I a14, I a15, I a16], .agg [I t2.1, I t2.2.1, I t2.2.2]] (.agg [I t10.1, I t10.2.1, I t10.2.2]), a17 = false, (decide ((IntKind.wrap .i64 (0 - (IntKind.wrap .i64 (0 - t5)))) ≤ 0)) = false, ((IntKind.wrap .i64 (0 - t4)) == 0) = false, (decide (t4 < 0)) = true, Computes cx 58 [.agg [I t3.1, I t3.2.1, I t3.2.2], .agg [I t2.1, I t2.2.1, I t2.2.2]] (I t5), Computes cx 55 [.agg [.v (.string a0), I a1, I a2, I a3, I a4, I a5, I a6, I a7, I a8, I a9]] (.agg [I t3.1, I t3.2.1, I t3.2.2]), Computes cx 58 [.agg [I t3.1, I t3.2.1, I t3.2.2], .agg [I a14, I a15, I a16]] (I t4), Computes cx 55 [.agg [.v (.string a0), I a1, I a2, I a3, I a4, I a5, I a6, I a7, I a8, I a9]] (.agg [I t3.1, I t3.2.1, I t3.2.2]), Computes cx 72 [.agg [I a11, I a12, I a13], .agg [I t1.1, I t1.2.1, I t1.2.2]] (.agg [I t2.1, I t2.2.1, I t2.2.2]), Computes cx 73 [I (IntKind.wrap .i64 (0 - a10)), .agg [I a1, I a2, I a3]] (.agg [I t1.1, I t1.2.1, I t1.2.2])]) := by kernel_rfl
theorem e_field_Mirror_meets_6 (a0 : ByteArray) (a1 : Int) (a2 : Int) (a3 : Int) (a4 : Int) (a5 : Int) (a6 : Int) (a7 : Int) (a8 : Int) (a9 : Int) (a10 : Int) (a11 : Int) (a12 : Int) (a13 : Int) (a14 : Int) (a15 : Int) (a16 : Int) (a17 : Bool) (t1 : Int × Int × Int) (t2 : Int × Int × Int) (t3 : Int × Int × Int) (t4 : Int) (t5 : Int) (t10 : Int × Int × Int) (t11 : Int) (t12 : Int) : runFn true 100 cx 80 [.agg [.v (.string a0), I a1, I a2, I a3, I a4, I a5, I a6, I a7, I a8, I a9], I a10, .agg [I a11, I a12, I a13, I a14, I a15, I a16, B a17]] [.ret (.agg [I t1.1, I t1.2.1, I t1.2.2]), .ret (.agg [I t2.1, I t2.2.1, I t2.2.2]), .ret (.agg [I t3.1, I t3.2.1, I t3.2.2]), .ret (I t4), .ret (.agg [I t3.1, I t3.2.1, I t3.2.2]), .ret (I t5), .br true, .br false, .br false, .br false, .no, .ret (.agg [I t10.1, I t10.2.1, I t10.2.2]), .ret (I t11), .ret (I t12), .br false] = some (B false, [(decide ((maxI t11 (IntKind.wrap .i64 (0 - t11))) ≤ (a10 * (IntKind.wrap .i64 (0 - t4))))) = false, inI64 (a10 * (IntKind.wrap .i64 (0 - t4))), Computes cx 58 [.agg [I t10.1, I t10.2.1, I t10.2.2], .agg [I a4, I a5, I a6]] (I t12), Computes cx 58 [.agg [I t10.1, I t10.2.1, I t10.2.2], .agg [I a7, I a8, I a9]] (I t11), Computes cx 89 [.agg [I a14, I a15, I a16], .agg [I t2.1, I t2.2.1, I t2.2.2]] (.agg [I t10.1, I t10.2.1, I t10.2.2]), a17 = false, (decide ((IntKind.wrap .i64 (0 - (IntKind.wrap .i64 (0 - t5)))) ≤ 0)) = false, ((IntKind.wrap .i64 (0 - t4)) == 0) = false, (decide (t4 < 0)) = true, Computes cx 58 [.agg [I t3.1, I t3.2.1, I t3.2.2], .agg [I t2.1, I t2.2.1, I t2.2.2]] (I t5), Computes cx 55 [.agg [.v (.string a0), I a1, I a2, I a3, I a4, I a5, I a6, I a7, I a8, I a9]] (.agg [I t3.1, I t3.2.1, I t3.2.2]), Computes cx 58 [.agg [I t3.1, I t3.2.1, I t3.2.2], .agg [I a14, I a15, I a16]] (I t4), Computes cx 55 [.agg [.v (.string a0), I a1, I a2, I a3, I a4, I a5, I a6, I a7, I a8, I a9]] (.agg [I t3.1, I t3.2.1, I t3.2.2]), Computes cx 72 [.agg [I a11, I a12, I a13], .agg [I t1.1, I t1.2.1, I t1.2.2]] (.agg [I t2.1, I t2.2.1, I t2.2.2]), Computes cx 73 [I (IntKind.wrap .i64 (0 - a10)), .agg [I a1, I a2, I a3]] (.agg [I t1.1, I t1.2.1, I t1.2.2])]) := by kernel_rfl
theorem e_field_Mirror_meets_7 (a0 : ByteArray) (a1 : Int) (a2 : Int) (a3 : Int) (a4 : Int) (a5 : Int) (a6 : Int) (a7 : Int) (a8 : Int) (a9 : Int) (a10 : Int) (a11 : Int) (a12 : Int) (a13 : Int) (a14 : Int) (a15 : Int) (a16 : Int) (a17 : Bool) (t1 : Int × Int × Int) (t2 : Int × Int × Int) (t3 : Int × Int × Int) (t4 : Int) (t5 : Int) : runFn true 100 cx 80 [.agg [.v (.string a0), I a1, I a2, I a3, I a4, I a5, I a6, I a7, I a8, I a9], I a10, .agg [I a11, I a12, I a13, I a14, I a15, I a16, B a17]] [.ret (.agg [I t1.1, I t1.2.1, I t1.2.2]), .ret (.agg [I t2.1, I t2.2.1, I t2.2.2]), .ret (.agg [I t3.1, I t3.2.1, I t3.2.2]), .ret (I t4), .ret (.agg [I t3.1, I t3.2.1, I t3.2.2]), .ret (I t5), .br false, .br true, .no, .no] = some (B false, [(t4 == 0) = true, (decide (t4 < 0)) = false, Computes cx 58 [.agg [I t3.1, I t3.2.1, I t3.2.2], .agg [I t2.1, I t2.2.1, I t2.2.2]] (I t5), Computes cx 55 [.agg [.v (.string a0), I a1, I a2, I a3, I a4, I a5, I a6, I a7, I a8, I a9]] (.agg [I t3.1, I t3.2.1, I t3.2.2]), Computes cx 58 [.agg [I t3.1, I t3.2.1, I t3.2.2], .agg [I a14, I a15, I a16]] (I t4), Computes cx 55 [.agg [.v (.string a0), I a1, I a2, I a3, I a4, I a5, I a6, I a7, I a8, I a9]] (.agg [I t3.1, I t3.2.1, I t3.2.2]), Computes cx 72 [.agg [I a11, I a12, I a13], .agg [I t1.1, I t1.2.1, I t1.2.2]] (.agg [I t2.1, I t2.2.1, I t2.2.2]), Computes cx 73 [I (IntKind.wrap .i64 (0 - a10)), .agg [I a1, I a2, I a3]] (.agg [I t1.1, I t1.2.1, I t1.2.2])]) := by kernel_rfl
theorem e_field_Mirror_meets_8 (a0 : ByteArray) (a1 : Int) (a2 : Int) (a3 : Int) (a4 : Int) (a5 : Int) (a6 : Int) (a7 : Int) (a8 : Int) (a9 : Int) (a10 : Int) (a11 : Int) (a12 : Int) (a13 : Int) (a14 : Int) (a15 : Int) (a16 : Int) (a17 : Bool) (t1 : Int × Int × Int) (t2 : Int × Int × Int) (t3 : Int × Int × Int) (t4 : Int) (t5 : Int) : runFn true 100 cx 80 [.agg [.v (.string a0), I a1, I a2, I a3, I a4, I a5, I a6, I a7, I a8, I a9], I a10, .agg [I a11, I a12, I a13, I a14, I a15, I a16, B a17]] [.ret (.agg [I t1.1, I t1.2.1, I t1.2.2]), .ret (.agg [I t2.1, I t2.2.1, I t2.2.2]), .ret (.agg [I t3.1, I t3.2.1, I t3.2.2]), .ret (I t4), .ret (.agg [I t3.1, I t3.2.1, I t3.2.2]), .ret (I t5), .br false, .br false, .br true, .no] = some (B false, [(decide ((IntKind.wrap .i64 (0 - t5)) ≤ 0)) = true, (t4 == 0) = false, (decide (t4 < 0)) = false, Computes cx 58 [.agg [I t3.1, I t3.2.1, I t3.2.2], .agg [I t2.1, I t2.2.1, I t2.2.2]] (I t5), Computes cx 55 [.agg [.v (.string a0), I a1, I a2, I a3, I a4, I a5, I a6, I a7, I a8, I a9]] (.agg [I t3.1, I t3.2.1, I t3.2.2]), Computes cx 58 [.agg [I t3.1, I t3.2.1, I t3.2.2], .agg [I a14, I a15, I a16]] (I t4), Computes cx 55 [.agg [.v (.string a0), I a1, I a2, I a3, I a4, I a5, I a6, I a7, I a8, I a9]] (.agg [I t3.1, I t3.2.1, I t3.2.2]), Computes cx 72 [.agg [I a11, I a12, I a13], .agg [I t1.1, I t1.2.1, I t1.2.2]] (.agg [I t2.1, I t2.2.1, I t2.2.2]), Computes cx 73 [I (IntKind.wrap .i64 (0 - a10)), .agg [I a1, I a2, I a3]] (.agg [I t1.1, I t1.2.1, I t1.2.2])]) := by kernel_rfl
theorem e_field_Mirror_meets_9 (a0 : ByteArray) (a1 : Int) (a2 : Int) (a3 : Int) (a4 : Int) (a5 : Int) (a6 : Int) (a7 : Int) (a8 : Int) (a9 : Int) (a10 : Int) (a11 : Int) (a12 : Int) (a13 : Int) (a14 : Int) (a15 : Int) (a16 : Int) (a17 : Bool) (t1 : Int × Int × Int) (t2 : Int × Int × Int) (t3 : Int × Int × Int) (t4 : Int) (t5 : Int) : runFn true 100 cx 80 [.agg [.v (.string a0), I a1, I a2, I a3, I a4, I a5, I a6, I a7, I a8, I a9], I a10, .agg [I a11, I a12, I a13, I a14, I a15, I a16, B a17]] [.ret (.agg [I t1.1, I t1.2.1, I t1.2.2]), .ret (.agg [I t2.1, I t2.2.1, I t2.2.2]), .ret (.agg [I t3.1, I t3.2.1, I t3.2.2]), .ret (I t4), .ret (.agg [I t3.1, I t3.2.1, I t3.2.2]), .ret (I t5), .br false, .br false, .br false, .br true, .br true] = some (B false, [(decide ((IntKind.wrap .i64 (0 - t5)) ≥ t4)) = true, a17 = true, (decide ((IntKind.wrap .i64 (0 - t5)) ≤ 0)) = false, (t4 == 0) = false, (decide (t4 < 0)) = false, Computes cx 58 [.agg [I t3.1, I t3.2.1, I t3.2.2], .agg [I t2.1, I t2.2.1, I t2.2.2]] (I t5), Computes cx 55 [.agg [.v (.string a0), I a1, I a2, I a3, I a4, I a5, I a6, I a7, I a8, I a9]] (.agg [I t3.1, I t3.2.1, I t3.2.2]), Computes cx 58 [.agg [I t3.1, I t3.2.1, I t3.2.2], .agg [I a14, I a15, I a16]] (I t4), Computes cx 55 [.agg [.v (.string a0), I a1, I a2, I a3, I a4, I a5, I a6, I a7, I a8, I a9]] (.agg [I t3.1, I t3.2.1, I t3.2.2]), Computes cx 72 [.agg [I a11, I a12, I a13], .agg [I t1.1, I t1.2.1, I t1.2.2]] (.agg [I t2.1, I t2.2.1, I t2.2.2]), Computes cx 73 [I (IntKind.wrap .i64 (0 - a10)), .agg [I a1, I a2, I a3]] (.agg [I t1.1, I t1.2.1, I t1.2.2])]) := by kernel_rfl
theorem e_field_Mirror_meets_10 (a0 : ByteArray) (a1 : Int) (a2 : Int) (a3 : Int) (a4 : Int) (a5 : Int) (a6 : Int) (a7 : Int) (a8 : Int) (a9 : Int) (a10 : Int) (a11 : Int) (a12 : Int) (a13 : Int) (a14 : Int) (a15 : Int) (a16 : Int) (a17 : Bool) (t1 : Int × Int × Int) (t2 : Int × Int × Int) (t3 : Int × Int × Int) (t4 : Int) (t5 : Int) (t11 : Int × Int × Int) (t12 : Int) (t13 : Int) : runFn true 100 cx 80 [.agg [.v (.string a0), I a1, I a2, I a3, I a4, I a5, I a6, I a7, I a8, I a9], I a10, .agg [I a11, I a12, I a13, I a14, I a15, I a16, B a17]] [.ret (.agg [I t1.1, I t1.2.1, I t1.2.2]), .ret (.agg [I t2.1, I t2.2.1, I t2.2.2]), .ret (.agg [I t3.1, I t3.2.1, I t3.2.2]), .ret (I t4), .ret (.agg [I t3.1, I t3.2.1, I t3.2.2]), .ret (I t5), .br false, .br false, .br false, .br true, .br false, .ret (.agg [I t11.1, I t11.2.1, I t11.2.2]), .ret (I t12), .ret (I t13), .br true] = some (B (decide ((maxI t13 (IntKind.wrap .i64 (0 - t13))) ≤ (a10 * t4))), [inI64 (a10 * t4), (decide ((maxI t12 (IntKind.wrap .i64 (0 - t12))) ≤ (a10 * t4))) = true, inI64 (a10 * t4), Computes cx 58 [.agg [I t11.1, I t11.2.1, I t11.2.2], .agg [I a4, I a5, I a6]] (I t13), Computes cx 58 [.agg [I t11.1, I t11.2.1, I t11.2.2], .agg [I a7, I a8, I a9]] (I t12), Computes cx 89 [.agg [I a14, I a15, I a16], .agg [I t2.1, I t2.2.1, I t2.2.2]] (.agg [I t11.1, I t11.2.1, I t11.2.2]), (decide ((IntKind.wrap .i64 (0 - t5)) ≥ t4)) = false, a17 = true, (decide ((IntKind.wrap .i64 (0 - t5)) ≤ 0)) = false, (t4 == 0) = false, (decide (t4 < 0)) = false, Computes cx 58 [.agg [I t3.1, I t3.2.1, I t3.2.2], .agg [I t2.1, I t2.2.1, I t2.2.2]] (I t5), Computes cx 55 [.agg [.v (.string a0), I a1, I a2, I a3, I a4, I a5, I a6, I a7, I a8, I a9]] (.agg [I t3.1, I t3.2.1, I t3.2.2]), Computes cx 58 [.agg [I t3.1, I t3.2.1, I t3.2.2], .agg [I a14, I a15, I a16]] (I t4), Computes cx 55 [.agg [.v (.string a0), I a1, I a2, I a3, I a4, I a5, I a6, I a7, I a8, I a9]] (.agg [I t3.1, I t3.2.1, I t3.2.2]), Computes cx 72 [.agg [I a11, I a12, I a13], .agg [I t1.1, I t1.2.1, I t1.2.2]] (.agg [I t2.1, I t2.2.1, I t2.2.2]), Computes cx 73 [I (IntKind.wrap .i64 (0 - a10)), .agg [I a1, I a2, I a3]] (.agg [I t1.1, I t1.2.1, I t1.2.2])]) := by kernel_rfl
theorem e_field_Mirror_meets_11 (a0 : ByteArray) (a1 : Int) (a2 : Int) (a3 : Int) (a4 : Int) (a5 : Int) (a6 : Int) (a7 : Int) (a8 : Int) (a9 : Int) (a10 : Int) (a11 : Int) (a12 : Int) (a13 : Int) (a14 : Int) (a15 : Int) (a16 : Int) (a17 : Bool) (t1 : Int × Int × Int) (t2 : Int × Int × Int) (t3 : Int × Int × Int) (t4 : Int) (t5 : Int) (t11 : Int × Int × Int) (t12 : Int) (t13 : Int) : runFn true 100 cx 80 [.agg [.v (.string a0), I a1, I a2, I a3, I a4, I a5, I a6, I a7, I a8, I a9], I a10, .agg [I a11, I a12, I a13, I a14, I a15, I a16, B a17]] [.ret (.agg [I t1.1, I t1.2.1, I t1.2.2]), .ret (.agg [I t2.1, I t2.2.1, I t2.2.2]), .ret (.agg [I t3.1, I t3.2.1, I t3.2.2]), .ret (I t4), .ret (.agg [I t3.1, I t3.2.1, I t3.2.2]), .ret (I t5), .br false, .br false, .br false, .br true, .br false, .ret (.agg [I t11.1, I t11.2.1, I t11.2.2]), .ret (I t12), .ret (I t13), .br false] = some (B false, [(decide ((maxI t12 (IntKind.wrap .i64 (0 - t12))) ≤ (a10 * t4))) = false, inI64 (a10 * t4), Computes cx 58 [.agg [I t11.1, I t11.2.1, I t11.2.2], .agg [I a4, I a5, I a6]] (I t13), Computes cx 58 [.agg [I t11.1, I t11.2.1, I t11.2.2], .agg [I a7, I a8, I a9]] (I t12), Computes cx 89 [.agg [I a14, I a15, I a16], .agg [I t2.1, I t2.2.1, I t2.2.2]] (.agg [I t11.1, I t11.2.1, I t11.2.2]), (decide ((IntKind.wrap .i64 (0 - t5)) ≥ t4)) = false, a17 = true, (decide ((IntKind.wrap .i64 (0 - t5)) ≤ 0)) = false, (t4 == 0) = false, (decide (t4 < 0)) = false, Computes cx 58 [.agg [I t3.1, I t3.2.1, I t3.2.2], .agg [I t2.1, I t2.2.1, I t2.2.2]] (I t5), Computes cx 55 [.agg [.v (.string a0), I a1, I a2, I a3, I a4, I a5, I a6, I a7, I a8, I a9]] (.agg [I t3.1, I t3.2.1, I t3.2.2]), Computes cx 58 [.agg [I t3.1, I t3.2.1, I t3.2.2], .agg [I a14, I a15, I a16]] (I t4), Computes cx 55 [.agg [.v (.string a0), I a1, I a2, I a3, I a4, I a5, I a6, I a7, I a8, I a9]] (.agg [I t3.1, I t3.2.1, I t3.2.2]), Computes cx 72 [.agg [I a11, I a12, I a13], .agg [I t1.1, I t1.2.1, I t1.2.2]] (.agg [I t2.1, I t2.2.1, I t2.2.2]), Computes cx 73 [I (IntKind.wrap .i64 (0 - a10)), .agg [I a1, I a2, I a3]] (.agg [I t1.1, I t1.2.1, I t1.2.2])]) := by kernel_rfl
theorem e_field_Mirror_meets_12 (a0 : ByteArray) (a1 : Int) (a2 : Int) (a3 : Int) (a4 : Int) (a5 : Int) (a6 : Int) (a7 : Int) (a8 : Int) (a9 : Int) (a10 : Int) (a11 : Int) (a12 : Int) (a13 : Int) (a14 : Int) (a15 : Int) (a16 : Int) (a17 : Bool) (t1 : Int × Int × Int) (t2 : Int × Int × Int) (t3 : Int × Int × Int) (t4 : Int) (t5 : Int) (t10 : Int × Int × Int) (t11 : Int) (t12 : Int) : runFn true 100 cx 80 [.agg [.v (.string a0), I a1, I a2, I a3, I a4, I a5, I a6, I a7, I a8, I a9], I a10, .agg [I a11, I a12, I a13, I a14, I a15, I a16, B a17]] [.ret (.agg [I t1.1, I t1.2.1, I t1.2.2]), .ret (.agg [I t2.1, I t2.2.1, I t2.2.2]), .ret (.agg [I t3.1, I t3.2.1, I t3.2.2]), .ret (I t4), .ret (.agg [I t3.1, I t3.2.1, I t3.2.2]), .ret (I t5), .br false, .br false, .br false, .br false, .no, .ret (.agg [I t10.1, I t10.2.1, I t10.2.2]), .ret (I t11), .ret (I t12), .br true] = some (B (decide ((maxI t12 (IntKind.wrap .i64 (0 - t12))) ≤ (a10 * t4))), [inI64 (a10 * t4), (decide ((maxI t11 (IntKind.wrap .i64 (0 - t11))) ≤ (a10 * t4))) = true, inI64 (a10 * t4), Computes cx 58 [.agg [I t10.1, I t10.2.1, I t10.2.2], .agg [I a4, I a5, I a6]] (I t12), Computes cx 58 [.agg [I t10.1, I t10.2.1, I t10.2.2], .agg [I a7, I a8, I a9]] (I t11), Computes cx 89 [.agg [I a14, I a15, I a16], .agg [I t2.1, I t2.2.1, I t2.2.2]] (.agg [I t10.1, I t10.2.1, I t10.2.2]), a17 = false, (decide ((IntKind.wrap .i64 (0 - t5)) ≤ 0)) = false, (t4 == 0) = false, (decide (t4 < 0)) = false, Computes cx 58 [.agg [I t3.1, I t3.2.1, I t3.2.2], .agg [I t2.1, I t2.2.1, I t2.2.2]] (I t5), Computes cx 55 [.agg [.v (.string a0), I a1, I a2, I a3, I a4, I a5, I a6, I a7, I a8, I a9]] (.agg [I t3.1, I t3.2.1, I t3.2.2]), Computes cx 58 [.agg [I t3.1, I t3.2.1, I t3.2.2], .agg [I a14, I a15, I a16]] (I t4), Computes cx 55 [.agg [.v (.string a0), I a1, I a2, I a3, I a4, I a5, I a6, I a7, I a8, I a9]] (.agg [I t3.1, I t3.2.1, I t3.2.2]), Computes cx 72 [.agg [I a11, I a12, I a13], .agg [I t1.1, I t1.2.1, I t1.2.2]] (.agg [I t2.1, I t2.2.1, I t2.2.2]), Computes cx 73 [I (IntKind.wrap .i64 (0 - a10)), .agg [I a1, I a2, I a3]] (.agg [I t1.1, I t1.2.1, I t1.2.2])]) := by kernel_rfl
theorem e_field_Mirror_meets_13 (a0 : ByteArray) (a1 : Int) (a2 : Int) (a3 : Int) (a4 : Int) (a5 : Int) (a6 : Int) (a7 : Int) (a8 : Int) (a9 : Int) (a10 : Int) (a11 : Int) (a12 : Int) (a13 : Int) (a14 : Int) (a15 : Int) (a16 : Int) (a17 : Bool) (t1 : Int × Int × Int) (t2 : Int × Int × Int) (t3 : Int × Int × Int) (t4 : Int) (t5 : Int) (t10 : Int × Int × Int) (t11 : Int) (t12 : Int) : runFn true 100 cx 80 [.agg [.v (.string a0), I a1, I a2, I a3, I a4, I a5, I a6, I a7, I a8, I a9], I a10, .agg [I a11, I a12, I a13, I a14, I a15, I a16, B a17]] [.ret (.agg [I t1.1, I t1.2.1, I t1.2.2]), .ret (.agg [I t2.1, I t2.2.1, I t2.2.2]), .ret (.agg [I t3.1, I t3.2.1, I t3.2.2]), .ret (I t4), .ret (.agg [I t3.1, I t3.2.1, I t3.2.2]), .ret (I t5), .br false, .br false, .br false, .br false, .no, .ret (.agg [I t10.1, I t10.2.1, I t10.2.2]), .ret (I t11), .ret (I t12), .br false] = some (B false, [(decide ((maxI t11 (IntKind.wrap .i64 (0 - t11))) ≤ (a10 * t4))) = false, inI64 (a10 * t4), Computes cx 58 [.agg [I t10.1, I t10.2.1, I t10.2.2], .agg [I a4, I a5, I a6]] (I t12), Computes cx 58 [.agg [I t10.1, I t10.2.1, I t10.2.2], .agg [I a7, I a8, I a9]] (I t11), Computes cx 89 [.agg [I a14, I a15, I a16], .agg [I t2.1, I t2.2.1, I t2.2.2]] (.agg [I t10.1, I t10.2.1, I t10.2.2]), a17 = false, (decide ((IntKind.wrap .i64 (0 - t5)) ≤ 0)) = false, (t4 == 0) = false, (decide (t4 < 0)) = false, Computes cx 58 [.agg [I t3.1, I t3.2.1, I t3.2.2], .agg [I t2.1, I t2.2.1, I t2.2.2]] (I t5), Computes cx 55 [.agg [.v (.string a0), I a1, I a2, I a3, I a4, I a5, I a6, I a7, I a8, I a9]] (.agg [I t3.1, I t3.2.1, I t3.2.2]), Computes cx 58 [.agg [I t3.1, I t3.2.1, I t3.2.2], .agg [I a14, I a15, I a16]] (I t4), Computes cx 55 [.agg [.v (.string a0), I a1, I a2, I a3, I a4, I a5, I a6, I a7, I a8, I a9]] (.agg [I t3.1, I t3.2.1, I t3.2.2]), Computes cx 72 [.agg [I a11, I a12, I a13], .agg [I t1.1, I t1.2.1, I t1.2.2]] (.agg [I t2.1, I t2.2.1, I t2.2.2]), Computes cx 73 [I (IntKind.wrap .i64 (0 - a10)), .agg [I a1, I a2, I a3]] (.agg [I t1.1, I t1.2.1, I t1.2.2])]) := by kernel_rfl
/- (spillage/field.Mirror).meets: .agg [.v (.string a0), I a1, I a2, I a3, I a4, I a5, I a6, I a7, I a8, I a9], I a10, .agg [I a11, I a12, I a13, I a14, I a15, I a16, B a17] -/
def F_field_Mirror_meets (n : Nat) (a0 : ByteArray) (a1 : Int) (a2 : Int) (a3 : Int) (a4 : Int) (a5 : Int) (a6 : Int) (a7 : Int) (a8 : Int) (a9 : Int) (a10 : Int) (a11 : Int) (a12 : Int) (a13 : Int) (a14 : Int) (a15 : Int) (a16 : Int) (a17 : Bool) : Option (Bool) :=
 (F_field_times n (IntKind.wrap .i64 (0 - a10)) a1 a2 a3).bind fun t1 =>
 (F_field_plus n a11 a12 a13 t1.1 t1.2.1 t1.2.2).bind fun t2 =>
 (F_field_Mirror_normal n a0 a1 a2 a3 a4 a5 a6 a7 a8 a9).bind fun t3 =>
 (F_field_dot n t3.1 t3.2.1 t3.2.2 a14 a15 a16).bind fun t4 =>
 (F_field_dot n t3.1 t3.2.1 t3.2.2 t2.1 t2.2.1 t2.2.2).bind fun t5 =>
 if t4 < 0 then
  if (IntKind.wrap .i64 (0 - t4)) = 0 then
  some false
  else
  if (IntKind.wrap .i64 (0 - (IntKind.wrap .i64 (0 - t5)))) ≤ 0 then
  some false
  else
  if a17 = true then
  if (IntKind.wrap .i64 (0 - (IntKind.wrap .i64 (0 - t5)))) ≥ (IntKind.wrap .i64 (0 - t4)) then
   some false
  else
  (F_field_cross n a14 a15 a16 t2.1 t2.2.1 t2.2.2).bind fun t11 =>
  (F_field_dot n t11.1 t11.2.1 t11.2.2 a7 a8 a9).bind fun t12 =>
  (F_field_dot n t11.1 t11.2.1 t11.2.2 a4 a5 a6).bind fun t13 =>
  if inI64 (a10 * (IntKind.wrap .i64 (0 - t4))) then
  if (maxI t12 (IntKind.wrap .i64 (0 - t12))) ≤ (a10 * (IntKind.wrap .i64 (0 - t4))) then
   some (decide ((maxI t13 (IntKind.wrap .i64 (0 - t13))) ≤ (a10 * (IntKind.wrap .i64 (0 - t4)))))
  else
  some false
  else none
  else
  (F_field_cross n a14 a15 a16 t2.1 t2.2.1 t2.2.2).bind fun t10 =>
  (F_field_dot n t10.1 t10.2.1 t10.2.2 a7 a8 a9).bind fun t11 =>
  (F_field_dot n t10.1 t10.2.1 t10.2.2 a4 a5 a6).bind fun t12 =>
  if inI64 (a10 * (IntKind.wrap .i64 (0 - t4))) then
  if (maxI t11 (IntKind.wrap .i64 (0 - t11))) ≤ (a10 * (IntKind.wrap .i64 (0 - t4))) then
  some (decide ((maxI t12 (IntKind.wrap .i64 (0 - t12))) ≤ (a10 * (IntKind.wrap .i64 (0 - t4)))))
  else
  some false
  else none
 else
 if t4 = 0 then
  some false
 else
 if (IntKind.wrap .i64 (0 - t5)) ≤ 0 then
  some false
 else
 if a17 = true then
  if (IntKind.wrap .i64 (0 - t5)) ≥ t4 then
  some false
  else
  (F_field_cross n a14 a15 a16 t2.1 t2.2.1 t2.2.2).bind fun t11 =>
  (F_field_dot n t11.1 t11.2.1 t11.2.2 a7 a8 a9).bind fun t12 =>
  (F_field_dot n t11.1 t11.2.1 t11.2.2 a4 a5 a6).bind fun t13 =>
  if inI64 (a10 * t4) then
  if (maxI t12 (IntKind.wrap .i64 (0 - t12))) ≤ (a10 * t4) then
  some (decide ((maxI t13 (IntKind.wrap .i64 (0 - t13))) ≤ (a10 * t4)))
  else
  some false
  else none
 else
 (F_field_cross n a14 a15 a16 t2.1 t2.2.1 t2.2.2).bind fun t10 =>
 (F_field_dot n t10.1 t10.2.1 t10.2.2 a7 a8 a9).bind fun t11 =>
 (F_field_dot n t10.1 t10.2.1 t10.2.2 a4 a5 a6).bind fun t12 =>
 if inI64 (a10 * t4) then
 if (maxI t11 (IntKind.wrap .i64 (0 - t11))) ≤ (a10 * t4) then
  some (decide ((maxI t12 (IntKind.wrap .i64 (0 - t12))) ≤ (a10 * t4)))
 else
 some false
 else none
theorem c_field_Mirror_meets {n : Nat} {a0 : ByteArray} {a1 : Int} {a2 : Int} {a3 : Int} {a4 : Int} {a5 : Int} {a6 : Int} {a7 : Int} {a8 : Int} {a9 : Int} {a10 : Int} {a11 : Int} {a12 : Int} {a13 : Int} {a14 : Int} {a15 : Int} {a16 : Int} {a17 : Bool} {r : Bool} (h : F_field_Mirror_meets n a0 a1 a2 a3 a4 a5 a6 a7 a8 a9 a10 a11 a12 a13 a14 a15 a16 a17 = some r) : Computes cx 80 [.agg [.v (.string a0), I a1, I a2, I a3, I a4, I a5, I a6, I a7, I a8, I a9], I a10, .agg [I a11, I a12, I a13, I a14, I a15, I a16, B a17]] (B r) := by
 unfold F_field_Mirror_meets at h
 obtain ⟨t1, h1, h⟩ := bo h; obtain ⟨t2, h2, h⟩ := bo h; obtain ⟨t3, h3, h⟩ := bo h; obtain ⟨t4, h4, h⟩ := bo h; obtain ⟨t5, h5, h⟩ := bo h
 by_cases h6 : t4 < 0
 ·replace h := it h h6
  by_cases h7 : (IntKind.wrap .i64 (0 - t4)) = 0
  ·replace h := it h h7
   obtain rfl := oi h
   exact run (e_field_Mirror_meets_0 a0 a1 a2 a3 a4 a5 a6 a7 a8 a9 a10 a11 a12 a13 a14 a15 a16 a17 t1 t2 t3 t4 t5) ⟨(eqt h7), (decide_eq_true h6), (c_field_dot h5), (c_field_Mirror_normal h3), (c_field_dot h4), (c_field_Mirror_normal h3), (c_field_plus h2), (c_field_times h1), trivial⟩
  ·replace h := jf h h7
   by_cases h8 : (IntKind.wrap .i64 (0 - (IntKind.wrap .i64 (0 - t5)))) ≤ 0
   ·replace h := it h h8
    obtain rfl := oi h
    exact run (e_field_Mirror_meets_1 a0 a1 a2 a3 a4 a5 a6 a7 a8 a9 a10 a11 a12 a13 a14 a15 a16 a17 t1 t2 t3 t4 t5) ⟨(decide_eq_true h8), (eqf h7), (decide_eq_true h6), (c_field_dot h5), (c_field_Mirror_normal h3), (c_field_dot h4), (c_field_Mirror_normal h3), (c_field_plus h2), (c_field_times h1), trivial⟩
   ·replace h := jf h h8
    by_cases h9 : a17 = true
    ·replace h := it h h9
     by_cases h10 : (IntKind.wrap .i64 (0 - (IntKind.wrap .i64 (0 - t5)))) ≥ (IntKind.wrap .i64 (0 - t4))
     ·replace h := it h h10
      obtain rfl := oi h
      exact run (e_field_Mirror_meets_2 a0 a1 a2 a3 a4 a5 a6 a7 a8 a9 a10 a11 a12 a13 a14 a15 a16 a17 t1 t2 t3 t4 t5) ⟨(decide_eq_true h10), h9, (decide_eq_false h8), (eqf h7), (decide_eq_true h6), (c_field_dot h5), (c_field_Mirror_normal h3), (c_field_dot h4), (c_field_Mirror_normal h3), (c_field_plus h2), (c_field_times h1), trivial⟩
     ·replace h := jf h h10
      obtain ⟨t11, h11, h⟩ := bo h; obtain ⟨t12, h12, h⟩ := bo h; obtain ⟨t13, h13, h⟩ := bo h; obtain ⟨h14, h⟩ := gd h
      by_cases h15 : (maxI t12 (IntKind.wrap .i64 (0 - t12))) ≤ (a10 * (IntKind.wrap .i64 (0 - t4)))
      ·replace h := it h h15
       obtain rfl := oi h
       exact run (e_field_Mirror_meets_3 a0 a1 a2 a3 a4 a5 a6 a7 a8 a9 a10 a11 a12 a13 a14 a15 a16 a17 t1 t2 t3 t4 t5 t11 t12 t13) ⟨h14, (decide_eq_true h15), h14, (c_field_dot h13), (c_field_dot h12), (c_field_cross h11), (decide_eq_false h10), h9, (decide_eq_false h8), (eqf h7), (decide_eq_true h6), (c_field_dot h5), (c_field_Mirror_normal h3), (c_field_dot h4), (c_field_Mirror_normal h3), (c_field_plus h2), (c_field_times h1), trivial⟩
      ·replace h := jf h h15
       obtain rfl := oi h
       exact run (e_field_Mirror_meets_4 a0 a1 a2 a3 a4 a5 a6 a7 a8 a9 a10 a11 a12 a13 a14 a15 a16 a17 t1 t2 t3 t4 t5 t11 t12 t13) ⟨(decide_eq_false h15), h14, (c_field_dot h13), (c_field_dot h12), (c_field_cross h11), (decide_eq_false h10), h9, (decide_eq_false h8), (eqf h7), (decide_eq_true h6), (c_field_dot h5), (c_field_Mirror_normal h3), (c_field_dot h4), (c_field_Mirror_normal h3), (c_field_plus h2), (c_field_times h1), trivial⟩
    ·replace h := jf h h9
     obtain ⟨t10, h10, h⟩ := bo h; obtain ⟨t11, h11, h⟩ := bo h; obtain ⟨t12, h12, h⟩ := bo h; obtain ⟨h13, h⟩ := gd h
     by_cases h14 : (maxI t11 (IntKind.wrap .i64 (0 - t11))) ≤ (a10 * (IntKind.wrap .i64 (0 - t4)))
     ·replace h := it h h14
      obtain rfl := oi h
      exact run (e_field_Mirror_meets_5 a0 a1 a2 a3 a4 a5 a6 a7 a8 a9 a10 a11 a12 a13 a14 a15 a16 a17 t1 t2 t3 t4 t5 t10 t11 t12) ⟨h13, (decide_eq_true h14), h13, (c_field_dot h12), (c_field_dot h11), (c_field_cross h10), (bfalse h9), (decide_eq_false h8), (eqf h7), (decide_eq_true h6), (c_field_dot h5), (c_field_Mirror_normal h3), (c_field_dot h4), (c_field_Mirror_normal h3), (c_field_plus h2), (c_field_times h1), trivial⟩
     ·replace h := jf h h14
      obtain rfl := oi h
      exact run (e_field_Mirror_meets_6 a0 a1 a2 a3 a4 a5 a6 a7 a8 a9 a10 a11 a12 a13 a14 a15 a16 a17 t1 t2 t3 t4 t5 t10 t11 t12) ⟨(decide_eq_false h14), h13, (c_field_dot h12), (c_field_dot h11), (c_field_cross h10), (bfalse h9), (decide_eq_false h8), (eqf h7), (decide_eq_true h6), (c_field_dot h5), (c_field_Mirror_normal h3), (c_field_dot h4), (c_field_Mirror_normal h3), (c_field_plus h2), (c_field_times h1), trivial⟩
 ·replace h := jf h h6
  by_cases h7 : t4 = 0
  ·replace h := it h h7
   obtain rfl := oi h
   exact run (e_field_Mirror_meets_7 a0 a1 a2 a3 a4 a5 a6 a7 a8 a9 a10 a11 a12 a13 a14 a15 a16 a17 t1 t2 t3 t4 t5) ⟨(eqt h7), (decide_eq_false h6), (c_field_dot h5), (c_field_Mirror_normal h3), (c_field_dot h4), (c_field_Mirror_normal h3), (c_field_plus h2), (c_field_times h1), trivial⟩
  ·replace h := jf h h7
   by_cases h8 : (IntKind.wrap .i64 (0 - t5)) ≤ 0
   ·replace h := it h h8
    obtain rfl := oi h
    exact run (e_field_Mirror_meets_8 a0 a1 a2 a3 a4 a5 a6 a7 a8 a9 a10 a11 a12 a13 a14 a15 a16 a17 t1 t2 t3 t4 t5) ⟨(decide_eq_true h8), (eqf h7), (decide_eq_false h6), (c_field_dot h5), (c_field_Mirror_normal h3), (c_field_dot h4), (c_field_Mirror_normal h3), (c_field_plus h2), (c_field_times h1), trivial⟩
   ·replace h := jf h h8
    by_cases h9 : a17 = true
    ·replace h := it h h9
     by_cases h10 : (IntKind.wrap .i64 (0 - t5)) ≥ t4
     ·replace h := it h h10
      obtain rfl := oi h
      exact run (e_field_Mirror_meets_9 a0 a1 a2 a3 a4 a5 a6 a7 a8 a9 a10 a11 a12 a13 a14 a15 a16 a17 t1 t2 t3 t4 t5) ⟨(decide_eq_true h10), h9, (decide_eq_false h8), (eqf h7), (decide_eq_false h6), (c_field_dot h5), (c_field_Mirror_normal h3), (c_field_dot h4), (c_field_Mirror_normal h3), (c_field_plus h2), (c_field_times h1), trivial⟩
     ·replace h := jf h h10
      obtain ⟨t11, h11, h⟩ := bo h; obtain ⟨t12, h12, h⟩ := bo h; obtain ⟨t13, h13, h⟩ := bo h; obtain ⟨h14, h⟩ := gd h
      by_cases h15 : (maxI t12 (IntKind.wrap .i64 (0 - t12))) ≤ (a10 * t4)
      ·replace h := it h h15
       obtain rfl := oi h
       exact run (e_field_Mirror_meets_10 a0 a1 a2 a3 a4 a5 a6 a7 a8 a9 a10 a11 a12 a13 a14 a15 a16 a17 t1 t2 t3 t4 t5 t11 t12 t13) ⟨h14, (decide_eq_true h15), h14, (c_field_dot h13), (c_field_dot h12), (c_field_cross h11), (decide_eq_false h10), h9, (decide_eq_false h8), (eqf h7), (decide_eq_false h6), (c_field_dot h5), (c_field_Mirror_normal h3), (c_field_dot h4), (c_field_Mirror_normal h3), (c_field_plus h2), (c_field_times h1), trivial⟩
      ·replace h := jf h h15
       obtain rfl := oi h
       exact run (e_field_Mirror_meets_11 a0 a1 a2 a3 a4 a5 a6 a7 a8 a9 a10 a11 a12 a13 a14 a15 a16 a17 t1 t2 t3 t4 t5 t11 t12 t13) ⟨(decide_eq_false h15), h14, (c_field_dot h13), (c_field_dot h12), (c_field_cross h11), (decide_eq_false h10), h9, (decide_eq_false h8), (eqf h7), (decide_eq_false h6), (c_field_dot h5), (c_field_Mirror_normal h3), (c_field_dot h4), (c_field_Mirror_normal h3), (c_field_plus h2), (c_field_times h1), trivial⟩
    ·replace h := jf h h9
     obtain ⟨t10, h10, h⟩ := bo h; obtain ⟨t11, h11, h⟩ := bo h; obtain ⟨t12, h12, h⟩ := bo h; obtain ⟨h13, h⟩ := gd h
     by_cases h14 : (maxI t11 (IntKind.wrap .i64 (0 - t11))) ≤ (a10 * t4)
     ·replace h := it h h14
      obtain rfl := oi h
      exact run (e_field_Mirror_meets_12 a0 a1 a2 a3 a4 a5 a6 a7 a8 a9 a10 a11 a12 a13 a14 a15 a16 a17 t1 t2 t3 t4 t5 t10 t11 t12) ⟨h13, (decide_eq_true h14), h13, (c_field_dot h12), (c_field_dot h11), (c_field_cross h10), (bfalse h9), (decide_eq_false h8), (eqf h7), (decide_eq_false h6), (c_field_dot h5), (c_field_Mirror_normal h3), (c_field_dot h4), (c_field_Mirror_normal h3), (c_field_plus h2), (c_field_times h1), trivial⟩
     ·replace h := jf h h14
      obtain rfl := oi h
      exact run (e_field_Mirror_meets_13 a0 a1 a2 a3 a4 a5 a6 a7 a8 a9 a10 a11 a12 a13 a14 a15 a16 a17 t1 t2 t3 t4 t5 t10 t11 t12) ⟨(decide_eq_false h14), h13, (c_field_dot h12), (c_field_dot h11), (c_field_cross h10), (bfalse h9), (decide_eq_false h8), (eqf h7), (decide_eq_false h6), (c_field_dot h5), (c_field_Mirror_normal h3), (c_field_dot h4), (c_field_Mirror_normal h3), (c_field_plus h2), (c_field_times h1), trivial⟩
def F_light_IsName_L1 (n : Nat) (a0 : ByteArray) (sa : (Nat)) : Option (((Nat)) ⊕ ((Unit) ⊕ (Unit))) :=
 if sa < a0.size then
  if ((Utf8.decode a0 sa).1 : Int) ≥ 97 then
  if ((Utf8.decode a0 sa).1 : Int) ≤ 122 then
   some (.inl (sa + (Utf8.decode a0 sa).2))
  else
  if ((Utf8.decode a0 sa).1 : Int) ≥ 65 then
   if ((Utf8.decode a0 sa).1 : Int) ≤ 90 then
   some (.inl (sa + (Utf8.decode a0 sa).2))
   else
   if ((sa : Nat) : Int) = 0 then
   some (.inr (.inl ()))
   else
   if ((Utf8.decode a0 sa).1 : Int) = 95 then
   some (.inl (sa + (Utf8.decode a0 sa).2))
   else
   if ((Utf8.decode a0 sa).1 : Int) < 48 then
   some (.inr (.inl ()))
   else
   if ((Utf8.decode a0 sa).1 : Int) > 57 then
   some (.inr (.inl ()))
   else
   some (.inl (sa + (Utf8.decode a0 sa).2))
  else
  if ((sa : Nat) : Int) = 0 then
   some (.inr (.inl ()))
  else
  if ((Utf8.decode a0 sa).1 : Int) = 95 then
   some (.inl (sa + (Utf8.decode a0 sa).2))
  else
  if ((Utf8.decode a0 sa).1 : Int) < 48 then
   some (.inr (.inl ()))
  else
  if ((Utf8.decode a0 sa).1 : Int) > 57 then
   some (.inr (.inl ()))
  else
  some (.inl (sa + (Utf8.decode a0 sa).2))
  else
  if ((Utf8.decode a0 sa).1 : Int) ≥ 65 then
  if ((Utf8.decode a0 sa).1 : Int) ≤ 90 then
   some (.inl (sa + (Utf8.decode a0 sa).2))
  else
  if ((sa : Nat) : Int) = 0 then
   some (.inr (.inl ()))
  else
  if ((Utf8.decode a0 sa).1 : Int) = 95 then
   some (.inl (sa + (Utf8.decode a0 sa).2))
  else
  if ((Utf8.decode a0 sa).1 : Int) < 48 then
   some (.inr (.inl ()))
  else
  if ((Utf8.decode a0 sa).1 : Int) > 57 then
   some (.inr (.inl ()))
  else
  some (.inl (sa + (Utf8.decode a0 sa).2))
  else
  if ((sa : Nat) : Int) = 0 then
  some (.inr (.inl ()))
  else
  if ((Utf8.decode a0 sa).1 : Int) = 95 then
  some (.inl (sa + (Utf8.decode a0 sa).2))
  else
  if ((Utf8.decode a0 sa).1 : Int) < 48 then
  some (.inr (.inl ()))
  else
  if ((Utf8.decode a0 sa).1 : Int) > 57 then
  some (.inr (.inl ()))
  else
  some (.inl (sa + (Utf8.decode a0 sa).2))
 else
 some (.inr (.inr ()))
noncomputable def T_light_IsName_L1 (a0 : ByteArray) (sa : (Nat)) : List (Nat × AV) := [(0, .d (.v (.string a0))), (7, .own 2 0)]
noncomputable def H_light_IsName_L1 (a0 : ByteArray) (sa : (Nat)) : List (Nat × Blk) := [(2, .it a0 sa)]
noncomputable def X_light_IsName_L1 (a0 : ByteArray) (e : (Unit) ⊕ (Unit)) : Ex := match e with
  | (.inl e) => .ret
  | (.inr e) => (.exit 0)
noncomputable def XT_light_IsName_L1 (a0 : ByteArray) (e : (Unit) ⊕ (Unit)) : List (Nat × AV) := match e with
  | (.inl e) => [(2, .d (B false))]
  | (.inr e) => [(0, .d (.v (.string a0)))]
noncomputable def XH_light_IsName_L1 (a0 : ByteArray) (e : (Unit) ⊕ (Unit)) : List (Nat × Blk) := match e with
  | (.inl e) => []
  | (.inr e) => []
theorem R_light_IsName_L1 {n : Nat} {a0 : ByteArray} (sa : (Nat)) (r) (h : F_light_IsName_L1 n a0 sa = some r) : Rd cx (loopAt cx.P 88 0) 51 0 false (T_light_IsName_L1 a0) (H_light_IsName_L1 a0) (X_light_IsName_L1 a0) (XT_light_IsName_L1 a0) (XH_light_IsName_L1 a0) sa r := by
 unfold F_light_IsName_L1 at h
 by_cases ha1 : sa < a0.size
 ·replace h := it h ha1
  by_cases ha2 : ((Utf8.decode a0 sa).1 : Int) ≥ 97
  ·replace h := it h ha2
   by_cases ha3 : ((Utf8.decode a0 sa).1 : Int) ≤ 122
   ·replace h := it h ha3
    obtain rfl := oi h
    exact ⟨100, 3, [.br true, .no, .br true, .br true, .no, .no], [], [0, 7], [2], round_fr (allC (decide_eq_true ha3) (allC (decide_eq_true ha2) (allC ha1 allN))) (by kernel_rfl)⟩
   ·replace h := jf h ha3
    by_cases ha4 : ((Utf8.decode a0 sa).1 : Int) ≥ 65
    ·replace h := it h ha4
     by_cases ha5 : ((Utf8.decode a0 sa).1 : Int) ≤ 90
     ·replace h := it h ha5
      obtain rfl := oi h
      exact ⟨100, 3, [.br true, .no, .br true, .br false, .br true, .br false, .no], [], [0, 7], [2], round_fr (allC (notf (decide_eq_true ha5)) (allC (decide_eq_true ha4) (allC (decide_eq_false ha3) (allC (decide_eq_true ha2) (allC ha1 allN))))) (by kernel_rfl)⟩
     ·replace h := jf h ha5
      by_cases ha6 : ((sa : Nat) : Int) = 0
      ·replace h := it h ha6
       obtain rfl := oi h
       exact ⟨⟨100, 3, [.br true, .no, .br true, .br false, .br true, .br true, .br true, .no], [], [2], [], round_fr (allC (eqt ha6) (allC (nott (decide_eq_false ha5)) (allC (decide_eq_true ha4) (allC (decide_eq_false ha3) (allC (decide_eq_true ha2) (allC ha1 allN)))))) (by kernel_rfl)⟩, nofun⟩
      ·replace h := jf h ha6
       by_cases ha7 : ((Utf8.decode a0 sa).1 : Int) = 95
       ·replace h := it h ha7
        obtain rfl := oi h
        exact ⟨100, 3, [.br true, .no, .br true, .br false, .br true, .br true, .br false, .br false, .no], [], [0, 7], [2], round_fr (allC (nef ha7) (allC (eqf ha6) (allC (nott (decide_eq_false ha5)) (allC (decide_eq_true ha4) (allC (decide_eq_false ha3) (allC (decide_eq_true ha2) (allC ha1 allN))))))) (by kernel_rfl)⟩
       ·replace h := jf h ha7
        by_cases ha8 : ((Utf8.decode a0 sa).1 : Int) < 48
        ·replace h := it h ha8
         obtain rfl := oi h
         exact ⟨⟨100, 3, [.br true, .no, .br true, .br false, .br true, .br true, .br false, .br true, .br true, .no], [], [2], [], round_fr (allC (decide_eq_true ha8) (allC (net ha7) (allC (eqf ha6) (allC (nott (decide_eq_false ha5)) (allC (decide_eq_true ha4) (allC (decide_eq_false ha3) (allC (decide_eq_true ha2) (allC ha1 allN)))))))) (by kernel_rfl)⟩, nofun⟩
        ·replace h := jf h ha8
         by_cases ha9 : ((Utf8.decode a0 sa).1 : Int) > 57
         ·replace h := it h ha9
          obtain rfl := oi h
          exact ⟨⟨100, 3, [.br true, .no, .br true, .br false, .br true, .br true, .br false, .br true, .br false, .br true], [], [2], [], round_fr (allC (decide_eq_true ha9) (allC (decide_eq_false ha8) (allC (net ha7) (allC (eqf ha6) (allC (nott (decide_eq_false ha5)) (allC (decide_eq_true ha4) (allC (decide_eq_false ha3) (allC (decide_eq_true ha2) (allC ha1 allN))))))))) (by kernel_rfl)⟩, nofun⟩
         ·replace h := jf h ha9
          obtain rfl := oi h
          exact ⟨100, 3, [.br true, .no, .br true, .br false, .br true, .br true, .br false, .br true, .br false, .br false], [], [0, 7], [2], round_fr (allC (decide_eq_false ha9) (allC (decide_eq_false ha8) (allC (net ha7) (allC (eqf ha6) (allC (nott (decide_eq_false ha5)) (allC (decide_eq_true ha4) (allC (decide_eq_false ha3) (allC (decide_eq_true ha2) (allC ha1 allN))))))))) (by kernel_rfl)⟩
    ·replace h := jf h ha4
     by_cases ha5 : ((sa : Nat) : Int) = 0
     ·replace h := it h ha5
      obtain rfl := oi h
      exact ⟨⟨100, 3, [.br true, .no, .br true, .br false, .br false, .no, .br true, .no], [], [2], [], round_fr (allC (eqt ha5) (allC (decide_eq_false ha4) (allC (decide_eq_false ha3) (allC (decide_eq_true ha2) (allC ha1 allN))))) (by kernel_rfl)⟩, nofun⟩
     ·replace h := jf h ha5
      by_cases ha6 : ((Utf8.decode a0 sa).1 : Int) = 95
      ·replace h := it h ha6
       obtain rfl := oi h
       exact ⟨100, 3, [.br true, .no, .br true, .br false, .br false, .no, .br false, .br false, .no], [], [0, 7], [2], round_fr (allC (nef ha6) (allC (eqf ha5) (allC (decide_eq_false ha4) (allC (decide_eq_false ha3) (allC (decide_eq_true ha2) (allC ha1 allN)))))) (by kernel_rfl)⟩
      ·replace h := jf h ha6
       by_cases ha7 : ((Utf8.decode a0 sa).1 : Int) < 48
       ·replace h := it h ha7
        obtain rfl := oi h
        exact ⟨⟨100, 3, [.br true, .no, .br true, .br false, .br false, .no, .br false, .br true, .br true, .no], [], [2], [], round_fr (allC (decide_eq_true ha7) (allC (net ha6) (allC (eqf ha5) (allC (decide_eq_false ha4) (allC (decide_eq_false ha3) (allC (decide_eq_true ha2) (allC ha1 allN))))))) (by kernel_rfl)⟩, nofun⟩
       ·replace h := jf h ha7
        by_cases ha8 : ((Utf8.decode a0 sa).1 : Int) > 57
        ·replace h := it h ha8
         obtain rfl := oi h
         exact ⟨⟨100, 3, [.br true, .no, .br true, .br false, .br false, .no, .br false, .br true, .br false, .br true], [], [2], [], round_fr (allC (decide_eq_true ha8) (allC (decide_eq_false ha7) (allC (net ha6) (allC (eqf ha5) (allC (decide_eq_false ha4) (allC (decide_eq_false ha3) (allC (decide_eq_true ha2) (allC ha1 allN)))))))) (by kernel_rfl)⟩, nofun⟩
        ·replace h := jf h ha8
         obtain rfl := oi h
         exact ⟨100, 3, [.br true, .no, .br true, .br false, .br false, .no, .br false, .br true, .br false, .br false], [], [0, 7], [2], round_fr (allC (decide_eq_false ha8) (allC (decide_eq_false ha7) (allC (net ha6) (allC (eqf ha5) (allC (decide_eq_false ha4) (allC (decide_eq_false ha3) (allC (decide_eq_true ha2) (allC ha1 allN)))))))) (by kernel_rfl)⟩
  ·replace h := jf h ha2
   by_cases ha3 : ((Utf8.decode a0 sa).1 : Int) ≥ 65
   ·replace h := it h ha3
    by_cases ha4 : ((Utf8.decode a0 sa).1 : Int) ≤ 90
    ·replace h := it h ha4
     obtain rfl := oi h
     exact ⟨100, 3, [.br true, .no, .br false, .no, .br true, .br false, .no], [], [0, 7], [2], round_fr (allC (notf (decide_eq_true ha4)) (allC (decide_eq_true ha3) (allC (decide_eq_false ha2) (allC ha1 allN)))) (by kernel_rfl)⟩
    ·replace h := jf h ha4
     by_cases ha5 : ((sa : Nat) : Int) = 0
     ·replace h := it h ha5
      obtain rfl := oi h
      exact ⟨⟨100, 3, [.br true, .no, .br false, .no, .br true, .br true, .br true, .no], [], [2], [], round_fr (allC (eqt ha5) (allC (nott (decide_eq_false ha4)) (allC (decide_eq_true ha3) (allC (decide_eq_false ha2) (allC ha1 allN))))) (by kernel_rfl)⟩, nofun⟩
     ·replace h := jf h ha5
      by_cases ha6 : ((Utf8.decode a0 sa).1 : Int) = 95
      ·replace h := it h ha6
       obtain rfl := oi h
       exact ⟨100, 3, [.br true, .no, .br false, .no, .br true, .br true, .br false, .br false, .no], [], [0, 7], [2], round_fr (allC (nef ha6) (allC (eqf ha5) (allC (nott (decide_eq_false ha4)) (allC (decide_eq_true ha3) (allC (decide_eq_false ha2) (allC ha1 allN)))))) (by kernel_rfl)⟩
      ·replace h := jf h ha6
       by_cases ha7 : ((Utf8.decode a0 sa).1 : Int) < 48
       ·replace h := it h ha7
        obtain rfl := oi h
        exact ⟨⟨100, 3, [.br true, .no, .br false, .no, .br true, .br true, .br false, .br true, .br true, .no], [], [2], [], round_fr (allC (decide_eq_true ha7) (allC (net ha6) (allC (eqf ha5) (allC (nott (decide_eq_false ha4)) (allC (decide_eq_true ha3) (allC (decide_eq_false ha2) (allC ha1 allN))))))) (by kernel_rfl)⟩, nofun⟩
       ·replace h := jf h ha7
        by_cases ha8 : ((Utf8.decode a0 sa).1 : Int) > 57
        ·replace h := it h ha8
         obtain rfl := oi h
         exact ⟨⟨100, 3, [.br true, .no, .br false, .no, .br true, .br true, .br false, .br true, .br false, .br true], [], [2], [], round_fr (allC (decide_eq_true ha8) (allC (decide_eq_false ha7) (allC (net ha6) (allC (eqf ha5) (allC (nott (decide_eq_false ha4)) (allC (decide_eq_true ha3) (allC (decide_eq_false ha2) (allC ha1 allN)))))))) (by kernel_rfl)⟩, nofun⟩
        ·replace h := jf h ha8
         obtain rfl := oi h
         exact ⟨100, 3, [.br true, .no, .br false, .no, .br true, .br true, .br false, .br true, .br false, .br false], [], [0, 7], [2], round_fr (allC (decide_eq_false ha8) (allC (decide_eq_false ha7) (allC (net ha6) (allC (eqf ha5) (allC (nott (decide_eq_false ha4)) (allC (decide_eq_true ha3) (allC (decide_eq_false ha2) (allC ha1 allN)))))))) (by kernel_rfl)⟩
   ·replace h := jf h ha3
    by_cases ha4 : ((sa : Nat) : Int) = 0
    ·replace h := it h ha4
     obtain rfl := oi h
     exact ⟨⟨100, 3, [.br true, .no, .br false, .no, .br false, .no, .br true, .no], [], [2], [], round_fr (allC (eqt ha4) (allC (decide_eq_false ha3) (allC (decide_eq_false ha2) (allC ha1 allN)))) (by kernel_rfl)⟩, nofun⟩
    ·replace h := jf h ha4
     by_cases ha5 : ((Utf8.decode a0 sa).1 : Int) = 95
     ·replace h := it h ha5
      obtain rfl := oi h
      exact ⟨100, 3, [.br true, .no, .br false, .no, .br false, .no, .br false, .br false, .no], [], [0, 7], [2], round_fr (allC (nef ha5) (allC (eqf ha4) (allC (decide_eq_false ha3) (allC (decide_eq_false ha2) (allC ha1 allN))))) (by kernel_rfl)⟩
     ·replace h := jf h ha5
      by_cases ha6 : ((Utf8.decode a0 sa).1 : Int) < 48
      ·replace h := it h ha6
       obtain rfl := oi h
       exact ⟨⟨100, 3, [.br true, .no, .br false, .no, .br false, .no, .br false, .br true, .br true, .no], [], [2], [], round_fr (allC (decide_eq_true ha6) (allC (net ha5) (allC (eqf ha4) (allC (decide_eq_false ha3) (allC (decide_eq_false ha2) (allC ha1 allN)))))) (by kernel_rfl)⟩, nofun⟩
      ·replace h := jf h ha6
       by_cases ha7 : ((Utf8.decode a0 sa).1 : Int) > 57
       ·replace h := it h ha7
        obtain rfl := oi h
        exact ⟨⟨100, 3, [.br true, .no, .br false, .no, .br false, .no, .br false, .br true, .br false, .br true], [], [2], [], round_fr (allC (decide_eq_true ha7) (allC (decide_eq_false ha6) (allC (net ha5) (allC (eqf ha4) (allC (decide_eq_false ha3) (allC (decide_eq_false ha2) (allC ha1 allN))))))) (by kernel_rfl)⟩, nofun⟩
       ·replace h := jf h ha7
        obtain rfl := oi h
        exact ⟨100, 3, [.br true, .no, .br false, .no, .br false, .no, .br false, .br true, .br false, .br false], [], [0, 7], [2], round_fr (allC (decide_eq_false ha7) (allC (decide_eq_false ha6) (allC (net ha5) (allC (eqf ha4) (allC (decide_eq_false ha3) (allC (decide_eq_false ha2) (allC ha1 allN))))))) (by kernel_rfl)⟩
 ·replace h := jf h ha1
  obtain rfl := oi h
  exact ⟨⟨100, 3, [.br false, .no], [], [0], [], round_fr (allC ha1 allN) (by kernel_rfl)⟩, nofun⟩
def F_light_IsName (n : Nat) (a0 : ByteArray) : Option (Bool) :=
 (loopF (F_light_IsName_L1 n a0) n 0).bind fun t1 => match t1 with
  | (.inl t1) => (
  some false)
  | (.inr t1) => (
  if (!(a0.toList == (⟨#[]⟩ : ByteArray).toList)) = true then
   some (decide ((a0.size : Int) ≤ 24))
  else
  some false)
theorem c_light_IsName {n : Nat} {a0 : ByteArray} {r : Bool} (h : F_light_IsName n a0 = some r) : Computes cx 88 [.v (.string a0)] (B r) := by
 unfold F_light_IsName at h
 obtain ⟨t1, h1, h⟩ := bo h
 rcases t1 with t1 | t1
 ·obtain rfl := oi h
  exact run_fr (n := 100) (orc := [.lp [] [0, 7] [2] .ret [(2, .d (B false))] [] 54]) (allC (loopF_to R_light_IsName_L1 h1) allN) (by kernel_rfl)
 ·by_cases h2 : (!(a0.toList == (⟨#[]⟩ : ByteArray).toList)) = true
  ·replace h := it h h2
   obtain rfl := oi h
   exact run_fr (n := 100) (orc := [.lp [] [0, 7] [2] (.exit 0) [(0, .d (.v (.string a0)))] [] 54, .br true]) (allC h2 (allC (loopF_to R_light_IsName_L1 h1) allN)) (by kernel_rfl)
  ·replace h := jf h h2
   obtain rfl := oi h
   exact run_fr (n := 100) (orc := [.lp [] [0, 7] [2] (.exit 0) [(0, .d (.v (.string a0)))] [] 54, .br false]) (allC (bfalse h2) (allC (loopF_to R_light_IsName_L1 h1) allN)) (by kernel_rfl)
def F_field_when (n : Nat) (a0 : Bool) (a1 : Int) : Option (Int) :=
 if a0 = true then
  some a1
 else
 some 0
theorem c_field_when {n : Nat} {a0 : Bool} {a1 : Int} {r : Int} (h : F_field_when n a0 a1 = some r) : Computes cx 36 [B a0, I a1] (I r) := by
 unfold F_field_when at h
 by_cases h1 : a0 = true
 ·replace h := it h h1
  obtain rfl := oi h
  exact run_fr (n := 100) (orc := [.br true]) (allC h1 allN) (by kernel_rfl)
 ·replace h := jf h h1
  obtain rfl := oi h
  exact run_fr (n := 100) (orc := [.br false]) (allC (bfalse h1) allN) (by kernel_rfl)
def F_field_when_2 (n : Nat)  : Option (Int) :=
 some 3
theorem c_field_when_2 {n : Nat}  {r : Int} (h : F_field_when_2 n  = some r) : Computes cx 36 [B true, I 3] (I r) := by
 unfold F_field_when_2 at h
 obtain rfl := oi h
 exact run_fr (n := 100) (orc := [.no]) allN (by kernel_rfl)
def F_field_within (n : Nat) (a0 : Int) (a1 : Int) (a2 : Int) : Option (Int) :=
 if a0 < a1 then
  (F_field_when_2 n).bind fun t2 =>
  some t2
 else
 (F_field_when n (decide (a0 > a2)) 3).bind fun t2 =>
 some t2
theorem c_field_within {n : Nat} {a0 : Int} {a1 : Int} {a2 : Int} {r : Int} (h : F_field_within n a0 a1 a2 = some r) : Computes cx 71 [I a0, I a1, I a2] (I r) := by
 unfold F_field_within at h
 by_cases h1 : a0 < a1
 ·replace h := it h h1
  obtain ⟨t2, h2, h⟩ := bo h
  obtain rfl := oi h
  exact run_fr (n := 100) (orc := [.br true, .ret (I t2)]) (allC (c_field_when_2 h2) (allC (decide_eq_true h1) allN)) (by kernel_rfl)
 ·replace h := jf h h1
  obtain ⟨t2, h2, h⟩ := bo h
  obtain rfl := oi h
  exact run_fr (n := 100) (orc := [.br false, .ret (I t2)]) (allC (c_field_when h2) (allC (decide_eq_false h1) allN)) (by kernel_rfl)
def enc_i (x : Int) : D := I x
def un_i (d : D) : Option (Int) := un_int .i64 d
theorem un_i_ok {d : D} {x : Int} (h : un_i d = some x) : d = enc_i x := un_int_ok h
def F_field_first_L1 (n : Nat) (a0 : List D) (sa : (Int)) : Option (((Int)) ⊕ ((Int) ⊕ (Unit))) :=
 if sa < ((a0).length : Int) then
  (el un_i a0 sa).bind fun ta2 =>
  if ta2 = 0 then
  if inI64 (sa + 1) then
  some (.inl (sa + 1))
  else none
  else
  some (.inr (.inl ta2))
 else
 some (.inr (.inr ()))
noncomputable def T_field_first_L1 (a0 : List D) (sa : (Int)) : List (Nat × AV) := [(5, .d (.lst false 1 a0)), (6, .d (I ((a0).length : Int))), (7, .d (I sa))]
noncomputable def H_field_first_L1 (a0 : List D) (sa : (Int)) : List (Nat × Blk) := []
noncomputable def X_field_first_L1 (a0 : List D) (e : (Int) ⊕ (Unit)) : Ex := match e with
  | (.inl e) => .ret
  | (.inr e) => (.exit 0)
noncomputable def XT_field_first_L1 (a0 : List D) (e : (Int) ⊕ (Unit)) : List (Nat × AV) := match e with
  | (.inl e) => [(2, .d (I e))]
  | (.inr e) => []
noncomputable def XH_field_first_L1 (a0 : List D) (e : (Int) ⊕ (Unit)) : List (Nat × Blk) := match e with
  | (.inl e) => []
  | (.inr e) => []
theorem R_field_first_L1 {n : Nat} {a0 : List D} (sa : (Int)) (r) (h : F_field_first_L1 n a0 sa = some r) : Rd cx (loopAt cx.P 35 0) 15 0 false (T_field_first_L1 a0) (H_field_first_L1 a0) (X_field_first_L1 a0) (XT_field_first_L1 a0) (XH_field_first_L1 a0) sa r := by
 unfold F_field_first_L1 at h
 by_cases ha1 : sa < ((a0).length : Int)
 ·replace h := it h ha1
  obtain ⟨ta2, ha2, h⟩ := bo h
  by_cases ha3 : ta2 = 0
  ·replace h := it h ha3
   obtain ⟨ha4, h⟩ := gd h
   obtain rfl := oi h
   exact ⟨100, 4, [.br true, .el (enc_i ta2), .br false], [], [5, 6, 7], [], round_fr (allC ha4 (allC (nef ha3) (allC (el_ok un_i_ok ha2).1 (allC (el_ok un_i_ok ha2).2 (allC (decide_eq_true ha1) allN))))) (by kernel_rfl)⟩
  ·replace h := jf h ha3
   obtain rfl := oi h
   exact ⟨⟨100, 4, [.br true, .el (enc_i ta2), .br true], [], [2], [], round_fr (allC (net ha3) (allC (el_ok un_i_ok ha2).1 (allC (el_ok un_i_ok ha2).2 (allC (decide_eq_true ha1) allN)))) (by kernel_rfl)⟩, nofun⟩
 ·replace h := jf h ha1
  obtain rfl := oi h
  exact ⟨⟨100, 4, [.br false], [], [], [], round_fr (allC (decide_eq_false ha1) allN) (by kernel_rfl)⟩, nofun⟩
def F_field_first (n : Nat) (a0 : List D) : Option (Int) :=
 (loopF (F_field_first_L1 n a0) n 0).bind fun t1 => match t1 with
  | (.inl t1) => (
  some t1)
  | (.inr t1) => (
  some 0)
theorem c_field_first {n : Nat} {a0 : List D} {r : Int} (h : F_field_first n a0 = some r) : Computes cx 35 [.lst false 1 a0] (I r) := by
 unfold F_field_first at h
 obtain ⟨t1, h1, h⟩ := bo h
 rcases t1 with t1 | t1
 ·obtain rfl := oi h
  exact run_fr (n := 100) (orc := [.lp [] [5, 6, 7] [] .ret [(2, .d (I t1))] [] 23]) (allC (loopF_to R_field_first_L1 h1) allN) (by kernel_rfl)
 ·obtain rfl := oi h
  exact run_fr (n := 100) (orc := [.lp [] [5, 6, 7] [] (.exit 0) [] [] 23]) (allC (loopF_to R_field_first_L1 h1) allN) (by kernel_rfl)
def F_field_checkParts (n : Nat) (a0 : Int) (a1 : Int) (a2 : Int) (a3 : Int) : Option (Int) :=
 (F_field_within n a0 (IntKind.wrap .i64 (0 - a3)) a3).bind fun t1 =>
 (F_field_within n a1 (IntKind.wrap .i64 (0 - a3)) a3).bind fun t2 =>
 (F_field_within n a2 (IntKind.wrap .i64 (0 - a3)) a3).bind fun t3 =>
 (F_field_first n ([I t1, I t2, I t3])).bind fun t4 =>
 some t4
theorem c_field_checkParts {n : Nat} {a0 : Int} {a1 : Int} {a2 : Int} {a3 : Int} {r : Int} (h : F_field_checkParts n a0 a1 a2 a3 = some r) : Computes cx 69 [.agg [I a0, I a1, I a2], I a3] (I r) := by
 unfold F_field_checkParts at h
 obtain ⟨t1, h1, h⟩ := bo h; obtain ⟨t2, h2, h⟩ := bo h; obtain ⟨t3, h3, h⟩ := bo h; obtain ⟨t4, h4, h⟩ := bo h
 obtain rfl := oi h
 exact run_fr (n := 100) (orc := [.ret (I t1), .ret (I t2), .ret (I t3), .ret (I t4)]) (allC (((c_field_first h4).le (.cons (.full _ _ _) (.nil)) (.refl _)) : Computes cx 35 [.lst true 1 [I t1, I t2, I t3]] (I t4)) (allC (c_field_within h3) (allC (c_field_within h2) (allC (c_field_within h1) allN)))) (by kernel_rfl)
/- (spillage/field.Mirror).check: .agg [.v (.string a0), I a1, I a2, I a3, I a4, I a5, I a6, I a7, I a8, I a9] -/
def F_field_Mirror_check (n : Nat) (a0 : ByteArray) (a1 : Int) (a2 : Int) (a3 : Int) (a4 : Int) (a5 : Int) (a6 : Int) (a7 : Int) (a8 : Int) (a9 : Int) : Option (Int) :=
 (F_light_IsName n a0).bind fun t1 =>
 (F_field_when n (!t1) 8).bind fun t2 =>
 (F_field_checkParts n a1 a2 a3 4096).bind fun t3 =>
 (F_field_checkParts n a4 a5 a6 64).bind fun t4 =>
 (F_field_checkParts n a7 a8 a9 64).bind fun t5 =>
 (F_field_first n ([I t2, I t3, I t4, I t5])).bind fun t6 =>
 if t6 = 0 then
  (F_field_Mirror_normal n a0 a1 a2 a3 a4 a5 a6 a7 a8 a9).bind fun t8 =>
  (F_field_when n ((t8.1 == 0) && ((t8.2.1 == 0) && ((t8.2.2 == 0) && true))) 17).bind fun t9 =>
  some t9
 else
 some t6
theorem c_field_Mirror_check {n : Nat} {a0 : ByteArray} {a1 : Int} {a2 : Int} {a3 : Int} {a4 : Int} {a5 : Int} {a6 : Int} {a7 : Int} {a8 : Int} {a9 : Int} {r : Int} (h : F_field_Mirror_check n a0 a1 a2 a3 a4 a5 a6 a7 a8 a9 = some r) : Computes cx 54 [.agg [.v (.string a0), I a1, I a2, I a3, I a4, I a5, I a6, I a7, I a8, I a9]] (I r) := by
 unfold F_field_Mirror_check at h
 obtain ⟨t1, h1, h⟩ := bo h; obtain ⟨t2, h2, h⟩ := bo h; obtain ⟨t3, h3, h⟩ := bo h; obtain ⟨t4, h4, h⟩ := bo h; obtain ⟨t5, h5, h⟩ := bo h; obtain ⟨t6, h6, h⟩ := bo h
 by_cases h7 : t6 = 0
 ·replace h := it h h7
  obtain ⟨t8, h8, h⟩ := bo h; obtain ⟨t9, h9, h⟩ := bo h
  obtain rfl := oi h
  exact run_fr (n := 100) (orc := [.ret (B t1), .ret (I t2), .ret (I t3), .ret (I t4), .ret (I t5), .ret (I t6), .br false, .ret (.agg [I t8.1, I t8.2.1, I t8.2.2]), .ret (I t9)]) (allC (c_field_when h9) (allC (c_field_Mirror_normal h8) (allC (nef h7) (allC (((c_field_first h6).le (.cons (.full _ _ _) (.nil)) (.refl _)) : Computes cx 35 [.lst true 1 [I t2, I t3, I t4, I t5]] (I t6)) (allC (c_field_checkParts h5) (allC (c_field_checkParts h4) (allC (c_field_checkParts h3) (allC (c_field_when h2) (allC (c_light_IsName h1) allN))))))))) (by kernel_rfl)
 ·replace h := jf h h7
  obtain rfl := oi h
  exact run_fr (n := 100) (orc := [.ret (B t1), .ret (I t2), .ret (I t3), .ret (I t4), .ret (I t5), .ret (I t6), .br true]) (allC (net h7) (allC (((c_field_first h6).le (.cons (.full _ _ _) (.nil)) (.refl _)) : Computes cx 35 [.lst true 1 [I t2, I t3, I t4, I t5]] (I t6)) (allC (c_field_checkParts h5) (allC (c_field_checkParts h4) (allC (c_field_checkParts h3) (allC (c_field_when h2) (allC (c_light_IsName h1) allN))))))) (by kernel_rfl)
def F_field_left (n : Nat) (a0 : Int) (a1 : Int) (a2 : Int) (a3 : Int) (a4 : Int) (a5 : Int) : Option (Int) :=
 if inI64 (a2 - a0) then
 if inI64 (a5 - a1) then
 if inI64 ((a2 - a0) * (a5 - a1)) then
 if inI64 (a3 - a1) then
 if inI64 (a4 - a0) then
 if inI64 ((a3 - a1) * (a4 - a0)) then
 if inI64 (((a2 - a0) * (a5 - a1)) - ((a3 - a1) * (a4 - a0))) then
 some (((a2 - a0) * (a5 - a1)) - ((a3 - a1) * (a4 - a0)))
 else none
 else none
 else none
 else none
 else none
 else none
 else none
theorem c_field_left {n : Nat} {a0 : Int} {a1 : Int} {a2 : Int} {a3 : Int} {a4 : Int} {a5 : Int} {r : Int} (h : F_field_left n a0 a1 a2 a3 a4 a5 = some r) : Computes cx 50 [.agg [I a0, I a1], .agg [I a2, I a3], .agg [I a4, I a5]] (I r) := by
 unfold F_field_left at h
 obtain ⟨h1, h⟩ := gd h; obtain ⟨h2, h⟩ := gd h; obtain ⟨h3, h⟩ := gd h; obtain ⟨h4, h⟩ := gd h; obtain ⟨h5, h⟩ := gd h; obtain ⟨h6, h⟩ := gd h; obtain ⟨h7, h⟩ := gd h
 obtain rfl := oi h
 exact run_fr (n := 100) (orc := []) (allC h7 (allC h6 (allC h5 (allC h4 (allC h3 (allC h2 (allC h1 allN))))))) (by kernel_rfl)
/- cmp.isNaN[int]: I a0 -/
def F_cmp_isNaN_g (n : Nat) (a0 : Int) : Option (Bool) :=
 some (a0 != a0)
theorem c_cmp_isNaN_g {n : Nat} {a0 : Int} {r : Bool} (h : F_cmp_isNaN_g n a0 = some r) : Computes cx 86 [I a0] (B r) := by
 unfold F_cmp_isNaN_g at h
 obtain rfl := oi h
 exact run_fr (n := 100) (orc := []) allN (by kernel_rfl)
/- cmp.Compare[int]: I a0, I a1 -/
def F_cmp_Compare_g (n : Nat) (a0 : Int) (a1 : Int) : Option (Int) :=
 (F_cmp_isNaN_g n a0).bind fun t1 =>
 (F_cmp_isNaN_g n a1).bind fun t2 =>
 if t1 = true then
  if t2 = true then
  some 0
  else
  some (-1)
 else
 if t2 = true then
  some 1
 else
 if a0 < a1 then
  some (-1)
 else
 if a0 > a1 then
  some 1
 else
 some 0
theorem c_cmp_Compare_g {n : Nat} {a0 : Int} {a1 : Int} {r : Int} (h : F_cmp_Compare_g n a0 a1 = some r) : Computes cx 51 [I a0, I a1] (I r) := by
 unfold F_cmp_Compare_g at h
 obtain ⟨t1, h1, h⟩ := bo h; obtain ⟨t2, h2, h⟩ := bo h
 by_cases h3 : t1 = true
 ·replace h := it h h3
  by_cases h4 : t2 = true
  ·replace h := it h h4
   obtain rfl := oi h
   exact run_fr (n := 100) (orc := [.ret (B t1), .ret (B t2), .br true, .br true]) (allC h4 (allC h3 (allC (c_cmp_isNaN_g h2) (allC (c_cmp_isNaN_g h1) allN)))) (by kernel_rfl)
  ·replace h := jf h h4
   obtain rfl := oi h
   exact run_fr (n := 100) (orc := [.ret (B t1), .ret (B t2), .br true, .br false]) (allC (bfalse h4) (allC h3 (allC (c_cmp_isNaN_g h2) (allC (c_cmp_isNaN_g h1) allN)))) (by kernel_rfl)
 ·replace h := jf h h3
  by_cases h4 : t2 = true
  ·replace h := it h h4
   obtain rfl := oi h
   exact run_fr (n := 100) (orc := [.ret (B t1), .ret (B t2), .br false, .br true]) (allC h4 (allC (bfalse h3) (allC (c_cmp_isNaN_g h2) (allC (c_cmp_isNaN_g h1) allN)))) (by kernel_rfl)
  ·replace h := jf h h4
   by_cases h5 : a0 < a1
   ·replace h := it h h5
    obtain rfl := oi h
    exact run_fr (n := 100) (orc := [.ret (B t1), .ret (B t2), .br false, .br false, .br true]) (allC (decide_eq_true h5) (allC (bfalse h4) (allC (bfalse h3) (allC (c_cmp_isNaN_g h2) (allC (c_cmp_isNaN_g h1) allN))))) (by kernel_rfl)
   ·replace h := jf h h5
    by_cases h6 : a0 > a1
    ·replace h := it h h6
     obtain rfl := oi h
     exact run_fr (n := 100) (orc := [.ret (B t1), .ret (B t2), .br false, .br false, .br false, .br true]) (allC (decide_eq_true h6) (allC (decide_eq_false h5) (allC (bfalse h4) (allC (bfalse h3) (allC (c_cmp_isNaN_g h2) (allC (c_cmp_isNaN_g h1) allN)))))) (by kernel_rfl)
    ·replace h := jf h h6
     obtain rfl := oi h
     exact run_fr (n := 100) (orc := [.ret (B t1), .ret (B t2), .br false, .br false, .br false, .br false]) (allC (decide_eq_false h6) (allC (decide_eq_false h5) (allC (bfalse h4) (allC (bfalse h3) (allC (c_cmp_isNaN_g h2) (allC (c_cmp_isNaN_g h1) allN)))))) (by kernel_rfl)
def F_field_lowest_L1 (n : Nat) (a0 : Int) (a1 : Int) (sa : (Int × Int)) : Option (((Int × Int)) ⊕ ((Int))) :=
 if sa.2 = 0 then
  some (.inr sa.1)
 else
 if sa.2 ≠ 0 then
 some (.inl (sa.2, (Int.tmod sa.1 sa.2)))
 else none
noncomputable def T_field_lowest_L1 (a0 : Int) (a1 : Int) (sa : (Int × Int)) : List (Nat × AV) := [(0, .d (I a0)), (1, .d (I a1)), (4, .ptr 0 0 0 0 0), (5, .d (I sa.1)), (6, .d (I sa.2))]
noncomputable def H_field_lowest_L1 (a0 : Int) (a1 : Int) (sa : (Int × Int)) : List (Nat × Blk) := [(0, .box (.d (.agg [I 0, I 0])))]
noncomputable def X_field_lowest_L1 (a0 : Int) (a1 : Int) (e : (Int)) : Ex := (.exit 0)
noncomputable def XT_field_lowest_L1 (a0 : Int) (a1 : Int) (e : (Int)) : List (Nat × AV) := [(0, .d (I a0)), (1, .d (I a1)), (4, .ptr 0 0 0 0 0), (5, .d (I e))]
noncomputable def XH_field_lowest_L1 (a0 : Int) (a1 : Int) (e : (Int)) : List (Nat × Blk) := [(0, .box (.d (.agg [I 0, I 0])))]
theorem R_field_lowest_L1 {n : Nat} {a0 : Int} {a1 : Int} (sa : (Int × Int)) (r) (h : F_field_lowest_L1 n a0 a1 sa = some r) : Rd cx (loopAt cx.P 59 0) 22 0 false (T_field_lowest_L1 a0 a1) (H_field_lowest_L1 a0 a1) (X_field_lowest_L1 a0 a1) (XT_field_lowest_L1 a0 a1) (XH_field_lowest_L1 a0 a1) sa r := by
 unfold F_field_lowest_L1 at h
 by_cases ha1 : sa.2 = 0
 ·replace h := it h ha1
  obtain rfl := oi h
  exact ⟨⟨100, 5, [.br false], [], [0, 1, 4, 5], [0], round_fr (allC (nef ha1) allN) (by kernel_rfl)⟩, nofun⟩
 ·replace h := jf h ha1
  obtain ⟨ha2, h⟩ := gd h
  obtain rfl := oi h
  exact ⟨100, 5, [.br true], [], [0, 1, 4, 5, 6], [0], round_fr (allC ha2 (allC (net ha1) allN)) (by kernel_rfl)⟩
def F_field_lowest (n : Nat) (a0 : Int) (a1 : Int) : Option (Int × Int) :=
 (loopF (F_field_lowest_L1 n a0 a1) n (a0, a1)).bind fun t1 =>
 if t1 ≠ 0 then
 if inI64 (Int.tdiv a0 t1) then
 if inI64 (Int.tdiv a1 t1) then
 some ((Int.tdiv a0 t1), (Int.tdiv a1 t1))
 else none
 else none
 else none
theorem c_field_lowest {n : Nat} {a0 : Int} {a1 : Int} {r : Int × Int} (h : F_field_lowest n a0 a1 = some r) : Computes cx 59 [I a0, I a1] (.agg [I r.1, I r.2]) := by
 unfold F_field_lowest at h
 obtain ⟨t1, h1, h⟩ := bo h; obtain ⟨h2, h⟩ := gd h; obtain ⟨h3, h⟩ := gd h; obtain ⟨h4, h⟩ := gd h
 obtain rfl := oi h
 exact run_fr (n := 100) (orc := [.lp [] [0, 1, 4, 5, 6] [0] (.exit 0) [(0, .d (I a0)), (1, .d (I a1)), (4, .ptr 0 0 0 0 0), (5, .d (I t1))] [(0, .box (.d (.agg [I 0, I 0])))] 24]) (allC h2 (allC h4 (allC h2 (allC h3 (allC (loopF_to R_field_lowest_L1 h1) allN))))) (by kernel_rfl)
def enc_Ai2Z (x : Int × Int) : D := .agg [I x.1, I x.2]
def un_Ai2Z : D → Option (Int × Int)
  | .agg [c0, c1] => (un_int .i64 c0).bind fun y0 => (un_int .i64 c1).bind fun y1 => some (y0, y1)
  | _ => none
theorem un_Ai2Z_ok {d : D} {x : Int × Int} (h : un_Ai2Z d = some x) : d = enc_Ai2Z x := by
 unfold un_Ai2Z at h
 split at h
 case h_2 => cases h
 obtain ⟨y0, h0, h⟩ := bo h; obtain ⟨y1, h1, h⟩ := bo h
 cases h
 have e0 := un_int_ok h0
 have e1 := un_int_ok h1
 rw [e0, e1]; rfl
def F_field_checkPoint (n : Nat) (a0 : Int) (a1 : Int) : Option (Int) :=
 (F_field_within n a0 (-16777216) 16777216).bind fun t1 =>
 (F_field_within n a1 (-16777216) 16777216).bind fun t2 =>
 (F_field_first n ([I t1, I t2])).bind fun t3 =>
 some t3
theorem c_field_checkPoint {n : Nat} {a0 : Int} {a1 : Int} {r : Int} (h : F_field_checkPoint n a0 a1 = some r) : Computes cx 38 [.agg [I a0, I a1]] (I r) := by
 unfold F_field_checkPoint at h
 obtain ⟨t1, h1, h⟩ := bo h; obtain ⟨t2, h2, h⟩ := bo h; obtain ⟨t3, h3, h⟩ := bo h
 obtain rfl := oi h
 exact run_fr (n := 100) (orc := [.ret (I t1), .ret (I t2), .ret (I t3)]) (allC (((c_field_first h3).le (.cons (.full _ _ _) (.nil)) (.refl _)) : Computes cx 35 [.lst true 1 [I t1, I t2]] (I t3)) (allC (c_field_within h2) (allC (c_field_within h1) allN))) (by kernel_rfl)
def F_field_mapped_g_L1 (n : Nat) (a0 : List D) (sa : (Int × List D)) : Option (((Int × List D)) ⊕ ((List D))) :=
 if sa.1 < ((a0).length : Int) then
  (el un_Ai2Z a0 sa.1).bind fun ta2 =>
  (F_field_checkPoint n ta2.1 ta2.2).bind fun ta3 =>
  if roomP 8 ((sa.2).length + 1) then
  if inI64 (sa.1 + 1) then
  some (.inl ((sa.1 + 1), (sa.2 ++ ([I ta3] : List D))))
  else none
  else none
 else
 some (.inr sa.2)
noncomputable def T_field_mapped_g_L1 (a0 : List D) (sa : (Int × List D)) : List (Nat × AV) := [(1, .d (.fn (.func 38) [] [])), (5, .own 5 0), (8, .d (.lst false 2 a0)), (9, .d (I ((a0).length : Int))), (10, .d (I sa.1))]
noncomputable def H_field_mapped_g_L1 (a0 : List D) (sa : (Int × List D)) : List (Nat × Blk) := [(5, .row 0 1 sa.2)]
noncomputable def X_field_mapped_g_L1 (a0 : List D) (e : (List D)) : Ex := (.exit 0)
noncomputable def XT_field_mapped_g_L1 (a0 : List D) (e : (List D)) : List (Nat × AV) := [(5, .own 5 0)]
noncomputable def XH_field_mapped_g_L1 (a0 : List D) (e : (List D)) : List (Nat × Blk) := [(5, .row 0 1 e)]
theorem R_field_mapped_g_L1 {n : Nat} {a0 : List D} (sa : (Int × List D)) (r) (h : F_field_mapped_g_L1 n a0 sa = some r) : Rd cx (loopAt cx.P 37 0) 22 0 false (T_field_mapped_g_L1 a0) (H_field_mapped_g_L1 a0) (X_field_mapped_g_L1 a0) (XT_field_mapped_g_L1 a0) (XH_field_mapped_g_L1 a0) sa r := by
 unfold F_field_mapped_g_L1 at h
 by_cases ha1 : sa.1 < ((a0).length : Int)
 ·replace h := it h ha1
  obtain ⟨ta2, ha2, h⟩ := bo h; obtain ⟨ta3, ha3, h⟩ := bo h; obtain ⟨ha4, h⟩ := gd h; obtain ⟨ha5, h⟩ := gd h
  obtain rfl := oi h
  exact ⟨100, 6, [.br true, .el (enc_Ai2Z ta2), .ret (I ta3), .br true], [], [1, 5, 8, 9, 10], [5], round_fr (allC ha5 (allC ((room_of (b := 8) (by kernel_rfl) (by decide) ha4) : room cx 27 ((sa.2).length + 1)) (allC (c_field_checkPoint ha3) (allC (el_ok un_Ai2Z_ok ha2).1 (allC (el_ok un_Ai2Z_ok ha2).2 (allC (decide_eq_true ha1) allN)))))) (by kernel_rfl)⟩
 ·replace h := jf h ha1
  obtain rfl := oi h
  exact ⟨⟨100, 6, [.br false], [], [5], [5], round_fr (allC (decide_eq_false ha1) allN) (by kernel_rfl)⟩, nofun⟩
def F_field_mapped_g (n : Nat) (a0 : List D) : Option (List D) :=
 (loopF (F_field_mapped_g_L1 n a0) n (0, [])).bind fun t1 =>
 some t1
theorem c_field_mapped_g {n : Nat} {a0 : List D} {r : List D} (h : F_field_mapped_g n a0 = some r) : Computes cx 37 [.lst false 2 a0, .fn (.func 38) [] []] (.lst false 1 r) := by
 unfold F_field_mapped_g at h
 obtain ⟨t1, h1, h⟩ := bo h
 obtain rfl := oi h
 exact run_fr (n := 100) (orc := [.lp [5, 1] [1, 5, 8, 9, 10] [5] (.exit 0) [(5, .own 5 0)] [(5, .row 0 1 t1)] 31]) (allC (loopF_to R_field_mapped_g_L1 h1) allN) (by kernel_rfl)
/- math/bits.Len64: .v (.int .u64 a0) -/
def F_math_bits_Len64 (n : Nat) (a0 : Int) : Option (Int) :=
 if a0 ≥ 4294967296 then
  none /- symbolic shift -/
 else
 if a0 ≥ 65536 then
  none /- symbolic shift -/
 else
 if a0 ≥ 256 then
  none /- symbolic shift -/
 else
 (strAt (⟨#[0, 1, 2, 2, 3, 3, 3, 3, 4, 4, 4, 4, 4, 4, 4, 4, 5, 5, 5, 5, 5, 5, 5, 5, 5, 5, 5, 5, 5, 5, 5, 5, 6, 6, 6, 6, 6, 6, 6, 6, 6, 6, 6, 6, 6, 6, 6, 6, 6, 6, 6, 6, 6, 6, 6, 6, 6, 6, 6, 6, 6, 6, 6, 6, 7, 7, 7, 7, 7, 7, 7, 7, 7, 7, 7, 7, 7, 7, 7, 7, 7, 7, 7, 7, 7, 7, 7, 7, 7, 7, 7, 7, 7, 7, 7, 7, 7, 7, 7, 7, 7, 7, 7, 7, 7, 7, 7, 7, 7, 7, 7, 7, 7, 7, 7, 7, 7, 7, 7, 7, 7, 7, 7, 7, 7, 7, 7, 7, 8, 8, 8, 8, 8, 8, 8, 8, 8, 8, 8, 8, 8, 8, 8, 8, 8, 8, 8, 8, 8, 8, 8, 8, 8, 8, 8, 8, 8, 8, 8, 8, 8, 8, 8, 8, 8, 8, 8, 8, 8, 8, 8, 8, 8, 8, 8, 8, 8, 8, 8, 8, 8, 8, 8, 8, 8, 8, 8, 8, 8, 8, 8, 8, 8, 8, 8, 8, 8, 8, 8, 8, 8, 8, 8, 8, 8, 8, 8, 8, 8, 8, 8, 8, 8, 8, 8, 8, 8, 8, 8, 8, 8, 8, 8, 8, 8, 8, 8, 8, 8, 8, 8, 8, 8, 8, 8, 8, 8, 8, 8, 8, 8, 8, 8, 8, 8, 8, 8, 8, 8, 8, 8, 8, 8, 8, 8, 8]⟩ : ByteArray) (IntKind.wrap .u8 a0)).bind fun t4 =>
 if inI64 (0 + (IntKind.wrap .i64 t4)) then
 some (0 + (IntKind.wrap .i64 t4))
 else none
theorem c_math_bits_Len64 {n : Nat} {a0 : Int} {r : Int} (h : F_math_bits_Len64 n a0 = some r) : Computes cx 117 [.v (.int .u64 a0)] (I r) := by
 unfold F_math_bits_Len64 at h
 by_cases h1 : a0 ≥ 4294967296
 ·replace h := it h h1
  cases h
 ·replace h := jf h h1
  by_cases h2 : a0 ≥ 65536
  ·replace h := it h h2
   cases h
  ·replace h := jf h h2
   by_cases h3 : a0 ≥ 256
   ·replace h := it h h3
    cases h
   ·replace h := jf h h3
    obtain ⟨t4, h4, h⟩ := bo h; obtain ⟨h5, h⟩ := gd h
    obtain rfl := oi h
    exact run_fr (n := 100) (orc := [.br false, .br false, .br false, .el (.v (.int .u8 t4))]) (allC h5 (allC (strAt_ok h4 : pureRun cx.P (Instr.index 9 (.string (⟨#[0, 1, 2, 2, 3, 3, 3, 3, 4, 4, 4, 4, 4, 4, 4, 4, 5, 5, 5, 5, 5, 5, 5, 5, 5, 5, 5, 5, 5, 5, 5, 5, 6, 6, 6, 6, 6, 6, 6, 6, 6, 6, 6, 6, 6, 6, 6, 6, 6, 6, 6, 6, 6, 6, 6, 6, 6, 6, 6, 6, 6, 6, 6, 6, 7, 7, 7, 7, 7, 7, 7, 7, 7, 7, 7, 7, 7, 7, 7, 7, 7, 7, 7, 7, 7, 7, 7, 7, 7, 7, 7, 7, 7, 7, 7, 7, 7, 7, 7, 7, 7, 7, 7, 7, 7, 7, 7, 7, 7, 7, 7, 7, 7, 7, 7, 7, 7, 7, 7, 7, 7, 7, 7, 7, 7, 7, 7, 7, 8, 8, 8, 8, 8, 8, 8, 8, 8, 8, 8, 8, 8, 8, 8, 8, 8, 8, 8, 8, 8, 8, 8, 8, 8, 8, 8, 8, 8, 8, 8, 8, 8, 8, 8, 8, 8, 8, 8, 8, 8, 8, 8, 8, 8, 8, 8, 8, 8, 8, 8, 8, 8, 8, 8, 8, 8, 8, 8, 8, 8, 8, 8, 8, 8, 8, 8, 8, 8, 8, 8, 8, 8, 8, 8, 8, 8, 8, 8, 8, 8, 8, 8, 8, 8, 8, 8, 8, 8, 8, 8, 8, 8, 8, 8, 8, 8, 8, 8, 8, 8, 8, 8, 8, 8, 8, 8, 8, 8, 8, 8, 8, 8, 8, 8, 8, 8, 8, 8, 8, 8, 8, 8, 8, 8, 8, 8, 8]⟩ : ByteArray)) (.int .u8 (IntKind.wrap .u8 a0))) = some (.int .u8 t4)) (allC (decide_eq_false h3) (allC (decide_eq_false h2) (allC (decide_eq_false h1) allN))))) (by kernel_rfl)
/- math/bits.Len: .v (.int .u64 a0) -/
def F_math_bits_Len (n : Nat) (a0 : Int) : Option (Int) :=
 (F_math_bits_Len64 n a0).bind fun t1 =>
 some t1
theorem c_math_bits_Len {n : Nat} {a0 : Int} {r : Int} (h : F_math_bits_Len n a0 = some r) : Computes cx 82 [.v (.int .u64 a0)] (I r) := by
 unfold F_math_bits_Len at h
 obtain ⟨t1, h1, h⟩ := bo h
 obtain rfl := oi h
 exact run_fr (n := 100) (orc := [.no, .ret (I t1)]) (allC (c_math_bits_Len64 h1) allN) (by kernel_rfl)
def F_cmp_Or_g_L1 (n : Nat) (a0 : List D) (sa : (Int)) : Option (((Int)) ⊕ ((Int) ⊕ (Unit))) :=
 if sa < ((a0).length : Int) then
  (el un_i a0 sa).bind fun ta2 =>
  if ta2 = 0 then
  if inI64 (sa + 1) then
  some (.inl (sa + 1))
  else none
  else
  some (.inr (.inl ta2))
 else
 some (.inr (.inr ()))
noncomputable def T_cmp_Or_g_L1 (a0 : List D) (sa : (Int)) : List (Nat × AV) := [(3, .d (I 0)), (6, .d (.lst false 1 a0)), (7, .d (I ((a0).length : Int))), (8, .d (I sa))]
noncomputable def H_cmp_Or_g_L1 (a0 : List D) (sa : (Int)) : List (Nat × Blk) := []
noncomputable def X_cmp_Or_g_L1 (a0 : List D) (e : (Int) ⊕ (Unit)) : Ex := match e with
  | (.inl e) => .ret
  | (.inr e) => (.exit 0)
noncomputable def XT_cmp_Or_g_L1 (a0 : List D) (e : (Int) ⊕ (Unit)) : List (Nat × AV) := match e with
  | (.inl e) => [(2, .d (I e))]
  | (.inr e) => [(3, .d (I 0))]
noncomputable def XH_cmp_Or_g_L1 (a0 : List D) (e : (Int) ⊕ (Unit)) : List (Nat × Blk) := match e with
  | (.inl e) => []
  | (.inr e) => []
theorem R_cmp_Or_g_L1 {n : Nat} {a0 : List D} (sa : (Int)) (r) (h : F_cmp_Or_g_L1 n a0 sa = some r) : Rd cx (loopAt cx.P 83 0) 18 0 false (T_cmp_Or_g_L1 a0) (H_cmp_Or_g_L1 a0) (X_cmp_Or_g_L1 a0) (XT_cmp_Or_g_L1 a0) (XH_cmp_Or_g_L1 a0) sa r := by
 unfold F_cmp_Or_g_L1 at h
 by_cases ha1 : sa < ((a0).length : Int)
 ·replace h := it h ha1
  obtain ⟨ta2, ha2, h⟩ := bo h
  by_cases ha3 : ta2 = 0
  ·replace h := it h ha3
   obtain ⟨ha4, h⟩ := gd h
   obtain rfl := oi h
   exact ⟨100, 5, [.br true, .el (enc_i ta2), .br false], [], [3, 6, 7, 8], [], round_fr (allC ha4 (allC (nef ha3) (allC (el_ok un_i_ok ha2).1 (allC (el_ok un_i_ok ha2).2 (allC (decide_eq_true ha1) allN))))) (by kernel_rfl)⟩
  ·replace h := jf h ha3
   obtain rfl := oi h
   exact ⟨⟨100, 5, [.br true, .el (enc_i ta2), .br true], [], [2], [], round_fr (allC (net ha3) (allC (el_ok un_i_ok ha2).1 (allC (el_ok un_i_ok ha2).2 (allC (decide_eq_true ha1) allN)))) (by kernel_rfl)⟩, nofun⟩
 ·replace h := jf h ha1
  obtain rfl := oi h
  exact ⟨⟨100, 5, [.br false], [], [3], [], round_fr (allC (decide_eq_false ha1) allN) (by kernel_rfl)⟩, nofun⟩
/- cmp.Or[int]: .lst false 1 a0 -/
def F_cmp_Or_g (n : Nat) (a0 : List D) : Option (Int) :=
 (loopF (F_cmp_Or_g_L1 n a0) n 0).bind fun t1 => match t1 with
  | (.inl t1) => (
  some t1)
  | (.inr t1) => (
  some 0)
theorem c_cmp_Or_g {n : Nat} {a0 : List D} {r : Int} (h : F_cmp_Or_g n a0 = some r) : Computes cx 83 [.lst false 1 a0] (I r) := by
 unfold F_cmp_Or_g at h
 obtain ⟨t1, h1, h⟩ := bo h
 rcases t1 with t1 | t1
 ·obtain rfl := oi h
  exact run_fr (n := 100) (orc := [.lp [] [3, 6, 7, 8] [] .ret [(2, .d (I t1))] [] 25]) (allC (loopF_to R_cmp_Or_g_L1 h1) allN) (by kernel_rfl)
 ·obtain rfl := oi h
  exact run_fr (n := 100) (orc := [.lp [] [3, 6, 7, 8] [] (.exit 0) [(3, .d (I 0))] [] 25]) (allC (loopF_to R_cmp_Or_g_L1 h1) allN) (by kernel_rfl)
def F_field_compare (n : Nat) (a0 : Int) (a1 : Int) (a2 : Int) (a3 : Int) : Option (Int) :=
 (F_cmp_Compare_g n a0 a2).bind fun t1 =>
 (F_cmp_Compare_g n a1 a3).bind fun t2 =>
 (F_cmp_Or_g n ([I t1, I t2])).bind fun t3 =>
 some t3
theorem c_field_compare {n : Nat} {a0 : Int} {a1 : Int} {a2 : Int} {a3 : Int} {r : Int} (h : F_field_compare n a0 a1 a2 a3 = some r) : Computes cx 41 [.agg [I a0, I a1], .agg [I a2, I a3]] (I r) := by
 unfold F_field_compare at h
 obtain ⟨t1, h1, h⟩ := bo h; obtain ⟨t2, h2, h⟩ := bo h; obtain ⟨t3, h3, h⟩ := bo h
 obtain rfl := oi h
 exact run_fr (n := 100) (orc := [.ret (I t1), .ret (I t2), .ret (I t3)]) (allC (((c_cmp_Or_g h3).le (.cons (.full _ _ _) (.nil)) (.refl _)) : Computes cx 83 [.lst true 1 [I t1, I t2]] (I t3)) (allC (c_cmp_Compare_g h2) (allC (c_cmp_Compare_g h1) allN))) (by kernel_rfl)
def F_field_when_3 (n : Nat)  : Option (Int) :=
 some 17
theorem c_field_when_3 {n : Nat}  {r : Int} (h : F_field_when_3 n  = some r) : Computes cx 36 [B true, I 17] (I r) := by
 unfold F_field_when_3 at h
 obtain rfl := oi h
 exact run_fr (n := 100) (orc := [.no]) allN (by kernel_rfl)
def F_field_when_4 (n : Nat)  : Option (Int) :=
 some 0
theorem c_field_when_4 {n : Nat}  {r : Int} (h : F_field_when_4 n  = some r) : Computes cx 36 [B false, I 5] (I r) := by
 unfold F_field_when_4 at h
 obtain rfl := oi h
 exact run_fr (n := 100) (orc := [.no]) allN (by kernel_rfl)
def F_field_Hull_L2 (n : Nat) (a0 : List D) (sb : Int × List D) (sc : (Int × List D)) : Option (((Int × List D)) ⊕ ((List D))) :=
 if sc.1 > 0 then
  if 0 ≤ sc.1 ∧ sc.1 < ((sc.2).length : Int) then
  ((nth (sc.2) (Int.toNat sc.1)).bind un_Ai2Z).bind fun tc3 =>
  if inI64 (sc.1 - 1) then
  if 0 ≤ (sc.1 - 1) ∧ (sc.1 - 1) < ((sc.2).length : Int) then
  ((nth (sc.2) (Int.toNat (sc.1 - 1))).bind un_Ai2Z).bind fun tc6 =>
  (F_field_compare n tc3.1 tc3.2 tc6.1 tc6.2).bind fun tc7 =>
  if tc7 < 0 then
  if (Int.toNat sc.1) < (sc.2).length then
  if 0 ≤ (sc.1 - 1) ∧ (sc.1 - 1) < (((List.set sc.2 (Int.toNat sc.1) (.agg [I tc6.1, I tc6.2] : D)) : List D).length : Int) then
  if (Int.toNat (sc.1 - 1)) < ((List.set sc.2 (Int.toNat sc.1) (.agg [I tc6.1, I tc6.2] : D)) : List D).length then
  some (.inl ((sc.1 - 1), (List.set (List.set sc.2 (Int.toNat sc.1) (.agg [I tc6.1, I tc6.2] : D)) (Int.toNat (sc.1 - 1)) (.agg [I tc3.1, I tc3.2] : D))))
  else none
  else none
  else none
  else
  some (.inr sc.2)
  else none
  else none
  else none
 else
 some (.inr sc.2)
noncomputable def T_field_Hull_L2 (a0 : List D) (sb : Int × List D) (sc : (Int × List D)) : List (Nat × AV) := [(0, .own 29 0), (1, .d (I 0)), (2, .d (I ((a0).length : Int))), (3, .d (.fn (.func 41) [] [])), (8, .d (I sb.1)), (9, .d (I sc.1))]
noncomputable def H_field_Hull_L2 (a0 : List D) (sb : Int × List D) (sc : (Int × List D)) : List (Nat × Blk) := [(29, .row 0 2 sc.2)]
noncomputable def X_field_Hull_L2 (a0 : List D) (sb : Int × List D) (e : (List D)) : Ex := (.exit 2)
noncomputable def XT_field_Hull_L2 (a0 : List D) (sb : Int × List D) (e : (List D)) : List (Nat × AV) := [(0, .own 29 0), (1, .d (I 0)), (2, .d (I ((a0).length : Int))), (3, .d (.fn (.func 41) [] [])), (8, .d (I sb.1))]
noncomputable def XH_field_Hull_L2 (a0 : List D) (sb : Int × List D) (e : (List D)) : List (Nat × Blk) := [(29, .row 0 2 e)]
theorem R_field_Hull_L2 {n : Nat} {a0 : List D} {sb : Int × List D} (sc : (Int × List D)) (r) (h : F_field_Hull_L2 n a0 sb sc = some r) : Rd cx (loopAt cx.P 108 1) 53 56 false (T_field_Hull_L2 a0 sb) (H_field_Hull_L2 a0 sb) (X_field_Hull_L2 a0 sb) (XT_field_Hull_L2 a0 sb) (XH_field_Hull_L2 a0 sb) sc r := by
 unfold F_field_Hull_L2 at h
 by_cases hc1 : sc.1 > 0
 ·replace h := it h hc1
  obtain ⟨hc2, h⟩ := gd h; obtain ⟨tc3, hc3, h⟩ := bo h; obtain ⟨hc4, h⟩ := gd h; obtain ⟨hc5, h⟩ := gd h; obtain ⟨tc6, hc6, h⟩ := bo h; obtain ⟨tc7, hc7, h⟩ := bo h
  by_cases hc8 : tc7 < 0
  ·replace h := it h hc8
   obtain ⟨hc9, h⟩ := gd h; obtain ⟨hc10, h⟩ := gd h; obtain ⟨hc11, h⟩ := gd h
   obtain rfl := oi h
   exact ⟨100, 64, [.br true, .br true, .el (enc_Ai2Z tc3), .br true, .el (enc_Ai2Z tc6), .ret (I tc7), .br true, .br true, .el (enc_Ai2Z tc6), .br true, .el (enc_Ai2Z tc3), .br true, .br true, .br true, .br true], [], [0, 1, 2, 3, 8, 9], [29], round_fr (allC hc4 (allC hc11 (allC hc10 (allC hc9 (allC hc2 (allC (nel_ok un_Ai2Z_ok hc3) (allC hc2 (allC (nel_ok un_Ai2Z_ok hc6) (allC hc5 (allC hc4 (allC hc4 (allC (decide_eq_true hc8) (allC (c_field_compare hc7) (allC (nel_ok un_Ai2Z_ok hc6) (allC hc5 (allC hc4 (allC (nel_ok un_Ai2Z_ok hc3) (allC hc2 (allC (decide_eq_true hc1) allN))))))))))))))))))) (by kernel_rfl)⟩
  ·replace h := jf h hc8
   obtain rfl := oi h
   exact ⟨⟨100, 64, [.br true, .br true, .el (enc_Ai2Z tc3), .br true, .el (enc_Ai2Z tc6), .ret (I tc7), .br false], [], [0, 1, 2, 3, 8], [29], round_fr (allC (decide_eq_false hc8) (allC (c_field_compare hc7) (allC (nel_ok un_Ai2Z_ok hc6) (allC hc5 (allC hc4 (allC (nel_ok un_Ai2Z_ok hc3) (allC hc2 (allC (decide_eq_true hc1) allN)))))))) (by kernel_rfl)⟩, nofun⟩
 ·replace h := jf h hc1
  obtain rfl := oi h
  exact ⟨⟨100, 64, [.br false, .no], [], [0, 1, 2, 3, 8], [29], round_fr (allC (decide_eq_false hc1) allN) (by kernel_rfl)⟩, nofun⟩
def F_field_Hull_L3 (n : Nat) (a0 : List D) (sb : (Int × List D)) : Option (((Int × List D)) ⊕ ((List D))) :=
 if sb.1 < ((a0).length : Int) then
  (loopF (F_field_Hull_L2 n a0 sb) n (sb.1, sb.2)).bind fun tb2 =>
  if inI64 (sb.1 + 1) then
  some (.inl ((sb.1 + 1), tb2))
  else none
 else
 some (.inr sb.2)
noncomputable def T_field_Hull_L3 (a0 : List D) (sb : (Int × List D)) : List (Nat × AV) := [(0, .own 29 0), (1, .d (I 0)), (2, .d (I ((a0).length : Int))), (3, .d (.fn (.func 41) [] [])), (8, .d (I sb.1))]
noncomputable def H_field_Hull_L3 (a0 : List D) (sb : (Int × List D)) : List (Nat × Blk) := [(29, .row 0 2 sb.2)]
noncomputable def X_field_Hull_L3 (a0 : List D) (e : (List D)) : Ex := (.exit 0)
noncomputable def XT_field_Hull_L3 (a0 : List D) (e : (List D)) : List (Nat × AV) := []
noncomputable def XH_field_Hull_L3 (a0 : List D) (e : (List D)) : List (Nat × Blk) := [(29, .row 0 2 e)]
theorem R_field_Hull_L3 {n : Nat} {a0 : List D} (sb : (Int × List D)) (r) (h : F_field_Hull_L3 n a0 sb = some r) : Rd cx (loopAt cx.P 108 0) 53 56 false (T_field_Hull_L3 a0) (H_field_Hull_L3 a0) (X_field_Hull_L3 a0) (XT_field_Hull_L3 a0) (XH_field_Hull_L3 a0) sb r := by
 unfold F_field_Hull_L3 at h
 by_cases hb1 : sb.1 < ((a0).length : Int)
 ·replace h := it h hb1
  obtain ⟨tb2, hb2, h⟩ := bo h; obtain ⟨hb3, h⟩ := gd h
  obtain rfl := oi h
  exact ⟨100, 59, [.br true, .lp [] [0, 1, 2, 3, 8, 9] [29] (.exit 2) [(0, .own 29 0), (1, .d (I 0)), (2, .d (I ((a0).length : Int))), (3, .d (.fn (.func 41) [] [])), (8, .d (I sb.1))] [(29, .row 0 2 tb2)] 113], [], [0, 1, 2, 3, 8], [29], round_fr (allC hb3 (allC (loopF_to R_field_Hull_L2 hb2) (allC (decide_eq_true hb1) allN))) (by kernel_rfl)⟩
 ·replace h := jf h hb1
  obtain rfl := oi h
  exact ⟨⟨100, 59, [.br false], [], [], [29], round_fr (allC (decide_eq_false hb1) allN) (by kernel_rfl)⟩, nofun⟩
def F_field_Hull_L4 (n : Nat) (a0 : List D) (t10 : Int) (sa : (Unit)) : Option (((Unit)) ⊕ ((List D))) :=
 if inI64 (((a0).length : Int) - 0) then
 if (((a0).length : Int) - 0) ≤ 12 then
  (loopF (F_field_Hull_L3 n a0) n (1, a0)).bind fun ta3 =>
  some (.inr ta3)
 else
 if t10 = 0 then
  none /- never: slices.heapSortCmpFunc[spillage/api.Point] -/
 else
 none /- never: slices.choosePivotCmpFunc[spillage/api.Point] -/
 else none
noncomputable def T_field_Hull_L4 (a0 : List D) (t10 : Int) (sa : (Unit)) : List (Nat × AV) := [(0, .own 29 0), (1, .d (I 0)), (2, .d (I ((a0).length : Int))), (3, .d (I t10)), (4, .d (.fn (.func 41) [] [])), (10, .d (B true)), (11, .d (B true))]
noncomputable def H_field_Hull_L4 (a0 : List D) (t10 : Int) (sa : (Unit)) : List (Nat × Blk) := [(29, .row 0 2 a0)]
noncomputable def X_field_Hull_L4 (a0 : List D) (t10 : Int) (e : (List D)) : Ex := .ret
noncomputable def XT_field_Hull_L4 (a0 : List D) (t10 : Int) (e : (List D)) : List (Nat × AV) := []
noncomputable def XH_field_Hull_L4 (a0 : List D) (t10 : Int) (e : (List D)) : List (Nat × Blk) := [(29, .row 0 2 e)]
theorem R_field_Hull_L4 {n : Nat} {a0 : List D} {t10 : Int} (sa : (Unit)) (r) (h : F_field_Hull_L4 n a0 t10 sa = some r) : Rd cx (loopAt cx.P 81 0) 148 43 false (T_field_Hull_L4 a0 t10) (H_field_Hull_L4 a0 t10) (X_field_Hull_L4 a0 t10) (XT_field_Hull_L4 a0 t10) (XH_field_Hull_L4 a0 t10) sa r := by
 unfold F_field_Hull_L4 at h
 obtain ⟨ha1, h⟩ := gd h
 by_cases ha2 : (((a0).length : Int) - 0) ≤ 12
 ·replace h := it h ha2
  obtain ⟨ta3, ha3, h⟩ := bo h
  obtain rfl := oi h
  exact ⟨⟨100, 45, [.br true, .br true, .lp [] [0, 1, 2, 3, 8] [29] (.exit 0) [] [(29, .row 0 2 ta3)] 127], [], [], [29], round_fr (allC (loopF_to R_field_Hull_L3 ha3) (allC ((by unfold inI64; omega) : inI64 1) (allC (decide_eq_true ha2) (allC ha1 allN)))) (by kernel_rfl)⟩, nofun⟩
 ·replace h := jf h ha2
  by_cases ha3 : t10 = 0
  ·replace h := it h ha3
   cases h
  ·replace h := jf h ha3
   cases h
def F_field_Hull_L6 (n : Nat) (t11 : List D) (sa : Int × List D) (ta3 : Int × Int) (sb : (Int × List D)) : Option (((Int × List D)) ⊕ ((List D))) :=
 if sb.1 > 1 then
  if inI64 (sb.1 - 2) then
  if 0 ≤ (sb.1 - 2) ∧ (sb.1 - 2) < ((sb.2).length : Int) then
  ((nth (sb.2) (Int.toNat (sb.1 - 2))).bind un_Ai2Z).bind fun tb4 =>
  if inI64 (sb.1 - 1) then
  if 0 ≤ (sb.1 - 1) ∧ (sb.1 - 1) < ((sb.2).length : Int) then
  ((nth (sb.2) (Int.toNat (sb.1 - 1))).bind un_Ai2Z).bind fun tb7 =>
  (F_field_left n tb4.1 tb4.2 tb7.1 tb7.2 ta3.1 ta3.2).bind fun tb8 =>
  if tb8 ≤ 0 then
  if 0 ≤ (sb.1 - 1) ∧ (sb.1 - 1) ≤ ((sb.2).length : Int) then
  some (.inl ((((sb.2.take (Int.toNat (sb.1 - 1))) : List D).length : Int), (sb.2.take (Int.toNat (sb.1 - 1)))))
  else none
  else
  some (.inr sb.2)
  else none
  else none
  else none
  else none
 else
 some (.inr sb.2)
noncomputable def T_field_Hull_L6 (t11 : List D) (sa : Int × List D) (ta3 : Int × Int) (sb : (Int × List D)) : List (Nat × AV) := [(3, .own 155 0), (5, .ptr 159 0 0 0 0), (6, .d (I sb.1)), (7, .own 29 0), (8, .d (I ((t11).length : Int))), (9, .d (I sa.1))]
noncomputable def H_field_Hull_L6 (t11 : List D) (sa : Int × List D) (ta3 : Int × Int) (sb : (Int × List D)) : List (Nat × Blk) := [(29, .row 0 2 t11), (155, .row 0 2 sb.2), (159, .box (.d (.agg [I ta3.1, I ta3.2])))]
noncomputable def X_field_Hull_L6 (t11 : List D) (sa : Int × List D) (ta3 : Int × Int) (e : (List D)) : Ex := (.exit 2)
noncomputable def XT_field_Hull_L6 (t11 : List D) (sa : Int × List D) (ta3 : Int × Int) (e : (List D)) : List (Nat × AV) := [(3, .own 155 0), (5, .ptr 159 0 0 0 0), (7, .own 29 0), (8, .d (I ((t11).length : Int))), (9, .d (I sa.1))]
noncomputable def XH_field_Hull_L6 (t11 : List D) (sa : Int × List D) (ta3 : Int × Int) (e : (List D)) : List (Nat × Blk) := [(29, .row 0 2 t11), (155, .row 0 2 e), (159, .box (.d (.agg [I ta3.1, I ta3.2])))]
theorem R_field_Hull_L6 {n : Nat} {t11 : List D} {sa : Int × List D} {ta3 : Int × Int} (sb : (Int × List D)) (r) (h : F_field_Hull_L6 n t11 sa ta3 sb = some r) : Rd cx (loopAt cx.P 43 1) 44 150 false (T_field_Hull_L6 t11 sa ta3) (H_field_Hull_L6 t11 sa ta3) (X_field_Hull_L6 t11 sa ta3) (XT_field_Hull_L6 t11 sa ta3) (XH_field_Hull_L6 t11 sa ta3) sb r := by
 unfold F_field_Hull_L6 at h
 by_cases hb1 : sb.1 > 1
 ·replace h := it h hb1
  obtain ⟨hb2, h⟩ := gd h; obtain ⟨hb3, h⟩ := gd h; obtain ⟨tb4, hb4, h⟩ := bo h; obtain ⟨hb5, h⟩ := gd h; obtain ⟨hb6, h⟩ := gd h; obtain ⟨tb7, hb7, h⟩ := bo h; obtain ⟨tb8, hb8, h⟩ := bo h
  by_cases hb9 : tb8 ≤ 0
  ·replace h := it h hb9
   obtain ⟨hb10, h⟩ := gd h
   obtain rfl := oi h
   exact ⟨100, 164, [.br true, .br true, .el (enc_Ai2Z tb4), .br true, .el (enc_Ai2Z tb7), .ret (I tb8), .br true, .ix 0, .br true], [], [3, 5, 6, 7, 8, 9], [29, 155, 159], round_fr (allC hb10 (allC hb5 (allC (decide_eq_true hb9) (allC (c_field_left hb8) (allC (nel_ok un_Ai2Z_ok hb7) (allC hb6 (allC hb5 (allC (nel_ok un_Ai2Z_ok hb4) (allC hb3 (allC hb2 (allC (decide_eq_true hb1) allN))))))))))) (by kernel_rfl)⟩
  ·replace h := jf h hb9
   obtain rfl := oi h
   exact ⟨⟨100, 164, [.br true, .br true, .el (enc_Ai2Z tb4), .br true, .el (enc_Ai2Z tb7), .ret (I tb8), .br false], [], [3, 5, 7, 8, 9], [29, 155, 159], round_fr (allC (decide_eq_false hb9) (allC (c_field_left hb8) (allC (nel_ok un_Ai2Z_ok hb7) (allC hb6 (allC hb5 (allC (nel_ok un_Ai2Z_ok hb4) (allC hb3 (allC hb2 (allC (decide_eq_true hb1) allN))))))))) (by kernel_rfl)⟩, nofun⟩
 ·replace h := jf h hb1
  obtain rfl := oi h
  exact ⟨⟨100, 164, [.br false, .no], [], [3, 5, 7, 8, 9], [29, 155, 159], round_fr (allC (decide_eq_false hb1) allN) (by kernel_rfl)⟩, nofun⟩
def F_field_Hull_L7 (n : Nat) (t11 : List D) (sa : (Int × List D)) : Option (((Int × List D)) ⊕ ((List D))) :=
 if sa.1 < ((t11).length : Int) then
  if 0 ≤ sa.1 ∧ sa.1 < ((t11).length : Int) then
  ((nth (t11) (Int.toNat sa.1)).bind un_Ai2Z).bind fun ta3 =>
  (loopF (F_field_Hull_L6 n t11 sa ta3) n (((sa.2).length : Int), sa.2)).bind fun ta4 =>
  if roomP 16 ((ta4).length + 1) then
  if inI64 (sa.1 + 1) then
  some (.inl ((sa.1 + 1), (ta4 ++ ([.agg [I ta3.1, I ta3.2]] : List D))))
  else none
  else none
  else none
 else
 some (.inr sa.2)
noncomputable def T_field_Hull_L7 (t11 : List D) (sa : (Int × List D)) : List (Nat × AV) := [(3, .own 155 0), (7, .own 29 0), (8, .d (I ((t11).length : Int))), (9, .d (I sa.1))]
noncomputable def H_field_Hull_L7 (t11 : List D) (sa : (Int × List D)) : List (Nat × Blk) := [(29, .row 0 2 t11), (155, .row 0 2 sa.2)]
noncomputable def X_field_Hull_L7 (t11 : List D) (e : (List D)) : Ex := (.exit 0)
noncomputable def XT_field_Hull_L7 (t11 : List D) (e : (List D)) : List (Nat × AV) := [(3, .own 155 0)]
noncomputable def XH_field_Hull_L7 (t11 : List D) (e : (List D)) : List (Nat × Blk) := [(29, .row 0 2 t11), (155, .row 0 2 e)]
theorem R_field_Hull_L7 {n : Nat} {t11 : List D} (sa : (Int × List D)) (r) (h : F_field_Hull_L7 n t11 sa = some r) : Rd cx (loopAt cx.P 43 0) 44 150 false (T_field_Hull_L7 t11) (H_field_Hull_L7 t11) (X_field_Hull_L7 t11) (XT_field_Hull_L7 t11) (XH_field_Hull_L7 t11) sa r := by
 unfold F_field_Hull_L7 at h
 by_cases ha1 : sa.1 < ((t11).length : Int)
 ·replace h := it h ha1
  obtain ⟨ha2, h⟩ := gd h; obtain ⟨ta3, ha3, h⟩ := bo h; obtain ⟨ta4, ha4, h⟩ := bo h; obtain ⟨ha5, h⟩ := gd h; obtain ⟨ha6, h⟩ := gd h
  obtain rfl := oi h
  exact ⟨100, 156, [.br true, .br true, .el (enc_Ai2Z ta3), .lp [] [3, 5, 6, 7, 8, 9] [29, 155, 159] (.exit 2) [(3, .own 155 0), (5, .ptr 159 0 0 0 0), (7, .own 29 0), (8, .d (I ((t11).length : Int))), (9, .d (I sa.1))] [(29, .row 0 2 t11), (155, .row 0 2 ta4), (159, .box (.d (.agg [I ta3.1, I ta3.2])))] 200, .br true], [], [3, 7, 8, 9], [29, 155], round_fr (allC ha6 (allC ((room_of (b := 16) (by kernel_rfl) (by decide) ha5) : room cx 25 ((ta4).length + 1)) (allC (loopF_to R_field_Hull_L6 ha4) (allC (nel_ok un_Ai2Z_ok ha3) (allC ha2 (allC (decide_eq_true ha1) allN)))))) (by kernel_rfl)⟩
 ·replace h := jf h ha1
  obtain rfl := oi h
  exact ⟨⟨100, 156, [.br false], [], [3], [29, 155], round_fr (allC (decide_eq_false ha1) allN) (by kernel_rfl)⟩, nofun⟩
def F_field_Hull_L8 (n : Nat) (t13 : List D) (sa : (Int × Int × List D)) : Option (((Int × Int × List D)) ⊕ ((List D))) :=
 if sa.1 < sa.2.1 then
  if 0 ≤ sa.2.1 ∧ sa.2.1 < ((sa.2.2).length : Int) then
  ((nth (sa.2.2) (Int.toNat sa.2.1)).bind un_Ai2Z).bind fun ta3 =>
  if 0 ≤ sa.1 ∧ sa.1 < ((sa.2.2).length : Int) then
  ((nth (sa.2.2) (Int.toNat sa.1)).bind un_Ai2Z).bind fun ta5 =>
  if (Int.toNat sa.1) < (sa.2.2).length then
  if 0 ≤ sa.2.1 ∧ sa.2.1 < (((List.set sa.2.2 (Int.toNat sa.1) (.agg [I ta3.1, I ta3.2] : D)) : List D).length : Int) then
  if (Int.toNat sa.2.1) < ((List.set sa.2.2 (Int.toNat sa.1) (.agg [I ta3.1, I ta3.2] : D)) : List D).length then
  if inI64 (sa.1 + 1) then
  if inI64 (sa.2.1 - 1) then
  some (.inl ((sa.1 + 1), (sa.2.1 - 1), (List.set (List.set sa.2.2 (Int.toNat sa.1) (.agg [I ta3.1, I ta3.2] : D)) (Int.toNat sa.2.1) (.agg [I ta5.1, I ta5.2] : D))))
  else none
  else none
  else none
  else none
  else none
  else none
  else none
 else
 some (.inr sa.2.2)
noncomputable def T_field_Hull_L8 (t13 : List D) (sa : (Int × Int × List D)) : List (Nat × AV) := [(0, .own 29 0), (2, .d (I sa.1)), (3, .d (I sa.2.1))]
noncomputable def H_field_Hull_L8 (t13 : List D) (sa : (Int × Int × List D)) : List (Nat × Blk) := [(29, .row 0 2 sa.2.2), (155, .row 0 2 t13)]
noncomputable def X_field_Hull_L8 (t13 : List D) (e : (List D)) : Ex := (.exit 0)
noncomputable def XT_field_Hull_L8 (t13 : List D) (e : (List D)) : List (Nat × AV) := []
noncomputable def XH_field_Hull_L8 (t13 : List D) (e : (List D)) : List (Nat × Blk) := [(29, .row 0 2 e), (155, .row 0 2 t13)]
theorem R_field_Hull_L8 {n : Nat} {t13 : List D} (sa : (Int × Int × List D)) (r) (h : F_field_Hull_L8 n t13 sa = some r) : Rd cx (loopAt cx.P 44 0) 28 222 false (T_field_Hull_L8 t13) (H_field_Hull_L8 t13) (X_field_Hull_L8 t13) (XT_field_Hull_L8 t13) (XH_field_Hull_L8 t13) sa r := by
 unfold F_field_Hull_L8 at h
 by_cases ha1 : sa.1 < sa.2.1
 ·replace h := it h ha1
  obtain ⟨ha2, h⟩ := gd h; obtain ⟨ta3, ha3, h⟩ := bo h; obtain ⟨ha4, h⟩ := gd h; obtain ⟨ta5, ha5, h⟩ := bo h; obtain ⟨ha6, h⟩ := gd h; obtain ⟨ha7, h⟩ := gd h; obtain ⟨ha8, h⟩ := gd h; obtain ⟨ha9, h⟩ := gd h; obtain ⟨ha10, h⟩ := gd h
  obtain rfl := oi h
  exact ⟨100, 227, [.br true, .br true, .el (enc_Ai2Z ta3), .br true, .el (enc_Ai2Z ta5), .br true, .br true, .br true, .br true], [], [0, 2, 3], [29, 155], round_fr (allC ha10 (allC ha9 (allC ha8 (allC ha7 (allC ha6 (allC ha4 (allC (nel_ok un_Ai2Z_ok ha5) (allC ha4 (allC (nel_ok un_Ai2Z_ok ha3) (allC ha2 (allC (decide_eq_true ha1) allN))))))))))) (by kernel_rfl)⟩
 ·replace h := jf h ha1
  obtain rfl := oi h
  exact ⟨⟨100, 227, [.br false], [], [], [29, 155], round_fr (allC (decide_eq_false ha1) allN) (by kernel_rfl)⟩, nofun⟩
def F_field_Hull_L10 (n : Nat) (t13 : List D) (t15 : List D) (sa : Int × List D) (ta3 : Int × Int) (sb : (Int × List D)) : Option (((Int × List D)) ⊕ ((List D))) :=
 if sb.1 > 1 then
  if inI64 (sb.1 - 2) then
  if 0 ≤ (sb.1 - 2) ∧ (sb.1 - 2) < ((sb.2).length : Int) then
  ((nth (sb.2) (Int.toNat (sb.1 - 2))).bind un_Ai2Z).bind fun tb4 =>
  if inI64 (sb.1 - 1) then
  if 0 ≤ (sb.1 - 1) ∧ (sb.1 - 1) < ((sb.2).length : Int) then
  ((nth (sb.2) (Int.toNat (sb.1 - 1))).bind un_Ai2Z).bind fun tb7 =>
  (F_field_left n tb4.1 tb4.2 tb7.1 tb7.2 ta3.1 ta3.2).bind fun tb8 =>
  if tb8 ≤ 0 then
  if 0 ≤ (sb.1 - 1) ∧ (sb.1 - 1) ≤ ((sb.2).length : Int) then
  some (.inl ((((sb.2.take (Int.toNat (sb.1 - 1))) : List D).length : Int), (sb.2.take (Int.toNat (sb.1 - 1)))))
  else none
  else
  some (.inr sb.2)
  else none
  else none
  else none
  else none
 else
 some (.inr sb.2)
noncomputable def T_field_Hull_L10 (t13 : List D) (t15 : List D) (sa : Int × List D) (ta3 : Int × Int) (sb : (Int × List D)) : List (Nat × AV) := [(3, .own 271 0), (5, .ptr 275 0 0 0 0), (6, .d (I sb.1)), (7, .own 29 0), (8, .d (I ((t15).length : Int))), (9, .d (I sa.1))]
noncomputable def H_field_Hull_L10 (t13 : List D) (t15 : List D) (sa : Int × List D) (ta3 : Int × Int) (sb : (Int × List D)) : List (Nat × Blk) := [(29, .row 0 2 t15), (155, .row 0 2 t13), (271, .row 0 2 sb.2), (275, .box (.d (.agg [I ta3.1, I ta3.2])))]
noncomputable def X_field_Hull_L10 (t13 : List D) (t15 : List D) (sa : Int × List D) (ta3 : Int × Int) (e : (List D)) : Ex := (.exit 2)
noncomputable def XT_field_Hull_L10 (t13 : List D) (t15 : List D) (sa : Int × List D) (ta3 : Int × Int) (e : (List D)) : List (Nat × AV) := [(3, .own 271 0), (5, .ptr 275 0 0 0 0), (7, .own 29 0), (8, .d (I ((t15).length : Int))), (9, .d (I sa.1))]
noncomputable def XH_field_Hull_L10 (t13 : List D) (t15 : List D) (sa : Int × List D) (ta3 : Int × Int) (e : (List D)) : List (Nat × Blk) := [(29, .row 0 2 t15), (155, .row 0 2 t13), (271, .row 0 2 e), (275, .box (.d (.agg [I ta3.1, I ta3.2])))]
theorem R_field_Hull_L10 {n : Nat} {t13 : List D} {t15 : List D} {sa : Int × List D} {ta3 : Int × Int} (sb : (Int × List D)) (r) (h : F_field_Hull_L10 n t13 t15 sa ta3 sb = some r) : Rd cx (loopAt cx.P 43 1) 44 266 false (T_field_Hull_L10 t13 t15 sa ta3) (H_field_Hull_L10 t13 t15 sa ta3) (X_field_Hull_L10 t13 t15 sa ta3) (XT_field_Hull_L10 t13 t15 sa ta3) (XH_field_Hull_L10 t13 t15 sa ta3) sb r := by
 unfold F_field_Hull_L10 at h
 by_cases hb1 : sb.1 > 1
 ·replace h := it h hb1
  obtain ⟨hb2, h⟩ := gd h; obtain ⟨hb3, h⟩ := gd h; obtain ⟨tb4, hb4, h⟩ := bo h; obtain ⟨hb5, h⟩ := gd h; obtain ⟨hb6, h⟩ := gd h; obtain ⟨tb7, hb7, h⟩ := bo h; obtain ⟨tb8, hb8, h⟩ := bo h
  by_cases hb9 : tb8 ≤ 0
  ·replace h := it h hb9
   obtain ⟨hb10, h⟩ := gd h
   obtain rfl := oi h
   exact ⟨100, 280, [.br true, .br true, .el (enc_Ai2Z tb4), .br true, .el (enc_Ai2Z tb7), .ret (I tb8), .br true, .ix 0, .br true], [], [3, 5, 6, 7, 8, 9], [29, 155, 271, 275], round_fr (allC hb10 (allC hb5 (allC (decide_eq_true hb9) (allC (c_field_left hb8) (allC (nel_ok un_Ai2Z_ok hb7) (allC hb6 (allC hb5 (allC (nel_ok un_Ai2Z_ok hb4) (allC hb3 (allC hb2 (allC (decide_eq_true hb1) allN))))))))))) (by kernel_rfl)⟩
  ·replace h := jf h hb9
   obtain rfl := oi h
   exact ⟨⟨100, 280, [.br true, .br true, .el (enc_Ai2Z tb4), .br true, .el (enc_Ai2Z tb7), .ret (I tb8), .br false], [], [3, 5, 7, 8, 9], [29, 155, 271, 275], round_fr (allC (decide_eq_false hb9) (allC (c_field_left hb8) (allC (nel_ok un_Ai2Z_ok hb7) (allC hb6 (allC hb5 (allC (nel_ok un_Ai2Z_ok hb4) (allC hb3 (allC hb2 (allC (decide_eq_true hb1) allN))))))))) (by kernel_rfl)⟩, nofun⟩
 ·replace h := jf h hb1
  obtain rfl := oi h
  exact ⟨⟨100, 280, [.br false, .no], [], [3, 5, 7, 8, 9], [29, 155, 271, 275], round_fr (allC (decide_eq_false hb1) allN) (by kernel_rfl)⟩, nofun⟩
def F_field_Hull_L11 (n : Nat) (t13 : List D) (t15 : List D) (sa : (Int × List D)) : Option (((Int × List D)) ⊕ ((List D))) :=
 if sa.1 < ((t15).length : Int) then
  if 0 ≤ sa.1 ∧ sa.1 < ((t15).length : Int) then
  ((nth (t15) (Int.toNat sa.1)).bind un_Ai2Z).bind fun ta3 =>
  (loopF (F_field_Hull_L10 n t13 t15 sa ta3) n (((sa.2).length : Int), sa.2)).bind fun ta4 =>
  if roomP 16 ((ta4).length + 1) then
  if inI64 (sa.1 + 1) then
  some (.inl ((sa.1 + 1), (ta4 ++ ([.agg [I ta3.1, I ta3.2]] : List D))))
  else none
  else none
  else none
 else
 some (.inr sa.2)
noncomputable def T_field_Hull_L11 (t13 : List D) (t15 : List D) (sa : (Int × List D)) : List (Nat × AV) := [(3, .own 271 0), (7, .own 29 0), (8, .d (I ((t15).length : Int))), (9, .d (I sa.1))]
noncomputable def H_field_Hull_L11 (t13 : List D) (t15 : List D) (sa : (Int × List D)) : List (Nat × Blk) := [(29, .row 0 2 t15), (155, .row 0 2 t13), (271, .row 0 2 sa.2)]
noncomputable def X_field_Hull_L11 (t13 : List D) (t15 : List D) (e : (List D)) : Ex := (.exit 0)
noncomputable def XT_field_Hull_L11 (t13 : List D) (t15 : List D) (e : (List D)) : List (Nat × AV) := [(3, .own 271 0)]
noncomputable def XH_field_Hull_L11 (t13 : List D) (t15 : List D) (e : (List D)) : List (Nat × Blk) := [(29, .row 0 2 t15), (155, .row 0 2 t13), (271, .row 0 2 e)]
theorem R_field_Hull_L11 {n : Nat} {t13 : List D} {t15 : List D} (sa : (Int × List D)) (r) (h : F_field_Hull_L11 n t13 t15 sa = some r) : Rd cx (loopAt cx.P 43 0) 44 266 false (T_field_Hull_L11 t13 t15) (H_field_Hull_L11 t13 t15) (X_field_Hull_L11 t13 t15) (XT_field_Hull_L11 t13 t15) (XH_field_Hull_L11 t13 t15) sa r := by
 unfold F_field_Hull_L11 at h
 by_cases ha1 : sa.1 < ((t15).length : Int)
 ·replace h := it h ha1
  obtain ⟨ha2, h⟩ := gd h; obtain ⟨ta3, ha3, h⟩ := bo h; obtain ⟨ta4, ha4, h⟩ := bo h; obtain ⟨ha5, h⟩ := gd h; obtain ⟨ha6, h⟩ := gd h
  obtain rfl := oi h
  exact ⟨100, 272, [.br true, .br true, .el (enc_Ai2Z ta3), .lp [] [3, 5, 6, 7, 8, 9] [29, 155, 271, 275] (.exit 2) [(3, .own 271 0), (5, .ptr 275 0 0 0 0), (7, .own 29 0), (8, .d (I ((t15).length : Int))), (9, .d (I sa.1))] [(29, .row 0 2 t15), (155, .row 0 2 t13), (271, .row 0 2 ta4), (275, .box (.d (.agg [I ta3.1, I ta3.2])))] 316, .br true], [], [3, 7, 8, 9], [29, 155, 271], round_fr (allC ha6 (allC ((room_of (b := 16) (by kernel_rfl) (by decide) ha5) : room cx 25 ((ta4).length + 1)) (allC (loopF_to R_field_Hull_L10 ha4) (allC (nel_ok un_Ai2Z_ok ha3) (allC ha2 (allC (decide_eq_true ha1) allN)))))) (by kernel_rfl)⟩
 ·replace h := jf h ha1
  obtain rfl := oi h
  exact ⟨⟨100, 272, [.br false], [], [3], [29, 155, 271], round_fr (allC (decide_eq_false ha1) allN) (by kernel_rfl)⟩, nofun⟩
end Go.Proofs.YtbjnjffckhdhgaaGreatDoor
