/-
  Printed by gsx.py: functions of the program as Lean functions, and that the code computes them.
-/
import Derived.Test.YtclmbhokfhjnoaaGreatDoorShelf
set_option linter.unusedVariables false
set_option linter.unusedSimpArgs false
set_option linter.unnecessarySimpa false
set_option maxRecDepth 10000
set_option maxHeartbeats 4000000
namespace Go.Proofs.YtclmbhokfhjnoaaGreatDoor
open Go.SX
/- spillage/field.times: I a0, .agg [I a1, I a2, I a3] -/
def F_field_times (n : Nat) (a0 : Int) (a1 : Int) (a2 : Int) (a3 : Int) : Option (Int × Int × Int) :=
  if inI64 (a0 * a1) then
  if inI64 (a0 * a2) then
  if inI64 (a0 * a3) then
  some ((a0 * a1), (a0 * a2), (a0 * a3))
  else none
  else none
  else none
theorem c_field_times {n : Nat} {a0 : Int} {a1 : Int} {a2 : Int} {a3 : Int} {r : Int × Int × Int} (h : F_field_times n a0 a1 a2 a3 = some r) : Computes cx 86 [I a0, .agg [I a1, I a2, I a3]] (.agg [I r.1, I r.2.1, I r.2.2]) := by
  unfold F_field_times at h
  obtain ⟨h1, h⟩ := grd_of h
  obtain ⟨h2, h⟩ := grd_of h
  obtain ⟨h3, h⟩ := grd_of h
  replace h := Option.some.inj h
  subst h
  exact run_fr (n := 100) (orc := []) (allC h3 (allC h2 (allC h1 allN))) (by kernel_rfl)
/- spillage/field.plus: .agg [I a0, I a1, I a2], .agg [I a3, I a4, I a5] -/
def F_field_plus (n : Nat) (a0 : Int) (a1 : Int) (a2 : Int) (a3 : Int) (a4 : Int) (a5 : Int) : Option (Int × Int × Int) :=
  if inI64 (a0 + a3) then
  if inI64 (a1 + a4) then
  if inI64 (a2 + a5) then
  some ((a0 + a3), (a1 + a4), (a2 + a5))
  else none
  else none
  else none
theorem c_field_plus {n : Nat} {a0 : Int} {a1 : Int} {a2 : Int} {a3 : Int} {a4 : Int} {a5 : Int} {r : Int × Int × Int} (h : F_field_plus n a0 a1 a2 a3 a4 a5 = some r) : Computes cx 85 [.agg [I a0, I a1, I a2], .agg [I a3, I a4, I a5]] (.agg [I r.1, I r.2.1, I r.2.2]) := by
  unfold F_field_plus at h
  obtain ⟨h1, h⟩ := grd_of h
  obtain ⟨h2, h⟩ := grd_of h
  obtain ⟨h3, h⟩ := grd_of h
  replace h := Option.some.inj h
  subst h
  exact run_fr (n := 100) (orc := []) (allC h3 (allC h2 (allC h1 allN))) (by kernel_rfl)
/- spillage/field.cross: .agg [I a0, I a1, I a2], .agg [I a3, I a4, I a5] -/
def F_field_cross (n : Nat) (a0 : Int) (a1 : Int) (a2 : Int) (a3 : Int) (a4 : Int) (a5 : Int) : Option (Int × Int × Int) :=
  if inI64 (a1 * a5) then
  if inI64 (a2 * a4) then
  if inI64 ((a1 * a5) - (a2 * a4)) then
  if inI64 (a2 * a3) then
  if inI64 (a0 * a5) then
  if inI64 ((a2 * a3) - (a0 * a5)) then
  if inI64 (a0 * a4) then
  if inI64 (a1 * a3) then
  if inI64 ((a0 * a4) - (a1 * a3)) then
  some (((a1 * a5) - (a2 * a4)), ((a2 * a3) - (a0 * a5)), ((a0 * a4) - (a1 * a3)))
  else none
  else none
  else none
  else none
  else none
  else none
  else none
  else none
  else none
theorem c_field_cross {n : Nat} {a0 : Int} {a1 : Int} {a2 : Int} {a3 : Int} {a4 : Int} {a5 : Int} {r : Int × Int × Int} (h : F_field_cross n a0 a1 a2 a3 a4 a5 = some r) : Computes cx 114 [.agg [I a0, I a1, I a2], .agg [I a3, I a4, I a5]] (.agg [I r.1, I r.2.1, I r.2.2]) := by
  unfold F_field_cross at h
  obtain ⟨h1, h⟩ := grd_of h
  obtain ⟨h2, h⟩ := grd_of h
  obtain ⟨h3, h⟩ := grd_of h
  obtain ⟨h4, h⟩ := grd_of h
  obtain ⟨h5, h⟩ := grd_of h
  obtain ⟨h6, h⟩ := grd_of h
  obtain ⟨h7, h⟩ := grd_of h
  obtain ⟨h8, h⟩ := grd_of h
  obtain ⟨h9, h⟩ := grd_of h
  replace h := Option.some.inj h
  subst h
  exact run_fr (n := 100) (orc := []) (allC h9 (allC h8 (allC h7 (allC h6 (allC h5 (allC h4 (allC h3 (allC h2 (allC h1 allN))))))))) (by kernel_rfl)
/- (spillage/field.Mirror).normal: .agg [.v (.string a0), I a1, I a2, I a3, I a4, I a5, I a6, I a7, I a8, I a9] -/
def F_field_Mirror_normal (n : Nat) (a0 : ByteArray) (a1 : Int) (a2 : Int) (a3 : Int) (a4 : Int) (a5 : Int) (a6 : Int) (a7 : Int) (a8 : Int) (a9 : Int) : Option (Int × Int × Int) :=
  (F_field_cross n a4 a5 a6 a7 a8 a9).bind fun t1 =>
  some (t1.1, t1.2.1, t1.2.2)
theorem c_field_Mirror_normal {n : Nat} {a0 : ByteArray} {a1 : Int} {a2 : Int} {a3 : Int} {a4 : Int} {a5 : Int} {a6 : Int} {a7 : Int} {a8 : Int} {a9 : Int} {r : Int × Int × Int} (h : F_field_Mirror_normal n a0 a1 a2 a3 a4 a5 a6 a7 a8 a9 = some r) : Computes cx 68 [.agg [.v (.string a0), I a1, I a2, I a3, I a4, I a5, I a6, I a7, I a8, I a9]] (.agg [I r.1, I r.2.1, I r.2.2]) := by
  unfold F_field_Mirror_normal at h
  obtain ⟨t1, h1, h⟩ := bnd_of h
  replace h := Option.some.inj h
  subst h
  exact run_fr (n := 100) (orc := [.ret (.agg [I t1.1, I t1.2.1, I t1.2.2])]) (allC (c_field_cross h1) allN) (by kernel_rfl)
/- spillage/field.dot: .agg [I a0, I a1, I a2], .agg [I a3, I a4, I a5] -/
def F_field_dot (n : Nat) (a0 : Int) (a1 : Int) (a2 : Int) (a3 : Int) (a4 : Int) (a5 : Int) : Option (Int) :=
  if inI64 (a0 * a3) then
  if inI64 (a1 * a4) then
  if inI64 ((a0 * a3) + (a1 * a4)) then
  if inI64 (a2 * a5) then
  if inI64 (((a0 * a3) + (a1 * a4)) + (a2 * a5)) then
  some (((a0 * a3) + (a1 * a4)) + (a2 * a5))
  else none
  else none
  else none
  else none
  else none
theorem c_field_dot {n : Nat} {a0 : Int} {a1 : Int} {a2 : Int} {a3 : Int} {a4 : Int} {a5 : Int} {r : Int} (h : F_field_dot n a0 a1 a2 a3 a4 a5 = some r) : Computes cx 71 [.agg [I a0, I a1, I a2], .agg [I a3, I a4, I a5]] (I r) := by
  unfold F_field_dot at h
  obtain ⟨h1, h⟩ := grd_of h
  obtain ⟨h2, h⟩ := grd_of h
  obtain ⟨h3, h⟩ := grd_of h
  obtain ⟨h4, h⟩ := grd_of h
  obtain ⟨h5, h⟩ := grd_of h
  replace h := Option.some.inj h
  subst h
  exact run_fr (n := 100) (orc := []) (allC h5 (allC h4 (allC h3 (allC h2 (allC h1 allN))))) (by kernel_rfl)
theorem e_field_Mirror_meets_0 (a0 : ByteArray) (a1 : Int) (a2 : Int) (a3 : Int) (a4 : Int) (a5 : Int) (a6 : Int) (a7 : Int) (a8 : Int) (a9 : Int) (a10 : Int) (a11 : Int) (a12 : Int) (a13 : Int) (a14 : Int) (a15 : Int) (a16 : Int) (a17 : Bool) (t1 : Int × Int × Int) (t2 : Int × Int × Int) (t3 : Int × Int × Int) (t4 : Int) (t5 : Int) : runFn true 100 cx 89 [.agg [.v (.string a0), I a1, I a2, I a3, I a4, I a5, I a6, I a7, I a8, I a9], I a10, .agg [I a11, I a12, I a13, I a14, I a15, I a16, B a17]] [.ret (.agg [I t1.1, I t1.2.1, I t1.2.2]), .ret (.agg [I t2.1, I t2.2.1, I t2.2.2]), .ret (.agg [I t3.1, I t3.2.1, I t3.2.2]), .ret (I t4), .ret (.agg [I t3.1, I t3.2.1, I t3.2.2]), .ret (I t5), .br true, .br true, .no, .no] = some (B false, [((IntKind.wrap .i64 (0 - t4)) == 0) = true, (decide (t4 < 0)) = true, Computes cx 71 [.agg [I t3.1, I t3.2.1, I t3.2.2], .agg [I t2.1, I t2.2.1, I t2.2.2]] (I t5), Computes cx 68 [.agg [.v (.string a0), I a1, I a2, I a3, I a4, I a5, I a6, I a7, I a8, I a9]] (.agg [I t3.1, I t3.2.1, I t3.2.2]), Computes cx 71 [.agg [I t3.1, I t3.2.1, I t3.2.2], .agg [I a14, I a15, I a16]] (I t4), Computes cx 68 [.agg [.v (.string a0), I a1, I a2, I a3, I a4, I a5, I a6, I a7, I a8, I a9]] (.agg [I t3.1, I t3.2.1, I t3.2.2]), Computes cx 85 [.agg [I a11, I a12, I a13], .agg [I t1.1, I t1.2.1, I t1.2.2]] (.agg [I t2.1, I t2.2.1, I t2.2.2]), Computes cx 86 [I (IntKind.wrap .i64 (0 - a10)), .agg [I a1, I a2, I a3]] (.agg [I t1.1, I t1.2.1, I t1.2.2])]) := by kernel_rfl
theorem e_field_Mirror_meets_1 (a0 : ByteArray) (a1 : Int) (a2 : Int) (a3 : Int) (a4 : Int) (a5 : Int) (a6 : Int) (a7 : Int) (a8 : Int) (a9 : Int) (a10 : Int) (a11 : Int) (a12 : Int) (a13 : Int) (a14 : Int) (a15 : Int) (a16 : Int) (a17 : Bool) (t1 : Int × Int × Int) (t2 : Int × Int × Int) (t3 : Int × Int × Int) (t4 : Int) (t5 : Int) : runFn true 100 cx 89 [.agg [.v (.string a0), I a1, I a2, I a3, I a4, I a5, I a6, I a7, I a8, I a9], I a10, .agg [I a11, I a12, I a13, I a14, I a15, I a16, B a17]] [.ret (.agg [I t1.1, I t1.2.1, I t1.2.2]), .ret (.agg [I t2.1, I t2.2.1, I t2.2.2]), .ret (.agg [I t3.1, I t3.2.1, I t3.2.2]), .ret (I t4), .ret (.agg [I t3.1, I t3.2.1, I t3.2.2]), .ret (I t5), .br true, .br false, .br true, .no] = some (B false, [(decide ((IntKind.wrap .i64 (0 - (IntKind.wrap .i64 (0 - t5)))) ≤ 0)) = true, ((IntKind.wrap .i64 (0 - t4)) == 0) = false, (decide (t4 < 0)) = true, Computes cx 71 [.agg [I t3.1, I t3.2.1, I t3.2.2], .agg [I t2.1, I t2.2.1, I t2.2.2]] (I t5), Computes cx 68 [.agg [.v (.string a0), I a1, I a2, I a3, I a4, I a5, I a6, I a7, I a8, I a9]] (.agg [I t3.1, I t3.2.1, I t3.2.2]), Computes cx 71 [.agg [I t3.1, I t3.2.1, I t3.2.2], .agg [I a14, I a15, I a16]] (I t4), Computes cx 68 [.agg [.v (.string a0), I a1, I a2, I a3, I a4, I a5, I a6, I a7, I a8, I a9]] (.agg [I t3.1, I t3.2.1, I t3.2.2]), Computes cx 85 [.agg [I a11, I a12, I a13], .agg [I t1.1, I t1.2.1, I t1.2.2]] (.agg [I t2.1, I t2.2.1, I t2.2.2]), Computes cx 86 [I (IntKind.wrap .i64 (0 - a10)), .agg [I a1, I a2, I a3]] (.agg [I t1.1, I t1.2.1, I t1.2.2])]) := by kernel_rfl
theorem e_field_Mirror_meets_2 (a0 : ByteArray) (a1 : Int) (a2 : Int) (a3 : Int) (a4 : Int) (a5 : Int) (a6 : Int) (a7 : Int) (a8 : Int) (a9 : Int) (a10 : Int) (a11 : Int) (a12 : Int) (a13 : Int) (a14 : Int) (a15 : Int) (a16 : Int) (a17 : Bool) (t1 : Int × Int × Int) (t2 : Int × Int × Int) (t3 : Int × Int × Int) (t4 : Int) (t5 : Int) : runFn true 100 cx 89 [.agg [.v (.string a0), I a1, I a2, I a3, I a4, I a5, I a6, I a7, I a8, I a9], I a10, .agg [I a11, I a12, I a13, I a14, I a15, I a16, B a17]] [.ret (.agg [I t1.1, I t1.2.1, I t1.2.2]), .ret (.agg [I t2.1, I t2.2.1, I t2.2.2]), .ret (.agg [I t3.1, I t3.2.1, I t3.2.2]), .ret (I t4), .ret (.agg [I t3.1, I t3.2.1, I t3.2.2]), .ret (I t5), .br true, .br false, .br false, .br true, .br true] = some (B false, [(decide ((IntKind.wrap .i64 (0 - (IntKind.wrap .i64 (0 - t5)))) ≥ (IntKind.wrap .i64 (0 - t4)))) = true, a17 = true, (decide ((IntKind.wrap .i64 (0 - (IntKind.wrap .i64 (0 - t5)))) ≤ 0)) = false, ((IntKind.wrap .i64 (0 - t4)) == 0) = false, (decide (t4 < 0)) = true, Computes cx 71 [.agg [I t3.1, I t3.2.1, I t3.2.2], .agg [I t2.1, I t2.2.1, I t2.2.2]] (I t5), Computes cx 68 [.agg [.v (.string a0), I a1, I a2, I a3, I a4, I a5, I a6, I a7, I a8, I a9]] (.agg [I t3.1, I t3.2.1, I t3.2.2]), Computes cx 71 [.agg [I t3.1, I t3.2.1, I t3.2.2], .agg [I a14, I a15, I a16]] (I t4), Computes cx 68 [.agg [.v (.string a0), I a1, I a2, I a3, I a4, I a5, I a6, I a7, I a8, I a9]] (.agg [I t3.1, I t3.2.1, I t3.2.2]), Computes cx 85 [.agg [I a11, I a12, I a13], .agg [I t1.1, I t1.2.1, I t1.2.2]] (.agg [I t2.1, I t2.2.1, I t2.2.2]), Computes cx 86 [I (IntKind.wrap .i64 (0 - a10)), .agg [I a1, I a2, I a3]] (.agg [I t1.1, I t1.2.1, I t1.2.2])]) := by kernel_rfl
theorem e_field_Mirror_meets_3 (a0 : ByteArray) (a1 : Int) (a2 : Int) (a3 : Int) (a4 : Int) (a5 : Int) (a6 : Int) (a7 : Int) (a8 : Int) (a9 : Int) (a10 : Int) (a11 : Int) (a12 : Int) (a13 : Int) (a14 : Int) (a15 : Int) (a16 : Int) (a17 : Bool) (t1 : Int × Int × Int) (t2 : Int × Int × Int) (t3 : Int × Int × Int) (t4 : Int) (t5 : Int) (t11 : Int × Int × Int) (t12 : Int) (t13 : Int) : runFn true 100 cx 89 [.agg [.v (.string a0), I a1, I a2, I a3, I a4, I a5, I a6, I a7, I a8, I a9], I a10, .agg [I a11, I a12, I a13, I a14, I a15, I a16, B a17]] [.ret (.agg [I t1.1, I t1.2.1, I t1.2.2]), .ret (.agg [I t2.1, I t2.2.1, I t2.2.2]), .ret (.agg [I t3.1, I t3.2.1, I t3.2.2]), .ret (I t4), .ret (.agg [I t3.1, I t3.2.1, I t3.2.2]), .ret (I t5), .br true, .br false, .br false, .br true, .br false, .ret (.agg [I t11.1, I t11.2.1, I t11.2.2]), .ret (I t12), .ret (I t13), .br true] = some (B (decide ((maxI t13 (IntKind.wrap .i64 (0 - t13))) ≤ (a10 * (IntKind.wrap .i64 (0 - t4))))), [inI64 (a10 * (IntKind.wrap .i64 (0 - t4))), (decide ((maxI t12 (IntKind.wrap .i64 (0 - t12))) ≤ (a10 * (IntKind.wrap .i64 (0 - t4))))) = true, inI64 (a10 * (IntKind.wrap .i64 (0 - t4))), Computes cx 71 [.agg [I t11.1, I t11.2.1, I t11.2.2], .agg [I a4, I a5, I a6]] (I t13), Computes cx 71 [.agg [I t11.1, I t11.2.1, I t11.2.2], .agg [I a7, I a8, I a9]] (I t12), Computes cx 114 [.agg [I a14, I a15, I a16], .agg [I t2.1, I t2.2.1, I t2.2.2]] (.agg [I t11.1, I t11.2.1, I t11.2.2]), (decide ((IntKind.wrap .i64 (0 - (IntKind.wrap .i64 (0 - t5)))) ≥ (IntKind.wrap .i64 (0 - t4)))) = false, a17 = true, (decide ((IntKind.wrap .i64 (0 - (IntKind.wrap .i64 (0 - t5)))) ≤ 0)) = false, ((IntKind.wrap .i64 (0 - t4)) == 0) = false, (decide (t4 < 0)) = true, Computes cx 71 [.agg [I t3.1, I t3.2.1, I t3.2.2], .agg [I t2.1, I t2.2.1, I t2.2.2]] (I t5), Computes cx 68 [.agg [.v (.string a0), I a1, I a2, I a3, I a4, I a5, I a6, I a7, I a8, I a9]] (.agg [I t3.1, I t3.2.1, I t3.2.2]), Computes cx 71 [.agg [I t3.1, I t3.2.1, I t3.2.2], .agg [I a14, I a15, I a16]] (I t4), Computes cx 68 [.agg [.v (.string a0), I a1, I a2, I a3, I a4, I a5, I a6, I a7, I a8, I a9]] (.agg [I t3.1, I t3.2.1, I t3.2.2]), Computes cx 85 [.agg [I a11, I a12, I a13], .agg [I t1.1, I t1.2.1, I t1.2.2]] (.agg [I t2.1, I t2.2.1, I t2.2.2]), Computes cx 86 [I (IntKind.wrap .i64 (0 - a10)), .agg [I a1, I a2, I a3]] (.agg [I t1.1, I t1.2.1, I t1.2.2])]) := by kernel_rfl
theorem e_field_Mirror_meets_4 (a0 : ByteArray) (a1 : Int) (a2 : Int) (a3 : Int) (a4 : Int) (a5 : Int) (a6 : Int) (a7 : Int) (a8 : Int) (a9 : Int) (a10 : Int) (a11 : Int) (a12 : Int) (a13 : Int) (a14 : Int) (a15 : Int) (a16 : Int) (a17 : Bool) (t1 : Int × Int × Int) (t2 : Int × Int × Int) (t3 : Int × Int × Int) (t4 : Int) (t5 : Int) (t11 : Int × Int × Int) (t12 : Int) (t13 : Int) : runFn true 100 cx 89 [.agg [.v (.string a0), I a1, I a2, I a3, I a4, I a5, I a6, I a7, I a8, I a9], I a10, .agg [I a11, I a12, I a13, I a14, I a15, I a16, B a17]] [.ret (.agg [I t1.1, I t1.2.1, I t1.2.2]), .ret (.agg [I t2.1, I t2.2.1, I t2.2.2]), .ret (.agg [I t3.1, I t3.2.1, I t3.2.2]), .ret (I t4), .ret (.agg [I t3.1, I t3.2.1, I t3.2.2]), .ret (I t5), .br true, .br false, .br false, .br true, .br false, .ret (.agg [I t11.1, I t11.2.1, I t11.2.2]), .ret (I t12), .ret (I t13), .br false] = some (B false, [(decide ((maxI t12 (IntKind.wrap .i64 (0 - t12))) ≤ (a10 * (IntKind.wrap .i64 (0 - t4))))) = false, inI64 (a10 * (IntKind.wrap .i64 (0 - t4))), Computes cx 71 [.agg [I t11.1, I t11.2.1, I t11.2.2], .agg [I a4, I a5, I a6]] (I t13), Computes cx 71 [.agg [I t11.1, I t11.2.1, I t11.2.2], .agg [I a7, I a8, I a9]] (I t12), Computes cx 114 [.agg [I a14, I a15, I a16], .agg [I t2.1, I t2.2.1, I t2.2.2]] (.agg [I t11.1, I t11.2.1, I t11.2.2]), (decide ((IntKind.wrap .i64 (0 - (IntKind.wrap .i64 (0 - t5)))) ≥ (IntKind.wrap .i64 (0 - t4)))) = false, a17 = true, (decide ((IntKind.wrap .i64 (0 - (IntKind.wrap .i64 (0 - t5)))) ≤ 0)) = false, ((IntKind.wrap .i64 (0 - t4)) == 0) = false, (decide (t4 < 0)) = true, Computes cx 71 [.agg [I t3.1, I t3.2.1, I t3.2.2], .agg [I t2.1, I t2.2.1, I t2.2.2]] (I t5), Computes cx 68 [.agg [.v (.string a0), I a1, I a2, I a3, I a4, I a5, I a6, I a7, I a8, I a9]] (.agg [I t3.1, I t3.2.1, I t3.2.2]), Computes cx 71 [.agg [I t3.1, I t3.2.1, I t3.2.2], .agg [I a14, I a15, I a16]] (I t4), Computes cx 68 [.agg [.v (.string a0), I a1, I a2, I a3, I a4, I a5, I a6, I a7, I a8, I a9]] (.agg [I t3.1, I t3.2.1, I t3.2.2]), Computes cx 85 [.agg [I a11, I a12, I a13], .agg [I t1.1, I t1.2.1, I t1.2.2]] (.agg [I t2.1, I t2.2.1, I t2.2.2]), Computes cx 86 [I (IntKind.wrap .i64 (0 - a10)), .agg [I a1, I a2, I a3]] (.agg [I t1.1, I t1.2.1, I t1.2.2])]) := by kernel_rfl
theorem e_field_Mirror_meets_5 (a0 : ByteArray) (a1 : Int) (a2 : Int) (a3 : Int) (a4 : Int) (a5 : Int) (a6 : Int) (a7 : Int) (a8 : Int) (a9 : Int) (a10 : Int) (a11 : Int) (a12 : Int) (a13 : Int) (a14 : Int) (a15 : Int) (a16 : Int) (a17 : Bool) (t1 : Int × Int × Int) (t2 : Int × Int × Int) (t3 : Int × Int × Int) (t4 : Int) (t5 : Int) (t10 : Int × Int × Int) (t11 : Int) (t12 : Int) : runFn true 100 cx 89 [.agg [.v (.string a0), I a1, I a2, I a3, I a4, I a5, I a6, I a7, I a8, I a9], I a10, .agg [I a11, I a12, I a13, I a14, I a15, I a16, B a17]] [.ret (.agg [I t1.1, I t1.2.1, I t1.2.2]), .ret (.agg [I t2.1, I t2.2.1, I t2.2.2]), .ret (.agg [I t3.1, I t3.2.1, I t3.2.2]), .ret (I t4), .ret (.agg [I t3.1, I t3.2.1, I t3.2.2]), .ret (I t5), .br true, .br false, .br false, .br false, .no, .ret (.agg [I t10.1, I t10.2.1, I t10.2.2]), .ret (I t11), .ret (I t12), .br true] = some (B (decide ((maxI t12 (IntKind.wrap .i64 (0 - t12))) ≤ (a10 * (IntKind.wrap .i64 (0 - t4))))), [inI64 (a10 * (IntKind.wrap .i64 (0 - t4))), (decide ((maxI t11 (IntKind.wrap .i64 (0 - t11))) ≤ (a10 * (IntKind.wrap .i64 (0 - t4))))) = true, inI64 (a10 * (IntKind.wrap .i64 (0 - t4))), Computes cx 71 [.agg [I t10.1, I t10.2.1, I t10.2.2], .agg [I a4, I a5, I a6]] (I t12), Computes cx 71 [.agg [I t10.1, I t10.2.1, I t10.2.2], .agg [I a7, I a8, I a9]] (I t11), Computes cx 114 [.agg [I a14, I a15, I a16], .agg [I t2.1, I t2.2.1, I t2.2.2]] (.agg [I t10.1, I t10.2.1, I t10.2.2]), a17 = false, (decide ((IntKind.wrap .i64 (0 - (IntKind.wrap .i64 (0 - t5)))) ≤ 0)) = false, ((IntKind.wrap .i64 (0 - t4)) == 0) = false, (decide (t4 < 0)) = true, Computes cx 71 [.agg [I t3.1, I t3.2.1, I t3.2.2], .agg [I t2.1, I t2.2.1, I t2.2.2]] (I t5), Computes cx 68 [.agg [.v (.string a0), I a1, I a2, I a3, I a4, I a5, I a6, I a7, I a8, I a9]] (.agg [I t3.1, I t3.2.1, I t3.2.2]), Computes cx 71 [.agg [I t3.1, I t3.2.1, I t3.2.2], .agg [I a14, I a15, I a16]] (I t4), Computes cx 68 [.agg [.v (.string a0), I a1, I a2, I a3, I a4, I a5, I a6, I a7, I a8, I a9]] (.agg [I t3.1, I t3.2.1, I t3.2.2]), Computes cx 85 [.agg [I a11, I a12, I a13], .agg [I t1.1, I t1.2.1, I t1.2.2]] (.agg [I t2.1, I t2.2.1, I t2.2.2]), Computes cx 86 [I (IntKind.wrap .i64 (0 - a10)), .agg [I a1, I a2, I a3]] (.agg [I t1.1, I t1.2.1, I t1.2.2])]) := by kernel_rfl
theorem e_field_Mirror_meets_6 (a0 : ByteArray) (a1 : Int) (a2 : Int) (a3 : Int) (a4 : Int) (a5 : Int) (a6 : Int) (a7 : Int) (a8 : Int) (a9 : Int) (a10 : Int) (a11 : Int) (a12 : Int) (a13 : Int) (a14 : Int) (a15 : Int) (a16 : Int) (a17 : Bool) (t1 : Int × Int × Int) (t2 : Int × Int × Int) (t3 : Int × Int × Int) (t4 : Int) (t5 : Int) (t10 : Int × Int × Int) (t11 : Int) (t12 : Int) : runFn true 100 cx 89 [.agg [.v (.string a0), I a1, I a2, I a3, I a4, I a5, I a6, I a7, I a8, I a9], I a10, .agg [I a11, I a12, I a13, I a14, I a15, I a16, B a17]] [.ret (.agg [I t1.1, I t1.2.1, I t1.2.2]), .ret (.agg [I t2.1, I t2.2.1, I t2.2.2]), .ret (.agg [I t3.1, I t3.2.1, I t3.2.2]), .ret (I t4), .ret (.agg [I t3.1, I t3.2.1, I t3.2.2]), .ret (I t5), .br true, .br false, .br false, .br false, .no, .ret (.agg [I t10.1, I t10.2.1, I t10.2.2]), .ret (I t11), .ret (I t12), .br false] = some (B false, [(decide ((maxI t11 (IntKind.wrap .i64 (0 - t11))) ≤ (a10 * (IntKind.wrap .i64 (0 - t4))))) = false, inI64 (a10 * (IntKind.wrap .i64 (0 - t4))), Computes cx 71 [.agg [I t10.1, I t10.2.1, I t10.2.2], .agg [I a4, I a5, I a6]] (I t12), Computes cx 71 [.agg [I t10.1, I t10.2.1, I t10.2.2], .agg [I a7, I a8, I a9]] (I t11), Computes cx 114 [.agg [I a14, I a15, I a16], .agg [I t2.1, I t2.2.1, I t2.2.2]] (.agg [I t10.1, I t10.2.1, I t10.2.2]), a17 = false, (decide ((IntKind.wrap .i64 (0 - (IntKind.wrap .i64 (0 - t5)))) ≤ 0)) = false, ((IntKind.wrap .i64 (0 - t4)) == 0) = false, (decide (t4 < 0)) = true, Computes cx 71 [.agg [I t3.1, I t3.2.1, I t3.2.2], .agg [I t2.1, I t2.2.1, I t2.2.2]] (I t5), Computes cx 68 [.agg [.v (.string a0), I a1, I a2, I a3, I a4, I a5, I a6, I a7, I a8, I a9]] (.agg [I t3.1, I t3.2.1, I t3.2.2]), Computes cx 71 [.agg [I t3.1, I t3.2.1, I t3.2.2], .agg [I a14, I a15, I a16]] (I t4), Computes cx 68 [.agg [.v (.string a0), I a1, I a2, I a3, I a4, I a5, I a6, I a7, I a8, I a9]] (.agg [I t3.1, I t3.2.1, I t3.2.2]), Computes cx 85 [.agg [I a11, I a12, I a13], .agg [I t1.1, I t1.2.1, I t1.2.2]] (.agg [I t2.1, I t2.2.1, I t2.2.2]), Computes cx 86 [I (IntKind.wrap .i64 (0 - a10)), .agg [I a1, I a2, I a3]] (.agg [I t1.1, I t1.2.1, I t1.2.2])]) := by kernel_rfl
theorem e_field_Mirror_meets_7 (a0 : ByteArray) (a1 : Int) (a2 : Int) (a3 : Int) (a4 : Int) (a5 : Int) (a6 : Int) (a7 : Int) (a8 : Int) (a9 : Int) (a10 : Int) (a11 : Int) (a12 : Int) (a13 : Int) (a14 : Int) (a15 : Int) (a16 : Int) (a17 : Bool) (t1 : Int × Int × Int) (t2 : Int × Int × Int) (t3 : Int × Int × Int) (t4 : Int) (t5 : Int) : runFn true 100 cx 89 [.agg [.v (.string a0), I a1, I a2, I a3, I a4, I a5, I a6, I a7, I a8, I a9], I a10, .agg [I a11, I a12, I a13, I a14, I a15, I a16, B a17]] [.ret (.agg [I t1.1, I t1.2.1, I t1.2.2]), .ret (.agg [I t2.1, I t2.2.1, I t2.2.2]), .ret (.agg [I t3.1, I t3.2.1, I t3.2.2]), .ret (I t4), .ret (.agg [I t3.1, I t3.2.1, I t3.2.2]), .ret (I t5), .br false, .br true, .no, .no] = some (B false, [(t4 == 0) = true, (decide (t4 < 0)) = false, Computes cx 71 [.agg [I t3.1, I t3.2.1, I t3.2.2], .agg [I t2.1, I t2.2.1, I t2.2.2]] (I t5), Computes cx 68 [.agg [.v (.string a0), I a1, I a2, I a3, I a4, I a5, I a6, I a7, I a8, I a9]] (.agg [I t3.1, I t3.2.1, I t3.2.2]), Computes cx 71 [.agg [I t3.1, I t3.2.1, I t3.2.2], .agg [I a14, I a15, I a16]] (I t4), Computes cx 68 [.agg [.v (.string a0), I a1, I a2, I a3, I a4, I a5, I a6, I a7, I a8, I a9]] (.agg [I t3.1, I t3.2.1, I t3.2.2]), Computes cx 85 [.agg [I a11, I a12, I a13], .agg [I t1.1, I t1.2.1, I t1.2.2]] (.agg [I t2.1, I t2.2.1, I t2.2.2]), Computes cx 86 [I (IntKind.wrap .i64 (0 - a10)), .agg [I a1, I a2, I a3]] (.agg [I t1.1, I t1.2.1, I t1.2.2])]) := by kernel_rfl
theorem e_field_Mirror_meets_8 (a0 : ByteArray) (a1 : Int) (a2 : Int) (a3 : Int) (a4 : Int) (a5 : Int) (a6 : Int) (a7 : Int) (a8 : Int) (a9 : Int) (a10 : Int) (a11 : Int) (a12 : Int) (a13 : Int) (a14 : Int) (a15 : Int) (a16 : Int) (a17 : Bool) (t1 : Int × Int × Int) (t2 : Int × Int × Int) (t3 : Int × Int × Int) (t4 : Int) (t5 : Int) : runFn true 100 cx 89 [.agg [.v (.string a0), I a1, I a2, I a3, I a4, I a5, I a6, I a7, I a8, I a9], I a10, .agg [I a11, I a12, I a13, I a14, I a15, I a16, B a17]] [.ret (.agg [I t1.1, I t1.2.1, I t1.2.2]), .ret (.agg [I t2.1, I t2.2.1, I t2.2.2]), .ret (.agg [I t3.1, I t3.2.1, I t3.2.2]), .ret (I t4), .ret (.agg [I t3.1, I t3.2.1, I t3.2.2]), .ret (I t5), .br false, .br false, .br true, .no] = some (B false, [(decide ((IntKind.wrap .i64 (0 - t5)) ≤ 0)) = true, (t4 == 0) = false, (decide (t4 < 0)) = false, Computes cx 71 [.agg [I t3.1, I t3.2.1, I t3.2.2], .agg [I t2.1, I t2.2.1, I t2.2.2]] (I t5), Computes cx 68 [.agg [.v (.string a0), I a1, I a2, I a3, I a4, I a5, I a6, I a7, I a8, I a9]] (.agg [I t3.1, I t3.2.1, I t3.2.2]), Computes cx 71 [.agg [I t3.1, I t3.2.1, I t3.2.2], .agg [I a14, I a15, I a16]] (I t4), Computes cx 68 [.agg [.v (.string a0), I a1, I a2, I a3, I a4, I a5, I a6, I a7, I a8, I a9]] (.agg [I t3.1, I t3.2.1, I t3.2.2]), Computes cx 85 [.agg [I a11, I a12, I a13], .agg [I t1.1, I t1.2.1, I t1.2.2]] (.agg [I t2.1, I t2.2.1, I t2.2.2]), Computes cx 86 [I (IntKind.wrap .i64 (0 - a10)), .agg [I a1, I a2, I a3]] (.agg [I t1.1, I t1.2.1, I t1.2.2])]) := by kernel_rfl
theorem e_field_Mirror_meets_9 (a0 : ByteArray) (a1 : Int) (a2 : Int) (a3 : Int) (a4 : Int) (a5 : Int) (a6 : Int) (a7 : Int) (a8 : Int) (a9 : Int) (a10 : Int) (a11 : Int) (a12 : Int) (a13 : Int) (a14 : Int) (a15 : Int) (a16 : Int) (a17 : Bool) (t1 : Int × Int × Int) (t2 : Int × Int × Int) (t3 : Int × Int × Int) (t4 : Int) (t5 : Int) : runFn true 100 cx 89 [.agg [.v (.string a0), I a1, I a2, I a3, I a4, I a5, I a6, I a7, I a8, I a9], I a10, .agg [I a11, I a12, I a13, I a14, I a15, I a16, B a17]] [.ret (.agg [I t1.1, I t1.2.1, I t1.2.2]), .ret (.agg [I t2.1, I t2.2.1, I t2.2.2]), .ret (.agg [I t3.1, I t3.2.1, I t3.2.2]), .ret (I t4), .ret (.agg [I t3.1, I t3.2.1, I t3.2.2]), .ret (I t5), .br false, .br false, .br false, .br true, .br true] = some (B false, [(decide ((IntKind.wrap .i64 (0 - t5)) ≥ t4)) = true, a17 = true, (decide ((IntKind.wrap .i64 (0 - t5)) ≤ 0)) = false, (t4 == 0) = false, (decide (t4 < 0)) = false, Computes cx 71 [.agg [I t3.1, I t3.2.1, I t3.2.2], .agg [I t2.1, I t2.2.1, I t2.2.2]] (I t5), Computes cx 68 [.agg [.v (.string a0), I a1, I a2, I a3, I a4, I a5, I a6, I a7, I a8, I a9]] (.agg [I t3.1, I t3.2.1, I t3.2.2]), Computes cx 71 [.agg [I t3.1, I t3.2.1, I t3.2.2], .agg [I a14, I a15, I a16]] (I t4), Computes cx 68 [.agg [.v (.string a0), I a1, I a2, I a3, I a4, I a5, I a6, I a7, I a8, I a9]] (.agg [I t3.1, I t3.2.1, I t3.2.2]), Computes cx 85 [.agg [I a11, I a12, I a13], .agg [I t1.1, I t1.2.1, I t1.2.2]] (.agg [I t2.1, I t2.2.1, I t2.2.2]), Computes cx 86 [I (IntKind.wrap .i64 (0 - a10)), .agg [I a1, I a2, I a3]] (.agg [I t1.1, I t1.2.1, I t1.2.2])]) := by kernel_rfl
theorem e_field_Mirror_meets_10 (a0 : ByteArray) (a1 : Int) (a2 : Int) (a3 : Int) (a4 : Int) (a5 : Int) (a6 : Int) (a7 : Int) (a8 : Int) (a9 : Int) (a10 : Int) (a11 : Int) (a12 : Int) (a13 : Int) (a14 : Int) (a15 : Int) (a16 : Int) (a17 : Bool) (t1 : Int × Int × Int) (t2 : Int × Int × Int) (t3 : Int × Int × Int) (t4 : Int) (t5 : Int) (t11 : Int × Int × Int) (t12 : Int) (t13 : Int) : runFn true 100 cx 89 [.agg [.v (.string a0), I a1, I a2, I a3, I a4, I a5, I a6, I a7, I a8, I a9], I a10, .agg [I a11, I a12, I a13, I a14, I a15, I a16, B a17]] [.ret (.agg [I t1.1, I t1.2.1, I t1.2.2]), .ret (.agg [I t2.1, I t2.2.1, I t2.2.2]), .ret (.agg [I t3.1, I t3.2.1, I t3.2.2]), .ret (I t4), .ret (.agg [I t3.1, I t3.2.1, I t3.2.2]), .ret (I t5), .br false, .br false, .br false, .br true, .br false, .ret (.agg [I t11.1, I t11.2.1, I t11.2.2]), .ret (I t12), .ret (I t13), .br true] = some (B (decide ((maxI t13 (IntKind.wrap .i64 (0 - t13))) ≤ (a10 * t4))), [inI64 (a10 * t4), (decide ((maxI t12 (IntKind.wrap .i64 (0 - t12))) ≤ (a10 * t4))) = true, inI64 (a10 * t4), Computes cx 71 [.agg [I t11.1, I t11.2.1, I t11.2.2], .agg [I a4, I a5, I a6]] (I t13), Computes cx 71 [.agg [I t11.1, I t11.2.1, I t11.2.2], .agg [I a7, I a8, I a9]] (I t12), Computes cx 114 [.agg [I a14, I a15, I a16], .agg [I t2.1, I t2.2.1, I t2.2.2]] (.agg [I t11.1, I t11.2.1, I t11.2.2]), (decide ((IntKind.wrap .i64 (0 - t5)) ≥ t4)) = false, a17 = true, (decide ((IntKind.wrap .i64 (0 - t5)) ≤ 0)) = false, (t4 == 0) = false, (decide (t4 < 0)) = false, Computes cx 71 [.agg [I t3.1, I t3.2.1, I t3.2.2], .agg [I t2.1, I t2.2.1, I t2.2.2]] (I t5), Computes cx 68 [.agg [.v (.string a0), I a1, I a2, I a3, I a4, I a5, I a6, I a7, I a8, I a9]] (.agg [I t3.1, I t3.2.1, I t3.2.2]), Computes cx 71 [.agg [I t3.1, I t3.2.1, I t3.2.2], .agg [I a14, I a15, I a16]] (I t4), Computes cx 68 [.agg [.v (.string a0), I a1, I a2, I a3, I a4, I a5, I a6, I a7, I a8, I a9]] (.agg [I t3.1, I t3.2.1, I t3.2.2]), Computes cx 85 [.agg [I a11, I a12, I a13], .agg [I t1.1, I t1.2.1, I t1.2.2]] (.agg [I t2.1, I t2.2.1, I t2.2.2]), Computes cx 86 [I (IntKind.wrap .i64 (0 - a10)), .agg [I a1, I a2, I a3]] (.agg [I t1.1, I t1.2.1, I t1.2.2])]) := by kernel_rfl
theorem e_field_Mirror_meets_11 (a0 : ByteArray) (a1 : Int) (a2 : Int) (a3 : Int) (a4 : Int) (a5 : Int) (a6 : Int) (a7 : Int) (a8 : Int) (a9 : Int) (a10 : Int) (a11 : Int) (a12 : Int) (a13 : Int) (a14 : Int) (a15 : Int) (a16 : Int) (a17 : Bool) (t1 : Int × Int × Int) (t2 : Int × Int × Int) (t3 : Int × Int × Int) (t4 : Int) (t5 : Int) (t11 : Int × Int × Int) (t12 : Int) (t13 : Int) : runFn true 100 cx 89 [.agg [.v (.string a0), I a1, I a2, I a3, I a4, I a5, I a6, I a7, I a8, I a9], I a10, .agg [I a11, I a12, I a13, I a14, I a15, I a16, B a17]] [.ret (.agg [I t1.1, I t1.2.1, I t1.2.2]), .ret (.agg [I t2.1, I t2.2.1, I t2.2.2]), .ret (.agg [I t3.1, I t3.2.1, I t3.2.2]), .ret (I t4), .ret (.agg [I t3.1, I t3.2.1, I t3.2.2]), .ret (I t5), .br false, .br false, .br false, .br true, .br false, .ret (.agg [I t11.1, I t11.2.1, I t11.2.2]), .ret (I t12), .ret (I t13), .br false] = some (B false, [(decide ((maxI t12 (IntKind.wrap .i64 (0 - t12))) ≤ (a10 * t4))) = false, inI64 (a10 * t4), Computes cx 71 [.agg [I t11.1, I t11.2.1, I t11.2.2], .agg [I a4, I a5, I a6]] (I t13), Computes cx 71 [.agg [I t11.1, I t11.2.1, I t11.2.2], .agg [I a7, I a8, I a9]] (I t12), Computes cx 114 [.agg [I a14, I a15, I a16], .agg [I t2.1, I t2.2.1, I t2.2.2]] (.agg [I t11.1, I t11.2.1, I t11.2.2]), (decide ((IntKind.wrap .i64 (0 - t5)) ≥ t4)) = false, a17 = true, (decide ((IntKind.wrap .i64 (0 - t5)) ≤ 0)) = false, (t4 == 0) = false, (decide (t4 < 0)) = false, Computes cx 71 [.agg [I t3.1, I t3.2.1, I t3.2.2], .agg [I t2.1, I t2.2.1, I t2.2.2]] (I t5), Computes cx 68 [.agg [.v (.string a0), I a1, I a2, I a3, I a4, I a5, I a6, I a7, I a8, I a9]] (.agg [I t3.1, I t3.2.1, I t3.2.2]), Computes cx 71 [.agg [I t3.1, I t3.2.1, I t3.2.2], .agg [I a14, I a15, I a16]] (I t4), Computes cx 68 [.agg [.v (.string a0), I a1, I a2, I a3, I a4, I a5, I a6, I a7, I a8, I a9]] (.agg [I t3.1, I t3.2.1, I t3.2.2]), Computes cx 85 [.agg [I a11, I a12, I a13], .agg [I t1.1, I t1.2.1, I t1.2.2]] (.agg [I t2.1, I t2.2.1, I t2.2.2]), Computes cx 86 [I (IntKind.wrap .i64 (0 - a10)), .agg [I a1, I a2, I a3]] (.agg [I t1.1, I t1.2.1, I t1.2.2])]) := by kernel_rfl
theorem e_field_Mirror_meets_12 (a0 : ByteArray) (a1 : Int) (a2 : Int) (a3 : Int) (a4 : Int) (a5 : Int) (a6 : Int) (a7 : Int) (a8 : Int) (a9 : Int) (a10 : Int) (a11 : Int) (a12 : Int) (a13 : Int) (a14 : Int) (a15 : Int) (a16 : Int) (a17 : Bool) (t1 : Int × Int × Int) (t2 : Int × Int × Int) (t3 : Int × Int × Int) (t4 : Int) (t5 : Int) (t10 : Int × Int × Int) (t11 : Int) (t12 : Int) : runFn true 100 cx 89 [.agg [.v (.string a0), I a1, I a2, I a3, I a4, I a5, I a6, I a7, I a8, I a9], I a10, .agg [I a11, I a12, I a13, I a14, I a15, I a16, B a17]] [.ret (.agg [I t1.1, I t1.2.1, I t1.2.2]), .ret (.agg [I t2.1, I t2.2.1, I t2.2.2]), .ret (.agg [I t3.1, I t3.2.1, I t3.2.2]), .ret (I t4), .ret (.agg [I t3.1, I t3.2.1, I t3.2.2]), .ret (I t5), .br false, .br false, .br false, .br false, .no, .ret (.agg [I t10.1, I t10.2.1, I t10.2.2]), .ret (I t11), .ret (I t12), .br true] = some (B (decide ((maxI t12 (IntKind.wrap .i64 (0 - t12))) ≤ (a10 * t4))), [inI64 (a10 * t4), (decide ((maxI t11 (IntKind.wrap .i64 (0 - t11))) ≤ (a10 * t4))) = true, inI64 (a10 * t4), Computes cx 71 [.agg [I t10.1, I t10.2.1, I t10.2.2], .agg [I a4, I a5, I a6]] (I t12), Computes cx 71 [.agg [I t10.1, I t10.2.1, I t10.2.2], .agg [I a7, I a8, I a9]] (I t11), Computes cx 114 [.agg [I a14, I a15, I a16], .agg [I t2.1, I t2.2.1, I t2.2.2]] (.agg [I t10.1, I t10.2.1, I t10.2.2]), a17 = false, (decide ((IntKind.wrap .i64 (0 - t5)) ≤ 0)) = false, (t4 == 0) = false, (decide (t4 < 0)) = false, Computes cx 71 [.agg [I t3.1, I t3.2.1, I t3.2.2], .agg [I t2.1, I t2.2.1, I t2.2.2]] (I t5), Computes cx 68 [.agg [.v (.string a0), I a1, I a2, I a3, I a4, I a5, I a6, I a7, I a8, I a9]] (.agg [I t3.1, I t3.2.1, I t3.2.2]), Computes cx 71 [.agg [I t3.1, I t3.2.1, I t3.2.2], .agg [I a14, I a15, I a16]] (I t4), Computes cx 68 [.agg [.v (.string a0), I a1, I a2, I a3, I a4, I a5, I a6, I a7, I a8, I a9]] (.agg [I t3.1, I t3.2.1, I t3.2.2]), Computes cx 85 [.agg [I a11, I a12, I a13], .agg [I t1.1, I t1.2.1, I t1.2.2]] (.agg [I t2.1, I t2.2.1, I t2.2.2]), Computes cx 86 [I (IntKind.wrap .i64 (0 - a10)), .agg [I a1, I a2, I a3]] (.agg [I t1.1, I t1.2.1, I t1.2.2])]) := by kernel_rfl
theorem e_field_Mirror_meets_13 (a0 : ByteArray) (a1 : Int) (a2 : Int) (a3 : Int) (a4 : Int) (a5 : Int) (a6 : Int) (a7 : Int) (a8 : Int) (a9 : Int) (a10 : Int) (a11 : Int) (a12 : Int) (a13 : Int) (a14 : Int) (a15 : Int) (a16 : Int) (a17 : Bool) (t1 : Int × Int × Int) (t2 : Int × Int × Int) (t3 : Int × Int × Int) (t4 : Int) (t5 : Int) (t10 : Int × Int × Int) (t11 : Int) (t12 : Int) : runFn true 100 cx 89 [.agg [.v (.string a0), I a1, I a2, I a3, I a4, I a5, I a6, I a7, I a8, I a9], I a10, .agg [I a11, I a12, I a13, I a14, I a15, I a16, B a17]] [.ret (.agg [I t1.1, I t1.2.1, I t1.2.2]), .ret (.agg [I t2.1, I t2.2.1, I t2.2.2]), .ret (.agg [I t3.1, I t3.2.1, I t3.2.2]), .ret (I t4), .ret (.agg [I t3.1, I t3.2.1, I t3.2.2]), .ret (I t5), .br false, .br false, .br false, .br false, .no, .ret (.agg [I t10.1, I t10.2.1, I t10.2.2]), .ret (I t11), .ret (I t12), .br false] = some (B false, [(decide ((maxI t11 (IntKind.wrap .i64 (0 - t11))) ≤ (a10 * t4))) = false, inI64 (a10 * t4), Computes cx 71 [.agg [I t10.1, I t10.2.1, I t10.2.2], .agg [I a4, I a5, I a6]] (I t12), Computes cx 71 [.agg [I t10.1, I t10.2.1, I t10.2.2], .agg [I a7, I a8, I a9]] (I t11), Computes cx 114 [.agg [I a14, I a15, I a16], .agg [I t2.1, I t2.2.1, I t2.2.2]] (.agg [I t10.1, I t10.2.1, I t10.2.2]), a17 = false, (decide ((IntKind.wrap .i64 (0 - t5)) ≤ 0)) = false, (t4 == 0) = false, (decide (t4 < 0)) = false, Computes cx 71 [.agg [I t3.1, I t3.2.1, I t3.2.2], .agg [I t2.1, I t2.2.1, I t2.2.2]] (I t5), Computes cx 68 [.agg [.v (.string a0), I a1, I a2, I a3, I a4, I a5, I a6, I a7, I a8, I a9]] (.agg [I t3.1, I t3.2.1, I t3.2.2]), Computes cx 71 [.agg [I t3.1, I t3.2.1, I t3.2.2], .agg [I a14, I a15, I a16]] (I t4), Computes cx 68 [.agg [.v (.string a0), I a1, I a2, I a3, I a4, I a5, I a6, I a7, I a8, I a9]] (.agg [I t3.1, I t3.2.1, I t3.2.2]), Computes cx 85 [.agg [I a11, I a12, I a13], .agg [I t1.1, I t1.2.1, I t1.2.2]] (.agg [I t2.1, I t2.2.1, I t2.2.2]), Computes cx 86 [I (IntKind.wrap .i64 (0 - a10)), .agg [I a1, I a2, I a3]] (.agg [I t1.1, I t1.2.1, I t1.2.2])]) := by kernel_rfl
/- (spillage/field.Mirror).meets: .agg [.v (.string a0), I a1, I a2, I a3, I a4, I a5, I a6, I a7, I a8, I a9], I a10, .agg [I a11, I a12, I a13, I a14, I a15, I a16, B a17] -/
def F_field_Mirror_meets (n : Nat) (a0 : ByteArray) (a1 : Int) (a2 : Int) (a3 : Int) (a4 : Int) (a5 : Int) (a6 : Int) (a7 : Int) (a8 : Int) (a9 : Int) (a10 : Int) (a11 : Int) (a12 : Int) (a13 : Int) (a14 : Int) (a15 : Int) (a16 : Int) (a17 : Bool) : Option (Bool) :=
  (F_field_times n (IntKind.wrap .i64 (0 - a10)) a1 a2 a3).bind fun t1 =>
  (F_field_plus n a11 a12 a13 t1.1 t1.2.1 t1.2.2).bind fun t2 =>
  (F_field_Mirror_normal n a0 a1 a2 a3 a4 a5 a6 a7 a8 a9).bind fun t3 =>
  (F_field_dot n t3.1 t3.2.1 t3.2.2 a14 a15 a16).bind fun t4 =>
  (F_field_dot n t3.1 t3.2.1 t3.2.2 t2.1 t2.2.1 t2.2.2).bind fun t5 =>
  if t4 < 0 then
    if (IntKind.wrap .i64 (0 - t4)) = 0 then
      some false
    else
    if (IntKind.wrap .i64 (0 - (IntKind.wrap .i64 (0 - t5)))) ≤ 0 then
      some false
    else
    if a17 = true then
      if (IntKind.wrap .i64 (0 - (IntKind.wrap .i64 (0 - t5)))) ≥ (IntKind.wrap .i64 (0 - t4)) then
        some false
      else
      (F_field_cross n a14 a15 a16 t2.1 t2.2.1 t2.2.2).bind fun t11 =>
      (F_field_dot n t11.1 t11.2.1 t11.2.2 a7 a8 a9).bind fun t12 =>
      (F_field_dot n t11.1 t11.2.1 t11.2.2 a4 a5 a6).bind fun t13 =>
      if inI64 (a10 * (IntKind.wrap .i64 (0 - t4))) then
      if (maxI t12 (IntKind.wrap .i64 (0 - t12))) ≤ (a10 * (IntKind.wrap .i64 (0 - t4))) then
        some (decide ((maxI t13 (IntKind.wrap .i64 (0 - t13))) ≤ (a10 * (IntKind.wrap .i64 (0 - t4)))))
      else
      some false
      else none
    else
    (F_field_cross n a14 a15 a16 t2.1 t2.2.1 t2.2.2).bind fun t10 =>
    (F_field_dot n t10.1 t10.2.1 t10.2.2 a7 a8 a9).bind fun t11 =>
    (F_field_dot n t10.1 t10.2.1 t10.2.2 a4 a5 a6).bind fun t12 =>
    if inI64 (a10 * (IntKind.wrap .i64 (0 - t4))) then
    if (maxI t11 (IntKind.wrap .i64 (0 - t11))) ≤ (a10 * (IntKind.wrap .i64 (0 - t4))) then
      some (decide ((maxI t12 (IntKind.wrap .i64 (0 - t12))) ≤ (a10 * (IntKind.wrap .i64 (0 - t4)))))
    else
    some false
    else none
  else
  if t4 = 0 then
    some false
  else
  if (IntKind.wrap .i64 (0 - t5)) ≤ 0 then
    some false
  else
  if a17 = true then
    if (IntKind.wrap .i64 (0 - t5)) ≥ t4 then
      some false
    else
    (F_field_cross n a14 a15 a16 t2.1 t2.2.1 t2.2.2).bind fun t11 =>
    (F_field_dot n t11.1 t11.2.1 t11.2.2 a7 a8 a9).bind fun t12 =>
    (F_field_dot n t11.1 t11.2.1 t11.2.2 a4 a5 a6).bind fun t13 =>
    if inI64 (a10 * t4) then
    if (maxI t12 (IntKind.wrap .i64 (0 - t12))) ≤ (a10 * t4) then
      some (decide ((maxI t13 (IntKind.wrap .i64 (0 - t13))) ≤ (a10 * t4)))
    else
    some false
    else none
  else
  (F_field_cross n a14 a15 a16 t2.1 t2.2.1 t2.2.2).bind fun t10 =>
  (F_field_dot n t10.1 t10.2.1 t10.2.2 a7 a8 a9).bind fun t11 =>
  (F_field_dot n t10.1 t10.2.1 t10.2.2 a4 a5 a6).bind fun t12 =>
  if inI64 (a10 * t4) then
  if (maxI t11 (IntKind.wrap .i64 (0 - t11))) ≤ (a10 * t4) then
    some (decide ((maxI t12 (IntKind.wrap .i64 (0 - t12))) ≤ (a10 * t4)))
  else
  some false
  else none
theorem c_field_Mirror_meets {n : Nat} {a0 : ByteArray} {a1 : Int} {a2 : Int} {a3 : Int} {a4 : Int} {a5 : Int} {a6 : Int} {a7 : Int} {a8 : Int} {a9 : Int} {a10 : Int} {a11 : Int} {a12 : Int} {a13 : Int} {a14 : Int} {a15 : Int} {a16 : Int} {a17 : Bool} {r : Bool} (h : F_field_Mirror_meets n a0 a1 a2 a3 a4 a5 a6 a7 a8 a9 a10 a11 a12 a13 a14 a15 a16 a17 = some r) : Computes cx 89 [.agg [.v (.string a0), I a1, I a2, I a3, I a4, I a5, I a6, I a7, I a8, I a9], I a10, .agg [I a11, I a12, I a13, I a14, I a15, I a16, B a17]] (B r) := by
  unfold F_field_Mirror_meets at h
  obtain ⟨t1, h1, h⟩ := bnd_of h
  obtain ⟨t2, h2, h⟩ := bnd_of h
  obtain ⟨t3, h3, h⟩ := bnd_of h
  obtain ⟨t4, h4, h⟩ := bnd_of h
  obtain ⟨t5, h5, h⟩ := bnd_of h
  by_cases h6 : t4 < 0
  · replace h := ite_t h h6
    by_cases h7 : (IntKind.wrap .i64 (0 - t4)) = 0
    · replace h := ite_t h h7
      replace h := Option.some.inj h
      subst h
      exact run (e_field_Mirror_meets_0 a0 a1 a2 a3 a4 a5 a6 a7 a8 a9 a10 a11 a12 a13 a14 a15 a16 a17 t1 t2 t3 t4 t5) ⟨(eqt h7), (decide_eq_true h6), (c_field_dot h5), (c_field_Mirror_normal h3), (c_field_dot h4), (c_field_Mirror_normal h3), (c_field_plus h2), (c_field_times h1), trivial⟩
    · replace h := ite_f h h7
      by_cases h8 : (IntKind.wrap .i64 (0 - (IntKind.wrap .i64 (0 - t5)))) ≤ 0
      · replace h := ite_t h h8
        replace h := Option.some.inj h
        subst h
        exact run (e_field_Mirror_meets_1 a0 a1 a2 a3 a4 a5 a6 a7 a8 a9 a10 a11 a12 a13 a14 a15 a16 a17 t1 t2 t3 t4 t5) ⟨(decide_eq_true h8), (eqf h7), (decide_eq_true h6), (c_field_dot h5), (c_field_Mirror_normal h3), (c_field_dot h4), (c_field_Mirror_normal h3), (c_field_plus h2), (c_field_times h1), trivial⟩
      · replace h := ite_f h h8
        by_cases h9 : a17 = true
        · replace h := ite_t h h9
          by_cases h10 : (IntKind.wrap .i64 (0 - (IntKind.wrap .i64 (0 - t5)))) ≥ (IntKind.wrap .i64 (0 - t4))
          · replace h := ite_t h h10
            replace h := Option.some.inj h
            subst h
            exact run (e_field_Mirror_meets_2 a0 a1 a2 a3 a4 a5 a6 a7 a8 a9 a10 a11 a12 a13 a14 a15 a16 a17 t1 t2 t3 t4 t5) ⟨(decide_eq_true h10), h9, (decide_eq_false h8), (eqf h7), (decide_eq_true h6), (c_field_dot h5), (c_field_Mirror_normal h3), (c_field_dot h4), (c_field_Mirror_normal h3), (c_field_plus h2), (c_field_times h1), trivial⟩
          · replace h := ite_f h h10
            obtain ⟨t11, h11, h⟩ := bnd_of h
            obtain ⟨t12, h12, h⟩ := bnd_of h
            obtain ⟨t13, h13, h⟩ := bnd_of h
            obtain ⟨h14, h⟩ := grd_of h
            by_cases h15 : (maxI t12 (IntKind.wrap .i64 (0 - t12))) ≤ (a10 * (IntKind.wrap .i64 (0 - t4)))
            · replace h := ite_t h h15
              replace h := Option.some.inj h
              subst h
              exact run (e_field_Mirror_meets_3 a0 a1 a2 a3 a4 a5 a6 a7 a8 a9 a10 a11 a12 a13 a14 a15 a16 a17 t1 t2 t3 t4 t5 t11 t12 t13) ⟨h14, (decide_eq_true h15), h14, (c_field_dot h13), (c_field_dot h12), (c_field_cross h11), (decide_eq_false h10), h9, (decide_eq_false h8), (eqf h7), (decide_eq_true h6), (c_field_dot h5), (c_field_Mirror_normal h3), (c_field_dot h4), (c_field_Mirror_normal h3), (c_field_plus h2), (c_field_times h1), trivial⟩
            · replace h := ite_f h h15
              replace h := Option.some.inj h
              subst h
              exact run (e_field_Mirror_meets_4 a0 a1 a2 a3 a4 a5 a6 a7 a8 a9 a10 a11 a12 a13 a14 a15 a16 a17 t1 t2 t3 t4 t5 t11 t12 t13) ⟨(decide_eq_false h15), h14, (c_field_dot h13), (c_field_dot h12), (c_field_cross h11), (decide_eq_false h10), h9, (decide_eq_false h8), (eqf h7), (decide_eq_true h6), (c_field_dot h5), (c_field_Mirror_normal h3), (c_field_dot h4), (c_field_Mirror_normal h3), (c_field_plus h2), (c_field_times h1), trivial⟩
        · replace h := ite_f h h9
          obtain ⟨t10, h10, h⟩ := bnd_of h
          obtain ⟨t11, h11, h⟩ := bnd_of h
          obtain ⟨t12, h12, h⟩ := bnd_of h
          obtain ⟨h13, h⟩ := grd_of h
          by_cases h14 : (maxI t11 (IntKind.wrap .i64 (0 - t11))) ≤ (a10 * (IntKind.wrap .i64 (0 - t4)))
          · replace h := ite_t h h14
            replace h := Option.some.inj h
            subst h
            exact run (e_field_Mirror_meets_5 a0 a1 a2 a3 a4 a5 a6 a7 a8 a9 a10 a11 a12 a13 a14 a15 a16 a17 t1 t2 t3 t4 t5 t10 t11 t12) ⟨h13, (decide_eq_true h14), h13, (c_field_dot h12), (c_field_dot h11), (c_field_cross h10), (bfalse h9), (decide_eq_false h8), (eqf h7), (decide_eq_true h6), (c_field_dot h5), (c_field_Mirror_normal h3), (c_field_dot h4), (c_field_Mirror_normal h3), (c_field_plus h2), (c_field_times h1), trivial⟩
          · replace h := ite_f h h14
            replace h := Option.some.inj h
            subst h
            exact run (e_field_Mirror_meets_6 a0 a1 a2 a3 a4 a5 a6 a7 a8 a9 a10 a11 a12 a13 a14 a15 a16 a17 t1 t2 t3 t4 t5 t10 t11 t12) ⟨(decide_eq_false h14), h13, (c_field_dot h12), (c_field_dot h11), (c_field_cross h10), (bfalse h9), (decide_eq_false h8), (eqf h7), (decide_eq_true h6), (c_field_dot h5), (c_field_Mirror_normal h3), (c_field_dot h4), (c_field_Mirror_normal h3), (c_field_plus h2), (c_field_times h1), trivial⟩
  · replace h := ite_f h h6
    by_cases h7 : t4 = 0
    · replace h := ite_t h h7
      replace h := Option.some.inj h
      subst h
      exact run (e_field_Mirror_meets_7 a0 a1 a2 a3 a4 a5 a6 a7 a8 a9 a10 a11 a12 a13 a14 a15 a16 a17 t1 t2 t3 t4 t5) ⟨(eqt h7), (decide_eq_false h6), (c_field_dot h5), (c_field_Mirror_normal h3), (c_field_dot h4), (c_field_Mirror_normal h3), (c_field_plus h2), (c_field_times h1), trivial⟩
    · replace h := ite_f h h7
      by_cases h8 : (IntKind.wrap .i64 (0 - t5)) ≤ 0
      · replace h := ite_t h h8
        replace h := Option.some.inj h
        subst h
        exact run (e_field_Mirror_meets_8 a0 a1 a2 a3 a4 a5 a6 a7 a8 a9 a10 a11 a12 a13 a14 a15 a16 a17 t1 t2 t3 t4 t5) ⟨(decide_eq_true h8), (eqf h7), (decide_eq_false h6), (c_field_dot h5), (c_field_Mirror_normal h3), (c_field_dot h4), (c_field_Mirror_normal h3), (c_field_plus h2), (c_field_times h1), trivial⟩
      · replace h := ite_f h h8
        by_cases h9 : a17 = true
        · replace h := ite_t h h9
          by_cases h10 : (IntKind.wrap .i64 (0 - t5)) ≥ t4
          · replace h := ite_t h h10
            replace h := Option.some.inj h
            subst h
            exact run (e_field_Mirror_meets_9 a0 a1 a2 a3 a4 a5 a6 a7 a8 a9 a10 a11 a12 a13 a14 a15 a16 a17 t1 t2 t3 t4 t5) ⟨(decide_eq_true h10), h9, (decide_eq_false h8), (eqf h7), (decide_eq_false h6), (c_field_dot h5), (c_field_Mirror_normal h3), (c_field_dot h4), (c_field_Mirror_normal h3), (c_field_plus h2), (c_field_times h1), trivial⟩
          · replace h := ite_f h h10
            obtain ⟨t11, h11, h⟩ := bnd_of h
            obtain ⟨t12, h12, h⟩ := bnd_of h
            obtain ⟨t13, h13, h⟩ := bnd_of h
            obtain ⟨h14, h⟩ := grd_of h
            by_cases h15 : (maxI t12 (IntKind.wrap .i64 (0 - t12))) ≤ (a10 * t4)
            · replace h := ite_t h h15
              replace h := Option.some.inj h
              subst h
              exact run (e_field_Mirror_meets_10 a0 a1 a2 a3 a4 a5 a6 a7 a8 a9 a10 a11 a12 a13 a14 a15 a16 a17 t1 t2 t3 t4 t5 t11 t12 t13) ⟨h14, (decide_eq_true h15), h14, (c_field_dot h13), (c_field_dot h12), (c_field_cross h11), (decide_eq_false h10), h9, (decide_eq_false h8), (eqf h7), (decide_eq_false h6), (c_field_dot h5), (c_field_Mirror_normal h3), (c_field_dot h4), (c_field_Mirror_normal h3), (c_field_plus h2), (c_field_times h1), trivial⟩
            · replace h := ite_f h h15
              replace h := Option.some.inj h
              subst h
              exact run (e_field_Mirror_meets_11 a0 a1 a2 a3 a4 a5 a6 a7 a8 a9 a10 a11 a12 a13 a14 a15 a16 a17 t1 t2 t3 t4 t5 t11 t12 t13) ⟨(decide_eq_false h15), h14, (c_field_dot h13), (c_field_dot h12), (c_field_cross h11), (decide_eq_false h10), h9, (decide_eq_false h8), (eqf h7), (decide_eq_false h6), (c_field_dot h5), (c_field_Mirror_normal h3), (c_field_dot h4), (c_field_Mirror_normal h3), (c_field_plus h2), (c_field_times h1), trivial⟩
        · replace h := ite_f h h9
          obtain ⟨t10, h10, h⟩ := bnd_of h
          obtain ⟨t11, h11, h⟩ := bnd_of h
          obtain ⟨t12, h12, h⟩ := bnd_of h
          obtain ⟨h13, h⟩ := grd_of h
          by_cases h14 : (maxI t11 (IntKind.wrap .i64 (0 - t11))) ≤ (a10 * t4)
          · replace h := ite_t h h14
            replace h := Option.some.inj h
            subst h
            exact run (e_field_Mirror_meets_12 a0 a1 a2 a3 a4 a5 a6 a7 a8 a9 a10 a11 a12 a13 a14 a15 a16 a17 t1 t2 t3 t4 t5 t10 t11 t12) ⟨h13, (decide_eq_true h14), h13, (c_field_dot h12), (c_field_dot h11), (c_field_cross h10), (bfalse h9), (decide_eq_false h8), (eqf h7), (decide_eq_false h6), (c_field_dot h5), (c_field_Mirror_normal h3), (c_field_dot h4), (c_field_Mirror_normal h3), (c_field_plus h2), (c_field_times h1), trivial⟩
          · replace h := ite_f h h14
            replace h := Option.some.inj h
            subst h
            exact run (e_field_Mirror_meets_13 a0 a1 a2 a3 a4 a5 a6 a7 a8 a9 a10 a11 a12 a13 a14 a15 a16 a17 t1 t2 t3 t4 t5 t10 t11 t12) ⟨(decide_eq_false h14), h13, (c_field_dot h12), (c_field_dot h11), (c_field_cross h10), (bfalse h9), (decide_eq_false h8), (eqf h7), (decide_eq_false h6), (c_field_dot h5), (c_field_Mirror_normal h3), (c_field_dot h4), (c_field_Mirror_normal h3), (c_field_plus h2), (c_field_times h1), trivial⟩
def F_light_IsName_L1 (n : Nat) (a0 : ByteArray) (sa : (Nat)) : Option (((Nat)) ⊕ ((Unit) ⊕ (Unit))) :=
  if sa < a0.size then
    if ((Utf8.decode a0 sa).1 : Int) ≥ 97 then
      if ((Utf8.decode a0 sa).1 : Int) ≤ 122 then
        some (.inl (sa + (Utf8.decode a0 sa).2))
      else
      if ((Utf8.decode a0 sa).1 : Int) ≥ 65 then
        if ((Utf8.decode a0 sa).1 : Int) ≤ 90 then
          some (.inl (sa + (Utf8.decode a0 sa).2))
        else
        if ((sa : Nat) : Int) = 0 then
          some (.inr (.inl ()))
        else
        if ((Utf8.decode a0 sa).1 : Int) = 95 then
          some (.inl (sa + (Utf8.decode a0 sa).2))
        else
        if ((Utf8.decode a0 sa).1 : Int) < 48 then
          some (.inr (.inl ()))
        else
        if ((Utf8.decode a0 sa).1 : Int) > 57 then
          some (.inr (.inl ()))
        else
        some (.inl (sa + (Utf8.decode a0 sa).2))
      else
      if ((sa : Nat) : Int) = 0 then
        some (.inr (.inl ()))
      else
      if ((Utf8.decode a0 sa).1 : Int) = 95 then
        some (.inl (sa + (Utf8.decode a0 sa).2))
      else
      if ((Utf8.decode a0 sa).1 : Int) < 48 then
        some (.inr (.inl ()))
      else
      if ((Utf8.decode a0 sa).1 : Int) > 57 then
        some (.inr (.inl ()))
      else
      some (.inl (sa + (Utf8.decode a0 sa).2))
    else
    if ((Utf8.decode a0 sa).1 : Int) ≥ 65 then
      if ((Utf8.decode a0 sa).1 : Int) ≤ 90 then
        some (.inl (sa + (Utf8.decode a0 sa).2))
      else
      if ((sa : Nat) : Int) = 0 then
        some (.inr (.inl ()))
      else
      if ((Utf8.decode a0 sa).1 : Int) = 95 then
        some (.inl (sa + (Utf8.decode a0 sa).2))
      else
      if ((Utf8.decode a0 sa).1 : Int) < 48 then
        some (.inr (.inl ()))
      else
      if ((Utf8.decode a0 sa).1 : Int) > 57 then
        some (.inr (.inl ()))
      else
      some (.inl (sa + (Utf8.decode a0 sa).2))
    else
    if ((sa : Nat) : Int) = 0 then
      some (.inr (.inl ()))
    else
    if ((Utf8.decode a0 sa).1 : Int) = 95 then
      some (.inl (sa + (Utf8.decode a0 sa).2))
    else
    if ((Utf8.decode a0 sa).1 : Int) < 48 then
      some (.inr (.inl ()))
    else
    if ((Utf8.decode a0 sa).1 : Int) > 57 then
      some (.inr (.inl ()))
    else
    some (.inl (sa + (Utf8.decode a0 sa).2))
  else
  some (.inr (.inr ()))
noncomputable def T_light_IsName_L1 (a0 : ByteArray) (sa : (Nat)) : List (Nat × AV) := [(0, .d (.v (.string a0))), (7, .own 2 0)]
noncomputable def H_light_IsName_L1 (a0 : ByteArray) (sa : (Nat)) : List (Nat × Blk) := [(2, .it a0 sa)]
noncomputable def X_light_IsName_L1 (a0 : ByteArray) (e : (Unit) ⊕ (Unit)) : Ex := match e with
  | (.inl e) => .ret
  | (.inr e) => (.exit 0)
noncomputable def XT_light_IsName_L1 (a0 : ByteArray) (e : (Unit) ⊕ (Unit)) : List (Nat × AV) := match e with
  | (.inl e) => [(2, .d (B false))]
  | (.inr e) => [(0, .d (.v (.string a0)))]
noncomputable def XH_light_IsName_L1 (a0 : ByteArray) (e : (Unit) ⊕ (Unit)) : List (Nat × Blk) := match e with
  | (.inl e) => []
  | (.inr e) => []
theorem R_light_IsName_L1 {n : Nat} {a0 : ByteArray} (sa : (Nat)) (r) (h : F_light_IsName_L1 n a0 sa = some r) : Rd cx (loopAt cx.P 113 0) 51 0 false (T_light_IsName_L1 a0) (H_light_IsName_L1 a0) (X_light_IsName_L1 a0) (XT_light_IsName_L1 a0) (XH_light_IsName_L1 a0) sa r := by
  unfold F_light_IsName_L1 at h
  by_cases ha1 : sa < a0.size
  · replace h := ite_t h ha1
    by_cases ha2 : ((Utf8.decode a0 sa).1 : Int) ≥ 97
    · replace h := ite_t h ha2
      by_cases ha3 : ((Utf8.decode a0 sa).1 : Int) ≤ 122
      · replace h := ite_t h ha3
        replace h := Option.some.inj h
        subst h
        exact ⟨100, 3, [.br true, .no, .br true, .br true, .no, .no], [], [0, 7], [2], round_fr (allC (decide_eq_true ha3) (allC (decide_eq_true ha2) (allC ha1 allN))) (by kernel_rfl)⟩
      · replace h := ite_f h ha3
        by_cases ha4 : ((Utf8.decode a0 sa).1 : Int) ≥ 65
        · replace h := ite_t h ha4
          by_cases ha5 : ((Utf8.decode a0 sa).1 : Int) ≤ 90
          · replace h := ite_t h ha5
            replace h := Option.some.inj h
            subst h
            exact ⟨100, 3, [.br true, .no, .br true, .br false, .br true, .br false, .no], [], [0, 7], [2], round_fr (allC (notf (decide_eq_true ha5)) (allC (decide_eq_true ha4) (allC (decide_eq_false ha3) (allC (decide_eq_true ha2) (allC ha1 allN))))) (by kernel_rfl)⟩
          · replace h := ite_f h ha5
            by_cases ha6 : ((sa : Nat) : Int) = 0
            · replace h := ite_t h ha6
              replace h := Option.some.inj h
              subst h
              exact ⟨⟨100, 3, [.br true, .no, .br true, .br false, .br true, .br true, .br true, .no], [], [2], [], round_fr (allC (eqt ha6) (allC (nott (decide_eq_false ha5)) (allC (decide_eq_true ha4) (allC (decide_eq_false ha3) (allC (decide_eq_true ha2) (allC ha1 allN)))))) (by kernel_rfl)⟩, nofun⟩
            · replace h := ite_f h ha6
              by_cases ha7 : ((Utf8.decode a0 sa).1 : Int) = 95
              · replace h := ite_t h ha7
                replace h := Option.some.inj h
                subst h
                exact ⟨100, 3, [.br true, .no, .br true, .br false, .br true, .br true, .br false, .br false, .no], [], [0, 7], [2], round_fr (allC (nef ha7) (allC (eqf ha6) (allC (nott (decide_eq_false ha5)) (allC (decide_eq_true ha4) (allC (decide_eq_false ha3) (allC (decide_eq_true ha2) (allC ha1 allN))))))) (by kernel_rfl)⟩
              · replace h := ite_f h ha7
                by_cases ha8 : ((Utf8.decode a0 sa).1 : Int) < 48
                · replace h := ite_t h ha8
                  replace h := Option.some.inj h
                  subst h
                  exact ⟨⟨100, 3, [.br true, .no, .br true, .br false, .br true, .br true, .br false, .br true, .br true, .no], [], [2], [], round_fr (allC (decide_eq_true ha8) (allC (net ha7) (allC (eqf ha6) (allC (nott (decide_eq_false ha5)) (allC (decide_eq_true ha4) (allC (decide_eq_false ha3) (allC (decide_eq_true ha2) (allC ha1 allN)))))))) (by kernel_rfl)⟩, nofun⟩
                · replace h := ite_f h ha8
                  by_cases ha9 : ((Utf8.decode a0 sa).1 : Int) > 57
                  · replace h := ite_t h ha9
                    replace h := Option.some.inj h
                    subst h
                    exact ⟨⟨100, 3, [.br true, .no, .br true, .br false, .br true, .br true, .br false, .br true, .br false, .br true], [], [2], [], round_fr (allC (decide_eq_true ha9) (allC (decide_eq_false ha8) (allC (net ha7) (allC (eqf ha6) (allC (nott (decide_eq_false ha5)) (allC (decide_eq_true ha4) (allC (decide_eq_false ha3) (allC (decide_eq_true ha2) (allC ha1 allN))))))))) (by kernel_rfl)⟩, nofun⟩
                  · replace h := ite_f h ha9
                    replace h := Option.some.inj h
                    subst h
                    exact ⟨100, 3, [.br true, .no, .br true, .br false, .br true, .br true, .br false, .br true, .br false, .br false], [], [0, 7], [2], round_fr (allC (decide_eq_false ha9) (allC (decide_eq_false ha8) (allC (net ha7) (allC (eqf ha6) (allC (nott (decide_eq_false ha5)) (allC (decide_eq_true ha4) (allC (decide_eq_false ha3) (allC (decide_eq_true ha2) (allC ha1 allN))))))))) (by kernel_rfl)⟩
        · replace h := ite_f h ha4
          by_cases ha5 : ((sa : Nat) : Int) = 0
          · replace h := ite_t h ha5
            replace h := Option.some.inj h
            subst h
            exact ⟨⟨100, 3, [.br true, .no, .br true, .br false, .br false, .no, .br true, .no], [], [2], [], round_fr (allC (eqt ha5) (allC (decide_eq_false ha4) (allC (decide_eq_false ha3) (allC (decide_eq_true ha2) (allC ha1 allN))))) (by kernel_rfl)⟩, nofun⟩
          · replace h := ite_f h ha5
            by_cases ha6 : ((Utf8.decode a0 sa).1 : Int) = 95
            · replace h := ite_t h ha6
              replace h := Option.some.inj h
              subst h
              exact ⟨100, 3, [.br true, .no, .br true, .br false, .br false, .no, .br false, .br false, .no], [], [0, 7], [2], round_fr (allC (nef ha6) (allC (eqf ha5) (allC (decide_eq_false ha4) (allC (decide_eq_false ha3) (allC (decide_eq_true ha2) (allC ha1 allN)))))) (by kernel_rfl)⟩
            · replace h := ite_f h ha6
              by_cases ha7 : ((Utf8.decode a0 sa).1 : Int) < 48
              · replace h := ite_t h ha7
                replace h := Option.some.inj h
                subst h
                exact ⟨⟨100, 3, [.br true, .no, .br true, .br false, .br false, .no, .br false, .br true, .br true, .no], [], [2], [], round_fr (allC (decide_eq_true ha7) (allC (net ha6) (allC (eqf ha5) (allC (decide_eq_false ha4) (allC (decide_eq_false ha3) (allC (decide_eq_true ha2) (allC ha1 allN))))))) (by kernel_rfl)⟩, nofun⟩
              · replace h := ite_f h ha7
                by_cases ha8 : ((Utf8.decode a0 sa).1 : Int) > 57
                · replace h := ite_t h ha8
                  replace h := Option.some.inj h
                  subst h
                  exact ⟨⟨100, 3, [.br true, .no, .br true, .br false, .br false, .no, .br false, .br true, .br false, .br true], [], [2], [], round_fr (allC (decide_eq_true ha8) (allC (decide_eq_false ha7) (allC (net ha6) (allC (eqf ha5) (allC (decide_eq_false ha4) (allC (decide_eq_false ha3) (allC (decide_eq_true ha2) (allC ha1 allN)))))))) (by kernel_rfl)⟩, nofun⟩
                · replace h := ite_f h ha8
                  replace h := Option.some.inj h
                  subst h
                  exact ⟨100, 3, [.br true, .no, .br true, .br false, .br false, .no, .br false, .br true, .br false, .br false], [], [0, 7], [2], round_fr (allC (decide_eq_false ha8) (allC (decide_eq_false ha7) (allC (net ha6) (allC (eqf ha5) (allC (decide_eq_false ha4) (allC (decide_eq_false ha3) (allC (decide_eq_true ha2) (allC ha1 allN)))))))) (by kernel_rfl)⟩
    · replace h := ite_f h ha2
      by_cases ha3 : ((Utf8.decode a0 sa).1 : Int) ≥ 65
      · replace h := ite_t h ha3
        by_cases ha4 : ((Utf8.decode a0 sa).1 : Int) ≤ 90
        · replace h := ite_t h ha4
          replace h := Option.some.inj h
          subst h
          exact ⟨100, 3, [.br true, .no, .br false, .no, .br true, .br false, .no], [], [0, 7], [2], round_fr (allC (notf (decide_eq_true ha4)) (allC (decide_eq_true ha3) (allC (decide_eq_false ha2) (allC ha1 allN)))) (by kernel_rfl)⟩
        · replace h := ite_f h ha4
          by_cases ha5 : ((sa : Nat) : Int) = 0
          · replace h := ite_t h ha5
            replace h := Option.some.inj h
            subst h
            exact ⟨⟨100, 3, [.br true, .no, .br false, .no, .br true, .br true, .br true, .no], [], [2], [], round_fr (allC (eqt ha5) (allC (nott (decide_eq_false ha4)) (allC (decide_eq_true ha3) (allC (decide_eq_false ha2) (allC ha1 allN))))) (by kernel_rfl)⟩, nofun⟩
          · replace h := ite_f h ha5
            by_cases ha6 : ((Utf8.decode a0 sa).1 : Int) = 95
            · replace h := ite_t h ha6
              replace h := Option.some.inj h
              subst h
              exact ⟨100, 3, [.br true, .no, .br false, .no, .br true, .br true, .br false, .br false, .no], [], [0, 7], [2], round_fr (allC (nef ha6) (allC (eqf ha5) (allC (nott (decide_eq_false ha4)) (allC (decide_eq_true ha3) (allC (decide_eq_false ha2) (allC ha1 allN)))))) (by kernel_rfl)⟩
            · replace h := ite_f h ha6
              by_cases ha7 : ((Utf8.decode a0 sa).1 : Int) < 48
              · replace h := ite_t h ha7
                replace h := Option.some.inj h
                subst h
                exact ⟨⟨100, 3, [.br true, .no, .br false, .no, .br true, .br true, .br false, .br true, .br true, .no], [], [2], [], round_fr (allC (decide_eq_true ha7) (allC (net ha6) (allC (eqf ha5) (allC (nott (decide_eq_false ha4)) (allC (decide_eq_true ha3) (allC (decide_eq_false ha2) (allC ha1 allN))))))) (by kernel_rfl)⟩, nofun⟩
              · replace h := ite_f h ha7
                by_cases ha8 : ((Utf8.decode a0 sa).1 : Int) > 57
                · replace h := ite_t h ha8
                  replace h := Option.some.inj h
                  subst h
                  exact ⟨⟨100, 3, [.br true, .no, .br false, .no, .br true, .br true, .br false, .br true, .br false, .br true], [], [2], [], round_fr (allC (decide_eq_true ha8) (allC (decide_eq_false ha7) (allC (net ha6) (allC (eqf ha5) (allC (nott (decide_eq_false ha4)) (allC (decide_eq_true ha3) (allC (decide_eq_false ha2) (allC ha1 allN)))))))) (by kernel_rfl)⟩, nofun⟩
                · replace h := ite_f h ha8
                  replace h := Option.some.inj h
                  subst h
                  exact ⟨100, 3, [.br true, .no, .br false, .no, .br true, .br true, .br false, .br true, .br false, .br false], [], [0, 7], [2], round_fr (allC (decide_eq_false ha8) (allC (decide_eq_false ha7) (allC (net ha6) (allC (eqf ha5) (allC (nott (decide_eq_false ha4)) (allC (decide_eq_true ha3) (allC (decide_eq_false ha2) (allC ha1 allN)))))))) (by kernel_rfl)⟩
      · replace h := ite_f h ha3
        by_cases ha4 : ((sa : Nat) : Int) = 0
        · replace h := ite_t h ha4
          replace h := Option.some.inj h
          subst h
          exact ⟨⟨100, 3, [.br true, .no, .br false, .no, .br false, .no, .br true, .no], [], [2], [], round_fr (allC (eqt ha4) (allC (decide_eq_false ha3) (allC (decide_eq_false ha2) (allC ha1 allN)))) (by kernel_rfl)⟩, nofun⟩
        · replace h := ite_f h ha4
          by_cases ha5 : ((Utf8.decode a0 sa).1 : Int) = 95
          · replace h := ite_t h ha5
            replace h := Option.some.inj h
            subst h
            exact ⟨100, 3, [.br true, .no, .br false, .no, .br false, .no, .br false, .br false, .no], [], [0, 7], [2], round_fr (allC (nef ha5) (allC (eqf ha4) (allC (decide_eq_false ha3) (allC (decide_eq_false ha2) (allC ha1 allN))))) (by kernel_rfl)⟩
          · replace h := ite_f h ha5
            by_cases ha6 : ((Utf8.decode a0 sa).1 : Int) < 48
            · replace h := ite_t h ha6
              replace h := Option.some.inj h
              subst h
              exact ⟨⟨100, 3, [.br true, .no, .br false, .no, .br false, .no, .br false, .br true, .br true, .no], [], [2], [], round_fr (allC (decide_eq_true ha6) (allC (net ha5) (allC (eqf ha4) (allC (decide_eq_false ha3) (allC (decide_eq_false ha2) (allC ha1 allN)))))) (by kernel_rfl)⟩, nofun⟩
            · replace h := ite_f h ha6
              by_cases ha7 : ((Utf8.decode a0 sa).1 : Int) > 57
              · replace h := ite_t h ha7
                replace h := Option.some.inj h
                subst h
                exact ⟨⟨100, 3, [.br true, .no, .br false, .no, .br false, .no, .br false, .br true, .br false, .br true], [], [2], [], round_fr (allC (decide_eq_true ha7) (allC (decide_eq_false ha6) (allC (net ha5) (allC (eqf ha4) (allC (decide_eq_false ha3) (allC (decide_eq_false ha2) (allC ha1 allN))))))) (by kernel_rfl)⟩, nofun⟩
              · replace h := ite_f h ha7
                replace h := Option.some.inj h
                subst h
                exact ⟨100, 3, [.br true, .no, .br false, .no, .br false, .no, .br false, .br true, .br false, .br false], [], [0, 7], [2], round_fr (allC (decide_eq_false ha7) (allC (decide_eq_false ha6) (allC (net ha5) (allC (eqf ha4) (allC (decide_eq_false ha3) (allC (decide_eq_false ha2) (allC ha1 allN))))))) (by kernel_rfl)⟩
  · replace h := ite_f h ha1
    replace h := Option.some.inj h
    subst h
    exact ⟨⟨100, 3, [.br false, .no], [], [0], [], round_fr (allC ha1 allN) (by kernel_rfl)⟩, nofun⟩
/- spillage/light.IsName: .v (.string a0) -/
def F_light_IsName (n : Nat) (a0 : ByteArray) : Option (Bool) :=
  (loopF (F_light_IsName_L1 n a0) n 0).bind fun t1 => match t1 with
    | (.inl t1) => (
      some false)
    | (.inr t1) => (
      if (!(a0.toList == (⟨#[]⟩ : ByteArray).toList)) = true then
        some (decide ((a0.size : Int) ≤ 24))
      else
      some false)
theorem c_light_IsName {n : Nat} {a0 : ByteArray} {r : Bool} (h : F_light_IsName n a0 = some r) : Computes cx 113 [.v (.string a0)] (B r) := by
  unfold F_light_IsName at h
  obtain ⟨t1, h1, h⟩ := bnd_of h
  rcases t1 with t1 | t1
  · replace h := Option.some.inj h
    subst h
    exact run_fr (n := 100) (orc := [.lp [] [0, 7] [2] .ret [(2, .d (B false))] [] 54]) (allC (loopF_to R_light_IsName_L1 h1) allN) (by kernel_rfl)
  · by_cases h2 : (!(a0.toList == (⟨#[]⟩ : ByteArray).toList)) = true
    · replace h := ite_t h h2
      replace h := Option.some.inj h
      subst h
      exact run_fr (n := 100) (orc := [.lp [] [0, 7] [2] (.exit 0) [(0, .d (.v (.string a0)))] [] 54, .br true]) (allC h2 (allC (loopF_to R_light_IsName_L1 h1) allN)) (by kernel_rfl)
    · replace h := ite_f h h2
      replace h := Option.some.inj h
      subst h
      exact run_fr (n := 100) (orc := [.lp [] [0, 7] [2] (.exit 0) [(0, .d (.v (.string a0)))] [] 54, .br false]) (allC (bfalse h2) (allC (loopF_to R_light_IsName_L1 h1) allN)) (by kernel_rfl)
/- spillage/field.when: B a0, I a1 -/
def F_field_when (n : Nat) (a0 : Bool) (a1 : Int) : Option (Int) :=
  if a0 = true then
    some a1
  else
  some 0
theorem c_field_when {n : Nat} {a0 : Bool} {a1 : Int} {r : Int} (h : F_field_when n a0 a1 = some r) : Computes cx 56 [B a0, I a1] (I r) := by
  unfold F_field_when at h
  by_cases h1 : a0 = true
  · replace h := ite_t h h1
    replace h := Option.some.inj h
    subst h
    exact run_fr (n := 100) (orc := [.br true]) (allC h1 allN) (by kernel_rfl)
  · replace h := ite_f h h1
    replace h := Option.some.inj h
    subst h
    exact run_fr (n := 100) (orc := [.br false]) (allC (bfalse h1) allN) (by kernel_rfl)
/- spillage/field.when: B true, I 3 -/
def F_field_when_2 (n : Nat)  : Option (Int) :=
  some 3
theorem c_field_when_2 {n : Nat}  {r : Int} (h : F_field_when_2 n  = some r) : Computes cx 56 [B true, I 3] (I r) := by
  unfold F_field_when_2 at h
  replace h := Option.some.inj h
  subst h
  exact run_fr (n := 100) (orc := [.no]) allN (by kernel_rfl)
/- spillage/field.within: I a0, I a1, I a2 -/
def F_field_within (n : Nat) (a0 : Int) (a1 : Int) (a2 : Int) : Option (Int) :=
  if a0 < a1 then
    (F_field_when_2 n).bind fun t2 =>
    some t2
  else
  (F_field_when n (decide (a0 > a2)) 3).bind fun t2 =>
  some t2
theorem c_field_within {n : Nat} {a0 : Int} {a1 : Int} {a2 : Int} {r : Int} (h : F_field_within n a0 a1 a2 = some r) : Computes cx 84 [I a0, I a1, I a2] (I r) := by
  unfold F_field_within at h
  by_cases h1 : a0 < a1
  · replace h := ite_t h h1
    obtain ⟨t2, h2, h⟩ := bnd_of h
    replace h := Option.some.inj h
    subst h
    exact run_fr (n := 100) (orc := [.br true, .ret (I t2)]) (allC (c_field_when_2 h2) (allC (decide_eq_true h1) allN)) (by kernel_rfl)
  · replace h := ite_f h h1
    obtain ⟨t2, h2, h⟩ := bnd_of h
    replace h := Option.some.inj h
    subst h
    exact run_fr (n := 100) (orc := [.br false, .ret (I t2)]) (allC (c_field_when h2) (allC (decide_eq_false h1) allN)) (by kernel_rfl)
def enc_i (x : Int) : D := I x
def un_i (d : D) : Option (Int) := un_int .i64 d
theorem un_i_ok {d : D} {x : Int} (h : un_i d = some x) : d = enc_i x := un_int_ok h
def F_field_first_L1 (n : Nat) (a0 : List D) (sa : (Int)) : Option (((Int)) ⊕ ((Int) ⊕ (Unit))) :=
  if sa < ((a0).length : Int) then
    (el un_i a0 sa).bind fun ta2 =>
    if ta2 = 0 then
      if inI64 (sa + 1) then
      some (.inl (sa + 1))
      else none
    else
    some (.inr (.inl ta2))
  else
  some (.inr (.inr ()))
noncomputable def T_field_first_L1 (a0 : List D) (sa : (Int)) : List (Nat × AV) := [(5, .d (.lst false 1 a0)), (6, .d (I ((a0).length : Int))), (7, .d (I sa))]
noncomputable def H_field_first_L1 (a0 : List D) (sa : (Int)) : List (Nat × Blk) := []
noncomputable def X_field_first_L1 (a0 : List D) (e : (Int) ⊕ (Unit)) : Ex := match e with
  | (.inl e) => .ret
  | (.inr e) => (.exit 0)
noncomputable def XT_field_first_L1 (a0 : List D) (e : (Int) ⊕ (Unit)) : List (Nat × AV) := match e with
  | (.inl e) => [(2, .d (I e))]
  | (.inr e) => []
noncomputable def XH_field_first_L1 (a0 : List D) (e : (Int) ⊕ (Unit)) : List (Nat × Blk) := match e with
  | (.inl e) => []
  | (.inr e) => []
theorem R_field_first_L1 {n : Nat} {a0 : List D} (sa : (Int)) (r) (h : F_field_first_L1 n a0 sa = some r) : Rd cx (loopAt cx.P 52 0) 15 0 false (T_field_first_L1 a0) (H_field_first_L1 a0) (X_field_first_L1 a0) (XT_field_first_L1 a0) (XH_field_first_L1 a0) sa r := by
  unfold F_field_first_L1 at h
  by_cases ha1 : sa < ((a0).length : Int)
  · replace h := ite_t h ha1
    obtain ⟨ta2, ha2, h⟩ := bnd_of h
    by_cases ha3 : ta2 = 0
    · replace h := ite_t h ha3
      obtain ⟨ha4, h⟩ := grd_of h
      replace h := Option.some.inj h
      subst h
      exact ⟨100, 4, [.br true, .el (enc_i ta2), .br false], [], [5, 6, 7], [], round_fr (allC ha4 (allC (nef ha3) (allC (el_ok un_i_ok ha2).1 (allC (el_ok un_i_ok ha2).2 (allC (decide_eq_true ha1) allN))))) (by kernel_rfl)⟩
    · replace h := ite_f h ha3
      replace h := Option.some.inj h
      subst h
      exact ⟨⟨100, 4, [.br true, .el (enc_i ta2), .br true], [], [2], [], round_fr (allC (net ha3) (allC (el_ok un_i_ok ha2).1 (allC (el_ok un_i_ok ha2).2 (allC (decide_eq_true ha1) allN)))) (by kernel_rfl)⟩, nofun⟩
  · replace h := ite_f h ha1
    replace h := Option.some.inj h
    subst h
    exact ⟨⟨100, 4, [.br false], [], [], [], round_fr (allC (decide_eq_false ha1) allN) (by kernel_rfl)⟩, nofun⟩
/- spillage/field.first: .lst false 1 a0 -/
def F_field_first (n : Nat) (a0 : List D) : Option (Int) :=
  (loopF (F_field_first_L1 n a0) n 0).bind fun t1 => match t1 with
    | (.inl t1) => (
      some t1)
    | (.inr t1) => (
      some 0)
theorem c_field_first {n : Nat} {a0 : List D} {r : Int} (h : F_field_first n a0 = some r) : Computes cx 52 [.lst false 1 a0] (I r) := by
  unfold F_field_first at h
  obtain ⟨t1, h1, h⟩ := bnd_of h
  rcases t1 with t1 | t1
  · replace h := Option.some.inj h
    subst h
    exact run_fr (n := 100) (orc := [.lp [] [5, 6, 7] [] .ret [(2, .d (I t1))] [] 23]) (allC (loopF_to R_field_first_L1 h1) allN) (by kernel_rfl)
  · replace h := Option.some.inj h
    subst h
    exact run_fr (n := 100) (orc := [.lp [] [5, 6, 7] [] (.exit 0) [] [] 23]) (allC (loopF_to R_field_first_L1 h1) allN) (by kernel_rfl)
/- spillage/field.checkParts: .agg [I a0, I a1, I a2], I a3 -/
def F_field_checkParts (n : Nat) (a0 : Int) (a1 : Int) (a2 : Int) (a3 : Int) : Option (Int) :=
  (F_field_within n a0 (IntKind.wrap .i64 (0 - a3)) a3).bind fun t1 =>
  (F_field_within n a1 (IntKind.wrap .i64 (0 - a3)) a3).bind fun t2 =>
  (F_field_within n a2 (IntKind.wrap .i64 (0 - a3)) a3).bind fun t3 =>
  (F_field_first n ([I t1, I t2, I t3])).bind fun t4 =>
  some t4
theorem c_field_checkParts {n : Nat} {a0 : Int} {a1 : Int} {a2 : Int} {a3 : Int} {r : Int} (h : F_field_checkParts n a0 a1 a2 a3 = some r) : Computes cx 82 [.agg [I a0, I a1, I a2], I a3] (I r) := by
  unfold F_field_checkParts at h
  obtain ⟨t1, h1, h⟩ := bnd_of h
  obtain ⟨t2, h2, h⟩ := bnd_of h
  obtain ⟨t3, h3, h⟩ := bnd_of h
  obtain ⟨t4, h4, h⟩ := bnd_of h
  replace h := Option.some.inj h
  subst h
  exact run_fr (n := 100) (orc := [.ret (I t1), .ret (I t2), .ret (I t3), .ret (I t4)]) (allC (((c_field_first h4).le (.cons (.full _ _ _) (.nil)) (.refl _)) : Computes cx 52 [.lst true 1 [I t1, I t2, I t3]] (I t4)) (allC (c_field_within h3) (allC (c_field_within h2) (allC (c_field_within h1) allN)))) (by kernel_rfl)
/- (spillage/field.Mirror).check: .agg [.v (.string a0), I a1, I a2, I a3, I a4, I a5, I a6, I a7, I a8, I a9] -/
def F_field_Mirror_check (n : Nat) (a0 : ByteArray) (a1 : Int) (a2 : Int) (a3 : Int) (a4 : Int) (a5 : Int) (a6 : Int) (a7 : Int) (a8 : Int) (a9 : Int) : Option (Int) :=
  (F_light_IsName n a0).bind fun t1 =>
  (F_field_when n (!t1) 8).bind fun t2 =>
  (F_field_checkParts n a1 a2 a3 4096).bind fun t3 =>
  (F_field_checkParts n a4 a5 a6 64).bind fun t4 =>
  (F_field_checkParts n a7 a8 a9 64).bind fun t5 =>
  (F_field_first n ([I t2, I t3, I t4, I t5])).bind fun t6 =>
  if t6 = 0 then
    (F_field_Mirror_normal n a0 a1 a2 a3 a4 a5 a6 a7 a8 a9).bind fun t8 =>
    (F_field_when n ((t8.1 == 0) && ((t8.2.1 == 0) && ((t8.2.2 == 0) && true))) 17).bind fun t9 =>
    some t9
  else
  some t6
theorem c_field_Mirror_check {n : Nat} {a0 : ByteArray} {a1 : Int} {a2 : Int} {a3 : Int} {a4 : Int} {a5 : Int} {a6 : Int} {a7 : Int} {a8 : Int} {a9 : Int} {r : Int} (h : F_field_Mirror_check n a0 a1 a2 a3 a4 a5 a6 a7 a8 a9 = some r) : Computes cx 67 [.agg [.v (.string a0), I a1, I a2, I a3, I a4, I a5, I a6, I a7, I a8, I a9]] (I r) := by
  unfold F_field_Mirror_check at h
  obtain ⟨t1, h1, h⟩ := bnd_of h
  obtain ⟨t2, h2, h⟩ := bnd_of h
  obtain ⟨t3, h3, h⟩ := bnd_of h
  obtain ⟨t4, h4, h⟩ := bnd_of h
  obtain ⟨t5, h5, h⟩ := bnd_of h
  obtain ⟨t6, h6, h⟩ := bnd_of h
  by_cases h7 : t6 = 0
  · replace h := ite_t h h7
    obtain ⟨t8, h8, h⟩ := bnd_of h
    obtain ⟨t9, h9, h⟩ := bnd_of h
    replace h := Option.some.inj h
    subst h
    exact run_fr (n := 100) (orc := [.ret (B t1), .ret (I t2), .ret (I t3), .ret (I t4), .ret (I t5), .ret (I t6), .br false, .ret (.agg [I t8.1, I t8.2.1, I t8.2.2]), .ret (I t9)]) (allC (c_field_when h9) (allC (c_field_Mirror_normal h8) (allC (nef h7) (allC (((c_field_first h6).le (.cons (.full _ _ _) (.nil)) (.refl _)) : Computes cx 52 [.lst true 1 [I t2, I t3, I t4, I t5]] (I t6)) (allC (c_field_checkParts h5) (allC (c_field_checkParts h4) (allC (c_field_checkParts h3) (allC (c_field_when h2) (allC (c_light_IsName h1) allN))))))))) (by kernel_rfl)
  · replace h := ite_f h h7
    replace h := Option.some.inj h
    subst h
    exact run_fr (n := 100) (orc := [.ret (B t1), .ret (I t2), .ret (I t3), .ret (I t4), .ret (I t5), .ret (I t6), .br true]) (allC (net h7) (allC (((c_field_first h6).le (.cons (.full _ _ _) (.nil)) (.refl _)) : Computes cx 52 [.lst true 1 [I t2, I t3, I t4, I t5]] (I t6)) (allC (c_field_checkParts h5) (allC (c_field_checkParts h4) (allC (c_field_checkParts h3) (allC (c_field_when h2) (allC (c_light_IsName h1) allN))))))) (by kernel_rfl)
/- spillage/field.left: .agg [I a0, I a1], .agg [I a2, I a3], .agg [I a4, I a5] -/
def F_field_left (n : Nat) (a0 : Int) (a1 : Int) (a2 : Int) (a3 : Int) (a4 : Int) (a5 : Int) : Option (Int) :=
  if inI64 (a2 - a0) then
  if inI64 (a5 - a1) then
  if inI64 ((a2 - a0) * (a5 - a1)) then
  if inI64 (a3 - a1) then
  if inI64 (a4 - a0) then
  if inI64 ((a3 - a1) * (a4 - a0)) then
  if inI64 (((a2 - a0) * (a5 - a1)) - ((a3 - a1) * (a4 - a0))) then
  some (((a2 - a0) * (a5 - a1)) - ((a3 - a1) * (a4 - a0)))
  else none
  else none
  else none
  else none
  else none
  else none
  else none
theorem c_field_left {n : Nat} {a0 : Int} {a1 : Int} {a2 : Int} {a3 : Int} {a4 : Int} {a5 : Int} {r : Int} (h : F_field_left n a0 a1 a2 a3 a4 a5 = some r) : Computes cx 55 [.agg [I a0, I a1], .agg [I a2, I a3], .agg [I a4, I a5]] (I r) := by
  unfold F_field_left at h
  obtain ⟨h1, h⟩ := grd_of h
  obtain ⟨h2, h⟩ := grd_of h
  obtain ⟨h3, h⟩ := grd_of h
  obtain ⟨h4, h⟩ := grd_of h
  obtain ⟨h5, h⟩ := grd_of h
  obtain ⟨h6, h⟩ := grd_of h
  obtain ⟨h7, h⟩ := grd_of h
  replace h := Option.some.inj h
  subst h
  exact run_fr (n := 100) (orc := []) (allC h7 (allC h6 (allC h5 (allC h4 (allC h3 (allC h2 (allC h1 allN))))))) (by kernel_rfl)
/- cmp.isNaN[int]: I a0 -/
def F_cmp_isNaN_g (n : Nat) (a0 : Int) : Option (Bool) :=
  some (a0 != a0)
theorem c_cmp_isNaN_g {n : Nat} {a0 : Int} {r : Bool} (h : F_cmp_isNaN_g n a0 = some r) : Computes cx 107 [I a0] (B r) := by
  unfold F_cmp_isNaN_g at h
  replace h := Option.some.inj h
  subst h
  exact run_fr (n := 100) (orc := []) allN (by kernel_rfl)
/- cmp.Compare[int]: I a0, I a1 -/
def F_cmp_Compare_g (n : Nat) (a0 : Int) (a1 : Int) : Option (Int) :=
  (F_cmp_isNaN_g n a0).bind fun t1 =>
  (F_cmp_isNaN_g n a1).bind fun t2 =>
  if t1 = true then
    if t2 = true then
      some 0
    else
    some (-1)
  else
  if t2 = true then
    some 1
  else
  if a0 < a1 then
    some (-1)
  else
  if a0 > a1 then
    some 1
  else
  some 0
theorem c_cmp_Compare_g {n : Nat} {a0 : Int} {a1 : Int} {r : Int} (h : F_cmp_Compare_g n a0 a1 = some r) : Computes cx 54 [I a0, I a1] (I r) := by
  unfold F_cmp_Compare_g at h
  obtain ⟨t1, h1, h⟩ := bnd_of h
  obtain ⟨t2, h2, h⟩ := bnd_of h
  by_cases h3 : t1 = true
  · replace h := ite_t h h3
    by_cases h4 : t2 = true
    · replace h := ite_t h h4
      replace h := Option.some.inj h
      subst h
      exact run_fr (n := 100) (orc := [.ret (B t1), .ret (B t2), .br true, .br true]) (allC h4 (allC h3 (allC (c_cmp_isNaN_g h2) (allC (c_cmp_isNaN_g h1) allN)))) (by kernel_rfl)
    · replace h := ite_f h h4
      replace h := Option.some.inj h
      subst h
      exact run_fr (n := 100) (orc := [.ret (B t1), .ret (B t2), .br true, .br false]) (allC (bfalse h4) (allC h3 (allC (c_cmp_isNaN_g h2) (allC (c_cmp_isNaN_g h1) allN)))) (by kernel_rfl)
  · replace h := ite_f h h3
    by_cases h4 : t2 = true
    · replace h := ite_t h h4
      replace h := Option.some.inj h
      subst h
      exact run_fr (n := 100) (orc := [.ret (B t1), .ret (B t2), .br false, .br true]) (allC h4 (allC (bfalse h3) (allC (c_cmp_isNaN_g h2) (allC (c_cmp_isNaN_g h1) allN)))) (by kernel_rfl)
    · replace h := ite_f h h4
      by_cases h5 : a0 < a1
      · replace h := ite_t h h5
        replace h := Option.some.inj h
        subst h
        exact run_fr (n := 100) (orc := [.ret (B t1), .ret (B t2), .br false, .br false, .br true]) (allC (decide_eq_true h5) (allC (bfalse h4) (allC (bfalse h3) (allC (c_cmp_isNaN_g h2) (allC (c_cmp_isNaN_g h1) allN))))) (by kernel_rfl)
      · replace h := ite_f h h5
        by_cases h6 : a0 > a1
        · replace h := ite_t h h6
          replace h := Option.some.inj h
          subst h
          exact run_fr (n := 100) (orc := [.ret (B t1), .ret (B t2), .br false, .br false, .br false, .br true]) (allC (decide_eq_true h6) (allC (decide_eq_false h5) (allC (bfalse h4) (allC (bfalse h3) (allC (c_cmp_isNaN_g h2) (allC (c_cmp_isNaN_g h1) allN)))))) (by kernel_rfl)
        · replace h := ite_f h h6
          replace h := Option.some.inj h
          subst h
          exact run_fr (n := 100) (orc := [.ret (B t1), .ret (B t2), .br false, .br false, .br false, .br false]) (allC (decide_eq_false h6) (allC (decide_eq_false h5) (allC (bfalse h4) (allC (bfalse h3) (allC (c_cmp_isNaN_g h2) (allC (c_cmp_isNaN_g h1) allN)))))) (by kernel_rfl)
def F_field_lowest_L1 (n : Nat) (a0 : Int) (a1 : Int) (sa : (Int × Int)) : Option (((Int × Int)) ⊕ ((Int))) :=
  if sa.2 = 0 then
    some (.inr sa.1)
  else
  if sa.2 ≠ 0 then
  some (.inl (sa.2, (Int.tmod sa.1 sa.2)))
  else none
noncomputable def T_field_lowest_L1 (a0 : Int) (a1 : Int) (sa : (Int × Int)) : List (Nat × AV) := [(0, .d (I a0)), (1, .d (I a1)), (4, .ptr 0 0 0 0 0), (5, .d (I sa.1)), (6, .d (I sa.2))]
noncomputable def H_field_lowest_L1 (a0 : Int) (a1 : Int) (sa : (Int × Int)) : List (Nat × Blk) := [(0, .box (.d (.agg [I 0, I 0])))]
noncomputable def X_field_lowest_L1 (a0 : Int) (a1 : Int) (e : (Int)) : Ex := (.exit 0)
noncomputable def XT_field_lowest_L1 (a0 : Int) (a1 : Int) (e : (Int)) : List (Nat × AV) := [(0, .d (I a0)), (1, .d (I a1)), (4, .ptr 0 0 0 0 0), (5, .d (I e))]
noncomputable def XH_field_lowest_L1 (a0 : Int) (a1 : Int) (e : (Int)) : List (Nat × Blk) := [(0, .box (.d (.agg [I 0, I 0])))]
theorem R_field_lowest_L1 {n : Nat} {a0 : Int} {a1 : Int} (sa : (Int × Int)) (r) (h : F_field_lowest_L1 n a0 a1 sa = some r) : Rd cx (loopAt cx.P 72 0) 22 0 false (T_field_lowest_L1 a0 a1) (H_field_lowest_L1 a0 a1) (X_field_lowest_L1 a0 a1) (XT_field_lowest_L1 a0 a1) (XH_field_lowest_L1 a0 a1) sa r := by
  unfold F_field_lowest_L1 at h
  by_cases ha1 : sa.2 = 0
  · replace h := ite_t h ha1
    replace h := Option.some.inj h
    subst h
    exact ⟨⟨100, 5, [.br false], [], [0, 1, 4, 5], [0], round_fr (allC (nef ha1) allN) (by kernel_rfl)⟩, nofun⟩
  · replace h := ite_f h ha1
    obtain ⟨ha2, h⟩ := grd_of h
    replace h := Option.some.inj h
    subst h
    exact ⟨100, 5, [.br true], [], [0, 1, 4, 5, 6], [0], round_fr (allC ha2 (allC (net ha1) allN)) (by kernel_rfl)⟩
/- spillage/field.lowest: I a0, I a1 -/
def F_field_lowest (n : Nat) (a0 : Int) (a1 : Int) : Option (Int × Int) :=
  (loopF (F_field_lowest_L1 n a0 a1) n (a0, a1)).bind fun t1 =>
  if t1 ≠ 0 then
  if inI64 (Int.tdiv a0 t1) then
  if inI64 (Int.tdiv a1 t1) then
  some ((Int.tdiv a0 t1), (Int.tdiv a1 t1))
  else none
  else none
  else none
theorem c_field_lowest {n : Nat} {a0 : Int} {a1 : Int} {r : Int × Int} (h : F_field_lowest n a0 a1 = some r) : Computes cx 72 [I a0, I a1] (.agg [I r.1, I r.2]) := by
  unfold F_field_lowest at h
  obtain ⟨t1, h1, h⟩ := bnd_of h
  obtain ⟨h2, h⟩ := grd_of h
  obtain ⟨h3, h⟩ := grd_of h
  obtain ⟨h4, h⟩ := grd_of h
  replace h := Option.some.inj h
  subst h
  exact run_fr (n := 100) (orc := [.lp [] [0, 1, 4, 5, 6] [0] (.exit 0) [(0, .d (I a0)), (1, .d (I a1)), (4, .ptr 0 0 0 0 0), (5, .d (I t1))] [(0, .box (.d (.agg [I 0, I 0])))] 24]) (allC h2 (allC h4 (allC h2 (allC h3 (allC (loopF_to R_field_lowest_L1 h1) allN))))) (by kernel_rfl)
def enc_Asi9Z (x : ByteArray × Int × Int × Int × Int × Int × Int × Int × Int × Int) : D := .agg [.v (.string x.1), I x.2.1, I x.2.2.1, I x.2.2.2.1, I x.2.2.2.2.1, I x.2.2.2.2.2.1, I x.2.2.2.2.2.2.1, I x.2.2.2.2.2.2.2.1, I x.2.2.2.2.2.2.2.2.1, I x.2.2.2.2.2.2.2.2.2]
def un_Asi9Z : D → Option (ByteArray × Int × Int × Int × Int × Int × Int × Int × Int × Int)
  | .agg [c0, c1, c2, c3, c4, c5, c6, c7, c8, c9] => (un_str c0).bind fun y0 => (un_int .i64 c1).bind fun y1 => (un_int .i64 c2).bind fun y2 => (un_int .i64 c3).bind fun y3 => (un_int .i64 c4).bind fun y4 => (un_int .i64 c5).bind fun y5 => (un_int .i64 c6).bind fun y6 => (un_int .i64 c7).bind fun y7 => (un_int .i64 c8).bind fun y8 => (un_int .i64 c9).bind fun y9 => some (y0, y1, y2, y3, y4, y5, y6, y7, y8, y9)
  | _ => none
theorem un_Asi9Z_ok {d : D} {x : ByteArray × Int × Int × Int × Int × Int × Int × Int × Int × Int} (h : un_Asi9Z d = some x) : d = enc_Asi9Z x := by
  unfold un_Asi9Z at h
  split at h
  case h_2 => cases h
  obtain ⟨y0, h0, h⟩ := bnd_of h
  obtain ⟨y1, h1, h⟩ := bnd_of h
  obtain ⟨y2, h2, h⟩ := bnd_of h
  obtain ⟨y3, h3, h⟩ := bnd_of h
  obtain ⟨y4, h4, h⟩ := bnd_of h
  obtain ⟨y5, h5, h⟩ := bnd_of h
  obtain ⟨y6, h6, h⟩ := bnd_of h
  obtain ⟨y7, h7, h⟩ := bnd_of h
  obtain ⟨y8, h8, h⟩ := bnd_of h
  obtain ⟨y9, h9, h⟩ := bnd_of h
  cases h
  have e0 := un_str_ok h0
  have e1 := un_int_ok h1
  have e2 := un_int_ok h2
  have e3 := un_int_ok h3
  have e4 := un_int_ok h4
  have e5 := un_int_ok h5
  have e6 := un_int_ok h6
  have e7 := un_int_ok h7
  have e8 := un_int_ok h8
  have e9 := un_int_ok h9
  rw [e0, e1, e2, e3, e4, e5, e6, e7, e8, e9]; rfl
/- spillage/spillageref04.ShortMirror: .agg [.v (.string a0), I a1, I a2, I a3, I a4, I a5, I a6, I a7, I a8, I a9] -/
def F_ref04_ShortMirror (n : Nat) (a0 : ByteArray) (a1 : Int) (a2 : Int) (a3 : Int) (a4 : Int) (a5 : Int) (a6 : Int) (a7 : Int) (a8 : Int) (a9 : Int) : Option (Bool) :=
  some (decide ((a0.size : Int) ≤ 40))
theorem c_ref04_ShortMirror {n : Nat} {a0 : ByteArray} {a1 : Int} {a2 : Int} {a3 : Int} {a4 : Int} {a5 : Int} {a6 : Int} {a7 : Int} {a8 : Int} {a9 : Int} {r : Bool} (h : F_ref04_ShortMirror n a0 a1 a2 a3 a4 a5 a6 a7 a8 a9 = some r) : Computes cx 38 [.agg [.v (.string a0), I a1, I a2, I a3, I a4, I a5, I a6, I a7, I a8, I a9]] (B r) := by
  unfold F_ref04_ShortMirror at h
  replace h := Option.some.inj h
  subst h
  exact run_fr (n := 100) (orc := []) allN (by kernel_rfl)
def F_ref04_Short_L1 (n : Nat) (a0 : List D) (sa : (Int)) : Option (((Int)) ⊕ ((Unit) ⊕ (Unit))) :=
  if sa < ((a0).length : Int) then
    (el un_Asi9Z a0 sa).bind fun ta2 =>
    (F_ref04_ShortMirror n ta2.1 ta2.2.1 ta2.2.2.1 ta2.2.2.2.1 ta2.2.2.2.2.1 ta2.2.2.2.2.2.1 ta2.2.2.2.2.2.2.1 ta2.2.2.2.2.2.2.2.1 ta2.2.2.2.2.2.2.2.2.1 ta2.2.2.2.2.2.2.2.2.2).bind fun ta3 =>
    if ta3 = true then
      if inI64 (sa + 1) then
      some (.inl (sa + 1))
      else none
    else
    some (.inr (.inl ()))
  else
  some (.inr (.inr ()))
noncomputable def T_ref04_Short_L1 (a0 : List D) (sa : (Int)) : List (Nat × AV) := [(0, .d (.lst false 10 a0)), (3, .d (I sa))]
noncomputable def H_ref04_Short_L1 (a0 : List D) (sa : (Int)) : List (Nat × Blk) := []
noncomputable def X_ref04_Short_L1 (a0 : List D) (e : (Unit) ⊕ (Unit)) : Ex := match e with
  | (.inl e) => .ret
  | (.inr e) => (.exit 0)
noncomputable def XT_ref04_Short_L1 (a0 : List D) (e : (Unit) ⊕ (Unit)) : List (Nat × AV) := match e with
  | (.inl e) => [(2, .d (B false))]
  | (.inr e) => [(0, .d (.lst false 10 a0))]
noncomputable def XH_ref04_Short_L1 (a0 : List D) (e : (Unit) ⊕ (Unit)) : List (Nat × Blk) := match e with
  | (.inl e) => []
  | (.inr e) => []
theorem R_ref04_Short_L1 {n : Nat} {a0 : List D} (sa : (Int)) (r) (h : F_ref04_Short_L1 n a0 sa = some r) : Rd cx (loopAt cx.P 6 0) 24 0 false (T_ref04_Short_L1 a0) (H_ref04_Short_L1 a0) (X_ref04_Short_L1 a0) (XT_ref04_Short_L1 a0) (XH_ref04_Short_L1 a0) sa r := by
  unfold F_ref04_Short_L1 at h
  by_cases ha1 : sa < ((a0).length : Int)
  · replace h := ite_t h ha1
    obtain ⟨ta2, ha2, h⟩ := bnd_of h
    obtain ⟨ta3, ha3, h⟩ := bnd_of h
    by_cases ha4 : ta3 = true
    · replace h := ite_t h ha4
      obtain ⟨ha5, h⟩ := grd_of h
      replace h := Option.some.inj h
      subst h
      exact ⟨100, 2, [.br true, .el (enc_Asi9Z ta2), .ret (B ta3), .br false], [], [0, 3], [], round_fr (allC ha5 (allC (notf ha4) (allC (c_ref04_ShortMirror ha3) (allC (el_ok un_Asi9Z_ok ha2).1 (allC (el_ok un_Asi9Z_ok ha2).2 (allC (decide_eq_true ha1) allN)))))) (by kernel_rfl)⟩
    · replace h := ite_f h ha4
      replace h := Option.some.inj h
      subst h
      exact ⟨⟨100, 2, [.br true, .el (enc_Asi9Z ta2), .ret (B ta3), .br true], [], [2], [], round_fr (allC (nott (bfalse ha4)) (allC (c_ref04_ShortMirror ha3) (allC (el_ok un_Asi9Z_ok ha2).1 (allC (el_ok un_Asi9Z_ok ha2).2 (allC (decide_eq_true ha1) allN))))) (by kernel_rfl)⟩, nofun⟩
  · replace h := ite_f h ha1
    replace h := Option.some.inj h
    subst h
    exact ⟨⟨100, 2, [.br false], [], [0], [], round_fr (allC (decide_eq_false ha1) allN) (by kernel_rfl)⟩, nofun⟩
/- spillage/spillageref04.Short: .lst false 10 a0 -/
def F_ref04_Short (n : Nat) (a0 : List D) : Option (Bool) :=
  (loopF (F_ref04_Short_L1 n a0) n 0).bind fun t1 => match t1 with
    | (.inl t1) => (
      some false)
    | (.inr t1) => (
      if ((a0).length : Int) ≤ 6 then
        some true
      else
      some (((a0).length : Int) == 65))
theorem c_ref04_Short {n : Nat} {a0 : List D} {r : Bool} (h : F_ref04_Short n a0 = some r) : Computes cx 6 [.lst false 10 a0] (B r) := by
  unfold F_ref04_Short at h
  obtain ⟨t1, h1, h⟩ := bnd_of h
  rcases t1 with t1 | t1
  · replace h := Option.some.inj h
    subst h
    exact run_fr (n := 100) (orc := [.lp [] [0, 3] [] .ret [(2, .d (B false))] [] 26]) (allC (loopF_to R_ref04_Short_L1 h1) allN) (by kernel_rfl)
  · by_cases h2 : ((a0).length : Int) ≤ 6
    · replace h := ite_t h h2
      replace h := Option.some.inj h
      subst h
      exact run_fr (n := 100) (orc := [.lp [] [0, 3] [] (.exit 0) [(0, .d (.lst false 10 a0))] [] 26, .br true]) (allC (decide_eq_true h2) (allC (loopF_to R_ref04_Short_L1 h1) allN)) (by kernel_rfl)
    · replace h := ite_f h h2
      replace h := Option.some.inj h
      subst h
      exact run_fr (n := 100) (orc := [.lp [] [0, 3] [] (.exit 0) [(0, .d (.lst false 10 a0))] [] 26, .br false]) (allC (decide_eq_false h2) (allC (loopF_to R_ref04_Short_L1 h1) allN)) (by kernel_rfl)
def F_law04_own_L1 (n : Nat) (a0 : List D) (sa : (Int × List D)) : Option (((Int × List D)) ⊕ ((List D))) :=
  if sa.1 < ((a0).length : Int) then
    (el un_Asi9Z a0 sa.1).bind fun ta2 =>
    if roomP 88 ((sa.2).length + 1) then
    if inI64 (sa.1 + 1) then
    some (.inl ((sa.1 + 1), (sa.2 ++ ([.agg [.v (.string ta2.1), I ta2.2.1, I ta2.2.2.1, I ta2.2.2.2.1, I ta2.2.2.2.2.1, I ta2.2.2.2.2.2.1, I ta2.2.2.2.2.2.2.1, I ta2.2.2.2.2.2.2.2.1, I ta2.2.2.2.2.2.2.2.2.1, I ta2.2.2.2.2.2.2.2.2.2]] : List D))))
    else none
    else none
  else
  some (.inr sa.2)
noncomputable def T_law04_own_L1 (a0 : List D) (sa : (Int × List D)) : List (Nat × AV) := [(3, .own 5 0), (6, .d (.lst false 10 a0)), (7, .d (I ((a0).length : Int))), (8, .d (I sa.1))]
noncomputable def H_law04_own_L1 (a0 : List D) (sa : (Int × List D)) : List (Nat × Blk) := [(5, .row 0 10 sa.2)]
noncomputable def X_law04_own_L1 (a0 : List D) (e : (List D)) : Ex := (.exit 0)
noncomputable def XT_law04_own_L1 (a0 : List D) (e : (List D)) : List (Nat × AV) := [(3, .own 5 0)]
noncomputable def XH_law04_own_L1 (a0 : List D) (e : (List D)) : List (Nat × Blk) := [(5, .row 0 10 e)]
theorem R_law04_own_L1 {n : Nat} {a0 : List D} (sa : (Int × List D)) (r) (h : F_law04_own_L1 n a0 sa = some r) : Rd cx (loopAt cx.P 8 0) 18 0 false (T_law04_own_L1 a0) (H_law04_own_L1 a0) (X_law04_own_L1 a0) (XT_law04_own_L1 a0) (XH_law04_own_L1 a0) sa r := by
  unfold F_law04_own_L1 at h
  by_cases ha1 : sa.1 < ((a0).length : Int)
  · replace h := ite_t h ha1
    obtain ⟨ta2, ha2, h⟩ := bnd_of h
    obtain ⟨ha3, h⟩ := grd_of h
    obtain ⟨ha4, h⟩ := grd_of h
    replace h := Option.some.inj h
    subst h
    exact ⟨100, 6, [.br true, .el (enc_Asi9Z ta2), .br true], [], [3, 6, 7, 8], [5], round_fr (allC ha4 (allC ((room_of (b := 88) (by kernel_rfl) (by decide) ha3) : room cx 58 ((sa.2).length + 1)) (allC (el_ok un_Asi9Z_ok ha2).1 (allC (el_ok un_Asi9Z_ok ha2).2 (allC (decide_eq_true ha1) allN))))) (by kernel_rfl)⟩
  · replace h := ite_f h ha1
    replace h := Option.some.inj h
    subst h
    exact ⟨⟨100, 6, [.br false], [], [3], [5], round_fr (allC (decide_eq_false ha1) allN) (by kernel_rfl)⟩, nofun⟩
/- spillage/spillagelaw04.own: .lst false 10 a0 -/
def F_law04_own (n : Nat) (a0 : List D) : Option (List D) :=
  (loopF (F_law04_own_L1 n a0) n (0, [])).bind fun t1 =>
  some t1
theorem c_law04_own {n : Nat} {a0 : List D} {r : List D} (h : F_law04_own n a0 = some r) : Computes cx 8 [.lst false 10 a0] (.lst false 10 r) := by
  unfold F_law04_own at h
  obtain ⟨t1, h1, h⟩ := bnd_of h
  replace h := Option.some.inj h
  subst h
  exact run_fr (n := 100) (orc := [.lp [3, 10] [3, 6, 7, 8] [5] (.exit 0) [(3, .own 5 0)] [(5, .row 0 10 t1)] 29]) (allC (loopF_to R_law04_own_L1 h1) allN) (by kernel_rfl)
def enc_b (x : Bool) : D := B x
def un_b (d : D) : Option (Bool) := un_bool d
theorem un_b_ok {d : D} {x : Bool} (h : un_b d = some x) : d = enc_b x := un_bool_ok h
/- spillage/field.when: B false, I 9 -/
def F_field_when_3 (n : Nat)  : Option (Int) :=
  some 0
theorem c_field_when_3 {n : Nat}  {r : Int} (h : F_field_when_3 n  = some r) : Computes cx 56 [B false, I 9] (I r) := by
  unfold F_field_when_3 at h
  replace h := Option.some.inj h
  subst h
  exact run_fr (n := 100) (orc := [.no]) allN (by kernel_rfl)
def F_field_CheckMirrors_L1 (n : Nat) (a0 : List D) (sa : (Int × List D)) : Option (((Int × List D)) ⊕ ((Int) ⊕ (Unit))) :=
  if sa.1 < ((a0).length : Int) then
    (el un_Asi9Z a0 sa.1).bind fun ta2 =>
    (F_field_Mirror_check n ta2.1 ta2.2.1 ta2.2.2.1 ta2.2.2.2.1 ta2.2.2.2.2.1 ta2.2.2.2.2.2.1 ta2.2.2.2.2.2.2.1 ta2.2.2.2.2.2.2.2.1 ta2.2.2.2.2.2.2.2.2.1 ta2.2.2.2.2.2.2.2.2.2).bind fun ta3 =>
    if mok (.string ta2.1) (sa.2 : List D) = true then
    if (mfind (.string ta2.1) (sa.2 : List D)).isSome = true then
      ((mfind (.string ta2.1) (sa.2 : List D)).bind un_b).bind fun ta6 =>
      (F_field_when n ta6 9).bind fun ta7 =>
      (F_field_first n ([I ta3, I ta7])).bind fun ta8 =>
      if ta8 = 0 then
        if inI64 (sa.1 + 1) then
        some (.inl ((sa.1 + 1), (mput (.string ta2.1) (B true) (sa.2 : List D))))
        else none
      else
      some (.inr (.inl ta8))
    else
    (F_field_when_3 n).bind fun ta6 =>
    (F_field_first n ([I ta3, I ta6])).bind fun ta7 =>
    if ta7 = 0 then
      if inI64 (sa.1 + 1) then
      some (.inl ((sa.1 + 1), (mput (.string ta2.1) (B true) (sa.2 : List D))))
      else none
    else
    some (.inr (.inl ta7))
    else none
  else
  some (.inr (.inr ()))
noncomputable def T_field_CheckMirrors_L1 (a0 : List D) (sa : (Int × List D)) : List (Nat × AV) := [(3, .own 4 0), (11, .d (.lst false 10 a0)), (12, .d (I ((a0).length : Int))), (13, .d (I sa.1))]
noncomputable def H_field_CheckMirrors_L1 (a0 : List D) (sa : (Int × List D)) : List (Nat × Blk) := [(4, .mp sa.2)]
noncomputable def X_field_CheckMirrors_L1 (a0 : List D) (e : (Int) ⊕ (Unit)) : Ex := match e with
  | (.inl e) => .ret
  | (.inr e) => (.exit 0)
noncomputable def XT_field_CheckMirrors_L1 (a0 : List D) (e : (Int) ⊕ (Unit)) : List (Nat × AV) := match e with
  | (.inl e) => [(2, .d (I e))]
  | (.inr e) => []
noncomputable def XH_field_CheckMirrors_L1 (a0 : List D) (e : (Int) ⊕ (Unit)) : List (Nat × Blk) := match e with
  | (.inl e) => []
  | (.inr e) => []
theorem R_field_CheckMirrors_L1 {n : Nat} {a0 : List D} (sa : (Int × List D)) (r) (h : F_field_CheckMirrors_L1 n a0 sa = some r) : Rd cx (loopAt cx.P 39 0) 33 0 false (T_field_CheckMirrors_L1 a0) (H_field_CheckMirrors_L1 a0) (X_field_CheckMirrors_L1 a0) (XT_field_CheckMirrors_L1 a0) (XH_field_CheckMirrors_L1 a0) sa r := by
  unfold F_field_CheckMirrors_L1 at h
  by_cases ha1 : sa.1 < ((a0).length : Int)
  · replace h := ite_t h ha1
    obtain ⟨ta2, ha2, h⟩ := bnd_of h
    obtain ⟨ta3, ha3, h⟩ := bnd_of h
    obtain ⟨ha4, h⟩ := grd_of h
    by_cases ha5 : (mfind (.string ta2.1) (sa.2 : List D)).isSome = true
    · replace h := ite_t h ha5
      obtain ⟨ta6, ha6, h⟩ := bnd_of h
      obtain ⟨ta7, ha7, h⟩ := bnd_of h
      obtain ⟨ta8, ha8, h⟩ := bnd_of h
      by_cases ha9 : ta8 = 0
      · replace h := ite_t h ha9
        obtain ⟨ha10, h⟩ := grd_of h
        replace h := Option.some.inj h
        subst h
        exact ⟨100, 9, [.br true, .el (enc_Asi9Z ta2), .ret (I ta3), .el (B ta6), .ret (I ta7), .ret (I ta8), .br false, .br true], [], [3, 11, 12, 13], [4], round_fr (allC ha10 (allC ha4 (allC (nef ha9) (allC (((c_field_first ha8).le (.cons (.full _ _ _) (.nil)) (.refl _)) : Computes cx 52 [.lst true 1 [I ta3, I ta7]] (I ta8)) (allC (c_field_when ha7) (allC ((mlook_hit1 ha4 (mel_ok un_b_ok ha6)) : mlook false (.string ta2.1) (B false) (sa.2 : List D) = some (B ta6)) (allC (c_field_Mirror_check ha3) (allC (el_ok un_Asi9Z_ok ha2).1 (allC (el_ok un_Asi9Z_ok ha2).2 (allC (decide_eq_true ha1) allN)))))))))) (by kernel_rfl)⟩
      · replace h := ite_f h ha9
        replace h := Option.some.inj h
        subst h
        exact ⟨⟨100, 9, [.br true, .el (enc_Asi9Z ta2), .ret (I ta3), .el (B ta6), .ret (I ta7), .ret (I ta8), .br true], [], [2], [], round_fr (allC (net ha9) (allC (((c_field_first ha8).le (.cons (.full _ _ _) (.nil)) (.refl _)) : Computes cx 52 [.lst true 1 [I ta3, I ta7]] (I ta8)) (allC (c_field_when ha7) (allC ((mlook_hit1 ha4 (mel_ok un_b_ok ha6)) : mlook false (.string ta2.1) (B false) (sa.2 : List D) = some (B ta6)) (allC (c_field_Mirror_check ha3) (allC (el_ok un_Asi9Z_ok ha2).1 (allC (el_ok un_Asi9Z_ok ha2).2 (allC (decide_eq_true ha1) allN)))))))) (by kernel_rfl)⟩, nofun⟩
    · replace h := ite_f h ha5
      obtain ⟨ta6, ha6, h⟩ := bnd_of h
      obtain ⟨ta7, ha7, h⟩ := bnd_of h
      by_cases ha8 : ta7 = 0
      · replace h := ite_t h ha8
        obtain ⟨ha9, h⟩ := grd_of h
        replace h := Option.some.inj h
        subst h
        exact ⟨100, 9, [.br true, .el (enc_Asi9Z ta2), .ret (I ta3), .el (B false), .ret (I ta6), .ret (I ta7), .br false, .br true], [], [3, 11, 12, 13], [4], round_fr (allC ha9 (allC ha4 (allC (nef ha8) (allC (((c_field_first ha7).le (.cons (.full _ _ _) (.nil)) (.refl _)) : Computes cx 52 [.lst true 1 [I ta3, I ta6]] (I ta7)) (allC (c_field_when_3 ha6) (allC ((mlook_miss1 ha4 (mno ha5)) : mlook false (.string ta2.1) (B false) (sa.2 : List D) = some (B false)) (allC (c_field_Mirror_check ha3) (allC (el_ok un_Asi9Z_ok ha2).1 (allC (el_ok un_Asi9Z_ok ha2).2 (allC (decide_eq_true ha1) allN)))))))))) (by kernel_rfl)⟩
      · replace h := ite_f h ha8
        replace h := Option.some.inj h
        subst h
        exact ⟨⟨100, 9, [.br true, .el (enc_Asi9Z ta2), .ret (I ta3), .el (B false), .ret (I ta6), .ret (I ta7), .br true], [], [2], [], round_fr (allC (net ha8) (allC (((c_field_first ha7).le (.cons (.full _ _ _) (.nil)) (.refl _)) : Computes cx 52 [.lst true 1 [I ta3, I ta6]] (I ta7)) (allC (c_field_when_3 ha6) (allC ((mlook_miss1 ha4 (mno ha5)) : mlook false (.string ta2.1) (B false) (sa.2 : List D) = some (B false)) (allC (c_field_Mirror_check ha3) (allC (el_ok un_Asi9Z_ok ha2).1 (allC (el_ok un_Asi9Z_ok ha2).2 (allC (decide_eq_true ha1) allN)))))))) (by kernel_rfl)⟩, nofun⟩
  · replace h := ite_f h ha1
    replace h := Option.some.inj h
    subst h
    exact ⟨⟨100, 9, [.br false], [], [], [], round_fr (allC (decide_eq_false ha1) allN) (by kernel_rfl)⟩, nofun⟩
/- spillage/field.CheckMirrors: .lst false 10 a0 -/
def F_field_CheckMirrors (n : Nat) (a0 : List D) : Option (Int) :=
  if ((a0).length : Int) > 64 then
    some 5
  else
  (loopF (F_field_CheckMirrors_L1 n a0) n (0, [])).bind fun t2 => match t2 with
    | (.inl t2) => (
      some t2)
    | (.inr t2) => (
      some 0)
theorem c_field_CheckMirrors {n : Nat} {a0 : List D} {r : Int} (h : F_field_CheckMirrors n a0 = some r) : Computes cx 39 [.lst false 10 a0] (I r) := by
  unfold F_field_CheckMirrors at h
  by_cases h1 : ((a0).length : Int) > 64
  · replace h := ite_t h h1
    replace h := Option.some.inj h
    subst h
    exact run_fr (n := 100) (orc := [.br true]) (allC (decide_eq_true h1) allN) (by kernel_rfl)
  · replace h := ite_f h h1
    obtain ⟨t2, h2, h⟩ := bnd_of h
    rcases t2 with t2 | t2
    · replace h := Option.some.inj h
      subst h
      exact run_fr (n := 100) (orc := [.br false, .lp [] [3, 11, 12, 13] [4] .ret [(2, .d (I t2))] [] 43]) (allC (loopF_to R_field_CheckMirrors_L1 h2) (allC (decide_eq_false h1) allN)) (by kernel_rfl)
    · replace h := Option.some.inj h
      subst h
      exact run_fr (n := 100) (orc := [.br false, .lp [] [3, 11, 12, 13] [4] (.exit 0) [] [] 43]) (allC (loopF_to R_field_CheckMirrors_L1 h2) (allC (decide_eq_false h1) allN)) (by kernel_rfl)
/- spillage/field.parts:  -/
def F_field_parts (n : Nat)  : Option (Unit) :=
  some ()
theorem c_field_parts {n : Nat}  {r : Unit} (h : F_field_parts n  = some r) : Computes cx 93 [] (.agg [.fn (.func 130) [] [], .fn (.func 131) [] [], .fn (.func 132) [] []]) := by
  unfold F_field_parts at h
  replace h := Option.some.inj h
  subst h
  exact run_fr (n := 100) (orc := []) allN (by kernel_rfl)
/- (spillage/field.Mirror).line: .agg [.v (.string a0), I a1, I a2, I a3, I a4, I a5, I a6, I a7, I a8, I a9] -/
def F_field_Mirror_line (n : Nat) (a0 : ByteArray) (a1 : Int) (a2 : Int) (a3 : Int) (a4 : Int) (a5 : Int) (a6 : Int) (a7 : Int) (a8 : Int) (a9 : Int) : Option (ByteArray) :=
  (F_field_parts n).bind fun t1 =>
  (F_strconv_Itoa n a1).bind fun t2 =>
  (F_strconv_Itoa n a2).bind fun t3 =>
  (F_strconv_Itoa n a3).bind fun t4 =>
  (F_strconv_Itoa n a4).bind fun t5 =>
  (F_strconv_Itoa n a5).bind fun t6 =>
  (F_strconv_Itoa n a6).bind fun t7 =>
  (F_strconv_Itoa n a7).bind fun t8 =>
  (F_strconv_Itoa n a8).bind fun t9 =>
  (F_strconv_Itoa n a9).bind fun t10 =>
  (F_strings_Join n ([.v (.string ⟨#[109, 105, 114, 114, 111, 114]⟩), .v (.string a0), .v (.string t2), .v (.string t3), .v (.string t4), .v (.string t5), .v (.string t6), .v (.string t7), .v (.string t8), .v (.string t9), .v (.string t10)]) (⟨#[32]⟩)).bind fun t11 =>
  if t11.size + (⟨#[10]⟩ : ByteArray).size ≤ 9223372036854775807 then
  some (t11 ++ (⟨#[10]⟩ : ByteArray))
  else none
theorem c_field_Mirror_line {n : Nat} {a0 : ByteArray} {a1 : Int} {a2 : Int} {a3 : Int} {a4 : Int} {a5 : Int} {a6 : Int} {a7 : Int} {a8 : Int} {a9 : Int} {r : ByteArray} (h : F_field_Mirror_line n a0 a1 a2 a3 a4 a5 a6 a7 a8 a9 = some r) : Computes cx 42 [.agg [.v (.string a0), I a1, I a2, I a3, I a4, I a5, I a6, I a7, I a8, I a9]] (.v (.string r)) := by
  unfold F_field_Mirror_line at h
  obtain ⟨t1, h1, h⟩ := bnd_of h
  obtain ⟨t2, h2, h⟩ := bnd_of h
  obtain ⟨t3, h3, h⟩ := bnd_of h
  obtain ⟨t4, h4, h⟩ := bnd_of h
  obtain ⟨t5, h5, h⟩ := bnd_of h
  obtain ⟨t6, h6, h⟩ := bnd_of h
  obtain ⟨t7, h7, h⟩ := bnd_of h
  obtain ⟨t8, h8, h⟩ := bnd_of h
  obtain ⟨t9, h9, h⟩ := bnd_of h
  obtain ⟨t10, h10, h⟩ := bnd_of h
  obtain ⟨t11, h11, h⟩ := bnd_of h
  obtain ⟨h12, h⟩ := grd_of h
  replace h := Option.some.inj h
  subst h
  exact run_fr (n := 100) (orc := [.no, .no, .no, .ret (.agg [.fn (.func 130) [] [], .fn (.func 131) [] [], .fn (.func 132) [] []]), .no, .no, .br true, .ret (.v (.string t2)), .no, .no, .no, .no, .br true, .ret (.v (.string t3)), .no, .no, .no, .br true, .ret (.v (.string t4)), .no, .no, .no, .no, .no, .no, .ret (.agg [.fn (.func 130) [] [], .fn (.func 131) [] [], .fn (.func 132) [] []]), .no, .no, .br true, .ret (.v (.string t5)), .no, .no, .no, .br true, .ret (.v (.string t6)), .no, .no, .no, .br true, .ret (.v (.string t7)), .no, .no, .no, .no, .no, .no, .ret (.agg [.fn (.func 130) [] [], .fn (.func 131) [] [], .fn (.func 132) [] []]), .no, .no, .br true, .ret (.v (.string t8)), .no, .no, .no, .br true, .ret (.v (.string t9)), .no, .no, .no, .br true, .ret (.v (.string t10)), .no, .no, .no, .no, .no, .ret (.v (.string t11))]) (allC h12 (allC ((c_strings_Join h11) : Computes cx 40 [.lst false 1 [.v (.string ⟨#[109, 105, 114, 114, 111, 114]⟩), .v (.string a0), .v (.string t2), .v (.string t3), .v (.string t4), .v (.string t5), .v (.string t6), .v (.string t7), .v (.string t8), .v (.string t9), .v (.string t10)], .v (.string ⟨#[32]⟩)] (.v (.string t11))) (allC ((by unfold inI64; omega) : inI64 3) (allC ((by unfold inI64; omega) : inI64 3) (allC (c_strconv_Itoa h10) (allC ((by unfold inI64; omega) : inI64 2) (allC (c_strconv_Itoa h9) (allC ((by unfold inI64; omega) : inI64 1) (allC (c_strconv_Itoa h8) (allC (c_field_parts h1) (allC ((by unfold inI64; omega) : inI64 2) (allC ((by unfold inI64; omega) : inI64 3) (allC (c_strconv_Itoa h7) (allC ((by unfold inI64; omega) : inI64 2) (allC (c_strconv_Itoa h6) (allC ((by unfold inI64; omega) : inI64 1) (allC (c_strconv_Itoa h5) (allC (c_field_parts h1) (allC ((by unfold inI64; omega) : inI64 1) (allC ((by unfold inI64; omega) : inI64 3) (allC (c_strconv_Itoa h4) (allC ((by unfold inI64; omega) : inI64 2) (allC (c_strconv_Itoa h3) (allC ((by unfold inI64; omega) : inI64 1) (allC (c_strconv_Itoa h2) (allC (c_field_parts h1) allN)))))))))))))))))))))))))) (by kernel_rfl)
def F_field_mapped_g_L1 (n : Nat) (a0 : List D) (sa : (Int × List D)) : Option (((Int × List D)) ⊕ ((List D))) :=
  if sa.1 < ((a0).length : Int) then
    (el un_Asi9Z a0 sa.1).bind fun ta2 =>
    (F_field_Mirror_line n ta2.1 ta2.2.1 ta2.2.2.1 ta2.2.2.2.1 ta2.2.2.2.2.1 ta2.2.2.2.2.2.1 ta2.2.2.2.2.2.2.1 ta2.2.2.2.2.2.2.2.1 ta2.2.2.2.2.2.2.2.2.1 ta2.2.2.2.2.2.2.2.2.2).bind fun ta3 =>
    if roomP 16 ((sa.2).length + 1) then
    if inI64 (sa.1 + 1) then
    some (.inl ((sa.1 + 1), (sa.2 ++ ([.v (.string ta3)] : List D))))
    else none
    else none
  else
  some (.inr sa.2)
noncomputable def T_field_mapped_g_L1 (a0 : List D) (sa : (Int × List D)) : List (Nat × AV) := [(1, .d (.fn (.func 42) [] [])), (5, .own 5 0), (8, .d (.lst false 10 a0)), (9, .d (I ((a0).length : Int))), (10, .d (I sa.1))]
noncomputable def H_field_mapped_g_L1 (a0 : List D) (sa : (Int × List D)) : List (Nat × Blk) := [(5, .row 0 1 sa.2)]
noncomputable def X_field_mapped_g_L1 (a0 : List D) (e : (List D)) : Ex := (.exit 0)
noncomputable def XT_field_mapped_g_L1 (a0 : List D) (e : (List D)) : List (Nat × AV) := [(5, .own 5 0)]
noncomputable def XH_field_mapped_g_L1 (a0 : List D) (e : (List D)) : List (Nat × Blk) := [(5, .row 0 1 e)]
theorem R_field_mapped_g_L1 {n : Nat} {a0 : List D} (sa : (Int × List D)) (r) (h : F_field_mapped_g_L1 n a0 sa = some r) : Rd cx (loopAt cx.P 41 0) 22 0 false (T_field_mapped_g_L1 a0) (H_field_mapped_g_L1 a0) (X_field_mapped_g_L1 a0) (XT_field_mapped_g_L1 a0) (XH_field_mapped_g_L1 a0) sa r := by
  unfold F_field_mapped_g_L1 at h
  by_cases ha1 : sa.1 < ((a0).length : Int)
  · replace h := ite_t h ha1
    obtain ⟨ta2, ha2, h⟩ := bnd_of h
    obtain ⟨ta3, ha3, h⟩ := bnd_of h
    obtain ⟨ha4, h⟩ := grd_of h
    obtain ⟨ha5, h⟩ := grd_of h
    replace h := Option.some.inj h
    subst h
    exact ⟨100, 6, [.br true, .el (enc_Asi9Z ta2), .ret (.v (.string ta3)), .br true], [], [1, 5, 8, 9, 10], [5], round_fr (allC ha5 (allC ((room_of (b := 16) (by kernel_rfl) (by decide) ha4) : room cx 9 ((sa.2).length + 1)) (allC (c_field_Mirror_line ha3) (allC (el_ok un_Asi9Z_ok ha2).1 (allC (el_ok un_Asi9Z_ok ha2).2 (allC (decide_eq_true ha1) allN)))))) (by kernel_rfl)⟩
  · replace h := ite_f h ha1
    replace h := Option.some.inj h
    subst h
    exact ⟨⟨100, 6, [.br false], [], [5], [5], round_fr (allC (decide_eq_false ha1) allN) (by kernel_rfl)⟩, nofun⟩
/- spillage/field.mapped[spillage/field.Mirror,string]: .lst false 10 a0, .fn (.func 42) [] [] -/
def F_field_mapped_g (n : Nat) (a0 : List D) : Option (List D) :=
  (loopF (F_field_mapped_g_L1 n a0) n (0, [])).bind fun t1 =>
  some t1
theorem c_field_mapped_g {n : Nat} {a0 : List D} {r : List D} (h : F_field_mapped_g n a0 = some r) : Computes cx 41 [.lst false 10 a0, .fn (.func 42) [] []] (.lst false 1 r) := by
  unfold F_field_mapped_g at h
  obtain ⟨t1, h1, h⟩ := bnd_of h
  replace h := Option.some.inj h
  subst h
  exact run_fr (n := 100) (orc := [.lp [5, 1] [1, 5, 8, 9, 10] [5] (.exit 0) [(5, .own 5 0)] [(5, .row 0 1 t1)] 31]) (allC (loopF_to R_field_mapped_g_L1 h1) allN) (by kernel_rfl)
/- spillage/field.Print: .lst false 10 a0 -/
def F_field_Print (n : Nat) (a0 : List D) : Option (ByteArray × Int) :=
  (F_field_CheckMirrors n a0).bind fun t1 =>
  if t1 = 0 then
    (F_field_mapped_g n a0).bind fun t3 =>
    (F_strings_Join n t3 (⟨#[]⟩)).bind fun t4 =>
    some (t4, 0)
  else
  some (⟨#[]⟩, t1)
theorem c_field_Print {n : Nat} {a0 : List D} {r : ByteArray × Int} (h : F_field_Print n a0 = some r) : Computes cx 7 [.lst false 10 a0] (.tup [.v (.string r.1), I r.2]) := by
  unfold F_field_Print at h
  obtain ⟨t1, h1, h⟩ := bnd_of h
  by_cases h2 : t1 = 0
  · replace h := ite_t h h2
    obtain ⟨t3, h3, h⟩ := bnd_of h
    obtain ⟨t4, h4, h⟩ := bnd_of h
    replace h := Option.some.inj h
    subst h
    exact run_fr (n := 100) (orc := [.ret (I t1), .br false, .ret (.lst false 1 t3), .ret (.v (.string t4))]) (allC ((c_strings_Join h4) : Computes cx 40 [.lst false 1 t3, .v (.string ⟨#[]⟩)] (.v (.string t4))) (allC (c_field_mapped_g h3) (allC (nef h2) (allC (c_field_CheckMirrors h1) allN)))) (by kernel_rfl)
  · replace h := ite_f h h2
    replace h := Option.some.inj h
    subst h
    exact run_fr (n := 100) (orc := [.ret (I t1), .br true]) (allC (net h2) (allC (c_field_CheckMirrors h1) allN)) (by kernel_rfl)
/- internal/stringslite.HasSuffix: .v (.string a0), .v (.string ⟨#[10]⟩) -/
def F_stringslite_HasSuffix (n : Nat) (a0 : ByteArray) : Option (Bool) :=
  if (a0.size : Int) ≥ 1 then
    if inI64 ((a0.size : Int) - 1) then
    (strSub a0 (some ((a0.size : Int) - 1)) none).bind fun t3 =>
    some (t3.toList == (⟨#[10]⟩ : ByteArray).toList)
    else none
  else
  some false
theorem c_stringslite_HasSuffix {n : Nat} {a0 : ByteArray} {r : Bool} (h : F_stringslite_HasSuffix n a0 = some r) : Computes cx 135 [.v (.string a0), .v (.string ⟨#[10]⟩)] (B r) := by
  unfold F_stringslite_HasSuffix at h
  by_cases h1 : (a0.size : Int) ≥ 1
  · replace h := ite_t h h1
    obtain ⟨h2, h⟩ := grd_of h
    obtain ⟨t3, h3, h⟩ := bnd_of h
    replace h := Option.some.inj h
    subst h
    exact run_fr (n := 100) (orc := [.br true, .el (.v (.string t3))]) (allC (strSub_ok h3 : pureRun cx.P (Instr.sliceAt 9 (.string a0) (some (.int .i64 ((a0.size : Int) - 1))) none none) = some (.string t3)) (allC h2 (allC (decide_eq_true h1) allN))) (by kernel_rfl)
  · replace h := ite_f h h1
    replace h := Option.some.inj h
    subst h
    exact run_fr (n := 100) (orc := [.br false]) (allC (decide_eq_false h1) allN) (by kernel_rfl)
/- internal/stringslite.CutSuffix: .v (.string a0), .v (.string ⟨#[10]⟩) -/
def F_stringslite_CutSuffix (n : Nat) (a0 : ByteArray) : Option (ByteArray × Bool) :=
  (F_stringslite_HasSuffix n a0).bind fun t1 =>
  if t1 = true then
    if inI64 ((a0.size : Int) - 1) then
    (strSub a0 none (some ((a0.size : Int) - 1))).bind fun t4 =>
    some (t4, true)
    else none
  else
  some (a0, false)
theorem c_stringslite_CutSuffix {n : Nat} {a0 : ByteArray} {r : ByteArray × Bool} (h : F_stringslite_CutSuffix n a0 = some r) : Computes cx 97 [.v (.string a0), .v (.string ⟨#[10]⟩)] (.tup [.v (.string r.1), B r.2]) := by
  unfold F_stringslite_CutSuffix at h
  obtain ⟨t1, h1, h⟩ := bnd_of h
  by_cases h2 : t1 = true
  · replace h := ite_t h h2
    obtain ⟨h3, h⟩ := grd_of h
    obtain ⟨t4, h4, h⟩ := bnd_of h
    replace h := Option.some.inj h
    subst h
    exact run_fr (n := 100) (orc := [.ret (B t1), .br false, .el (.v (.string t4))]) (allC (strSub_ok h4 : pureRun cx.P (Instr.sliceAt 9 (.string a0) none (some (.int .i64 ((a0.size : Int) - 1))) none) = some (.string t4)) (allC h3 (allC (notf h2) (allC (c_stringslite_HasSuffix h1) allN)))) (by kernel_rfl)
  · replace h := ite_f h h2
    replace h := Option.some.inj h
    subst h
    exact run_fr (n := 100) (orc := [.ret (B t1), .br true]) (allC (nott (bfalse h2)) (allC (c_stringslite_HasSuffix h1) allN)) (by kernel_rfl)
/- strings.CutSuffix: .v (.string a0), .v (.string ⟨#[10]⟩) -/
def F_strings_CutSuffix (n : Nat) (a0 : ByteArray) : Option (ByteArray × Bool) :=
  (F_stringslite_CutSuffix n a0).bind fun t1 =>
  some (t1.1, t1.2)
theorem c_strings_CutSuffix {n : Nat} {a0 : ByteArray} {r : ByteArray × Bool} (h : F_strings_CutSuffix n a0 = some r) : Computes cx 44 [.v (.string a0), .v (.string ⟨#[10]⟩)] (.tup [.v (.string r.1), B r.2]) := by
  unfold F_strings_CutSuffix at h
  obtain ⟨t1, h1, h⟩ := bnd_of h
  replace h := Option.some.inj h
  subst h
  exact run_fr (n := 100) (orc := [.ret (.tup [.v (.string t1.1), B t1.2])]) (allC (c_stringslite_CutSuffix h1) allN) (by kernel_rfl)
/- internal/stringslite.Index: .v (.string a0), .v (.string ⟨#[32]⟩) -/
def F_stringslite_Index (n : Nat) (a0 : ByteArray) : Option (Int) :=
  if ((⟨#[32]⟩ : ByteArray).toList == a0.toList) = true then
    some 0
  else
  (F_lite_IndexByte n a0 32).bind fun t2 =>
  some t2
theorem c_stringslite_Index {n : Nat} {a0 : ByteArray} {r : Int} (h : F_stringslite_Index n a0 = some r) : Computes cx 181 [.v (.string a0), .v (.string ⟨#[32]⟩)] (I r) := by
  unfold F_stringslite_Index at h
  by_cases h1 : ((⟨#[32]⟩ : ByteArray).toList == a0.toList) = true
  · replace h := ite_t h h1
    replace h := Option.some.inj h
    subst h
    exact run_fr (n := 100) (orc := [.no, .br true]) (allC h1 allN) (by kernel_rfl)
  · replace h := ite_f h h1
    obtain ⟨t2, h2, h⟩ := bnd_of h
    replace h := Option.some.inj h
    subst h
    exact run_fr (n := 100) (orc := [.no, .br false, .no, .no, .ret (I t2)]) (allC (c_lite_IndexByte h2) (allC (bfalse h1) allN)) (by kernel_rfl)
/- strings.Index: .v (.string a0), .v (.string ⟨#[32]⟩) -/
def F_strings_Index (n : Nat) (a0 : ByteArray) : Option (Int) :=
  (F_stringslite_Index n a0).bind fun t1 =>
  some t1
theorem c_strings_Index {n : Nat} {a0 : ByteArray} {r : Int} (h : F_strings_Index n a0 = some r) : Computes cx 159 [.v (.string a0), .v (.string ⟨#[32]⟩)] (I r) := by
  unfold F_strings_Index at h
  obtain ⟨t1, h1, h⟩ := bnd_of h
  replace h := Option.some.inj h
  subst h
  exact run_fr (n := 100) (orc := [.ret (I t1)]) (allC (c_stringslite_Index h1) allN) (by kernel_rfl)
def F_strings_genSplit_L1 (n : Nat) (a0 : ByteArray) (t1 : Int) (sa : (ByteArray × Int × List D)) : Option (((ByteArray × Int × List D)) ⊕ ((ByteArray × Int × List D))) :=
  if sa.2.1 < ((minI (t1 + 1) ((a0.size : Int) + 1)) - 1) then
    (F_strings_Index n sa.1).bind fun ta2 =>
    if ta2 < 0 then
      some (.inr (sa.1, sa.2.1, sa.2.2))
    else
    if inI64 (ta2 + 0) then
    (strSub sa.1 none (some (ta2 + 0))).bind fun ta5 =>
    if 0 ≤ sa.2.1 ∧ sa.2.1 < ((sa.2.2).length : Int) then
    if (Int.toNat sa.2.1) < (sa.2.2).length then
    if inI64 (ta2 + 1) then
    (strSub sa.1 (some (ta2 + 1)) none).bind fun ta9 =>
    if inI64 (sa.2.1 + 1) then
    some (.inl (ta9, (sa.2.1 + 1), (List.set sa.2.2 (Int.toNat sa.2.1) (.v (.string ta5) : D))))
    else none
    else none
    else none
    else none
    else none
  else
  some (.inr (sa.1, sa.2.1, sa.2.2))
noncomputable def T_strings_genSplit_L1 (a0 : ByteArray) (t1 : Int) (sa : (ByteArray × Int × List D)) : List (Nat × AV) := [(0, .d (.v (.string sa.1))), (1, .d (.v (.string ⟨#[32]⟩))), (2, .d (I 0)), (3, .d (I ((minI (t1 + 1) ((a0.size : Int) + 1)) - 1))), (9, .own 19 0), (10, .d (I sa.2.1))]
noncomputable def H_strings_genSplit_L1 (a0 : ByteArray) (t1 : Int) (sa : (ByteArray × Int × List D)) : List (Nat × Blk) := [(19, .row 0 1 sa.2.2)]
noncomputable def X_strings_genSplit_L1 (a0 : ByteArray) (t1 : Int) (e : (ByteArray × Int × List D)) : Ex := (.exit 0)
noncomputable def XT_strings_genSplit_L1 (a0 : ByteArray) (t1 : Int) (e : (ByteArray × Int × List D)) : List (Nat × AV) := [(0, .d (.v (.string e.1))), (9, .own 19 0), (10, .d (I e.2.1))]
noncomputable def XH_strings_genSplit_L1 (a0 : ByteArray) (t1 : Int) (e : (ByteArray × Int × List D)) : List (Nat × Blk) := [(19, .row 0 1 e.2.2)]
theorem R_strings_genSplit_L1 {n : Nat} {a0 : ByteArray} {t1 : Int} (sa : (ByteArray × Int × List D)) (r) (h : F_strings_genSplit_L1 n a0 t1 sa = some r) : Rd cx (loopAt cx.P 136 0) 66 0 false (T_strings_genSplit_L1 a0 t1) (H_strings_genSplit_L1 a0 t1) (X_strings_genSplit_L1 a0 t1) (XT_strings_genSplit_L1 a0 t1) (XH_strings_genSplit_L1 a0 t1) sa r := by
  unfold F_strings_genSplit_L1 at h
  by_cases ha1 : sa.2.1 < ((minI (t1 + 1) ((a0.size : Int) + 1)) - 1)
  · replace h := ite_t h ha1
    obtain ⟨ta2, ha2, h⟩ := bnd_of h
    by_cases ha3 : ta2 < 0
    · replace h := ite_t h ha3
      replace h := Option.some.inj h
      subst h
      exact ⟨⟨100, 25, [.br true, .ret (I ta2), .br true], [], [0, 9, 10], [19], round_fr (allC (decide_eq_true ha3) (allC (c_strings_Index ha2) (allC (decide_eq_true ha1) allN))) (by kernel_rfl)⟩, nofun⟩
    · replace h := ite_f h ha3
      obtain ⟨ha4, h⟩ := grd_of h
      obtain ⟨ta5, ha5, h⟩ := bnd_of h
      obtain ⟨ha6, h⟩ := grd_of h
      obtain ⟨ha7, h⟩ := grd_of h
      obtain ⟨ha8, h⟩ := grd_of h
      obtain ⟨ta9, ha9, h⟩ := bnd_of h
      obtain ⟨ha10, h⟩ := grd_of h
      replace h := Option.some.inj h
      subst h
      exact ⟨100, 25, [.br true, .ret (I ta2), .br false, .el (.v (.string ta5)), .br true, .br true, .el (.v (.string ta9))], [], [0, 1, 2, 3, 9, 10], [19], round_fr (allC ha10 (allC (strSub_ok ha9 : pureRun cx.P (Instr.sliceAt 9 (.string sa.1) (some (.int .i64 (ta2 + 1))) none none) = some (.string ta9)) (allC ha8 (allC ha7 (allC ha6 (allC (strSub_ok ha5 : pureRun cx.P (Instr.sliceAt 9 (.string sa.1) none (some (.int .i64 (ta2 + 0))) none) = some (.string ta5)) (allC ha4 (allC (decide_eq_false ha3) (allC (c_strings_Index ha2) (allC (decide_eq_true ha1) allN)))))))))) (by kernel_rfl)⟩
  · replace h := ite_f h ha1
    replace h := Option.some.inj h
    subst h
    exact ⟨⟨100, 25, [.br false], [], [0, 9, 10], [19], round_fr (allC (decide_eq_false ha1) allN) (by kernel_rfl)⟩, nofun⟩
/- strings.genSplit: .v (.string a0), .v (.string ⟨#[32]⟩), I 0, I (-1) -/
def F_strings_genSplit (n : Nat) (a0 : ByteArray) : Option (List D) :=
  (F_strings_Count n a0 (⟨#[32]⟩)).bind fun t1 =>
  if inI64 (t1 + 1) then
  if inI64 ((a0.size : Int) + 1) then
  if 0 ≤ (minI (t1 + 1) ((a0.size : Int) + 1)) ∧ (minI (t1 + 1) ((a0.size : Int) + 1)) ≤ (minI (t1 + 1) ((a0.size : Int) + 1)) ∧ 16 * (minI (t1 + 1) ((a0.size : Int) + 1)) ≤ 281474976710656 ∧ (minI (t1 + 1) ((a0.size : Int) + 1)) ≤ 9223372036854775807 then
  if inI64 ((minI (t1 + 1) ((a0.size : Int) + 1)) - 1) then
  (loopF (F_strings_genSplit_L1 n a0 t1) n (a0, 0, (List.replicate (Int.toNat (minI (t1 + 1) ((a0.size : Int) + 1))) (.v (.string ⟨#[]⟩) : D)))).bind fun t6 =>
  if 0 ≤ t6.2.1 ∧ t6.2.1 < ((t6.2.2).length : Int) then
  if (Int.toNat t6.2.1) < (t6.2.2).length then
  if inI64 (t6.2.1 + 1) then
  if (0 : Int) ≤ 0 ∧ 0 ≤ (t6.2.1 + 1) ∧ (t6.2.1 + 1) ≤ (((List.set t6.2.2 (Int.toNat t6.2.1) (.v (.string t6.1) : D)) : List D).length : Int) ∧ ((List.set t6.2.2 (Int.toNat t6.2.1) (.v (.string t6.1) : D)) = [] ∨ 1 = 1) then
  some (((List.set t6.2.2 (Int.toNat t6.2.1) (.v (.string t6.1) : D)).take (Int.toNat (t6.2.1 + 1))).drop (Int.toNat 0))
  else none
  else none
  else none
  else none
  else none
  else none
  else none
  else none
theorem c_strings_genSplit {n : Nat} {a0 : ByteArray} {r : List D} (h : F_strings_genSplit n a0 = some r) : Computes cx 136 [.v (.string a0), .v (.string ⟨#[32]⟩), I 0, I (-1)] (.lst false 1 r) := by
  unfold F_strings_genSplit at h
  obtain ⟨t1, h1, h⟩ := bnd_of h
  obtain ⟨h2, h⟩ := grd_of h
  obtain ⟨h3, h⟩ := grd_of h
  obtain ⟨h4, h⟩ := grd_of h
  obtain ⟨h5, h⟩ := grd_of h
  obtain ⟨t6, h6, h⟩ := bnd_of h
  obtain ⟨h7, h⟩ := grd_of h
  obtain ⟨h8, h⟩ := grd_of h
  obtain ⟨h9, h⟩ := grd_of h
  obtain ⟨h10, h⟩ := grd_of h
  replace h := Option.some.inj h
  subst h
  exact run_fr (n := 100) (orc := [.no, .no, .no, .ret (I t1), .br true, .lp [] [0, 1, 2, 3, 9, 10] [19] (.exit 0) [(0, .d (.v (.string t6.1))), (9, .own 19 0), (10, .d (I t6.2.1))] [(19, .row 0 1 t6.2.2)] 64, .br true, .br true, .br true]) (allC h10 (allC h9 (allC h8 (allC h7 (allC (loopF_to R_strings_genSplit_L1 h6) (allC h5 (allC h4 (allC h3 (allC h2 (allC (c_strings_Count h1) allN)))))))))) (by kernel_rfl)
/- strings.Split: .v (.string a0), .v (.string ⟨#[32]⟩) -/
def F_strings_Split (n : Nat) (a0 : ByteArray) : Option (List D) :=
  (F_strings_genSplit n a0).bind fun t1 =>
  some t1
theorem c_strings_Split {n : Nat} {a0 : ByteArray} {r : List D} (h : F_strings_Split n a0 = some r) : Computes cx 98 [.v (.string a0), .v (.string ⟨#[32]⟩)] (.lst false 1 r) := by
  unfold F_strings_Split at h
  obtain ⟨t1, h1, h⟩ := bnd_of h
  replace h := Option.some.inj h
  subst h
  exact run_fr (n := 100) (orc := [.ret (.lst false 1 t1)]) (allC (c_strings_genSplit h1) allN) (by kernel_rfl)
def enc_s (x : ByteArray) : D := .v (.string x)
def un_s (d : D) : Option (ByteArray) := un_str d
theorem un_s_ok {d : D} {x : ByteArray} (h : un_s d = some x) : d = enc_s x := un_str_ok h
/- (*spillage/field.taker).word -/
def F_field_taker_word (n : Nat) (a0 : List D) (a1 : Bool) : Option (ByteArray × List D × Bool) :=
  if ((a0).length : Int) = 0 then
    some (⟨#[]⟩, [], true)
  else
  (el un_s a0 0).bind fun t2 =>
  if (t2.toList == (⟨#[]⟩ : ByteArray).toList) = true then
    some (⟨#[]⟩, [], true)
  else
  if (0 : Int) ≤ 1 ∧ 1 ≤ ((a0).length : Int) ∧ ((a0).length : Int) ≤ ((a0).length : Int) ∧ (a0 = [] ∨ 1 = 1) then
  some (t2, (a0.drop (Int.toNat 1)), a1)
  else none
theorem c_field_taker_word {n : Nat} {a0 : List D} {a1 : Bool} {r : ByteArray × List D × Bool} (h : F_field_taker_word n a0 a1 = some r) : ComputesO cx 99 [.ptr 0 0 0 0 0] (some [.dat (.lst false 1 a0), .dat (B a1)]) (.d (.v (.string r.1))) [.dat (.lst false 1 r.2.1), .dat (B r.2.2)] := by
  unfold F_field_taker_word at h
  by_cases h1 : ((a0).length : Int) = 0
  · replace h := ite_t h h1
    replace h := Option.some.inj h
    subst h
    exact (run_frO (n := 100) (b := 0) (r := .d (.v (.string ⟨#[]⟩))) (cs := [.dat (.lst true 0 []), .dat (B true)]) (orc := [.br true, .no]) (allC (eqt h1) allN) (by kernel_rfl)).le (.refl _) (.refl _) (.refl _) (.dat (.nilF) (.same _ (.nil)))
  · replace h := ite_f h h1
    obtain ⟨t2, h2, h⟩ := bnd_of h
    by_cases h3 : (t2.toList == (⟨#[]⟩ : ByteArray).toList) = true
    · replace h := ite_t h h3
      replace h := Option.some.inj h
      subst h
      exact (run_frO (n := 100) (b := 0) (r := .d (.v (.string ⟨#[]⟩))) (cs := [.dat (.lst true 0 []), .dat (B true)]) (orc := [.br false, .el (enc_s t2), .br true]) (allC h3 (allC (el_ok un_s_ok h2).1 (allC (el_ok un_s_ok h2).2 (allC (eqf h1) allN)))) (by kernel_rfl)).le (.refl _) (.refl _) (.refl _) (.dat (.nilF) (.same _ (.nil)))
    · replace h := ite_f h h3
      obtain ⟨h4, h⟩ := grd_of h
      replace h := Option.some.inj h
      subst h
      exact run_frO (n := 100) (b := 0) (orc := [.br false, .el (enc_s t2), .br false, .el (enc_s t2), .br true]) (allC h4 (allC (el_ok un_s_ok h2).1 (allC (el_ok un_s_ok h2).2 (allC (bfalse h3) (allC (el_ok un_s_ok h2).1 (allC (el_ok un_s_ok h2).2 (allC (eqf h1) allN))))))) (by kernel_rfl)
/- internal/stringslite.HasPrefix: .v (.string a0), .v (.string ⟨#[45]⟩) -/
def F_stringslite_HasPrefix (n : Nat) (a0 : ByteArray) : Option (Bool) :=
  if (a0.size : Int) ≥ 1 then
    (strSub a0 none (some 1)).bind fun t2 =>
    some (t2.toList == (⟨#[45]⟩ : ByteArray).toList)
  else
  some false
theorem c_stringslite_HasPrefix {n : Nat} {a0 : ByteArray} {r : Bool} (h : F_stringslite_HasPrefix n a0 = some r) : Computes cx 195 [.v (.string a0), .v (.string ⟨#[45]⟩)] (B r) := by
  unfold F_stringslite_HasPrefix at h
  by_cases h1 : (a0.size : Int) ≥ 1
  · replace h := ite_t h h1
    obtain ⟨t2, h2, h⟩ := bnd_of h
    replace h := Option.some.inj h
    subst h
    exact run_fr (n := 100) (orc := [.br true, .el (.v (.string t2))]) (allC (strSub_ok h2 : pureRun cx.P (Instr.sliceAt 9 (.string a0) none (some (.int .i64 1)) none) = some (.string t2)) (allC (decide_eq_true h1) allN)) (by kernel_rfl)
  · replace h := ite_f h h1
    replace h := Option.some.inj h
    subst h
    exact run_fr (n := 100) (orc := [.br false]) (allC (decide_eq_false h1) allN) (by kernel_rfl)
end Go.Proofs.YtclmbhokfhjnoaaGreatDoor
