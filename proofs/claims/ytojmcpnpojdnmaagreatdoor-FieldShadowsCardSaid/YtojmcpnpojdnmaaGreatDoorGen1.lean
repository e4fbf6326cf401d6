/-
  Printed by gsx.py: functions of the program as Lean functions, and that the code computes them.
-/
import Derived.Test.YtojmcpnpojdnmaaGreatDoorShelf
set_option linter.unusedVariables false
set_option linter.unusedSimpArgs false
set_option linter.unnecessarySimpa false
set_option maxRecDepth 10000
namespace Go.Proofs.YtojmcpnpojdnmaaGreatDoor
open Go.SX
/- spillage/field.times: I a0, .agg [I a1, I a2, I a3] -/
def F_field_times (n : Nat) (a0 : Int) (a1 : Int) (a2 : Int) (a3 : Int) : Option (Int × Int × Int) :=
  if inI64 (a0 * a1) then
  if inI64 (a0 * a2) then
  if inI64 (a0 * a3) then
  some ((a0 * a1), (a0 * a2), (a0 * a3))
  else none
  else none
  else none
theorem c_field_times {n : Nat} {a0 : Int} {a1 : Int} {a2 : Int} {a3 : Int} {r : Int × Int × Int} (h : F_field_times n a0 a1 a2 a3 = some r) : Computes cx 90 [I a0, .agg [I a1, I a2, I a3]] (.agg [I r.1, I r.2.1, I r.2.2]) := by
  unfold F_field_times at h
  obtain ⟨h1, h⟩ := grd_of h
  obtain ⟨h2, h⟩ := grd_of h
  obtain ⟨h3, h⟩ := grd_of h
  replace h := Option.some.inj h
  subst h
  exact run (n := 100) (f := 90) (args := [I a0, .agg [I a1, I a2, I a3]]) (orc := []) (r := .agg [I (a0 * a1), I (a0 * a2), I (a0 * a3)]) (ob := [inI64 (a0 * a3), inI64 (a0 * a2), inI64 (a0 * a1)]) (by kernel_rfl) ⟨h3, h2, h1, trivial⟩
/- spillage/field.plus: .agg [I a0, I a1, I a2], .agg [I a3, I a4, I a5] -/
def F_field_plus (n : Nat) (a0 : Int) (a1 : Int) (a2 : Int) (a3 : Int) (a4 : Int) (a5 : Int) : Option (Int × Int × Int) :=
  if inI64 (a0 + a3) then
  if inI64 (a1 + a4) then
  if inI64 (a2 + a5) then
  some ((a0 + a3), (a1 + a4), (a2 + a5))
  else none
  else none
  else none
theorem c_field_plus {n : Nat} {a0 : Int} {a1 : Int} {a2 : Int} {a3 : Int} {a4 : Int} {a5 : Int} {r : Int × Int × Int} (h : F_field_plus n a0 a1 a2 a3 a4 a5 = some r) : Computes cx 89 [.agg [I a0, I a1, I a2], .agg [I a3, I a4, I a5]] (.agg [I r.1, I r.2.1, I r.2.2]) := by
  unfold F_field_plus at h
  obtain ⟨h1, h⟩ := grd_of h
  obtain ⟨h2, h⟩ := grd_of h
  obtain ⟨h3, h⟩ := grd_of h
  replace h := Option.some.inj h
  subst h
  exact run (n := 100) (f := 89) (args := [.agg [I a0, I a1, I a2], .agg [I a3, I a4, I a5]]) (orc := []) (r := .agg [I (a0 + a3), I (a1 + a4), I (a2 + a5)]) (ob := [inI64 (a2 + a5), inI64 (a1 + a4), inI64 (a0 + a3)]) (by kernel_rfl) ⟨h3, h2, h1, trivial⟩
/- spillage/field.cross: .agg [I a0, I a1, I a2], .agg [I a3, I a4, I a5] -/
def F_field_cross (n : Nat) (a0 : Int) (a1 : Int) (a2 : Int) (a3 : Int) (a4 : Int) (a5 : Int) : Option (Int × Int × Int) :=
  if inI64 (a1 * a5) then
  if inI64 (a2 * a4) then
  if inI64 ((a1 * a5) - (a2 * a4)) then
  if inI64 (a2 * a3) then
  if inI64 (a0 * a5) then
  if inI64 ((a2 * a3) - (a0 * a5)) then
  if inI64 (a0 * a4) then
  if inI64 (a1 * a3) then
  if inI64 ((a0 * a4) - (a1 * a3)) then
  some (((a1 * a5) - (a2 * a4)), ((a2 * a3) - (a0 * a5)), ((a0 * a4) - (a1 * a3)))
  else none
  else none
  else none
  else none
  else none
  else none
  else none
  else none
  else none
theorem c_field_cross {n : Nat} {a0 : Int} {a1 : Int} {a2 : Int} {a3 : Int} {a4 : Int} {a5 : Int} {r : Int × Int × Int} (h : F_field_cross n a0 a1 a2 a3 a4 a5 = some r) : Computes cx 122 [.agg [I a0, I a1, I a2], .agg [I a3, I a4, I a5]] (.agg [I r.1, I r.2.1, I r.2.2]) := by
  unfold F_field_cross at h
  obtain ⟨h1, h⟩ := grd_of h
  obtain ⟨h2, h⟩ := grd_of h
  obtain ⟨h3, h⟩ := grd_of h
  obtain ⟨h4, h⟩ := grd_of h
  obtain ⟨h5, h⟩ := grd_of h
  obtain ⟨h6, h⟩ := grd_of h
  obtain ⟨h7, h⟩ := grd_of h
  obtain ⟨h8, h⟩ := grd_of h
  obtain ⟨h9, h⟩ := grd_of h
  replace h := Option.some.inj h
  subst h
  exact run (n := 100) (f := 122) (args := [.agg [I a0, I a1, I a2], .agg [I a3, I a4, I a5]]) (orc := []) (r := .agg [I ((a1 * a5) - (a2 * a4)), I ((a2 * a3) - (a0 * a5)), I ((a0 * a4) - (a1 * a3))]) (ob := [inI64 ((a0 * a4) - (a1 * a3)), inI64 (a1 * a3), inI64 (a0 * a4), inI64 ((a2 * a3) - (a0 * a5)), inI64 (a0 * a5), inI64 (a2 * a3), inI64 ((a1 * a5) - (a2 * a4)), inI64 (a2 * a4), inI64 (a1 * a5)]) (by kernel_rfl) ⟨h9, h8, h7, h6, h5, h4, h3, h2, h1, trivial⟩
/- (spillage/field.Mirror).normal: .agg [.v (.string a0), I a1, I a2, I a3, I a4, I a5, I a6, I a7, I a8, I a9] -/
def F_field_Mirror_normal (n : Nat) (a0 : ByteArray) (a1 : Int) (a2 : Int) (a3 : Int) (a4 : Int) (a5 : Int) (a6 : Int) (a7 : Int) (a8 : Int) (a9 : Int) : Option (Int × Int × Int) :=
  (F_field_cross n a4 a5 a6 a7 a8 a9).bind fun t1 =>
  some (t1.1, t1.2.1, t1.2.2)
theorem c_field_Mirror_normal {n : Nat} {a0 : ByteArray} {a1 : Int} {a2 : Int} {a3 : Int} {a4 : Int} {a5 : Int} {a6 : Int} {a7 : Int} {a8 : Int} {a9 : Int} {r : Int × Int × Int} (h : F_field_Mirror_normal n a0 a1 a2 a3 a4 a5 a6 a7 a8 a9 = some r) : Computes cx 63 [.agg [.v (.string a0), I a1, I a2, I a3, I a4, I a5, I a6, I a7, I a8, I a9]] (.agg [I r.1, I r.2.1, I r.2.2]) := by
  unfold F_field_Mirror_normal at h
  obtain ⟨t1, h1, h⟩ := bnd_of h
  replace h := Option.some.inj h
  subst h
  exact run (n := 100) (f := 63) (args := [.agg [.v (.string a0), I a1, I a2, I a3, I a4, I a5, I a6, I a7, I a8, I a9]]) (orc := [.ret (.agg [I t1.1, I t1.2.1, I t1.2.2])]) (r := .agg [I t1.1, I t1.2.1, I t1.2.2]) (ob := [Computes cx 122 [.agg [I a4, I a5, I a6], .agg [I a7, I a8, I a9]] (.agg [I t1.1, I t1.2.1, I t1.2.2])]) (by kernel_rfl) ⟨(c_field_cross h1), trivial⟩
/- spillage/field.dot: .agg [I a0, I a1, I a2], .agg [I a3, I a4, I a5] -/
def F_field_dot (n : Nat) (a0 : Int) (a1 : Int) (a2 : Int) (a3 : Int) (a4 : Int) (a5 : Int) : Option (Int) :=
  if inI64 (a0 * a3) then
  if inI64 (a1 * a4) then
  if inI64 ((a0 * a3) + (a1 * a4)) then
  if inI64 (a2 * a5) then
  if inI64 (((a0 * a3) + (a1 * a4)) + (a2 * a5)) then
  some (((a0 * a3) + (a1 * a4)) + (a2 * a5))
  else none
  else none
  else none
  else none
  else none
theorem c_field_dot {n : Nat} {a0 : Int} {a1 : Int} {a2 : Int} {a3 : Int} {a4 : Int} {a5 : Int} {r : Int} (h : F_field_dot n a0 a1 a2 a3 a4 a5 = some r) : Computes cx 62 [.agg [I a0, I a1, I a2], .agg [I a3, I a4, I a5]] (I r) := by
  unfold F_field_dot at h
  obtain ⟨h1, h⟩ := grd_of h
  obtain ⟨h2, h⟩ := grd_of h
  obtain ⟨h3, h⟩ := grd_of h
  obtain ⟨h4, h⟩ := grd_of h
  obtain ⟨h5, h⟩ := grd_of h
  replace h := Option.some.inj h
  subst h
  exact run (n := 100) (f := 62) (args := [.agg [I a0, I a1, I a2], .agg [I a3, I a4, I a5]]) (orc := []) (r := I (((a0 * a3) + (a1 * a4)) + (a2 * a5))) (ob := [inI64 (((a0 * a3) + (a1 * a4)) + (a2 * a5)), inI64 (a2 * a5), inI64 ((a0 * a3) + (a1 * a4)), inI64 (a1 * a4), inI64 (a0 * a3)]) (by kernel_rfl) ⟨h5, h4, h3, h2, h1, trivial⟩
theorem e_field_Mirror_meets_0 (a0 : ByteArray) (a1 : Int) (a2 : Int) (a3 : Int) (a4 : Int) (a5 : Int) (a6 : Int) (a7 : Int) (a8 : Int) (a9 : Int) (a10 : Int) (a11 : Int) (a12 : Int) (a13 : Int) (a14 : Int) (a15 : Int) (a16 : Int) (a17 : Bool) (t1 : Int × Int × Int) (t2 : Int × Int × Int) (t3 : Int × Int × Int) (t4 : Int) (t5 : Int) : runFn true 100 cx 120 [.agg [.v (.string a0), I a1, I a2, I a3, I a4, I a5, I a6, I a7, I a8, I a9], I a10, .agg [I a11, I a12, I a13, I a14, I a15, I a16, B a17]] [.ret (.agg [I t1.1, I t1.2.1, I t1.2.2]), .ret (.agg [I t2.1, I t2.2.1, I t2.2.2]), .ret (.agg [I t3.1, I t3.2.1, I t3.2.2]), .ret (I t4), .ret (.agg [I t3.1, I t3.2.1, I t3.2.2]), .ret (I t5), .br true, .br true, .no, .no] = some (B false, [((IntKind.wrap .i64 (0 - t4)) == 0) = true, (decide (t4 < 0)) = true, Computes cx 62 [.agg [I t3.1, I t3.2.1, I t3.2.2], .agg [I t2.1, I t2.2.1, I t2.2.2]] (I t5), Computes cx 63 [.agg [.v (.string a0), I a1, I a2, I a3, I a4, I a5, I a6, I a7, I a8, I a9]] (.agg [I t3.1, I t3.2.1, I t3.2.2]), Computes cx 62 [.agg [I t3.1, I t3.2.1, I t3.2.2], .agg [I a14, I a15, I a16]] (I t4), Computes cx 63 [.agg [.v (.string a0), I a1, I a2, I a3, I a4, I a5, I a6, I a7, I a8, I a9]] (.agg [I t3.1, I t3.2.1, I t3.2.2]), Computes cx 89 [.agg [I a11, I a12, I a13], .agg [I t1.1, I t1.2.1, I t1.2.2]] (.agg [I t2.1, I t2.2.1, I t2.2.2]), Computes cx 90 [I (IntKind.wrap .i64 (0 - a10)), .agg [I a1, I a2, I a3]] (.agg [I t1.1, I t1.2.1, I t1.2.2])]) := by kernel_rfl
theorem e_field_Mirror_meets_1 (a0 : ByteArray) (a1 : Int) (a2 : Int) (a3 : Int) (a4 : Int) (a5 : Int) (a6 : Int) (a7 : Int) (a8 : Int) (a9 : Int) (a10 : Int) (a11 : Int) (a12 : Int) (a13 : Int) (a14 : Int) (a15 : Int) (a16 : Int) (a17 : Bool) (t1 : Int × Int × Int) (t2 : Int × Int × Int) (t3 : Int × Int × Int) (t4 : Int) (t5 : Int) : runFn true 100 cx 120 [.agg [.v (.string a0), I a1, I a2, I a3, I a4, I a5, I a6, I a7, I a8, I a9], I a10, .agg [I a11, I a12, I a13, I a14, I a15, I a16, B a17]] [.ret (.agg [I t1.1, I t1.2.1, I t1.2.2]), .ret (.agg [I t2.1, I t2.2.1, I t2.2.2]), .ret (.agg [I t3.1, I t3.2.1, I t3.2.2]), .ret (I t4), .ret (.agg [I t3.1, I t3.2.1, I t3.2.2]), .ret (I t5), .br true, .br false, .br true, .no] = some (B false, [(decide ((IntKind.wrap .i64 (0 - (IntKind.wrap .i64 (0 - t5)))) ≤ 0)) = true, ((IntKind.wrap .i64 (0 - t4)) == 0) = false, (decide (t4 < 0)) = true, Computes cx 62 [.agg [I t3.1, I t3.2.1, I t3.2.2], .agg [I t2.1, I t2.2.1, I t2.2.2]] (I t5), Computes cx 63 [.agg [.v (.string a0), I a1, I a2, I a3, I a4, I a5, I a6, I a7, I a8, I a9]] (.agg [I t3.1, I t3.2.1, I t3.2.2]), Computes cx 62 [.agg [I t3.1, I t3.2.1, I t3.2.2], .agg [I a14, I a15, I a16]] (I t4), Computes cx 63 [.agg [.v (.string a0), I a1, I a2, I a3, I a4, I a5, I a6, I a7, I a8, I a9]] (.agg [I t3.1, I t3.2.1, I t3.2.2]), Computes cx 89 [.agg [I a11, I a12, I a13], .agg [I t1.1, I t1.2.1, I t1.2.2]] (.agg [I t2.1, I t2.2.1, I t2.2.2]), Computes cx 90 [I (IntKind.wrap .i64 (0 - a10)), .agg [I a1, I a2, I a3]] (.agg [I t1.1, I t1.2.1, I t1.2.2])]) := by kernel_rfl
theorem e_field_Mirror_meets_2 (a0 : ByteArray) (a1 : Int) (a2 : Int) (a3 : Int) (a4 : Int) (a5 : Int) (a6 : Int) (a7 : Int) (a8 : Int) (a9 : Int) (a10 : Int) (a11 : Int) (a12 : Int) (a13 : Int) (a14 : Int) (a15 : Int) (a16 : Int) (a17 : Bool) (t1 : Int × Int × Int) (t2 : Int × Int × Int) (t3 : Int × Int × Int) (t4 : Int) (t5 : Int) : runFn true 100 cx 120 [.agg [.v (.string a0), I a1, I a2, I a3, I a4, I a5, I a6, I a7, I a8, I a9], I a10, .agg [I a11, I a12, I a13, I a14, I a15, I a16, B a17]] [.ret (.agg [I t1.1, I t1.2.1, I t1.2.2]), .ret (.agg [I t2.1, I t2.2.1, I t2.2.2]), .ret (.agg [I t3.1, I t3.2.1, I t3.2.2]), .ret (I t4), .ret (.agg [I t3.1, I t3.2.1, I t3.2.2]), .ret (I t5), .br true, .br false, .br false, .br true, .br true] = some (B false, [(decide ((IntKind.wrap .i64 (0 - (IntKind.wrap .i64 (0 - t5)))) ≥ (IntKind.wrap .i64 (0 - t4)))) = true, a17 = true, (decide ((IntKind.wrap .i64 (0 - (IntKind.wrap .i64 (0 - t5)))) ≤ 0)) = false, ((IntKind.wrap .i64 (0 - t4)) == 0) = false, (decide (t4 < 0)) = true, Computes cx 62 [.agg [I t3.1, I t3.2.1, I t3.2.2], .agg [I t2.1, I t2.2.1, I t2.2.2]] (I t5), Computes cx 63 [.agg [.v (.string a0), I a1, I a2, I a3, I a4, I a5, I a6, I a7, I a8, I a9]] (.agg [I t3.1, I t3.2.1, I t3.2.2]), Computes cx 62 [.agg [I t3.1, I t3.2.1, I t3.2.2], .agg [I a14, I a15, I a16]] (I t4), Computes cx 63 [.agg [.v (.string a0), I a1, I a2, I a3, I a4, I a5, I a6, I a7, I a8, I a9]] (.agg [I t3.1, I t3.2.1, I t3.2.2]), Computes cx 89 [.agg [I a11, I a12, I a13], .agg [I t1.1, I t1.2.1, I t1.2.2]] (.agg [I t2.1, I t2.2.1, I t2.2.2]), Computes cx 90 [I (IntKind.wrap .i64 (0 - a10)), .agg [I a1, I a2, I a3]] (.agg [I t1.1, I t1.2.1, I t1.2.2])]) := by kernel_rfl
theorem e_field_Mirror_meets_3 (a0 : ByteArray) (a1 : Int) (a2 : Int) (a3 : Int) (a4 : Int) (a5 : Int) (a6 : Int) (a7 : Int) (a8 : Int) (a9 : Int) (a10 : Int) (a11 : Int) (a12 : Int) (a13 : Int) (a14 : Int) (a15 : Int) (a16 : Int) (a17 : Bool) (t1 : Int × Int × Int) (t2 : Int × Int × Int) (t3 : Int × Int × Int) (t4 : Int) (t5 : Int) (t11 : Int × Int × Int) (t12 : Int) (t13 : Int) : runFn true 100 cx 120 [.agg [.v (.string a0), I a1, I a2, I a3, I a4, I a5, I a6, I a7, I a8, I a9], I a10, .agg [I a11, I a12, I a13, I a14, I a15, I a16, B a17]] [.ret (.agg [I t1.1, I t1.2.1, I t1.2.2]), .ret (.agg [I t2.1, I t2.2.1, I t2.2.2]), .ret (.agg [I t3.1, I t3.2.1, I t3.2.2]), .ret (I t4), .ret (.agg [I t3.1, I t3.2.1, I t3.2.2]), .ret (I t5), .br true, .br false, .br false, .br true, .br false, .ret (.agg [I t11.1, I t11.2.1, I t11.2.2]), .ret (I t12), .ret (I t13), .br true] = some (B (decide ((maxI t13 (IntKind.wrap .i64 (0 - t13))) ≤ (a10 * (IntKind.wrap .i64 (0 - t4))))), [inI64 (a10 * (IntKind.wrap .i64 (0 - t4))), (decide ((maxI t12 (IntKind.wrap .i64 (0 - t12))) ≤ (a10 * (IntKind.wrap .i64 (0 - t4))))) = true, inI64 (a10 * (IntKind.wrap .i64 (0 - t4))), Computes cx 62 [.agg [I t11.1, I t11.2.1, I t11.2.2], .agg [I a4, I a5, I a6]] (I t13), Computes cx 62 [.agg [I t11.1, I t11.2.1, I t11.2.2], .agg [I a7, I a8, I a9]] (I t12), Computes cx 122 [.agg [I a14, I a15, I a16], .agg [I t2.1, I t2.2.1, I t2.2.2]] (.agg [I t11.1, I t11.2.1, I t11.2.2]), (decide ((IntKind.wrap .i64 (0 - (IntKind.wrap .i64 (0 - t5)))) ≥ (IntKind.wrap .i64 (0 - t4)))) = false, a17 = true, (decide ((IntKind.wrap .i64 (0 - (IntKind.wrap .i64 (0 - t5)))) ≤ 0)) = false, ((IntKind.wrap .i64 (0 - t4)) == 0) = false, (decide (t4 < 0)) = true, Computes cx 62 [.agg [I t3.1, I t3.2.1, I t3.2.2], .agg [I t2.1, I t2.2.1, I t2.2.2]] (I t5), Computes cx 63 [.agg [.v (.string a0), I a1, I a2, I a3, I a4, I a5, I a6, I a7, I a8, I a9]] (.agg [I t3.1, I t3.2.1, I t3.2.2]), Computes cx 62 [.agg [I t3.1, I t3.2.1, I t3.2.2], .agg [I a14, I a15, I a16]] (I t4), Computes cx 63 [.agg [.v (.string a0), I a1, I a2, I a3, I a4, I a5, I a6, I a7, I a8, I a9]] (.agg [I t3.1, I t3.2.1, I t3.2.2]), Computes cx 89 [.agg [I a11, I a12, I a13], .agg [I t1.1, I t1.2.1, I t1.2.2]] (.agg [I t2.1, I t2.2.1, I t2.2.2]), Computes cx 90 [I (IntKind.wrap .i64 (0 - a10)), .agg [I a1, I a2, I a3]] (.agg [I t1.1, I t1.2.1, I t1.2.2])]) := by kernel_rfl
theorem e_field_Mirror_meets_4 (a0 : ByteArray) (a1 : Int) (a2 : Int) (a3 : Int) (a4 : Int) (a5 : Int) (a6 : Int) (a7 : Int) (a8 : Int) (a9 : Int) (a10 : Int) (a11 : Int) (a12 : Int) (a13 : Int) (a14 : Int) (a15 : Int) (a16 : Int) (a17 : Bool) (t1 : Int × Int × Int) (t2 : Int × Int × Int) (t3 : Int × Int × Int) (t4 : Int) (t5 : Int) (t11 : Int × Int × Int) (t12 : Int) (t13 : Int) : runFn true 100 cx 120 [.agg [.v (.string a0), I a1, I a2, I a3, I a4, I a5, I a6, I a7, I a8, I a9], I a10, .agg [I a11, I a12, I a13, I a14, I a15, I a16, B a17]] [.ret (.agg [I t1.1, I t1.2.1, I t1.2.2]), .ret (.agg [I t2.1, I t2.2.1, I t2.2.2]), .ret (.agg [I t3.1, I t3.2.1, I t3.2.2]), .ret (I t4), .ret (.agg [I t3.1, I t3.2.1, I t3.2.2]), .ret (I t5), .br true, .br false, .br false, .br true, .br false, .ret (.agg [I t11.1, I t11.2.1, I t11.2.2]), .ret (I t12), .ret (I t13), .br false] = some (B false, [(decide ((maxI t12 (IntKind.wrap .i64 (0 - t12))) ≤ (a10 * (IntKind.wrap .i64 (0 - t4))))) = false, inI64 (a10 * (IntKind.wrap .i64 (0 - t4))), Computes cx 62 [.agg [I t11.1, I t11.2.1, I t11.2.2], .agg [I a4, I a5, I a6]] (I t13), Computes cx 62 [.agg [I t11.1, I t11.2.1, I t11.2.2], .agg [I a7, I a8, I a9]] (I t12), Computes cx 122 [.agg [I a14, I a15, I a16], .agg [I t2.1, I t2.2.1, I t2.2.2]] (.agg [I t11.1, I t11.2.1, I t11.2.2]), (decide ((IntKind.wrap .i64 (0 - (IntKind.wrap .i64 (0 - t5)))) ≥ (IntKind.wrap .i64 (0 - t4)))) = false, a17 = true, (decide ((IntKind.wrap .i64 (0 - (IntKind.wrap .i64 (0 - t5)))) ≤ 0)) = false, ((IntKind.wrap .i64 (0 - t4)) == 0) = false, (decide (t4 < 0)) = true, Computes cx 62 [.agg [I t3.1, I t3.2.1, I t3.2.2], .agg [I t2.1, I t2.2.1, I t2.2.2]] (I t5), Computes cx 63 [.agg [.v (.string a0), I a1, I a2, I a3, I a4, I a5, I a6, I a7, I a8, I a9]] (.agg [I t3.1, I t3.2.1, I t3.2.2]), Computes cx 62 [.agg [I t3.1, I t3.2.1, I t3.2.2], .agg [I a14, I a15, I a16]] (I t4), Computes cx 63 [.agg [.v (.string a0), I a1, I a2, I a3, I a4, I a5, I a6, I a7, I a8, I a9]] (.agg [I t3.1, I t3.2.1, I t3.2.2]), Computes cx 89 [.agg [I a11, I a12, I a13], .agg [I t1.1, I t1.2.1, I t1.2.2]] (.agg [I t2.1, I t2.2.1, I t2.2.2]), Computes cx 90 [I (IntKind.wrap .i64 (0 - a10)), .agg [I a1, I a2, I a3]] (.agg [I t1.1, I t1.2.1, I t1.2.2])]) := by kernel_rfl
theorem e_field_Mirror_meets_5 (a0 : ByteArray) (a1 : Int) (a2 : Int) (a3 : Int) (a4 : Int) (a5 : Int) (a6 : Int) (a7 : Int) (a8 : Int) (a9 : Int) (a10 : Int) (a11 : Int) (a12 : Int) (a13 : Int) (a14 : Int) (a15 : Int) (a16 : Int) (a17 : Bool) (t1 : Int × Int × Int) (t2 : Int × Int × Int) (t3 : Int × Int × Int) (t4 : Int) (t5 : Int) (t10 : Int × Int × Int) (t11 : Int) (t12 : Int) : runFn true 100 cx 120 [.agg [.v (.string a0), I a1, I a2, I a3, I a4, I a5, I a6, I a7, I a8, I a9], I a10, .agg [I a11, I a12, I a13, I a14, I a15, I a16, B a17]] [.ret (.agg [I t1.1, I t1.2.1, I t1.2.2]), .ret (.agg [I t2.1, I t2.2.1, I t2.2.2]), .ret (.agg [I t3.1, I t3.2.1, I t3.2.2]), .ret (I t4), .ret (.agg [I t3.1, I t3.2.1, I t3.2.2]), .ret (I t5), .br true, .br false, .br false, .br false, .no, .ret (.agg [I t10.1, I t10.2.1, I t10.2.2]), .ret (I t11), .ret (I t12), .br true] = some (B (decide ((maxI t12 (IntKind.wrap .i64 (0 - t12))) ≤ (a10 * (IntKind.wrap .i64 (0 - t4))))), [inI64 (a10 * (IntKind.wrap .i64 (0 - t4))), (decide ((maxI t11 (IntKind.wrap .i64 (0 - t11))) ≤ (a10 * (IntKind.wrap .i64 (0 - t4))))) = true, inI64 (a10 * (IntKind.wrap .i64 (0 - t4))), Computes cx 62 [.agg [I t10.1, I t10.2.1, I t10.2.2], .agg [I a4, I a5, I a6]] (I t12), Computes cx 62 [.agg [I t10.1, I t10.2.1, I t10.2.2], .agg [I a7, I a8, I a9]] (I t11), Computes cx 122 [.agg [I a14, I a15, I a16], .agg [I t2.1, I t2.2.1, I t2.2.2]] (.agg [I t10.1, I t10.2.1, I t10.2.2]), a17 = false, (decide ((IntKind.wrap .i64 (0 - (IntKind.wrap .i64 (0 - t5)))) ≤ 0)) = false, ((IntKind.wrap .i64 (0 - t4)) == 0) = false, (decide (t4 < 0)) = true, Computes cx 62 [.agg [I t3.1, I t3.2.1, I t3.2.2], .agg [I t2.1, I t2.2.1, I t2.2.2]] (I t5), Computes cx 63 [.agg [.v (.string a0), I a1, I a2, I a3, I a4, I a5, I a6, I a7, I a8, I a9]] (.agg [I t3.1, I t3.2.1, I t3.2.2]), Computes cx 62 [.agg [I t3.1, I t3.2.1, I t3.2.2], .agg [I a14, I a15, I a16]] (I t4), Computes cx 63 [.agg [.v (.string a0), I a1, I a2, I a3, I a4, I a5, I a6, I a7, I a8, I a9]] (.agg [I t3.1, I t3.2.1, I t3.2.2]), Computes cx 89 [.agg [I a11, I a12, I a13], .agg [I t1.1, I t1.2.1, I t1.2.2]] (.agg [I t2.1, I t2.2.1, I t2.2.2]), Computes cx 90 [I (IntKind.wrap .i64 (0 - a10)), .agg [I a1, I a2, I a3]] (.agg [I t1.1, I t1.2.1, I t1.2.2])]) := by kernel_rfl
theorem e_field_Mirror_meets_6 (a0 : ByteArray) (a1 : Int) (a2 : Int) (a3 : Int) (a4 : Int) (a5 : Int) (a6 : Int) (a7 : Int) (a8 : Int) (a9 : Int) (a10 : Int) (a11 : Int) (a12 : Int) (a13 : Int) (a14 : Int) (a15 : Int) (a16 : Int) (a17 : Bool) (t1 : Int × Int × Int) (t2 : Int × Int × Int) (t3 : Int × Int × Int) (t4 : Int) (t5 : Int) (t10 : Int × Int × Int) (t11 : Int) (t12 : Int) : runFn true 100 cx 120 [.agg [.v (.string a0), I a1, I a2, I a3, I a4, I a5, I a6, I a7, I a8, I a9], I a10, .agg [I a11, I a12, I a13, I a14, I a15, I a16, B a17]] [.ret (.agg [I t1.1, I t1.2.1, I t1.2.2]), .ret (.agg [I t2.1, I t2.2.1, I t2.2.2]), .ret (.agg [I t3.1, I t3.2.1, I t3.2.2]), .ret (I t4), .ret (.agg [I t3.1, I t3.2.1, I t3.2.2]), .ret (I t5), .br true, .br false, .br false, .br false, .no, .ret (.agg [I t10.1, I t10.2.1, I t10.2.2]), .ret (I t11), .ret (I t12), .br false] = some (B false, [(decide ((maxI t11 (IntKind.wrap .i64 (0 - t11))) ≤ (a10 * (IntKind.wrap .i64 (0 - t4))))) = false, inI64 (a10 * (IntKind.wrap .i64 (0 - t4))), Computes cx 62 [.agg [I t10.1, I t10.2.1, I t10.2.2], .agg [I a4, I a5, I a6]] (I t12), Computes cx 62 [.agg [I t10.1, I t10.2.1, I t10.2.2], .agg [I a7, I a8, I a9]] (I t11), Computes cx 122 [.agg [I a14, I a15, I a16], .agg [I t2.1, I t2.2.1, I t2.2.2]] (.agg [I t10.1, I t10.2.1, I t10.2.2]), a17 = false, (decide ((IntKind.wrap .i64 (0 - (IntKind.wrap .i64 (0 - t5)))) ≤ 0)) = false, ((IntKind.wrap .i64 (0 - t4)) == 0) = false, (decide (t4 < 0)) = true, Computes cx 62 [.agg [I t3.1, I t3.2.1, I t3.2.2], .agg [I t2.1, I t2.2.1, I t2.2.2]] (I t5), Computes cx 63 [.agg [.v (.string a0), I a1, I a2, I a3, I a4, I a5, I a6, I a7, I a8, I a9]] (.agg [I t3.1, I t3.2.1, I t3.2.2]), Computes cx 62 [.agg [I t3.1, I t3.2.1, I t3.2.2], .agg [I a14, I a15, I a16]] (I t4), Computes cx 63 [.agg [.v (.string a0), I a1, I a2, I a3, I a4, I a5, I a6, I a7, I a8, I a9]] (.agg [I t3.1, I t3.2.1, I t3.2.2]), Computes cx 89 [.agg [I a11, I a12, I a13], .agg [I t1.1, I t1.2.1, I t1.2.2]] (.agg [I t2.1, I t2.2.1, I t2.2.2]), Computes cx 90 [I (IntKind.wrap .i64 (0 - a10)), .agg [I a1, I a2, I a3]] (.agg [I t1.1, I t1.2.1, I t1.2.2])]) := by kernel_rfl
theorem e_field_Mirror_meets_7 (a0 : ByteArray) (a1 : Int) (a2 : Int) (a3 : Int) (a4 : Int) (a5 : Int) (a6 : Int) (a7 : Int) (a8 : Int) (a9 : Int) (a10 : Int) (a11 : Int) (a12 : Int) (a13 : Int) (a14 : Int) (a15 : Int) (a16 : Int) (a17 : Bool) (t1 : Int × Int × Int) (t2 : Int × Int × Int) (t3 : Int × Int × Int) (t4 : Int) (t5 : Int) : runFn true 100 cx 120 [.agg [.v (.string a0), I a1, I a2, I a3, I a4, I a5, I a6, I a7, I a8, I a9], I a10, .agg [I a11, I a12, I a13, I a14, I a15, I a16, B a17]] [.ret (.agg [I t1.1, I t1.2.1, I t1.2.2]), .ret (.agg [I t2.1, I t2.2.1, I t2.2.2]), .ret (.agg [I t3.1, I t3.2.1, I t3.2.2]), .ret (I t4), .ret (.agg [I t3.1, I t3.2.1, I t3.2.2]), .ret (I t5), .br false, .br true, .no, .no] = some (B false, [(t4 == 0) = true, (decide (t4 < 0)) = false, Computes cx 62 [.agg [I t3.1, I t3.2.1, I t3.2.2], .agg [I t2.1, I t2.2.1, I t2.2.2]] (I t5), Computes cx 63 [.agg [.v (.string a0), I a1, I a2, I a3, I a4, I a5, I a6, I a7, I a8, I a9]] (.agg [I t3.1, I t3.2.1, I t3.2.2]), Computes cx 62 [.agg [I t3.1, I t3.2.1, I t3.2.2], .agg [I a14, I a15, I a16]] (I t4), Computes cx 63 [.agg [.v (.string a0), I a1, I a2, I a3, I a4, I a5, I a6, I a7, I a8, I a9]] (.agg [I t3.1, I t3.2.1, I t3.2.2]), Computes cx 89 [.agg [I a11, I a12, I a13], .agg [I t1.1, I t1.2.1, I t1.2.2]] (.agg [I t2.1, I t2.2.1, I t2.2.2]), Computes cx 90 [I (IntKind.wrap .i64 (0 - a10)), .agg [I a1, I a2, I a3]] (.agg [I t1.1, I t1.2.1, I t1.2.2])]) := by kernel_rfl
theorem e_field_Mirror_meets_8 (a0 : ByteArray) (a1 : Int) (a2 : Int) (a3 : Int) (a4 : Int) (a5 : Int) (a6 : Int) (a7 : Int) (a8 : Int) (a9 : Int) (a10 : Int) (a11 : Int) (a12 : Int) (a13 : Int) (a14 : Int) (a15 : Int) (a16 : Int) (a17 : Bool) (t1 : Int × Int × Int) (t2 : Int × Int × Int) (t3 : Int × Int × Int) (t4 : Int) (t5 : Int) : runFn true 100 cx 120 [.agg [.v (.string a0), I a1, I a2, I a3, I a4, I a5, I a6, I a7, I a8, I a9], I a10, .agg [I a11, I a12, I a13, I a14, I a15, I a16, B a17]] [.ret (.agg [I t1.1, I t1.2.1, I t1.2.2]), .ret (.agg [I t2.1, I t2.2.1, I t2.2.2]), .ret (.agg [I t3.1, I t3.2.1, I t3.2.2]), .ret (I t4), .ret (.agg [I t3.1, I t3.2.1, I t3.2.2]), .ret (I t5), .br false, .br false, .br true, .no] = some (B false, [(decide ((IntKind.wrap .i64 (0 - t5)) ≤ 0)) = true, (t4 == 0) = false, (decide (t4 < 0)) = false, Computes cx 62 [.agg [I t3.1, I t3.2.1, I t3.2.2], .agg [I t2.1, I t2.2.1, I t2.2.2]] (I t5), Computes cx 63 [.agg [.v (.string a0), I a1, I a2, I a3, I a4, I a5, I a6, I a7, I a8, I a9]] (.agg [I t3.1, I t3.2.1, I t3.2.2]), Computes cx 62 [.agg [I t3.1, I t3.2.1, I t3.2.2], .agg [I a14, I a15, I a16]] (I t4), Computes cx 63 [.agg [.v (.string a0), I a1, I a2, I a3, I a4, I a5, I a6, I a7, I a8, I a9]] (.agg [I t3.1, I t3.2.1, I t3.2.2]), Computes cx 89 [.agg [I a11, I a12, I a13], .agg [I t1.1, I t1.2.1, I t1.2.2]] (.agg [I t2.1, I t2.2.1, I t2.2.2]), Computes cx 90 [I (IntKind.wrap .i64 (0 - a10)), .agg [I a1, I a2, I a3]] (.agg [I t1.1, I t1.2.1, I t1.2.2])]) := by kernel_rfl
theorem e_field_Mirror_meets_9 (a0 : ByteArray) (a1 : Int) (a2 : Int) (a3 : Int) (a4 : Int) (a5 : Int) (a6 : Int) (a7 : Int) (a8 : Int) (a9 : Int) (a10 : Int) (a11 : Int) (a12 : Int) (a13 : Int) (a14 : Int) (a15 : Int) (a16 : Int) (a17 : Bool) (t1 : Int × Int × Int) (t2 : Int × Int × Int) (t3 : Int × Int × Int) (t4 : Int) (t5 : Int) : runFn true 100 cx 120 [.agg [.v (.string a0), I a1, I a2, I a3, I a4, I a5, I a6, I a7, I a8, I a9], I a10, .agg [I a11, I a12, I a13, I a14, I a15, I a16, B a17]] [.ret (.agg [I t1.1, I t1.2.1, I t1.2.2]), .ret (.agg [I t2.1, I t2.2.1, I t2.2.2]), .ret (.agg [I t3.1, I t3.2.1, I t3.2.2]), .ret (I t4), .ret (.agg [I t3.1, I t3.2.1, I t3.2.2]), .ret (I t5), .br false, .br false, .br false, .br true, .br true] = some (B false, [(decide ((IntKind.wrap .i64 (0 - t5)) ≥ t4)) = true, a17 = true, (decide ((IntKind.wrap .i64 (0 - t5)) ≤ 0)) = false, (t4 == 0) = false, (decide (t4 < 0)) = false, Computes cx 62 [.agg [I t3.1, I t3.2.1, I t3.2.2], .agg [I t2.1, I t2.2.1, I t2.2.2]] (I t5), Computes cx 63 [.agg [.v (.string a0), I a1, I a2, I a3, I a4, I a5, I a6, I a7, I a8, I a9]] (.agg [I t3.1, I t3.2.1, I t3.2.2]), Computes cx 62 [.agg [I t3.1, I t3.2.1, I t3.2.2], .agg [I a14, I a15, I a16]] (I t4), Computes cx 63 [.agg [.v (.string a0), I a1, I a2, I a3, I a4, I a5, I a6, I a7, I a8, I a9]] (.agg [I t3.1, I t3.2.1, I t3.2.2]), Computes cx 89 [.agg [I a11, I a12, I a13], .agg [I t1.1, I t1.2.1, I t1.2.2]] (.agg [I t2.1, I t2.2.1, I t2.2.2]), Computes cx 90 [I (IntKind.wrap .i64 (0 - a10)), .agg [I a1, I a2, I a3]] (.agg [I t1.1, I t1.2.1, I t1.2.2])]) := by kernel_rfl
theorem e_field_Mirror_meets_10 (a0 : ByteArray) (a1 : Int) (a2 : Int) (a3 : Int) (a4 : Int) (a5 : Int) (a6 : Int) (a7 : Int) (a8 : Int) (a9 : Int) (a10 : Int) (a11 : Int) (a12 : Int) (a13 : Int) (a14 : Int) (a15 : Int) (a16 : Int) (a17 : Bool) (t1 : Int × Int × Int) (t2 : Int × Int × Int) (t3 : Int × Int × Int) (t4 : Int) (t5 : Int) (t11 : Int × Int × Int) (t12 : Int) (t13 : Int) : runFn true 100 cx 120 [.agg [.v (.string a0), I a1, I a2, I a3, I a4, I a5, I a6, I a7, I a8, I a9], I a10, .agg [I a11, I a12, I a13, I a14, I a15, I a16, B a17]] [.ret (.agg [I t1.1, I t1.2.1, I t1.2.2]), .ret (.agg [I t2.1, I t2.2.1, I t2.2.2]), .ret (.agg [I t3.1, I t3.2.1, I t3.2.2]), .ret (I t4), .ret (.agg [I t3.1, I t3.2.1, I t3.2.2]), .ret (I t5), .br false, .br false, .br false, .br true, .br false, .ret (.agg [I t11.1, I t11.2.1, I t11.2.2]), .ret (I t12), .ret (I t13), .br true] = some (B (decide ((maxI t13 (IntKind.wrap .i64 (0 - t13))) ≤ (a10 * t4))), [inI64 (a10 * t4), (decide ((maxI t12 (IntKind.wrap .i64 (0 - t12))) ≤ (a10 * t4))) = true, inI64 (a10 * t4), Computes cx 62 [.agg [I t11.1, I t11.2.1, I t11.2.2], .agg [I a4, I a5, I a6]] (I t13), Computes cx 62 [.agg [I t11.1, I t11.2.1, I t11.2.2], .agg [I a7, I a8, I a9]] (I t12), Computes cx 122 [.agg [I a14, I a15, I a16], .agg [I t2.1, I t2.2.1, I t2.2.2]] (.agg [I t11.1, I t11.2.1, I t11.2.2]), (decide ((IntKind.wrap .i64 (0 - t5)) ≥ t4)) = false, a17 = true, (decide ((IntKind.wrap .i64 (0 - t5)) ≤ 0)) = false, (t4 == 0) = false, (decide (t4 < 0)) = false, Computes cx 62 [.agg [I t3.1, I t3.2.1, I t3.2.2], .agg [I t2.1, I t2.2.1, I t2.2.2]] (I t5), Computes cx 63 [.agg [.v (.string a0), I a1, I a2, I a3, I a4, I a5, I a6, I a7, I a8, I a9]] (.agg [I t3.1, I t3.2.1, I t3.2.2]), Computes cx 62 [.agg [I t3.1, I t3.2.1, I t3.2.2], .agg [I a14, I a15, I a16]] (I t4), Computes cx 63 [.agg [.v (.string a0), I a1, I a2, I a3, I a4, I a5, I a6, I a7, I a8, I a9]] (.agg [I t3.1, I t3.2.1, I t3.2.2]), Computes cx 89 [.agg [I a11, I a12, I a13], .agg [I t1.1, I t1.2.1, I t1.2.2]] (.agg [I t2.1, I t2.2.1, I t2.2.2]), Computes cx 90 [I (IntKind.wrap .i64 (0 - a10)), .agg [I a1, I a2, I a3]] (.agg [I t1.1, I t1.2.1, I t1.2.2])]) := by kernel_rfl
theorem e_field_Mirror_meets_11 (a0 : ByteArray) (a1 : Int) (a2 : Int) (a3 : Int) (a4 : Int) (a5 : Int) (a6 : Int) (a7 : Int) (a8 : Int) (a9 : Int) (a10 : Int) (a11 : Int) (a12 : Int) (a13 : Int) (a14 : Int) (a15 : Int) (a16 : Int) (a17 : Bool) (t1 : Int × Int × Int) (t2 : Int × Int × Int) (t3 : Int × Int × Int) (t4 : Int) (t5 : Int) (t11 : Int × Int × Int) (t12 : Int) (t13 : Int) : runFn true 100 cx 120 [.agg [.v (.string a0), I a1, I a2, I a3, I a4, I a5, I a6, I a7, I a8, I a9], I a10, .agg [I a11, I a12, I a13, I a14, I a15, I a16, B a17]] [.ret (.agg [I t1.1, I t1.2.1, I t1.2.2]), .ret (.agg [I t2.1, I t2.2.1, I t2.2.2]), .ret (.agg [I t3.1, I t3.2.1, I t3.2.2]), .ret (I t4), .ret (.agg [I t3.1, I t3.2.1, I t3.2.2]), .ret (I t5), .br false, .br false, .br false, .br true, .br false, .ret (.agg [I t11.1, I t11.2.1, I t11.2.2]), .ret (I t12), .ret (I t13), .br false] = some (B false, [(decide ((maxI t12 (IntKind.wrap .i64 (0 - t12))) ≤ (a10 * t4))) = false, inI64 (a10 * t4), Computes cx 62 [.agg [I t11.1, I t11.2.1, I t11.2.2], .agg [I a4, I a5, I a6]] (I t13), Computes cx 62 [.agg [I t11.1, I t11.2.1, I t11.2.2], .agg [I a7, I a8, I a9]] (I t12), Computes cx 122 [.agg [I a14, I a15, I a16], .agg [I t2.1, I t2.2.1, I t2.2.2]] (.agg [I t11.1, I t11.2.1, I t11.2.2]), (decide ((IntKind.wrap .i64 (0 - t5)) ≥ t4)) = false, a17 = true, (decide ((IntKind.wrap .i64 (0 - t5)) ≤ 0)) = false, (t4 == 0) = false, (decide (t4 < 0)) = false, Computes cx 62 [.agg [I t3.1, I t3.2.1, I t3.2.2], .agg [I t2.1, I t2.2.1, I t2.2.2]] (I t5), Computes cx 63 [.agg [.v (.string a0), I a1, I a2, I a3, I a4, I a5, I a6, I a7, I a8, I a9]] (.agg [I t3.1, I t3.2.1, I t3.2.2]), Computes cx 62 [.agg [I t3.1, I t3.2.1, I t3.2.2], .agg [I a14, I a15, I a16]] (I t4), Computes cx 63 [.agg [.v (.string a0), I a1, I a2, I a3, I a4, I a5, I a6, I a7, I a8, I a9]] (.agg [I t3.1, I t3.2.1, I t3.2.2]), Computes cx 89 [.agg [I a11, I a12, I a13], .agg [I t1.1, I t1.2.1, I t1.2.2]] (.agg [I t2.1, I t2.2.1, I t2.2.2]), Computes cx 90 [I (IntKind.wrap .i64 (0 - a10)), .agg [I a1, I a2, I a3]] (.agg [I t1.1, I t1.2.1, I t1.2.2])]) := by kernel_rfl
theorem e_field_Mirror_meets_12 (a0 : ByteArray) (a1 : Int) (a2 : Int) (a3 : Int) (a4 : Int) (a5 : Int) (a6 : Int) (a7 : Int) (a8 : Int) (a9 : Int) (a10 : Int) (a11 : Int) (a12 : Int) (a13 : Int) (a14 : Int) (a15 : Int) (a16 : Int) (a17 : Bool) (t1 : Int × Int × Int) (t2 : Int × Int × Int) (t3 : Int × Int × Int) (t4 : Int) (t5 : Int) (t10 : Int × Int × Int) (t11 : Int) (t12 : Int) : runFn true 100 cx 120 [.agg [.v (.string a0), I a1, I a2, I a3, I a4, I a5, I a6, I a7, I a8, I a9], I a10, .agg [I a11, I a12, I a13, I a14, I a15, I a16, B a17]] [.ret (.agg [I t1.1, I t1.2.1, I t1.2.2]), .ret (.agg [I t2.1, I t2.2.1, I t2.2.2]), .ret (.agg [I t3.1, I t3.2.1, I t3.2.2]), .ret (I t4), .ret (.agg [I t3.1, I t3.2.1, I t3.2.2]), .ret (I t5), .br false, .br false, .br false, .br false, .no, .ret (.agg [I t10.1, I t10.2.1, I t10.2.2]), .ret (I t11), .ret (I t12), .br true] = some (B (decide ((maxI t12 (IntKind.wrap .i64 (0 - t12))) ≤ (a10 * t4))), [inI64 (a10 * t4), (decide ((maxI t11 (IntKind.wrap .i64 (0 - t11))) ≤ (a10 * t4))) = true, inI64 (a10 * t4), Computes cx 62 [.agg [I t10.1, I t10.2.1, I t10.2.2], .agg [I a4, I a5, I a6]] (I t12), Computes cx 62 [.agg [I t10.1, I t10.2.1, I t10.2.2], .agg [I a7, I a8, I a9]] (I t11), Computes cx 122 [.agg [I a14, I a15, I a16], .agg [I t2.1, I t2.2.1, I t2.2.2]] (.agg [I t10.1, I t10.2.1, I t10.2.2]), a17 = false, (decide ((IntKind.wrap .i64 (0 - t5)) ≤ 0)) = false, (t4 == 0) = false, (decide (t4 < 0)) = false, Computes cx 62 [.agg [I t3.1, I t3.2.1, I t3.2.2], .agg [I t2.1, I t2.2.1, I t2.2.2]] (I t5), Computes cx 63 [.agg [.v (.string a0), I a1, I a2, I a3, I a4, I a5, I a6, I a7, I a8, I a9]] (.agg [I t3.1, I t3.2.1, I t3.2.2]), Computes cx 62 [.agg [I t3.1, I t3.2.1, I t3.2.2], .agg [I a14, I a15, I a16]] (I t4), Computes cx 63 [.agg [.v (.string a0), I a1, I a2, I a3, I a4, I a5, I a6, I a7, I a8, I a9]] (.agg [I t3.1, I t3.2.1, I t3.2.2]), Computes cx 89 [.agg [I a11, I a12, I a13], .agg [I t1.1, I t1.2.1, I t1.2.2]] (.agg [I t2.1, I t2.2.1, I t2.2.2]), Computes cx 90 [I (IntKind.wrap .i64 (0 - a10)), .agg [I a1, I a2, I a3]] (.agg [I t1.1, I t1.2.1, I t1.2.2])]) := by kernel_rfl
theorem e_field_Mirror_meets_13 (a0 : ByteArray) (a1 : Int) (a2 : Int) (a3 : Int) (a4 : Int) (a5 : Int) (a6 : Int) (a7 : Int) (a8 : Int) (a9 : Int) (a10 : Int) (a11 : Int) (a12 : Int) (a13 : Int) (a14 : Int) (a15 : Int) (a16 : Int) (a17 : Bool) (t1 : Int × Int × Int) (t2 : Int × Int × Int) (t3 : Int × Int × Int) (t4 : Int) (t5 : Int) (t10 : Int × Int × Int) (t11 : Int) (t12 : Int) : runFn true 100 cx 120 [.agg [.v (.string a0), I a1, I a2, I a3, I a4, I a5, I a6, I a7, I a8, I a9], I a10, .agg [I a11, I a12, I a13, I a14, I a15, I a16, B a17]] [.ret (.agg [I t1.1, I t1.2.1, I t1.2.2]), .ret (.agg [I t2.1, I t2.2.1, I t2.2.2]), .ret (.agg [I t3.1, I t3.2.1, I t3.2.2]), .ret (I t4), .ret (.agg [I t3.1, I t3.2.1, I t3.2.2]), .ret (I t5), .br false, .br false, .br false, .br false, .no, .ret (.agg [I t10.1, I t10.2.1, I t10.2.2]), .ret (I t11), .ret (I t12), .br false] = some (B false, [(decide ((maxI t11 (IntKind.wrap .i64 (0 - t11))) ≤ (a10 * t4))) = false, inI64 (a10 * t4), Computes cx 62 [.agg [I t10.1, I t10.2.1, I t10.2.2], .agg [I a4, I a5, I a6]] (I t12), Computes cx 62 [.agg [I t10.1, I t10.2.1, I t10.2.2], .agg [I a7, I a8, I a9]] (I t11), Computes cx 122 [.agg [I a14, I a15, I a16], .agg [I t2.1, I t2.2.1, I t2.2.2]] (.agg [I t10.1, I t10.2.1, I t10.2.2]), a17 = false, (decide ((IntKind.wrap .i64 (0 - t5)) ≤ 0)) = false, (t4 == 0) = false, (decide (t4 < 0)) = false, Computes cx 62 [.agg [I t3.1, I t3.2.1, I t3.2.2], .agg [I t2.1, I t2.2.1, I t2.2.2]] (I t5), Computes cx 63 [.agg [.v (.string a0), I a1, I a2, I a3, I a4, I a5, I a6, I a7, I a8, I a9]] (.agg [I t3.1, I t3.2.1, I t3.2.2]), Computes cx 62 [.agg [I t3.1, I t3.2.1, I t3.2.2], .agg [I a14, I a15, I a16]] (I t4), Computes cx 63 [.agg [.v (.string a0), I a1, I a2, I a3, I a4, I a5, I a6, I a7, I a8, I a9]] (.agg [I t3.1, I t3.2.1, I t3.2.2]), Computes cx 89 [.agg [I a11, I a12, I a13], .agg [I t1.1, I t1.2.1, I t1.2.2]] (.agg [I t2.1, I t2.2.1, I t2.2.2]), Computes cx 90 [I (IntKind.wrap .i64 (0 - a10)), .agg [I a1, I a2, I a3]] (.agg [I t1.1, I t1.2.1, I t1.2.2])]) := by kernel_rfl
/- (spillage/field.Mirror).meets: .agg [.v (.string a0), I a1, I a2, I a3, I a4, I a5, I a6, I a7, I a8, I a9], I a10, .agg [I a11, I a12, I a13, I a14, I a15, I a16, B a17] -/
def F_field_Mirror_meets (n : Nat) (a0 : ByteArray) (a1 : Int) (a2 : Int) (a3 : Int) (a4 : Int) (a5 : Int) (a6 : Int) (a7 : Int) (a8 : Int) (a9 : Int) (a10 : Int) (a11 : Int) (a12 : Int) (a13 : Int) (a14 : Int) (a15 : Int) (a16 : Int) (a17 : Bool) : Option (Bool) :=
  (F_field_times n (IntKind.wrap .i64 (0 - a10)) a1 a2 a3).bind fun t1 =>
  (F_field_plus n a11 a12 a13 t1.1 t1.2.1 t1.2.2).bind fun t2 =>
  (F_field_Mirror_normal n a0 a1 a2 a3 a4 a5 a6 a7 a8 a9).bind fun t3 =>
  (F_field_dot n t3.1 t3.2.1 t3.2.2 a14 a15 a16).bind fun t4 =>
  (F_field_dot n t3.1 t3.2.1 t3.2.2 t2.1 t2.2.1 t2.2.2).bind fun t5 =>
  if t4 < 0 then
    if (IntKind.wrap .i64 (0 - t4)) = 0 then
      some false
    else
    if (IntKind.wrap .i64 (0 - (IntKind.wrap .i64 (0 - t5)))) ≤ 0 then
      some false
    else
    if a17 = true then
      if (IntKind.wrap .i64 (0 - (IntKind.wrap .i64 (0 - t5)))) ≥ (IntKind.wrap .i64 (0 - t4)) then
        some false
      else
      (F_field_cross n a14 a15 a16 t2.1 t2.2.1 t2.2.2).bind fun t11 =>
      (F_field_dot n t11.1 t11.2.1 t11.2.2 a7 a8 a9).bind fun t12 =>
      (F_field_dot n t11.1 t11.2.1 t11.2.2 a4 a5 a6).bind fun t13 =>
      if inI64 (a10 * (IntKind.wrap .i64 (0 - t4))) then
      if (maxI t12 (IntKind.wrap .i64 (0 - t12))) ≤ (a10 * (IntKind.wrap .i64 (0 - t4))) then
        some (decide ((maxI t13 (IntKind.wrap .i64 (0 - t13))) ≤ (a10 * (IntKind.wrap .i64 (0 - t4)))))
      else
      some false
      else none
    else
    (F_field_cross n a14 a15 a16 t2.1 t2.2.1 t2.2.2).bind fun t10 =>
    (F_field_dot n t10.1 t10.2.1 t10.2.2 a7 a8 a9).bind fun t11 =>
    (F_field_dot n t10.1 t10.2.1 t10.2.2 a4 a5 a6).bind fun t12 =>
    if inI64 (a10 * (IntKind.wrap .i64 (0 - t4))) then
    if (maxI t11 (IntKind.wrap .i64 (0 - t11))) ≤ (a10 * (IntKind.wrap .i64 (0 - t4))) then
      some (decide ((maxI t12 (IntKind.wrap .i64 (0 - t12))) ≤ (a10 * (IntKind.wrap .i64 (0 - t4)))))
    else
    some false
    else none
  else
  if t4 = 0 then
    some false
  else
  if (IntKind.wrap .i64 (0 - t5)) ≤ 0 then
    some false
  else
  if a17 = true then
    if (IntKind.wrap .i64 (0 - t5)) ≥ t4 then
      some false
    else
    (F_field_cross n a14 a15 a16 t2.1 t2.2.1 t2.2.2).bind fun t11 =>
    (F_field_dot n t11.1 t11.2.1 t11.2.2 a7 a8 a9).bind fun t12 =>
    (F_field_dot n t11.1 t11.2.1 t11.2.2 a4 a5 a6).bind fun t13 =>
    if inI64 (a10 * t4) then
    if (maxI t12 (IntKind.wrap .i64 (0 - t12))) ≤ (a10 * t4) then
      some (decide ((maxI t13 (IntKind.wrap .i64 (0 - t13))) ≤ (a10 * t4)))
    else
    some false
    else none
  else
  (F_field_cross n a14 a15 a16 t2.1 t2.2.1 t2.2.2).bind fun t10 =>
  (F_field_dot n t10.1 t10.2.1 t10.2.2 a7 a8 a9).bind fun t11 =>
  (F_field_dot n t10.1 t10.2.1 t10.2.2 a4 a5 a6).bind fun t12 =>
  if inI64 (a10 * t4) then
  if (maxI t11 (IntKind.wrap .i64 (0 - t11))) ≤ (a10 * t4) then
    some (decide ((maxI t12 (IntKind.wrap .i64 (0 - t12))) ≤ (a10 * t4)))
  else
  some false
  else none
theorem c_field_Mirror_meets {n : Nat} {a0 : ByteArray} {a1 : Int} {a2 : Int} {a3 : Int} {a4 : Int} {a5 : Int} {a6 : Int} {a7 : Int} {a8 : Int} {a9 : Int} {a10 : Int} {a11 : Int} {a12 : Int} {a13 : Int} {a14 : Int} {a15 : Int} {a16 : Int} {a17 : Bool} {r : Bool} (h : F_field_Mirror_meets n a0 a1 a2 a3 a4 a5 a6 a7 a8 a9 a10 a11 a12 a13 a14 a15 a16 a17 = some r) : Computes cx 120 [.agg [.v (.string a0), I a1, I a2, I a3, I a4, I a5, I a6, I a7, I a8, I a9], I a10, .agg [I a11, I a12, I a13, I a14, I a15, I a16, B a17]] (B r) := by
  unfold F_field_Mirror_meets at h
  obtain ⟨t1, h1, h⟩ := bnd_of h
  obtain ⟨t2, h2, h⟩ := bnd_of h
  obtain ⟨t3, h3, h⟩ := bnd_of h
  obtain ⟨t4, h4, h⟩ := bnd_of h
  obtain ⟨t5, h5, h⟩ := bnd_of h
  by_cases h6 : t4 < 0
  · replace h := ite_t h h6
    by_cases h7 : (IntKind.wrap .i64 (0 - t4)) = 0
    · replace h := ite_t h h7
      replace h := Option.some.inj h
      subst h
      exact run (n := 100) (f := 120) (args := [.agg [.v (.string a0), I a1, I a2, I a3, I a4, I a5, I a6, I a7, I a8, I a9], I a10, .agg [I a11, I a12, I a13, I a14, I a15, I a16, B a17]]) (orc := [.ret (.agg [I t1.1, I t1.2.1, I t1.2.2]), .ret (.agg [I t2.1, I t2.2.1, I t2.2.2]), .ret (.agg [I t3.1, I t3.2.1, I t3.2.2]), .ret (I t4), .ret (.agg [I t3.1, I t3.2.1, I t3.2.2]), .ret (I t5), .br true, .br true, .no, .no]) (r := B false) (ob := [((IntKind.wrap .i64 (0 - t4)) == 0) = true, (decide (t4 < 0)) = true, Computes cx 62 [.agg [I t3.1, I t3.2.1, I t3.2.2], .agg [I t2.1, I t2.2.1, I t2.2.2]] (I t5), Computes cx 63 [.agg [.v (.string a0), I a1, I a2, I a3, I a4, I a5, I a6, I a7, I a8, I a9]] (.agg [I t3.1, I t3.2.1, I t3.2.2]), Computes cx 62 [.agg [I t3.1, I t3.2.1, I t3.2.2], .agg [I a14, I a15, I a16]] (I t4), Computes cx 63 [.agg [.v (.string a0), I a1, I a2, I a3, I a4, I a5, I a6, I a7, I a8, I a9]] (.agg [I t3.1, I t3.2.1, I t3.2.2]), Computes cx 89 [.agg [I a11, I a12, I a13], .agg [I t1.1, I t1.2.1, I t1.2.2]] (.agg [I t2.1, I t2.2.1, I t2.2.2]), Computes cx 90 [I (IntKind.wrap .i64 (0 - a10)), .agg [I a1, I a2, I a3]] (.agg [I t1.1, I t1.2.1, I t1.2.2])]) (e_field_Mirror_meets_0 a0 a1 a2 a3 a4 a5 a6 a7 a8 a9 a10 a11 a12 a13 a14 a15 a16 a17 t1 t2 t3 t4 t5) ⟨(eqt h7), (decide_eq_true h6), (c_field_dot h5), (c_field_Mirror_normal h3), (c_field_dot h4), (c_field_Mirror_normal h3), (c_field_plus h2), (c_field_times h1), trivial⟩
    · replace h := ite_f h h7
      by_cases h8 : (IntKind.wrap .i64 (0 - (IntKind.wrap .i64 (0 - t5)))) ≤ 0
      · replace h := ite_t h h8
        replace h := Option.some.inj h
        subst h
        exact run (n := 100) (f := 120) (args := [.agg [.v (.string a0), I a1, I a2, I a3, I a4, I a5, I a6, I a7, I a8, I a9], I a10, .agg [I a11, I a12, I a13, I a14, I a15, I a16, B a17]]) (orc := [.ret (.agg [I t1.1, I t1.2.1, I t1.2.2]), .ret (.agg [I t2.1, I t2.2.1, I t2.2.2]), .ret (.agg [I t3.1, I t3.2.1, I t3.2.2]), .ret (I t4), .ret (.agg [I t3.1, I t3.2.1, I t3.2.2]), .ret (I t5), .br true, .br false, .br true, .no]) (r := B false) (ob := [(decide ((IntKind.wrap .i64 (0 - (IntKind.wrap .i64 (0 - t5)))) ≤ 0)) = true, ((IntKind.wrap .i64 (0 - t4)) == 0) = false, (decide (t4 < 0)) = true, Computes cx 62 [.agg [I t3.1, I t3.2.1, I t3.2.2], .agg [I t2.1, I t2.2.1, I t2.2.2]] (I t5), Computes cx 63 [.agg [.v (.string a0), I a1, I a2, I a3, I a4, I a5, I a6, I a7, I a8, I a9]] (.agg [I t3.1, I t3.2.1, I t3.2.2]), Computes cx 62 [.agg [I t3.1, I t3.2.1, I t3.2.2], .agg [I a14, I a15, I a16]] (I t4), Computes cx 63 [.agg [.v (.string a0), I a1, I a2, I a3, I a4, I a5, I a6, I a7, I a8, I a9]] (.agg [I t3.1, I t3.2.1, I t3.2.2]), Computes cx 89 [.agg [I a11, I a12, I a13], .agg [I t1.1, I t1.2.1, I t1.2.2]] (.agg [I t2.1, I t2.2.1, I t2.2.2]), Computes cx 90 [I (IntKind.wrap .i64 (0 - a10)), .agg [I a1, I a2, I a3]] (.agg [I t1.1, I t1.2.1, I t1.2.2])]) (e_field_Mirror_meets_1 a0 a1 a2 a3 a4 a5 a6 a7 a8 a9 a10 a11 a12 a13 a14 a15 a16 a17 t1 t2 t3 t4 t5) ⟨(decide_eq_true h8), (eqf h7), (decide_eq_true h6), (c_field_dot h5), (c_field_Mirror_normal h3), (c_field_dot h4), (c_field_Mirror_normal h3), (c_field_plus h2), (c_field_times h1), trivial⟩
      · replace h := ite_f h h8
        by_cases h9 : a17 = true
        · replace h := ite_t h h9
          by_cases h10 : (IntKind.wrap .i64 (0 - (IntKind.wrap .i64 (0 - t5)))) ≥ (IntKind.wrap .i64 (0 - t4))
          · replace h := ite_t h h10
            replace h := Option.some.inj h
            subst h
            exact run (n := 100) (f := 120) (args := [.agg [.v (.string a0), I a1, I a2, I a3, I a4, I a5, I a6, I a7, I a8, I a9], I a10, .agg [I a11, I a12, I a13, I a14, I a15, I a16, B a17]]) (orc := [.ret (.agg [I t1.1, I t1.2.1, I t1.2.2]), .ret (.agg [I t2.1, I t2.2.1, I t2.2.2]), .ret (.agg [I t3.1, I t3.2.1, I t3.2.2]), .ret (I t4), .ret (.agg [I t3.1, I t3.2.1, I t3.2.2]), .ret (I t5), .br true, .br false, .br false, .br true, .br true]) (r := B false) (ob := [(decide ((IntKind.wrap .i64 (0 - (IntKind.wrap .i64 (0 - t5)))) ≥ (IntKind.wrap .i64 (0 - t4)))) = true, a17 = true, (decide ((IntKind.wrap .i64 (0 - (IntKind.wrap .i64 (0 - t5)))) ≤ 0)) = false, ((IntKind.wrap .i64 (0 - t4)) == 0) = false, (decide (t4 < 0)) = true, Computes cx 62 [.agg [I t3.1, I t3.2.1, I t3.2.2], .agg [I t2.1, I t2.2.1, I t2.2.2]] (I t5), Computes cx 63 [.agg [.v (.string a0), I a1, I a2, I a3, I a4, I a5, I a6, I a7, I a8, I a9]] (.agg [I t3.1, I t3.2.1, I t3.2.2]), Computes cx 62 [.agg [I t3.1, I t3.2.1, I t3.2.2], .agg [I a14, I a15, I a16]] (I t4), Computes cx 63 [.agg [.v (.string a0), I a1, I a2, I a3, I a4, I a5, I a6, I a7, I a8, I a9]] (.agg [I t3.1, I t3.2.1, I t3.2.2]), Computes cx 89 [.agg [I a11, I a12, I a13], .agg [I t1.1, I t1.2.1, I t1.2.2]] (.agg [I t2.1, I t2.2.1, I t2.2.2]), Computes cx 90 [I (IntKind.wrap .i64 (0 - a10)), .agg [I a1, I a2, I a3]] (.agg [I t1.1, I t1.2.1, I t1.2.2])]) (e_field_Mirror_meets_2 a0 a1 a2 a3 a4 a5 a6 a7 a8 a9 a10 a11 a12 a13 a14 a15 a16 a17 t1 t2 t3 t4 t5) ⟨(decide_eq_true h10), h9, (decide_eq_false h8), (eqf h7), (decide_eq_true h6), (c_field_dot h5), (c_field_Mirror_normal h3), (c_field_dot h4), (c_field_Mirror_normal h3), (c_field_plus h2), (c_field_times h1), trivial⟩
          · replace h := ite_f h h10
            obtain ⟨t11, h11, h⟩ := bnd_of h
            obtain ⟨t12, h12, h⟩ := bnd_of h
            obtain ⟨t13, h13, h⟩ := bnd_of h
            obtain ⟨h14, h⟩ := grd_of h
            by_cases h15 : (maxI t12 (IntKind.wrap .i64 (0 - t12))) ≤ (a10 * (IntKind.wrap .i64 (0 - t4)))
            · replace h := ite_t h h15
              replace h := Option.some.inj h
              subst h
              exact run (n := 100) (f := 120) (args := [.agg [.v (.string a0), I a1, I a2, I a3, I a4, I a5, I a6, I a7, I a8, I a9], I a10, .agg [I a11, I a12, I a13, I a14, I a15, I a16, B a17]]) (orc := [.ret (.agg [I t1.1, I t1.2.1, I t1.2.2]), .ret (.agg [I t2.1, I t2.2.1, I t2.2.2]), .ret (.agg [I t3.1, I t3.2.1, I t3.2.2]), .ret (I t4), .ret (.agg [I t3.1, I t3.2.1, I t3.2.2]), .ret (I t5), .br true, .br false, .br false, .br true, .br false, .ret (.agg [I t11.1, I t11.2.1, I t11.2.2]), .ret (I t12), .ret (I t13), .br true]) (r := B (decide ((maxI t13 (IntKind.wrap .i64 (0 - t13))) ≤ (a10 * (IntKind.wrap .i64 (0 - t4)))))) (ob := [inI64 (a10 * (IntKind.wrap .i64 (0 - t4))), (decide ((maxI t12 (IntKind.wrap .i64 (0 - t12))) ≤ (a10 * (IntKind.wrap .i64 (0 - t4))))) = true, inI64 (a10 * (IntKind.wrap .i64 (0 - t4))), Computes cx 62 [.agg [I t11.1, I t11.2.1, I t11.2.2], .agg [I a4, I a5, I a6]] (I t13), Computes cx 62 [.agg [I t11.1, I t11.2.1, I t11.2.2], .agg [I a7, I a8, I a9]] (I t12), Computes cx 122 [.agg [I a14, I a15, I a16], .agg [I t2.1, I t2.2.1, I t2.2.2]] (.agg [I t11.1, I t11.2.1, I t11.2.2]), (decide ((IntKind.wrap .i64 (0 - (IntKind.wrap .i64 (0 - t5)))) ≥ (IntKind.wrap .i64 (0 - t4)))) = false, a17 = true, (decide ((IntKind.wrap .i64 (0 - (IntKind.wrap .i64 (0 - t5)))) ≤ 0)) = false, ((IntKind.wrap .i64 (0 - t4)) == 0) = false, (decide (t4 < 0)) = true, Computes cx 62 [.agg [I t3.1, I t3.2.1, I t3.2.2], .agg [I t2.1, I t2.2.1, I t2.2.2]] (I t5), Computes cx 63 [.agg [.v (.string a0), I a1, I a2, I a3, I a4, I a5, I a6, I a7, I a8, I a9]] (.agg [I t3.1, I t3.2.1, I t3.2.2]), Computes cx 62 [.agg [I t3.1, I t3.2.1, I t3.2.2], .agg [I a14, I a15, I a16]] (I t4), Computes cx 63 [.agg [.v (.string a0), I a1, I a2, I a3, I a4, I a5, I a6, I a7, I a8, I a9]] (.agg [I t3.1, I t3.2.1, I t3.2.2]), Computes cx 89 [.agg [I a11, I a12, I a13], .agg [I t1.1, I t1.2.1, I t1.2.2]] (.agg [I t2.1, I t2.2.1, I t2.2.2]), Computes cx 90 [I (IntKind.wrap .i64 (0 - a10)), .agg [I a1, I a2, I a3]] (.agg [I t1.1, I t1.2.1, I t1.2.2])]) (e_field_Mirror_meets_3 a0 a1 a2 a3 a4 a5 a6 a7 a8 a9 a10 a11 a12 a13 a14 a15 a16 a17 t1 t2 t3 t4 t5 t11 t12 t13) ⟨h14, (decide_eq_true h15), h14, (c_field_dot h13), (c_field_dot h12), (c_field_cross h11), (decide_eq_false h10), h9, (decide_eq_false h8), (eqf h7), (decide_eq_true h6), (c_field_dot h5), (c_field_Mirror_normal h3), (c_field_dot h4), (c_field_Mirror_normal h3), (c_field_plus h2), (c_field_times h1), trivial⟩
            · replace h := ite_f h h15
              replace h := Option.some.inj h
              subst h
              exact run (n := 100) (f := 120) (args := [.agg [.v (.string a0), I a1, I a2, I a3, I a4, I a5, I a6, I a7, I a8, I a9], I a10, .agg [I a11, I a12, I a13, I a14, I a15, I a16, B a17]]) (orc := [.ret (.agg [I t1.1, I t1.2.1, I t1.2.2]), .ret (.agg [I t2.1, I t2.2.1, I t2.2.2]), .ret (.agg [I t3.1, I t3.2.1, I t3.2.2]), .ret (I t4), .ret (.agg [I t3.1, I t3.2.1, I t3.2.2]), .ret (I t5), .br true, .br false, .br false, .br true, .br false, .ret (.agg [I t11.1, I t11.2.1, I t11.2.2]), .ret (I t12), .ret (I t13), .br false]) (r := B false) (ob := [(decide ((maxI t12 (IntKind.wrap .i64 (0 - t12))) ≤ (a10 * (IntKind.wrap .i64 (0 - t4))))) = false, inI64 (a10 * (IntKind.wrap .i64 (0 - t4))), Computes cx 62 [.agg [I t11.1, I t11.2.1, I t11.2.2], .agg [I a4, I a5, I a6]] (I t13), Computes cx 62 [.agg [I t11.1, I t11.2.1, I t11.2.2], .agg [I a7, I a8, I a9]] (I t12), Computes cx 122 [.agg [I a14, I a15, I a16], .agg [I t2.1, I t2.2.1, I t2.2.2]] (.agg [I t11.1, I t11.2.1, I t11.2.2]), (decide ((IntKind.wrap .i64 (0 - (IntKind.wrap .i64 (0 - t5)))) ≥ (IntKind.wrap .i64 (0 - t4)))) = false, a17 = true, (decide ((IntKind.wrap .i64 (0 - (IntKind.wrap .i64 (0 - t5)))) ≤ 0)) = false, ((IntKind.wrap .i64 (0 - t4)) == 0) = false, (decide (t4 < 0)) = true, Computes cx 62 [.agg [I t3.1, I t3.2.1, I t3.2.2], .agg [I t2.1, I t2.2.1, I t2.2.2]] (I t5), Computes cx 63 [.agg [.v (.string a0), I a1, I a2, I a3, I a4, I a5, I a6, I a7, I a8, I a9]] (.agg [I t3.1, I t3.2.1, I t3.2.2]), Computes cx 62 [.agg [I t3.1, I t3.2.1, I t3.2.2], .agg [I a14, I a15, I a16]] (I t4), Computes cx 63 [.agg [.v (.string a0), I a1, I a2, I a3, I a4, I a5, I a6, I a7, I a8, I a9]] (.agg [I t3.1, I t3.2.1, I t3.2.2]), Computes cx 89 [.agg [I a11, I a12, I a13], .agg [I t1.1, I t1.2.1, I t1.2.2]] (.agg [I t2.1, I t2.2.1, I t2.2.2]), Computes cx 90 [I (IntKind.wrap .i64 (0 - a10)), .agg [I a1, I a2, I a3]] (.agg [I t1.1, I t1.2.1, I t1.2.2])]) (e_field_Mirror_meets_4 a0 a1 a2 a3 a4 a5 a6 a7 a8 a9 a10 a11 a12 a13 a14 a15 a16 a17 t1 t2 t3 t4 t5 t11 t12 t13) ⟨(decide_eq_false h15), h14, (c_field_dot h13), (c_field_dot h12), (c_field_cross h11), (decide_eq_false h10), h9, (decide_eq_false h8), (eqf h7), (decide_eq_true h6), (c_field_dot h5), (c_field_Mirror_normal h3), (c_field_dot h4), (c_field_Mirror_normal h3), (c_field_plus h2), (c_field_times h1), trivial⟩
        · replace h := ite_f h h9
          obtain ⟨t10, h10, h⟩ := bnd_of h
          obtain ⟨t11, h11, h⟩ := bnd_of h
          obtain ⟨t12, h12, h⟩ := bnd_of h
          obtain ⟨h13, h⟩ := grd_of h
          by_cases h14 : (maxI t11 (IntKind.wrap .i64 (0 - t11))) ≤ (a10 * (IntKind.wrap .i64 (0 - t4)))
          · replace h := ite_t h h14
            replace h := Option.some.inj h
            subst h
            exact run (n := 100) (f := 120) (args := [.agg [.v (.string a0), I a1, I a2, I a3, I a4, I a5, I a6, I a7, I a8, I a9], I a10, .agg [I a11, I a12, I a13, I a14, I a15, I a16, B a17]]) (orc := [.ret (.agg [I t1.1, I t1.2.1, I t1.2.2]), .ret (.agg [I t2.1, I t2.2.1, I t2.2.2]), .ret (.agg [I t3.1, I t3.2.1, I t3.2.2]), .ret (I t4), .ret (.agg [I t3.1, I t3.2.1, I t3.2.2]), .ret (I t5), .br true, .br false, .br false, .br false, .no, .ret (.agg [I t10.1, I t10.2.1, I t10.2.2]), .ret (I t11), .ret (I t12), .br true]) (r := B (decide ((maxI t12 (IntKind.wrap .i64 (0 - t12))) ≤ (a10 * (IntKind.wrap .i64 (0 - t4)))))) (ob := [inI64 (a10 * (IntKind.wrap .i64 (0 - t4))), (decide ((maxI t11 (IntKind.wrap .i64 (0 - t11))) ≤ (a10 * (IntKind.wrap .i64 (0 - t4))))) = true, inI64 (a10 * (IntKind.wrap .i64 (0 - t4))), Computes cx 62 [.agg [I t10.1, I t10.2.1, I t10.2.2], .agg [I a4, I a5, I a6]] (I t12), Computes cx 62 [.agg [I t10.1, I t10.2.1, I t10.2.2], .agg [I a7, I a8, I a9]] (I t11), Computes cx 122 [.agg [I a14, I a15, I a16], .agg [I t2.1, I t2.2.1, I t2.2.2]] (.agg [I t10.1, I t10.2.1, I t10.2.2]), a17 = false, (decide ((IntKind.wrap .i64 (0 - (IntKind.wrap .i64 (0 - t5)))) ≤ 0)) = false, ((IntKind.wrap .i64 (0 - t4)) == 0) = false, (decide (t4 < 0)) = true, Computes cx 62 [.agg [I t3.1, I t3.2.1, I t3.2.2], .agg [I t2.1, I t2.2.1, I t2.2.2]] (I t5), Computes cx 63 [.agg [.v (.string a0), I a1, I a2, I a3, I a4, I a5, I a6, I a7, I a8, I a9]] (.agg [I t3.1, I t3.2.1, I t3.2.2]), Computes cx 62 [.agg [I t3.1, I t3.2.1, I t3.2.2], .agg [I a14, I a15, I a16]] (I t4), Computes cx 63 [.agg [.v (.string a0), I a1, I a2, I a3, I a4, I a5, I a6, I a7, I a8, I a9]] (.agg [I t3.1, I t3.2.1, I t3.2.2]), Computes cx 89 [.agg [I a11, I a12, I a13], .agg [I t1.1, I t1.2.1, I t1.2.2]] (.agg [I t2.1, I t2.2.1, I t2.2.2]), Computes cx 90 [I (IntKind.wrap .i64 (0 - a10)), .agg [I a1, I a2, I a3]] (.agg [I t1.1, I t1.2.1, I t1.2.2])]) (e_field_Mirror_meets_5 a0 a1 a2 a3 a4 a5 a6 a7 a8 a9 a10 a11 a12 a13 a14 a15 a16 a17 t1 t2 t3 t4 t5 t10 t11 t12) ⟨h13, (decide_eq_true h14), h13, (c_field_dot h12), (c_field_dot h11), (c_field_cross h10), (bfalse h9), (decide_eq_false h8), (eqf h7), (decide_eq_true h6), (c_field_dot h5), (c_field_Mirror_normal h3), (c_field_dot h4), (c_field_Mirror_normal h3), (c_field_plus h2), (c_field_times h1), trivial⟩
          · replace h := ite_f h h14
            replace h := Option.some.inj h
            subst h
            exact run (n := 100) (f := 120) (args := [.agg [.v (.string a0), I a1, I a2, I a3, I a4, I a5, I a6, I a7, I a8, I a9], I a10, .agg [I a11, I a12, I a13, I a14, I a15, I a16, B a17]]) (orc := [.ret (.agg [I t1.1, I t1.2.1, I t1.2.2]), .ret (.agg [I t2.1, I t2.2.1, I t2.2.2]), .ret (.agg [I t3.1, I t3.2.1, I t3.2.2]), .ret (I t4), .ret (.agg [I t3.1, I t3.2.1, I t3.2.2]), .ret (I t5), .br true, .br false, .br false, .br false, .no, .ret (.agg [I t10.1, I t10.2.1, I t10.2.2]), .ret (I t11), .ret (I t12), .br false]) (r := B false) (ob := [(decide ((maxI t11 (IntKind.wrap .i64 (0 - t11))) ≤ (a10 * (IntKind.wrap .i64 (0 - t4))))) = false, inI64 (a10 * (IntKind.wrap .i64 (0 - t4))), Computes cx 62 [.agg [I t10.1, I t10.2.1, I t10.2.2], .agg [I a4, I a5, I a6]] (I t12), Computes cx 62 [.agg [I t10.1, I t10.2.1, I t10.2.2], .agg [I a7, I a8, I a9]] (I t11), Computes cx 122 [.agg [I a14, I a15, I a16], .agg [I t2.1, I t2.2.1, I t2.2.2]] (.agg [I t10.1, I t10.2.1, I t10.2.2]), a17 = false, (decide ((IntKind.wrap .i64 (0 - (IntKind.wrap .i64 (0 - t5)))) ≤ 0)) = false, ((IntKind.wrap .i64 (0 - t4)) == 0) = false, (decide (t4 < 0)) = true, Computes cx 62 [.agg [I t3.1, I t3.2.1, I t3.2.2], .agg [I t2.1, I t2.2.1, I t2.2.2]] (I t5), Computes cx 63 [.agg [.v (.string a0), I a1, I a2, I a3, I a4, I a5, I a6, I a7, I a8, I a9]] (.agg [I t3.1, I t3.2.1, I t3.2.2]), Computes cx 62 [.agg [I t3.1, I t3.2.1, I t3.2.2], .agg [I a14, I a15, I a16]] (I t4), Computes cx 63 [.agg [.v (.string a0), I a1, I a2, I a3, I a4, I a5, I a6, I a7, I a8, I a9]] (.agg [I t3.1, I t3.2.1, I t3.2.2]), Computes cx 89 [.agg [I a11, I a12, I a13], .agg [I t1.1, I t1.2.1, I t1.2.2]] (.agg [I t2.1, I t2.2.1, I t2.2.2]), Computes cx 90 [I (IntKind.wrap .i64 (0 - a10)), .agg [I a1, I a2, I a3]] (.agg [I t1.1, I t1.2.1, I t1.2.2])]) (e_field_Mirror_meets_6 a0 a1 a2 a3 a4 a5 a6 a7 a8 a9 a10 a11 a12 a13 a14 a15 a16 a17 t1 t2 t3 t4 t5 t10 t11 t12) ⟨(decide_eq_false h14), h13, (c_field_dot h12), (c_field_dot h11), (c_field_cross h10), (bfalse h9), (decide_eq_false h8), (eqf h7), (decide_eq_true h6), (c_field_dot h5), (c_field_Mirror_normal h3), (c_field_dot h4), (c_field_Mirror_normal h3), (c_field_plus h2), (c_field_times h1), trivial⟩
  · replace h := ite_f h h6
    by_cases h7 : t4 = 0
    · replace h := ite_t h h7
      replace h := Option.some.inj h
      subst h
      exact run (n := 100) (f := 120) (args := [.agg [.v (.string a0), I a1, I a2, I a3, I a4, I a5, I a6, I a7, I a8, I a9], I a10, .agg [I a11, I a12, I a13, I a14, I a15, I a16, B a17]]) (orc := [.ret (.agg [I t1.1, I t1.2.1, I t1.2.2]), .ret (.agg [I t2.1, I t2.2.1, I t2.2.2]), .ret (.agg [I t3.1, I t3.2.1, I t3.2.2]), .ret (I t4), .ret (.agg [I t3.1, I t3.2.1, I t3.2.2]), .ret (I t5), .br false, .br true, .no, .no]) (r := B false) (ob := [(t4 == 0) = true, (decide (t4 < 0)) = false, Computes cx 62 [.agg [I t3.1, I t3.2.1, I t3.2.2], .agg [I t2.1, I t2.2.1, I t2.2.2]] (I t5), Computes cx 63 [.agg [.v (.string a0), I a1, I a2, I a3, I a4, I a5, I a6, I a7, I a8, I a9]] (.agg [I t3.1, I t3.2.1, I t3.2.2]), Computes cx 62 [.agg [I t3.1, I t3.2.1, I t3.2.2], .agg [I a14, I a15, I a16]] (I t4), Computes cx 63 [.agg [.v (.string a0), I a1, I a2, I a3, I a4, I a5, I a6, I a7, I a8, I a9]] (.agg [I t3.1, I t3.2.1, I t3.2.2]), Computes cx 89 [.agg [I a11, I a12, I a13], .agg [I t1.1, I t1.2.1, I t1.2.2]] (.agg [I t2.1, I t2.2.1, I t2.2.2]), Computes cx 90 [I (IntKind.wrap .i64 (0 - a10)), .agg [I a1, I a2, I a3]] (.agg [I t1.1, I t1.2.1, I t1.2.2])]) (e_field_Mirror_meets_7 a0 a1 a2 a3 a4 a5 a6 a7 a8 a9 a10 a11 a12 a13 a14 a15 a16 a17 t1 t2 t3 t4 t5) ⟨(eqt h7), (decide_eq_false h6), (c_field_dot h5), (c_field_Mirror_normal h3), (c_field_dot h4), (c_field_Mirror_normal h3), (c_field_plus h2), (c_field_times h1), trivial⟩
    · replace h := ite_f h h7
      by_cases h8 : (IntKind.wrap .i64 (0 - t5)) ≤ 0
      · replace h := ite_t h h8
        replace h := Option.some.inj h
        subst h
        exact run (n := 100) (f := 120) (args := [.agg [.v (.string a0), I a1, I a2, I a3, I a4, I a5, I a6, I a7, I a8, I a9], I a10, .agg [I a11, I a12, I a13, I a14, I a15, I a16, B a17]]) (orc := [.ret (.agg [I t1.1, I t1.2.1, I t1.2.2]), .ret (.agg [I t2.1, I t2.2.1, I t2.2.2]), .ret (.agg [I t3.1, I t3.2.1, I t3.2.2]), .ret (I t4), .ret (.agg [I t3.1, I t3.2.1, I t3.2.2]), .ret (I t5), .br false, .br false, .br true, .no]) (r := B false) (ob := [(decide ((IntKind.wrap .i64 (0 - t5)) ≤ 0)) = true, (t4 == 0) = false, (decide (t4 < 0)) = false, Computes cx 62 [.agg [I t3.1, I t3.2.1, I t3.2.2], .agg [I t2.1, I t2.2.1, I t2.2.2]] (I t5), Computes cx 63 [.agg [.v (.string a0), I a1, I a2, I a3, I a4, I a5, I a6, I a7, I a8, I a9]] (.agg [I t3.1, I t3.2.1, I t3.2.2]), Computes cx 62 [.agg [I t3.1, I t3.2.1, I t3.2.2], .agg [I a14, I a15, I a16]] (I t4), Computes cx 63 [.agg [.v (.string a0), I a1, I a2, I a3, I a4, I a5, I a6, I a7, I a8, I a9]] (.agg [I t3.1, I t3.2.1, I t3.2.2]), Computes cx 89 [.agg [I a11, I a12, I a13], .agg [I t1.1, I t1.2.1, I t1.2.2]] (.agg [I t2.1, I t2.2.1, I t2.2.2]), Computes cx 90 [I (IntKind.wrap .i64 (0 - a10)), .agg [I a1, I a2, I a3]] (.agg [I t1.1, I t1.2.1, I t1.2.2])]) (e_field_Mirror_meets_8 a0 a1 a2 a3 a4 a5 a6 a7 a8 a9 a10 a11 a12 a13 a14 a15 a16 a17 t1 t2 t3 t4 t5) ⟨(decide_eq_true h8), (eqf h7), (decide_eq_false h6), (c_field_dot h5), (c_field_Mirror_normal h3), (c_field_dot h4), (c_field_Mirror_normal h3), (c_field_plus h2), (c_field_times h1), trivial⟩
      · replace h := ite_f h h8
        by_cases h9 : a17 = true
        · replace h := ite_t h h9
          by_cases h10 : (IntKind.wrap .i64 (0 - t5)) ≥ t4
          · replace h := ite_t h h10
            replace h := Option.some.inj h
            subst h
            exact run (n := 100) (f := 120) (args := [.agg [.v (.string a0), I a1, I a2, I a3, I a4, I a5, I a6, I a7, I a8, I a9], I a10, .agg [I a11, I a12, I a13, I a14, I a15, I a16, B a17]]) (orc := [.ret (.agg [I t1.1, I t1.2.1, I t1.2.2]), .ret (.agg [I t2.1, I t2.2.1, I t2.2.2]), .ret (.agg [I t3.1, I t3.2.1, I t3.2.2]), .ret (I t4), .ret (.agg [I t3.1, I t3.2.1, I t3.2.2]), .ret (I t5), .br false, .br false, .br false, .br true, .br true]) (r := B false) (ob := [(decide ((IntKind.wrap .i64 (0 - t5)) ≥ t4)) = true, a17 = true, (decide ((IntKind.wrap .i64 (0 - t5)) ≤ 0)) = false, (t4 == 0) = false, (decide (t4 < 0)) = false, Computes cx 62 [.agg [I t3.1, I t3.2.1, I t3.2.2], .agg [I t2.1, I t2.2.1, I t2.2.2]] (I t5), Computes cx 63 [.agg [.v (.string a0), I a1, I a2, I a3, I a4, I a5, I a6, I a7, I a8, I a9]] (.agg [I t3.1, I t3.2.1, I t3.2.2]), Computes cx 62 [.agg [I t3.1, I t3.2.1, I t3.2.2], .agg [I a14, I a15, I a16]] (I t4), Computes cx 63 [.agg [.v (.string a0), I a1, I a2, I a3, I a4, I a5, I a6, I a7, I a8, I a9]] (.agg [I t3.1, I t3.2.1, I t3.2.2]), Computes cx 89 [.agg [I a11, I a12, I a13], .agg [I t1.1, I t1.2.1, I t1.2.2]] (.agg [I t2.1, I t2.2.1, I t2.2.2]), Computes cx 90 [I (IntKind.wrap .i64 (0 - a10)), .agg [I a1, I a2, I a3]] (.agg [I t1.1, I t1.2.1, I t1.2.2])]) (e_field_Mirror_meets_9 a0 a1 a2 a3 a4 a5 a6 a7 a8 a9 a10 a11 a12 a13 a14 a15 a16 a17 t1 t2 t3 t4 t5) ⟨(decide_eq_true h10), h9, (decide_eq_false h8), (eqf h7), (decide_eq_false h6), (c_field_dot h5), (c_field_Mirror_normal h3), (c_field_dot h4), (c_field_Mirror_normal h3), (c_field_plus h2), (c_field_times h1), trivial⟩
          · replace h := ite_f h h10
            obtain ⟨t11, h11, h⟩ := bnd_of h
            obtain ⟨t12, h12, h⟩ := bnd_of h
            obtain ⟨t13, h13, h⟩ := bnd_of h
            obtain ⟨h14, h⟩ := grd_of h
            by_cases h15 : (maxI t12 (IntKind.wrap .i64 (0 - t12))) ≤ (a10 * t4)
            · replace h := ite_t h h15
              replace h := Option.some.inj h
              subst h
              exact run (n := 100) (f := 120) (args := [.agg [.v (.string a0), I a1, I a2, I a3, I a4, I a5, I a6, I a7, I a8, I a9], I a10, .agg [I a11, I a12, I a13, I a14, I a15, I a16, B a17]]) (orc := [.ret (.agg [I t1.1, I t1.2.1, I t1.2.2]), .ret (.agg [I t2.1, I t2.2.1, I t2.2.2]), .ret (.agg [I t3.1, I t3.2.1, I t3.2.2]), .ret (I t4), .ret (.agg [I t3.1, I t3.2.1, I t3.2.2]), .ret (I t5), .br false, .br false, .br false, .br true, .br false, .ret (.agg [I t11.1, I t11.2.1, I t11.2.2]), .ret (I t12), .ret (I t13), .br true]) (r := B (decide ((maxI t13 (IntKind.wrap .i64 (0 - t13))) ≤ (a10 * t4)))) (ob := [inI64 (a10 * t4), (decide ((maxI t12 (IntKind.wrap .i64 (0 - t12))) ≤ (a10 * t4))) = true, inI64 (a10 * t4), Computes cx 62 [.agg [I t11.1, I t11.2.1, I t11.2.2], .agg [I a4, I a5, I a6]] (I t13), Computes cx 62 [.agg [I t11.1, I t11.2.1, I t11.2.2], .agg [I a7, I a8, I a9]] (I t12), Computes cx 122 [.agg [I a14, I a15, I a16], .agg [I t2.1, I t2.2.1, I t2.2.2]] (.agg [I t11.1, I t11.2.1, I t11.2.2]), (decide ((IntKind.wrap .i64 (0 - t5)) ≥ t4)) = false, a17 = true, (decide ((IntKind.wrap .i64 (0 - t5)) ≤ 0)) = false, (t4 == 0) = false, (decide (t4 < 0)) = false, Computes cx 62 [.agg [I t3.1, I t3.2.1, I t3.2.2], .agg [I t2.1, I t2.2.1, I t2.2.2]] (I t5), Computes cx 63 [.agg [.v (.string a0), I a1, I a2, I a3, I a4, I a5, I a6, I a7, I a8, I a9]] (.agg [I t3.1, I t3.2.1, I t3.2.2]), Computes cx 62 [.agg [I t3.1, I t3.2.1, I t3.2.2], .agg [I a14, I a15, I a16]] (I t4), Computes cx 63 [.agg [.v (.string a0), I a1, I a2, I a3, I a4, I a5, I a6, I a7, I a8, I a9]] (.agg [I t3.1, I t3.2.1, I t3.2.2]), Computes cx 89 [.agg [I a11, I a12, I a13], .agg [I t1.1, I t1.2.1, I t1.2.2]] (.agg [I t2.1, I t2.2.1, I t2.2.2]), Computes cx 90 [I (IntKind.wrap .i64 (0 - a10)), .agg [I a1, I a2, I a3]] (.agg [I t1.1, I t1.2.1, I t1.2.2])]) (e_field_Mirror_meets_10 a0 a1 a2 a3 a4 a5 a6 a7 a8 a9 a10 a11 a12 a13 a14 a15 a16 a17 t1 t2 t3 t4 t5 t11 t12 t13) ⟨h14, (decide_eq_true h15), h14, (c_field_dot h13), (c_field_dot h12), (c_field_cross h11), (decide_eq_false h10), h9, (decide_eq_false h8), (eqf h7), (decide_eq_false h6), (c_field_dot h5), (c_field_Mirror_normal h3), (c_field_dot h4), (c_field_Mirror_normal h3), (c_field_plus h2), (c_field_times h1), trivial⟩
            · replace h := ite_f h h15
              replace h := Option.some.inj h
              subst h
              exact run (n := 100) (f := 120) (args := [.agg [.v (.string a0), I a1, I a2, I a3, I a4, I a5, I a6, I a7, I a8, I a9], I a10, .agg [I a11, I a12, I a13, I a14, I a15, I a16, B a17]]) (orc := [.ret (.agg [I t1.1, I t1.2.1, I t1.2.2]), .ret (.agg [I t2.1, I t2.2.1, I t2.2.2]), .ret (.agg [I t3.1, I t3.2.1, I t3.2.2]), .ret (I t4), .ret (.agg [I t3.1, I t3.2.1, I t3.2.2]), .ret (I t5), .br false, .br false, .br false, .br true, .br false, .ret (.agg [I t11.1, I t11.2.1, I t11.2.2]), .ret (I t12), .ret (I t13), .br false]) (r := B false) (ob := [(decide ((maxI t12 (IntKind.wrap .i64 (0 - t12))) ≤ (a10 * t4))) = false, inI64 (a10 * t4), Computes cx 62 [.agg [I t11.1, I t11.2.1, I t11.2.2], .agg [I a4, I a5, I a6]] (I t13), Computes cx 62 [.agg [I t11.1, I t11.2.1, I t11.2.2], .agg [I a7, I a8, I a9]] (I t12), Computes cx 122 [.agg [I a14, I a15, I a16], .agg [I t2.1, I t2.2.1, I t2.2.2]] (.agg [I t11.1, I t11.2.1, I t11.2.2]), (decide ((IntKind.wrap .i64 (0 - t5)) ≥ t4)) = false, a17 = true, (decide ((IntKind.wrap .i64 (0 - t5)) ≤ 0)) = false, (t4 == 0) = false, (decide (t4 < 0)) = false, Computes cx 62 [.agg [I t3.1, I t3.2.1, I t3.2.2], .agg [I t2.1, I t2.2.1, I t2.2.2]] (I t5), Computes cx 63 [.agg [.v (.string a0), I a1, I a2, I a3, I a4, I a5, I a6, I a7, I a8, I a9]] (.agg [I t3.1, I t3.2.1, I t3.2.2]), Computes cx 62 [.agg [I t3.1, I t3.2.1, I t3.2.2], .agg [I a14, I a15, I a16]] (I t4), Computes cx 63 [.agg [.v (.string a0), I a1, I a2, I a3, I a4, I a5, I a6, I a7, I a8, I a9]] (.agg [I t3.1, I t3.2.1, I t3.2.2]), Computes cx 89 [.agg [I a11, I a12, I a13], .agg [I t1.1, I t1.2.1, I t1.2.2]] (.agg [I t2.1, I t2.2.1, I t2.2.2]), Computes cx 90 [I (IntKind.wrap .i64 (0 - a10)), .agg [I a1, I a2, I a3]] (.agg [I t1.1, I t1.2.1, I t1.2.2])]) (e_field_Mirror_meets_11 a0 a1 a2 a3 a4 a5 a6 a7 a8 a9 a10 a11 a12 a13 a14 a15 a16 a17 t1 t2 t3 t4 t5 t11 t12 t13) ⟨(decide_eq_false h15), h14, (c_field_dot h13), (c_field_dot h12), (c_field_cross h11), (decide_eq_false h10), h9, (decide_eq_false h8), (eqf h7), (decide_eq_false h6), (c_field_dot h5), (c_field_Mirror_normal h3), (c_field_dot h4), (c_field_Mirror_normal h3), (c_field_plus h2), (c_field_times h1), trivial⟩
        · replace h := ite_f h h9
          obtain ⟨t10, h10, h⟩ := bnd_of h
          obtain ⟨t11, h11, h⟩ := bnd_of h
          obtain ⟨t12, h12, h⟩ := bnd_of h
          obtain ⟨h13, h⟩ := grd_of h
          by_cases h14 : (maxI t11 (IntKind.wrap .i64 (0 - t11))) ≤ (a10 * t4)
          · replace h := ite_t h h14
            replace h := Option.some.inj h
            subst h
            exact run (n := 100) (f := 120) (args := [.agg [.v (.string a0), I a1, I a2, I a3, I a4, I a5, I a6, I a7, I a8, I a9], I a10, .agg [I a11, I a12, I a13, I a14, I a15, I a16, B a17]]) (orc := [.ret (.agg [I t1.1, I t1.2.1, I t1.2.2]), .ret (.agg [I t2.1, I t2.2.1, I t2.2.2]), .ret (.agg [I t3.1, I t3.2.1, I t3.2.2]), .ret (I t4), .ret (.agg [I t3.1, I t3.2.1, I t3.2.2]), .ret (I t5), .br false, .br false, .br false, .br false, .no, .ret (.agg [I t10.1, I t10.2.1, I t10.2.2]), .ret (I t11), .ret (I t12), .br true]) (r := B (decide ((maxI t12 (IntKind.wrap .i64 (0 - t12))) ≤ (a10 * t4)))) (ob := [inI64 (a10 * t4), (decide ((maxI t11 (IntKind.wrap .i64 (0 - t11))) ≤ (a10 * t4))) = true, inI64 (a10 * t4), Computes cx 62 [.agg [I t10.1, I t10.2.1, I t10.2.2], .agg [I a4, I a5, I a6]] (I t12), Computes cx 62 [.agg [I t10.1, I t10.2.1, I t10.2.2], .agg [I a7, I a8, I a9]] (I t11), Computes cx 122 [.agg [I a14, I a15, I a16], .agg [I t2.1, I t2.2.1, I t2.2.2]] (.agg [I t10.1, I t10.2.1, I t10.2.2]), a17 = false, (decide ((IntKind.wrap .i64 (0 - t5)) ≤ 0)) = false, (t4 == 0) = false, (decide (t4 < 0)) = false, Computes cx 62 [.agg [I t3.1, I t3.2.1, I t3.2.2], .agg [I t2.1, I t2.2.1, I t2.2.2]] (I t5), Computes cx 63 [.agg [.v (.string a0), I a1, I a2, I a3, I a4, I a5, I a6, I a7, I a8, I a9]] (.agg [I t3.1, I t3.2.1, I t3.2.2]), Computes cx 62 [.agg [I t3.1, I t3.2.1, I t3.2.2], .agg [I a14, I a15, I a16]] (I t4), Computes cx 63 [.agg [.v (.string a0), I a1, I a2, I a3, I a4, I a5, I a6, I a7, I a8, I a9]] (.agg [I t3.1, I t3.2.1, I t3.2.2]), Computes cx 89 [.agg [I a11, I a12, I a13], .agg [I t1.1, I t1.2.1, I t1.2.2]] (.agg [I t2.1, I t2.2.1, I t2.2.2]), Computes cx 90 [I (IntKind.wrap .i64 (0 - a10)), .agg [I a1, I a2, I a3]] (.agg [I t1.1, I t1.2.1, I t1.2.2])]) (e_field_Mirror_meets_12 a0 a1 a2 a3 a4 a5 a6 a7 a8 a9 a10 a11 a12 a13 a14 a15 a16 a17 t1 t2 t3 t4 t5 t10 t11 t12) ⟨h13, (decide_eq_true h14), h13, (c_field_dot h12), (c_field_dot h11), (c_field_cross h10), (bfalse h9), (decide_eq_false h8), (eqf h7), (decide_eq_false h6), (c_field_dot h5), (c_field_Mirror_normal h3), (c_field_dot h4), (c_field_Mirror_normal h3), (c_field_plus h2), (c_field_times h1), trivial⟩
          · replace h := ite_f h h14
            replace h := Option.some.inj h
            subst h
            exact run (n := 100) (f := 120) (args := [.agg [.v (.string a0), I a1, I a2, I a3, I a4, I a5, I a6, I a7, I a8, I a9], I a10, .agg [I a11, I a12, I a13, I a14, I a15, I a16, B a17]]) (orc := [.ret (.agg [I t1.1, I t1.2.1, I t1.2.2]), .ret (.agg [I t2.1, I t2.2.1, I t2.2.2]), .ret (.agg [I t3.1, I t3.2.1, I t3.2.2]), .ret (I t4), .ret (.agg [I t3.1, I t3.2.1, I t3.2.2]), .ret (I t5), .br false, .br false, .br false, .br false, .no, .ret (.agg [I t10.1, I t10.2.1, I t10.2.2]), .ret (I t11), .ret (I t12), .br false]) (r := B false) (ob := [(decide ((maxI t11 (IntKind.wrap .i64 (0 - t11))) ≤ (a10 * t4))) = false, inI64 (a10 * t4), Computes cx 62 [.agg [I t10.1, I t10.2.1, I t10.2.2], .agg [I a4, I a5, I a6]] (I t12), Computes cx 62 [.agg [I t10.1, I t10.2.1, I t10.2.2], .agg [I a7, I a8, I a9]] (I t11), Computes cx 122 [.agg [I a14, I a15, I a16], .agg [I t2.1, I t2.2.1, I t2.2.2]] (.agg [I t10.1, I t10.2.1, I t10.2.2]), a17 = false, (decide ((IntKind.wrap .i64 (0 - t5)) ≤ 0)) = false, (t4 == 0) = false, (decide (t4 < 0)) = false, Computes cx 62 [.agg [I t3.1, I t3.2.1, I t3.2.2], .agg [I t2.1, I t2.2.1, I t2.2.2]] (I t5), Computes cx 63 [.agg [.v (.string a0), I a1, I a2, I a3, I a4, I a5, I a6, I a7, I a8, I a9]] (.agg [I t3.1, I t3.2.1, I t3.2.2]), Computes cx 62 [.agg [I t3.1, I t3.2.1, I t3.2.2], .agg [I a14, I a15, I a16]] (I t4), Computes cx 63 [.agg [.v (.string a0), I a1, I a2, I a3, I a4, I a5, I a6, I a7, I a8, I a9]] (.agg [I t3.1, I t3.2.1, I t3.2.2]), Computes cx 89 [.agg [I a11, I a12, I a13], .agg [I t1.1, I t1.2.1, I t1.2.2]] (.agg [I t2.1, I t2.2.1, I t2.2.2]), Computes cx 90 [I (IntKind.wrap .i64 (0 - a10)), .agg [I a1, I a2, I a3]] (.agg [I t1.1, I t1.2.1, I t1.2.2])]) (e_field_Mirror_meets_13 a0 a1 a2 a3 a4 a5 a6 a7 a8 a9 a10 a11 a12 a13 a14 a15 a16 a17 t1 t2 t3 t4 t5 t10 t11 t12) ⟨(decide_eq_false h14), h13, (c_field_dot h12), (c_field_dot h11), (c_field_cross h10), (bfalse h9), (decide_eq_false h8), (eqf h7), (decide_eq_false h6), (c_field_dot h5), (c_field_Mirror_normal h3), (c_field_dot h4), (c_field_Mirror_normal h3), (c_field_plus h2), (c_field_times h1), trivial⟩
def F_light_IsName_L1 (n : Nat) (a0 : ByteArray) (sa : (Nat)) : Option (((Nat)) ⊕ ((Unit) ⊕ (Unit))) :=
  if sa < a0.size then
    if ((Utf8.decode a0 sa).1 : Int) ≥ 97 then
      if ((Utf8.decode a0 sa).1 : Int) ≤ 122 then
        some (.inl (sa + (Utf8.decode a0 sa).2))
      else
      if ((Utf8.decode a0 sa).1 : Int) ≥ 65 then
        if ((Utf8.decode a0 sa).1 : Int) ≤ 90 then
          some (.inl (sa + (Utf8.decode a0 sa).2))
        else
        if ((sa : Nat) : Int) = 0 then
          some (.inr (.inl ()))
        else
        if ((Utf8.decode a0 sa).1 : Int) = 95 then
          some (.inl (sa + (Utf8.decode a0 sa).2))
        else
        if ((Utf8.decode a0 sa).1 : Int) < 48 then
          some (.inr (.inl ()))
        else
        if ((Utf8.decode a0 sa).1 : Int) > 57 then
          some (.inr (.inl ()))
        else
        some (.inl (sa + (Utf8.decode a0 sa).2))
      else
      if ((sa : Nat) : Int) = 0 then
        some (.inr (.inl ()))
      else
      if ((Utf8.decode a0 sa).1 : Int) = 95 then
        some (.inl (sa + (Utf8.decode a0 sa).2))
      else
      if ((Utf8.decode a0 sa).1 : Int) < 48 then
        some (.inr (.inl ()))
      else
      if ((Utf8.decode a0 sa).1 : Int) > 57 then
        some (.inr (.inl ()))
      else
      some (.inl (sa + (Utf8.decode a0 sa).2))
    else
    if ((Utf8.decode a0 sa).1 : Int) ≥ 65 then
      if ((Utf8.decode a0 sa).1 : Int) ≤ 90 then
        some (.inl (sa + (Utf8.decode a0 sa).2))
      else
      if ((sa : Nat) : Int) = 0 then
        some (.inr (.inl ()))
      else
      if ((Utf8.decode a0 sa).1 : Int) = 95 then
        some (.inl (sa + (Utf8.decode a0 sa).2))
      else
      if ((Utf8.decode a0 sa).1 : Int) < 48 then
        some (.inr (.inl ()))
      else
      if ((Utf8.decode a0 sa).1 : Int) > 57 then
        some (.inr (.inl ()))
      else
      some (.inl (sa + (Utf8.decode a0 sa).2))
    else
    if ((sa : Nat) : Int) = 0 then
      some (.inr (.inl ()))
    else
    if ((Utf8.decode a0 sa).1 : Int) = 95 then
      some (.inl (sa + (Utf8.decode a0 sa).2))
    else
    if ((Utf8.decode a0 sa).1 : Int) < 48 then
      some (.inr (.inl ()))
    else
    if ((Utf8.decode a0 sa).1 : Int) > 57 then
      some (.inr (.inl ()))
    else
    some (.inl (sa + (Utf8.decode a0 sa).2))
  else
  some (.inr (.inr ()))
noncomputable def T_light_IsName_L1 (a0 : ByteArray) (sa : (Nat)) : List (Nat × AV) := [(0, .d (.v (.string a0))), (7, .own 2 0)]
noncomputable def H_light_IsName_L1 (a0 : ByteArray) (sa : (Nat)) : List (Nat × Blk) := [(2, .it a0 sa)]
noncomputable def X_light_IsName_L1 (a0 : ByteArray) (e : (Unit) ⊕ (Unit)) : Ex := match e with
  | (.inl e) => .ret
  | (.inr e) => (.exit 0)
noncomputable def XT_light_IsName_L1 (a0 : ByteArray) (e : (Unit) ⊕ (Unit)) : List (Nat × AV) := match e with
  | (.inl e) => [(2, .d (B false))]
  | (.inr e) => [(0, .d (.v (.string a0)))]
noncomputable def XH_light_IsName_L1 (a0 : ByteArray) (e : (Unit) ⊕ (Unit)) : List (Nat × Blk) := match e with
  | (.inl e) => []
  | (.inr e) => []
theorem R_light_IsName_L1 {n : Nat} {a0 : ByteArray} (sa : (Nat)) (r) (h : F_light_IsName_L1 n a0 sa = some r) : Rd cx (loopAt cx.P 121 0) 51 0 false (T_light_IsName_L1 a0) (H_light_IsName_L1 a0) (X_light_IsName_L1 a0) (XT_light_IsName_L1 a0) (XH_light_IsName_L1 a0) sa r := by
  unfold F_light_IsName_L1 at h
  by_cases ha1 : sa < a0.size
  · replace h := ite_t h ha1
    by_cases ha2 : ((Utf8.decode a0 sa).1 : Int) ≥ 97
    · replace h := ite_t h ha2
      by_cases ha3 : ((Utf8.decode a0 sa).1 : Int) ≤ 122
      · replace h := ite_t h ha3
        replace h := Option.some.inj h
        subst h
        exact ⟨100, 3, [.br true, .no, .br true, .br true, .no, .no], [], [0, 7], [2], round_of (ob := [(decide (((Utf8.decode a0 sa).1 : Int) ≤ 122)) = true, (decide (((Utf8.decode a0 sa).1 : Int) ≥ 97)) = true, sa < a0.size]) (by kernel_rfl) ⟨(decide_eq_true ha3), (decide_eq_true ha2), ha1, trivial⟩⟩
      · replace h := ite_f h ha3
        by_cases ha4 : ((Utf8.decode a0 sa).1 : Int) ≥ 65
        · replace h := ite_t h ha4
          by_cases ha5 : ((Utf8.decode a0 sa).1 : Int) ≤ 90
          · replace h := ite_t h ha5
            replace h := Option.some.inj h
            subst h
            exact ⟨100, 3, [.br true, .no, .br true, .br false, .br true, .br false, .no], [], [0, 7], [2], round_of (ob := [(!(decide (((Utf8.decode a0 sa).1 : Int) ≤ 90))) = false, (decide (((Utf8.decode a0 sa).1 : Int) ≥ 65)) = true, (decide (((Utf8.decode a0 sa).1 : Int) ≤ 122)) = false, (decide (((Utf8.decode a0 sa).1 : Int) ≥ 97)) = true, sa < a0.size]) (by kernel_rfl) ⟨(notf (decide_eq_true ha5)), (decide_eq_true ha4), (decide_eq_false ha3), (decide_eq_true ha2), ha1, trivial⟩⟩
          · replace h := ite_f h ha5
            by_cases ha6 : ((sa : Nat) : Int) = 0
            · replace h := ite_t h ha6
              replace h := Option.some.inj h
              subst h
              exact ⟨⟨100, 3, [.br true, .no, .br true, .br false, .br true, .br true, .br true, .no], [], [2], [], round_of (ob := [(((sa : Nat) : Int) == 0) = true, (!(decide (((Utf8.decode a0 sa).1 : Int) ≤ 90))) = true, (decide (((Utf8.decode a0 sa).1 : Int) ≥ 65)) = true, (decide (((Utf8.decode a0 sa).1 : Int) ≤ 122)) = false, (decide (((Utf8.decode a0 sa).1 : Int) ≥ 97)) = true, sa < a0.size]) (by kernel_rfl) ⟨(eqt ha6), (nott (decide_eq_false ha5)), (decide_eq_true ha4), (decide_eq_false ha3), (decide_eq_true ha2), ha1, trivial⟩⟩, nofun⟩
            · replace h := ite_f h ha6
              by_cases ha7 : ((Utf8.decode a0 sa).1 : Int) = 95
              · replace h := ite_t h ha7
                replace h := Option.some.inj h
                subst h
                exact ⟨100, 3, [.br true, .no, .br true, .br false, .br true, .br true, .br false, .br false, .no], [], [0, 7], [2], round_of (ob := [(((Utf8.decode a0 sa).1 : Int) != 95) = false, (((sa : Nat) : Int) == 0) = false, (!(decide (((Utf8.decode a0 sa).1 : Int) ≤ 90))) = true, (decide (((Utf8.decode a0 sa).1 : Int) ≥ 65)) = true, (decide (((Utf8.decode a0 sa).1 : Int) ≤ 122)) = false, (decide (((Utf8.decode a0 sa).1 : Int) ≥ 97)) = true, sa < a0.size]) (by kernel_rfl) ⟨(nef ha7), (eqf ha6), (nott (decide_eq_false ha5)), (decide_eq_true ha4), (decide_eq_false ha3), (decide_eq_true ha2), ha1, trivial⟩⟩
              · replace h := ite_f h ha7
                by_cases ha8 : ((Utf8.decode a0 sa).1 : Int) < 48
                · replace h := ite_t h ha8
                  replace h := Option.some.inj h
                  subst h
                  exact ⟨⟨100, 3, [.br true, .no, .br true, .br false, .br true, .br true, .br false, .br true, .br true, .no], [], [2], [], round_of (ob := [(decide (((Utf8.decode a0 sa).1 : Int) < 48)) = true, (((Utf8.decode a0 sa).1 : Int) != 95) = true, (((sa : Nat) : Int) == 0) = false, (!(decide (((Utf8.decode a0 sa).1 : Int) ≤ 90))) = true, (decide (((Utf8.decode a0 sa).1 : Int) ≥ 65)) = true, (decide (((Utf8.decode a0 sa).1 : Int) ≤ 122)) = false, (decide (((Utf8.decode a0 sa).1 : Int) ≥ 97)) = true, sa < a0.size]) (by kernel_rfl) ⟨(decide_eq_true ha8), (net ha7), (eqf ha6), (nott (decide_eq_false ha5)), (decide_eq_true ha4), (decide_eq_false ha3), (decide_eq_true ha2), ha1, trivial⟩⟩, nofun⟩
                · replace h := ite_f h ha8
                  by_cases ha9 : ((Utf8.decode a0 sa).1 : Int) > 57
                  · replace h := ite_t h ha9
                    replace h := Option.some.inj h
                    subst h
                    exact ⟨⟨100, 3, [.br true, .no, .br true, .br false, .br true, .br true, .br false, .br true, .br false, .br true], [], [2], [], round_of (ob := [(decide (((Utf8.decode a0 sa).1 : Int) > 57)) = true, (decide (((Utf8.decode a0 sa).1 : Int) < 48)) = false, (((Utf8.decode a0 sa).1 : Int) != 95) = true, (((sa : Nat) : Int) == 0) = false, (!(decide (((Utf8.decode a0 sa).1 : Int) ≤ 90))) = true, (decide (((Utf8.decode a0 sa).1 : Int) ≥ 65)) = true, (decide (((Utf8.decode a0 sa).1 : Int) ≤ 122)) = false, (decide (((Utf8.decode a0 sa).1 : Int) ≥ 97)) = true, sa < a0.size]) (by kernel_rfl) ⟨(decide_eq_true ha9), (decide_eq_false ha8), (net ha7), (eqf ha6), (nott (decide_eq_false ha5)), (decide_eq_true ha4), (decide_eq_false ha3), (decide_eq_true ha2), ha1, trivial⟩⟩, nofun⟩
                  · replace h := ite_f h ha9
                    replace h := Option.some.inj h
                    subst h
                    exact ⟨100, 3, [.br true, .no, .br true, .br false, .br true, .br true, .br false, .br true, .br false, .br false], [], [0, 7], [2], round_of (ob := [(decide (((Utf8.decode a0 sa).1 : Int) > 57)) = false, (decide (((Utf8.decode a0 sa).1 : Int) < 48)) = false, (((Utf8.decode a0 sa).1 : Int) != 95) = true, (((sa : Nat) : Int) == 0) = false, (!(decide (((Utf8.decode a0 sa).1 : Int) ≤ 90))) = true, (decide (((Utf8.decode a0 sa).1 : Int) ≥ 65)) = true, (decide (((Utf8.decode a0 sa).1 : Int) ≤ 122)) = false, (decide (((Utf8.decode a0 sa).1 : Int) ≥ 97)) = true, sa < a0.size]) (by kernel_rfl) ⟨(decide_eq_false ha9), (decide_eq_false ha8), (net ha7), (eqf ha6), (nott (decide_eq_false ha5)), (decide_eq_true ha4), (decide_eq_false ha3), (decide_eq_true ha2), ha1, trivial⟩⟩
        · replace h := ite_f h ha4
          by_cases ha5 : ((sa : Nat) : Int) = 0
          · replace h := ite_t h ha5
            replace h := Option.some.inj h
            subst h
            exact ⟨⟨100, 3, [.br true, .no, .br true, .br false, .br false, .no, .br true, .no], [], [2], [], round_of (ob := [(((sa : Nat) : Int) == 0) = true, (decide (((Utf8.decode a0 sa).1 : Int) ≥ 65)) = false, (decide (((Utf8.decode a0 sa).1 : Int) ≤ 122)) = false, (decide (((Utf8.decode a0 sa).1 : Int) ≥ 97)) = true, sa < a0.size]) (by kernel_rfl) ⟨(eqt ha5), (decide_eq_false ha4), (decide_eq_false ha3), (decide_eq_true ha2), ha1, trivial⟩⟩, nofun⟩
          · replace h := ite_f h ha5
            by_cases ha6 : ((Utf8.decode a0 sa).1 : Int) = 95
            · replace h := ite_t h ha6
              replace h := Option.some.inj h
              subst h
              exact ⟨100, 3, [.br true, .no, .br true, .br false, .br false, .no, .br false, .br false, .no], [], [0, 7], [2], round_of (ob := [(((Utf8.decode a0 sa).1 : Int) != 95) = false, (((sa : Nat) : Int) == 0) = false, (decide (((Utf8.decode a0 sa).1 : Int) ≥ 65)) = false, (decide (((Utf8.decode a0 sa).1 : Int) ≤ 122)) = false, (decide (((Utf8.decode a0 sa).1 : Int) ≥ 97)) = true, sa < a0.size]) (by kernel_rfl) ⟨(nef ha6), (eqf ha5), (decide_eq_false ha4), (decide_eq_false ha3), (decide_eq_true ha2), ha1, trivial⟩⟩
            · replace h := ite_f h ha6
              by_cases ha7 : ((Utf8.decode a0 sa).1 : Int) < 48
              · replace h := ite_t h ha7
                replace h := Option.some.inj h
                subst h
                exact ⟨⟨100, 3, [.br true, .no, .br true, .br false, .br false, .no, .br false, .br true, .br true, .no], [], [2], [], round_of (ob := [(decide (((Utf8.decode a0 sa).1 : Int) < 48)) = true, (((Utf8.decode a0 sa).1 : Int) != 95) = true, (((sa : Nat) : Int) == 0) = false, (decide (((Utf8.decode a0 sa).1 : Int) ≥ 65)) = false, (decide (((Utf8.decode a0 sa).1 : Int) ≤ 122)) = false, (decide (((Utf8.decode a0 sa).1 : Int) ≥ 97)) = true, sa < a0.size]) (by kernel_rfl) ⟨(decide_eq_true ha7), (net ha6), (eqf ha5), (decide_eq_false ha4), (decide_eq_false ha3), (decide_eq_true ha2), ha1, trivial⟩⟩, nofun⟩
              · replace h := ite_f h ha7
                by_cases ha8 : ((Utf8.decode a0 sa).1 : Int) > 57
                · replace h := ite_t h ha8
                  replace h := Option.some.inj h
                  subst h
                  exact ⟨⟨100, 3, [.br true, .no, .br true, .br false, .br false, .no, .br false, .br true, .br false, .br true], [], [2], [], round_of (ob := [(decide (((Utf8.decode a0 sa).1 : Int) > 57)) = true, (decide (((Utf8.decode a0 sa).1 : Int) < 48)) = false, (((Utf8.decode a0 sa).1 : Int) != 95) = true, (((sa : Nat) : Int) == 0) = false, (decide (((Utf8.decode a0 sa).1 : Int) ≥ 65)) = false, (decide (((Utf8.decode a0 sa).1 : Int) ≤ 122)) = false, (decide (((Utf8.decode a0 sa).1 : Int) ≥ 97)) = true, sa < a0.size]) (by kernel_rfl) ⟨(decide_eq_true ha8), (decide_eq_false ha7), (net ha6), (eqf ha5), (decide_eq_false ha4), (decide_eq_false ha3), (decide_eq_true ha2), ha1, trivial⟩⟩, nofun⟩
                · replace h := ite_f h ha8
                  replace h := Option.some.inj h
                  subst h
                  exact ⟨100, 3, [.br true, .no, .br true, .br false, .br false, .no, .br false, .br true, .br false, .br false], [], [0, 7], [2], round_of (ob := [(decide (((Utf8.decode a0 sa).1 : Int) > 57)) = false, (decide (((Utf8.decode a0 sa).1 : Int) < 48)) = false, (((Utf8.decode a0 sa).1 : Int) != 95) = true, (((sa : Nat) : Int) == 0) = false, (decide (((Utf8.decode a0 sa).1 : Int) ≥ 65)) = false, (decide (((Utf8.decode a0 sa).1 : Int) ≤ 122)) = false, (decide (((Utf8.decode a0 sa).1 : Int) ≥ 97)) = true, sa < a0.size]) (by kernel_rfl) ⟨(decide_eq_false ha8), (decide_eq_false ha7), (net ha6), (eqf ha5), (decide_eq_false ha4), (decide_eq_false ha3), (decide_eq_true ha2), ha1, trivial⟩⟩
    · replace h := ite_f h ha2
      by_cases ha3 : ((Utf8.decode a0 sa).1 : Int) ≥ 65
      · replace h := ite_t h ha3
        by_cases ha4 : ((Utf8.decode a0 sa).1 : Int) ≤ 90
        · replace h := ite_t h ha4
          replace h := Option.some.inj h
          subst h
          exact ⟨100, 3, [.br true, .no, .br false, .no, .br true, .br false, .no], [], [0, 7], [2], round_of (ob := [(!(decide (((Utf8.decode a0 sa).1 : Int) ≤ 90))) = false, (decide (((Utf8.decode a0 sa).1 : Int) ≥ 65)) = true, (decide (((Utf8.decode a0 sa).1 : Int) ≥ 97)) = false, sa < a0.size]) (by kernel_rfl) ⟨(notf (decide_eq_true ha4)), (decide_eq_true ha3), (decide_eq_false ha2), ha1, trivial⟩⟩
        · replace h := ite_f h ha4
          by_cases ha5 : ((sa : Nat) : Int) = 0
          · replace h := ite_t h ha5
            replace h := Option.some.inj h
            subst h
            exact ⟨⟨100, 3, [.br true, .no, .br false, .no, .br true, .br true, .br true, .no], [], [2], [], round_of (ob := [(((sa : Nat) : Int) == 0) = true, (!(decide (((Utf8.decode a0 sa).1 : Int) ≤ 90))) = true, (decide (((Utf8.decode a0 sa).1 : Int) ≥ 65)) = true, (decide (((Utf8.decode a0 sa).1 : Int) ≥ 97)) = false, sa < a0.size]) (by kernel_rfl) ⟨(eqt ha5), (nott (decide_eq_false ha4)), (decide_eq_true ha3), (decide_eq_false ha2), ha1, trivial⟩⟩, nofun⟩
          · replace h := ite_f h ha5
            by_cases ha6 : ((Utf8.decode a0 sa).1 : Int) = 95
            · replace h := ite_t h ha6
              replace h := Option.some.inj h
              subst h
              exact ⟨100, 3, [.br true, .no, .br false, .no, .br true, .br true, .br false, .br false, .no], [], [0, 7], [2], round_of (ob := [(((Utf8.decode a0 sa).1 : Int) != 95) = false, (((sa : Nat) : Int) == 0) = false, (!(decide (((Utf8.decode a0 sa).1 : Int) ≤ 90))) = true, (decide (((Utf8.decode a0 sa).1 : Int) ≥ 65)) = true, (decide (((Utf8.decode a0 sa).1 : Int) ≥ 97)) = false, sa < a0.size]) (by kernel_rfl) ⟨(nef ha6), (eqf ha5), (nott (decide_eq_false ha4)), (decide_eq_true ha3), (decide_eq_false ha2), ha1, trivial⟩⟩
            · replace h := ite_f h ha6
              by_cases ha7 : ((Utf8.decode a0 sa).1 : Int) < 48
              · replace h := ite_t h ha7
                replace h := Option.some.inj h
                subst h
                exact ⟨⟨100, 3, [.br true, .no, .br false, .no, .br true, .br true, .br false, .br true, .br true, .no], [], [2], [], round_of (ob := [(decide (((Utf8.decode a0 sa).1 : Int) < 48)) = true, (((Utf8.decode a0 sa).1 : Int) != 95) = true, (((sa : Nat) : Int) == 0) = false, (!(decide (((Utf8.decode a0 sa).1 : Int) ≤ 90))) = true, (decide (((Utf8.decode a0 sa).1 : Int) ≥ 65)) = true, (decide (((Utf8.decode a0 sa).1 : Int) ≥ 97)) = false, sa < a0.size]) (by kernel_rfl) ⟨(decide_eq_true ha7), (net ha6), (eqf ha5), (nott (decide_eq_false ha4)), (decide_eq_true ha3), (decide_eq_false ha2), ha1, trivial⟩⟩, nofun⟩
              · replace h := ite_f h ha7
                by_cases ha8 : ((Utf8.decode a0 sa).1 : Int) > 57
                · replace h := ite_t h ha8
                  replace h := Option.some.inj h
                  subst h
                  exact ⟨⟨100, 3, [.br true, .no, .br false, .no, .br true, .br true, .br false, .br true, .br false, .br true], [], [2], [], round_of (ob := [(decide (((Utf8.decode a0 sa).1 : Int) > 57)) = true, (decide (((Utf8.decode a0 sa).1 : Int) < 48)) = false, (((Utf8.decode a0 sa).1 : Int) != 95) = true, (((sa : Nat) : Int) == 0) = false, (!(decide (((Utf8.decode a0 sa).1 : Int) ≤ 90))) = true, (decide (((Utf8.decode a0 sa).1 : Int) ≥ 65)) = true, (decide (((Utf8.decode a0 sa).1 : Int) ≥ 97)) = false, sa < a0.size]) (by kernel_rfl) ⟨(decide_eq_true ha8), (decide_eq_false ha7), (net ha6), (eqf ha5), (nott (decide_eq_false ha4)), (decide_eq_true ha3), (decide_eq_false ha2), ha1, trivial⟩⟩, nofun⟩
                · replace h := ite_f h ha8
                  replace h := Option.some.inj h
                  subst h
                  exact ⟨100, 3, [.br true, .no, .br false, .no, .br true, .br true, .br false, .br true, .br false, .br false], [], [0, 7], [2], round_of (ob := [(decide (((Utf8.decode a0 sa).1 : Int) > 57)) = false, (decide (((Utf8.decode a0 sa).1 : Int) < 48)) = false, (((Utf8.decode a0 sa).1 : Int) != 95) = true, (((sa : Nat) : Int) == 0) = false, (!(decide (((Utf8.decode a0 sa).1 : Int) ≤ 90))) = true, (decide (((Utf8.decode a0 sa).1 : Int) ≥ 65)) = true, (decide (((Utf8.decode a0 sa).1 : Int) ≥ 97)) = false, sa < a0.size]) (by kernel_rfl) ⟨(decide_eq_false ha8), (decide_eq_false ha7), (net ha6), (eqf ha5), (nott (decide_eq_false ha4)), (decide_eq_true ha3), (decide_eq_false ha2), ha1, trivial⟩⟩
      · replace h := ite_f h ha3
        by_cases ha4 : ((sa : Nat) : Int) = 0
        · replace h := ite_t h ha4
          replace h := Option.some.inj h
          subst h
          exact ⟨⟨100, 3, [.br true, .no, .br false, .no, .br false, .no, .br true, .no], [], [2], [], round_of (ob := [(((sa : Nat) : Int) == 0) = true, (decide (((Utf8.decode a0 sa).1 : Int) ≥ 65)) = false, (decide (((Utf8.decode a0 sa).1 : Int) ≥ 97)) = false, sa < a0.size]) (by kernel_rfl) ⟨(eqt ha4), (decide_eq_false ha3), (decide_eq_false ha2), ha1, trivial⟩⟩, nofun⟩
        · replace h := ite_f h ha4
          by_cases ha5 : ((Utf8.decode a0 sa).1 : Int) = 95
          · replace h := ite_t h ha5
            replace h := Option.some.inj h
            subst h
            exact ⟨100, 3, [.br true, .no, .br false, .no, .br false, .no, .br false, .br false, .no], [], [0, 7], [2], round_of (ob := [(((Utf8.decode a0 sa).1 : Int) != 95) = false, (((sa : Nat) : Int) == 0) = false, (decide (((Utf8.decode a0 sa).1 : Int) ≥ 65)) = false, (decide (((Utf8.decode a0 sa).1 : Int) ≥ 97)) = false, sa < a0.size]) (by kernel_rfl) ⟨(nef ha5), (eqf ha4), (decide_eq_false ha3), (decide_eq_false ha2), ha1, trivial⟩⟩
          · replace h := ite_f h ha5
            by_cases ha6 : ((Utf8.decode a0 sa).1 : Int) < 48
            · replace h := ite_t h ha6
              replace h := Option.some.inj h
              subst h
              exact ⟨⟨100, 3, [.br true, .no, .br false, .no, .br false, .no, .br false, .br true, .br true, .no], [], [2], [], round_of (ob := [(decide (((Utf8.decode a0 sa).1 : Int) < 48)) = true, (((Utf8.decode a0 sa).1 : Int) != 95) = true, (((sa : Nat) : Int) == 0) = false, (decide (((Utf8.decode a0 sa).1 : Int) ≥ 65)) = false, (decide (((Utf8.decode a0 sa).1 : Int) ≥ 97)) = false, sa < a0.size]) (by kernel_rfl) ⟨(decide_eq_true ha6), (net ha5), (eqf ha4), (decide_eq_false ha3), (decide_eq_false ha2), ha1, trivial⟩⟩, nofun⟩
            · replace h := ite_f h ha6
              by_cases ha7 : ((Utf8.decode a0 sa).1 : Int) > 57
              · replace h := ite_t h ha7
                replace h := Option.some.inj h
                subst h
                exact ⟨⟨100, 3, [.br true, .no, .br false, .no, .br false, .no, .br false, .br true, .br false, .br true], [], [2], [], round_of (ob := [(decide (((Utf8.decode a0 sa).1 : Int) > 57)) = true, (decide (((Utf8.decode a0 sa).1 : Int) < 48)) = false, (((Utf8.decode a0 sa).1 : Int) != 95) = true, (((sa : Nat) : Int) == 0) = false, (decide (((Utf8.decode a0 sa).1 : Int) ≥ 65)) = false, (decide (((Utf8.decode a0 sa).1 : Int) ≥ 97)) = false, sa < a0.size]) (by kernel_rfl) ⟨(decide_eq_true ha7), (decide_eq_false ha6), (net ha5), (eqf ha4), (decide_eq_false ha3), (decide_eq_false ha2), ha1, trivial⟩⟩, nofun⟩
              · replace h := ite_f h ha7
                replace h := Option.some.inj h
                subst h
                exact ⟨100, 3, [.br true, .no, .br false, .no, .br false, .no, .br false, .br true, .br false, .br false], [], [0, 7], [2], round_of (ob := [(decide (((Utf8.decode a0 sa).1 : Int) > 57)) = false, (decide (((Utf8.decode a0 sa).1 : Int) < 48)) = false, (((Utf8.decode a0 sa).1 : Int) != 95) = true, (((sa : Nat) : Int) == 0) = false, (decide (((Utf8.decode a0 sa).1 : Int) ≥ 65)) = false, (decide (((Utf8.decode a0 sa).1 : Int) ≥ 97)) = false, sa < a0.size]) (by kernel_rfl) ⟨(decide_eq_false ha7), (decide_eq_false ha6), (net ha5), (eqf ha4), (decide_eq_false ha3), (decide_eq_false ha2), ha1, trivial⟩⟩
  · replace h := ite_f h ha1
    replace h := Option.some.inj h
    subst h
    exact ⟨⟨100, 3, [.br false, .no], [], [0], [], round_of (ob := [¬ sa < a0.size]) (by kernel_rfl) ⟨ha1, trivial⟩⟩, nofun⟩
/- spillage/light.IsName: .v (.string a0) -/
def F_light_IsName (n : Nat) (a0 : ByteArray) : Option (Bool) :=
  (loopF (F_light_IsName_L1 n a0) n 0).bind fun t1 => match t1 with
    | (.inl t1) => (
      some false)
    | (.inr t1) => (
      if (!(a0.toList == (⟨#[]⟩ : ByteArray).toList)) = true then
        some (decide ((a0.size : Int) ≤ 24))
      else
      some false)
theorem c_light_IsName {n : Nat} {a0 : ByteArray} {r : Bool} (h : F_light_IsName n a0 = some r) : Computes cx 121 [.v (.string a0)] (B r) := by
  unfold F_light_IsName at h
  obtain ⟨t1, h1, h⟩ := bnd_of h
  rcases t1 with t1 | t1
  · replace h := Option.some.inj h
    subst h
    exact run (n := 100) (f := 121) (args := [.v (.string a0)]) (orc := [.lp [] [0, 7] [2] .ret [(2, .d (B false))] [] 54]) (r := B false) (ob := [LoopN cx (loopAt cx.P 121 0) 51 0 false [(0, .d (.v (.string a0))), (7, .own 2 0)] [(2, .it a0 0)] .ret [(2, .d (B false))] []]) (by kernel_rfl) ⟨(loopF_to R_light_IsName_L1 h1), trivial⟩
  · by_cases h2 : (!(a0.toList == (⟨#[]⟩ : ByteArray).toList)) = true
    · replace h := ite_t h h2
      replace h := Option.some.inj h
      subst h
      exact run (n := 100) (f := 121) (args := [.v (.string a0)]) (orc := [.lp [] [0, 7] [2] (.exit 0) [(0, .d (.v (.string a0)))] [] 54, .br true]) (r := B (decide ((a0.size : Int) ≤ 24))) (ob := [(!(a0.toList == (⟨#[]⟩ : ByteArray).toList)) = true, LoopN cx (loopAt cx.P 121 0) 51 0 false [(0, .d (.v (.string a0))), (7, .own 2 0)] [(2, .it a0 0)] (.exit 0) [(0, .d (.v (.string a0)))] []]) (by kernel_rfl) ⟨h2, (loopF_to R_light_IsName_L1 h1), trivial⟩
    · replace h := ite_f h h2
      replace h := Option.some.inj h
      subst h
      exact run (n := 100) (f := 121) (args := [.v (.string a0)]) (orc := [.lp [] [0, 7] [2] (.exit 0) [(0, .d (.v (.string a0)))] [] 54, .br false]) (r := B false) (ob := [(!(a0.toList == (⟨#[]⟩ : ByteArray).toList)) = false, LoopN cx (loopAt cx.P 121 0) 51 0 false [(0, .d (.v (.string a0))), (7, .own 2 0)] [(2, .it a0 0)] (.exit 0) [(0, .d (.v (.string a0)))] []]) (by kernel_rfl) ⟨(bfalse h2), (loopF_to R_light_IsName_L1 h1), trivial⟩
/- spillage/field.when: B a0, I a1 -/
def F_field_when (n : Nat) (a0 : Bool) (a1 : Int) : Option (Int) :=
  if a0 = true then
    some a1
  else
  some 0
theorem c_field_when {n : Nat} {a0 : Bool} {a1 : Int} {r : Int} (h : F_field_when n a0 a1 = some r) : Computes cx 66 [B a0, I a1] (I r) := by
  unfold F_field_when at h
  by_cases h1 : a0 = true
  · replace h := ite_t h h1
    replace h := Option.some.inj h
    subst h
    exact run (n := 100) (f := 66) (args := [B a0, I a1]) (orc := [.br true]) (r := I a1) (ob := [a0 = true]) (by kernel_rfl) ⟨h1, trivial⟩
  · replace h := ite_f h h1
    replace h := Option.some.inj h
    subst h
    exact run (n := 100) (f := 66) (args := [B a0, I a1]) (orc := [.br false]) (r := I 0) (ob := [a0 = false]) (by kernel_rfl) ⟨(bfalse h1), trivial⟩
/- spillage/field.when: B true, I 3 -/
def F_field_when_2 (n : Nat)  : Option (Int) :=
  some 3
theorem c_field_when_2 {n : Nat}  {r : Int} (h : F_field_when_2 n  = some r) : Computes cx 66 [B true, I 3] (I r) := by
  unfold F_field_when_2 at h
  replace h := Option.some.inj h
  subst h
  exact run (n := 100) (f := 66) (args := [B true, I 3]) (orc := [.no]) (r := I 3) (ob := []) (by kernel_rfl) trivial
/- spillage/field.within: I a0, I a1, I a2 -/
def F_field_within (n : Nat) (a0 : Int) (a1 : Int) (a2 : Int) : Option (Int) :=
  if a0 < a1 then
    (F_field_when_2 n).bind fun t2 =>
    some t2
  else
  (F_field_when n (decide (a0 > a2)) 3).bind fun t2 =>
  some t2
theorem c_field_within {n : Nat} {a0 : Int} {a1 : Int} {a2 : Int} {r : Int} (h : F_field_within n a0 a1 a2 = some r) : Computes cx 88 [I a0, I a1, I a2] (I r) := by
  unfold F_field_within at h
  by_cases h1 : a0 < a1
  · replace h := ite_t h h1
    obtain ⟨t2, h2, h⟩ := bnd_of h
    replace h := Option.some.inj h
    subst h
    exact run (n := 100) (f := 88) (args := [I a0, I a1, I a2]) (orc := [.br true, .ret (I t2)]) (r := I t2) (ob := [Computes cx 66 [B true, I 3] (I t2), (decide (a0 < a1)) = true]) (by kernel_rfl) ⟨(c_field_when_2 h2), (decide_eq_true h1), trivial⟩
  · replace h := ite_f h h1
    obtain ⟨t2, h2, h⟩ := bnd_of h
    replace h := Option.some.inj h
    subst h
    exact run (n := 100) (f := 88) (args := [I a0, I a1, I a2]) (orc := [.br false, .ret (I t2)]) (r := I t2) (ob := [Computes cx 66 [B (decide (a0 > a2)), I 3] (I t2), (decide (a0 < a1)) = false]) (by kernel_rfl) ⟨(c_field_when h2), (decide_eq_false h1), trivial⟩
def enc_i (x : Int) : D := I x
def un_i (d : D) : Option (Int) := un_int .i64 d
theorem un_i_ok {d : D} {x : Int} (h : un_i d = some x) : d = enc_i x := un_int_ok h
def F_field_first_L1 (n : Nat) (a0 : List D) (sa : (Int)) : Option (((Int)) ⊕ ((Int) ⊕ (Unit))) :=
  if sa < ((a0).length : Int) then
    (el un_i a0 sa).bind fun ta2 =>
    if ta2 = 0 then
      if inI64 (sa + 1) then
      some (.inl (sa + 1))
      else none
    else
    some (.inr (.inl ta2))
  else
  some (.inr (.inr ()))
noncomputable def T_field_first_L1 (a0 : List D) (sa : (Int)) : List (Nat × AV) := [(5, .d (.lst false 1 a0)), (6, .d (I ((a0).length : Int))), (7, .d (I sa))]
noncomputable def H_field_first_L1 (a0 : List D) (sa : (Int)) : List (Nat × Blk) := []
noncomputable def X_field_first_L1 (a0 : List D) (e : (Int) ⊕ (Unit)) : Ex := match e with
  | (.inl e) => .ret
  | (.inr e) => (.exit 0)
noncomputable def XT_field_first_L1 (a0 : List D) (e : (Int) ⊕ (Unit)) : List (Nat × AV) := match e with
  | (.inl e) => [(2, .d (I e))]
  | (.inr e) => []
noncomputable def XH_field_first_L1 (a0 : List D) (e : (Int) ⊕ (Unit)) : List (Nat × Blk) := match e with
  | (.inl e) => []
  | (.inr e) => []
theorem R_field_first_L1 {n : Nat} {a0 : List D} (sa : (Int)) (r) (h : F_field_first_L1 n a0 sa = some r) : Rd cx (loopAt cx.P 59 0) 15 0 false (T_field_first_L1 a0) (H_field_first_L1 a0) (X_field_first_L1 a0) (XT_field_first_L1 a0) (XH_field_first_L1 a0) sa r := by
  unfold F_field_first_L1 at h
  by_cases ha1 : sa < ((a0).length : Int)
  · replace h := ite_t h ha1
    obtain ⟨ta2, ha2, h⟩ := bnd_of h
    by_cases ha3 : ta2 = 0
    · replace h := ite_t h ha3
      obtain ⟨ha4, h⟩ := grd_of h
      replace h := Option.some.inj h
      subst h
      exact ⟨100, 4, [.br true, .el (I ta2), .br false], [], [5, 6, 7], [], round_of (ob := [inI64 (sa + 1), (ta2 != 0) = false, (0 : Int) ≤ sa, nth (a0) (Int.toNat sa) = some (I ta2), (decide (sa < ((a0).length : Int))) = true]) (by kernel_rfl) ⟨ha4, (nef ha3), (el_ok un_i_ok ha2).1, (el_ok un_i_ok ha2).2, (decide_eq_true ha1), trivial⟩⟩
    · replace h := ite_f h ha3
      replace h := Option.some.inj h
      subst h
      exact ⟨⟨100, 4, [.br true, .el (I ta2), .br true], [], [2], [], round_of (ob := [(ta2 != 0) = true, (0 : Int) ≤ sa, nth (a0) (Int.toNat sa) = some (I ta2), (decide (sa < ((a0).length : Int))) = true]) (by kernel_rfl) ⟨(net ha3), (el_ok un_i_ok ha2).1, (el_ok un_i_ok ha2).2, (decide_eq_true ha1), trivial⟩⟩, nofun⟩
  · replace h := ite_f h ha1
    replace h := Option.some.inj h
    subst h
    exact ⟨⟨100, 4, [.br false], [], [], [], round_of (ob := [(decide (sa < ((a0).length : Int))) = false]) (by kernel_rfl) ⟨(decide_eq_false ha1), trivial⟩⟩, nofun⟩
/- spillage/field.first: .lst false 1 a0 -/
def F_field_first (n : Nat) (a0 : List D) : Option (Int) :=
  (loopF (F_field_first_L1 n a0) n 0).bind fun t1 => match t1 with
    | (.inl t1) => (
      some t1)
    | (.inr t1) => (
      some 0)
theorem c_field_first {n : Nat} {a0 : List D} {r : Int} (h : F_field_first n a0 = some r) : Computes cx 59 [.lst false 1 a0] (I r) := by
  unfold F_field_first at h
  obtain ⟨t1, h1, h⟩ := bnd_of h
  rcases t1 with t1 | t1
  · replace h := Option.some.inj h
    subst h
    exact run (n := 100) (f := 59) (args := [.lst false 1 a0]) (orc := [.lp [] [5, 6, 7] [] .ret [(2, .d (I t1))] [] 23]) (r := I t1) (ob := [LoopN cx (loopAt cx.P 59 0) 15 0 false [(5, .d (.lst false 1 a0)), (6, .d (I ((a0).length : Int))), (7, .d (I 0))] [] .ret [(2, .d (I t1))] []]) (by kernel_rfl) ⟨(loopF_to R_field_first_L1 h1), trivial⟩
  · replace h := Option.some.inj h
    subst h
    exact run (n := 100) (f := 59) (args := [.lst false 1 a0]) (orc := [.lp [] [5, 6, 7] [] (.exit 0) [] [] 23]) (r := I 0) (ob := [LoopN cx (loopAt cx.P 59 0) 15 0 false [(5, .d (.lst false 1 a0)), (6, .d (I ((a0).length : Int))), (7, .d (I 0))] [] (.exit 0) [] []]) (by kernel_rfl) ⟨(loopF_to R_field_first_L1 h1), trivial⟩
/- spillage/field.checkParts: .agg [I a0, I a1, I a2], I a3 -/
def F_field_checkParts (n : Nat) (a0 : Int) (a1 : Int) (a2 : Int) (a3 : Int) : Option (Int) :=
  (F_field_within n a0 (IntKind.wrap .i64 (0 - a3)) a3).bind fun t1 =>
  (F_field_within n a1 (IntKind.wrap .i64 (0 - a3)) a3).bind fun t2 =>
  (F_field_within n a2 (IntKind.wrap .i64 (0 - a3)) a3).bind fun t3 =>
  (F_field_first n ([I t1, I t2, I t3])).bind fun t4 =>
  some t4
theorem c_field_checkParts {n : Nat} {a0 : Int} {a1 : Int} {a2 : Int} {a3 : Int} {r : Int} (h : F_field_checkParts n a0 a1 a2 a3 = some r) : Computes cx 81 [.agg [I a0, I a1, I a2], I a3] (I r) := by
  unfold F_field_checkParts at h
  obtain ⟨t1, h1, h⟩ := bnd_of h
  obtain ⟨t2, h2, h⟩ := bnd_of h
  obtain ⟨t3, h3, h⟩ := bnd_of h
  obtain ⟨t4, h4, h⟩ := bnd_of h
  replace h := Option.some.inj h
  subst h
  exact run (n := 100) (f := 81) (args := [.agg [I a0, I a1, I a2], I a3]) (orc := [.ret (I t1), .ret (I t2), .ret (I t3), .ret (I t4)]) (r := I t4) (ob := [Computes cx 59 [.lst true 1 [I t1, I t2, I t3]] (I t4), Computes cx 88 [I a2, I (IntKind.wrap .i64 (0 - a3)), I a3] (I t3), Computes cx 88 [I a1, I (IntKind.wrap .i64 (0 - a3)), I a3] (I t2), Computes cx 88 [I a0, I (IntKind.wrap .i64 (0 - a3)), I a3] (I t1)]) (by kernel_rfl) ⟨((c_field_first h4).le (.cons (.full _ _ _) (.nil)) (.refl _)), (c_field_within h3), (c_field_within h2), (c_field_within h1), trivial⟩
/- (spillage/field.Mirror).check: .agg [.v (.string a0), I a1, I a2, I a3, I a4, I a5, I a6, I a7, I a8, I a9] -/
def F_field_Mirror_check (n : Nat) (a0 : ByteArray) (a1 : Int) (a2 : Int) (a3 : Int) (a4 : Int) (a5 : Int) (a6 : Int) (a7 : Int) (a8 : Int) (a9 : Int) : Option (Int) :=
  (F_light_IsName n a0).bind fun t1 =>
  (F_field_when n (!t1) 8).bind fun t2 =>
  (F_field_checkParts n a1 a2 a3 4096).bind fun t3 =>
  (F_field_checkParts n a4 a5 a6 64).bind fun t4 =>
  (F_field_checkParts n a7 a8 a9 64).bind fun t5 =>
  (F_field_first n ([I t2, I t3, I t4, I t5])).bind fun t6 =>
  if t6 = 0 then
    (F_field_Mirror_normal n a0 a1 a2 a3 a4 a5 a6 a7 a8 a9).bind fun t8 =>
    (F_field_when n ((t8.1 == 0) && ((t8.2.1 == 0) && ((t8.2.2 == 0) && true))) 17).bind fun t9 =>
    some t9
  else
  some t6
theorem c_field_Mirror_check {n : Nat} {a0 : ByteArray} {a1 : Int} {a2 : Int} {a3 : Int} {a4 : Int} {a5 : Int} {a6 : Int} {a7 : Int} {a8 : Int} {a9 : Int} {r : Int} (h : F_field_Mirror_check n a0 a1 a2 a3 a4 a5 a6 a7 a8 a9 = some r) : Computes cx 60 [.agg [.v (.string a0), I a1, I a2, I a3, I a4, I a5, I a6, I a7, I a8, I a9]] (I r) := by
  unfold F_field_Mirror_check at h
  obtain ⟨t1, h1, h⟩ := bnd_of h
  obtain ⟨t2, h2, h⟩ := bnd_of h
  obtain ⟨t3, h3, h⟩ := bnd_of h
  obtain ⟨t4, h4, h⟩ := bnd_of h
  obtain ⟨t5, h5, h⟩ := bnd_of h
  obtain ⟨t6, h6, h⟩ := bnd_of h
  by_cases h7 : t6 = 0
  · replace h := ite_t h h7
    obtain ⟨t8, h8, h⟩ := bnd_of h
    obtain ⟨t9, h9, h⟩ := bnd_of h
    replace h := Option.some.inj h
    subst h
    exact run (n := 100) (f := 60) (args := [.agg [.v (.string a0), I a1, I a2, I a3, I a4, I a5, I a6, I a7, I a8, I a9]]) (orc := [.ret (B t1), .ret (I t2), .ret (I t3), .ret (I t4), .ret (I t5), .ret (I t6), .br false, .ret (.agg [I t8.1, I t8.2.1, I t8.2.2]), .ret (I t9)]) (r := I t9) (ob := [Computes cx 66 [B ((t8.1 == 0) && ((t8.2.1 == 0) && ((t8.2.2 == 0) && true))), I 17] (I t9), Computes cx 63 [.agg [.v (.string a0), I a1, I a2, I a3, I a4, I a5, I a6, I a7, I a8, I a9]] (.agg [I t8.1, I t8.2.1, I t8.2.2]), (t6 != 0) = false, Computes cx 59 [.lst true 1 [I t2, I t3, I t4, I t5]] (I t6), Computes cx 81 [.agg [I a7, I a8, I a9], I 64] (I t5), Computes cx 81 [.agg [I a4, I a5, I a6], I 64] (I t4), Computes cx 81 [.agg [I a1, I a2, I a3], I 4096] (I t3), Computes cx 66 [B (!t1), I 8] (I t2), Computes cx 121 [.v (.string a0)] (B t1)]) (by kernel_rfl) ⟨(c_field_when h9), (c_field_Mirror_normal h8), (nef h7), ((c_field_first h6).le (.cons (.full _ _ _) (.nil)) (.refl _)), (c_field_checkParts h5), (c_field_checkParts h4), (c_field_checkParts h3), (c_field_when h2), (c_light_IsName h1), trivial⟩
  · replace h := ite_f h h7
    replace h := Option.some.inj h
    subst h
    exact run (n := 100) (f := 60) (args := [.agg [.v (.string a0), I a1, I a2, I a3, I a4, I a5, I a6, I a7, I a8, I a9]]) (orc := [.ret (B t1), .ret (I t2), .ret (I t3), .ret (I t4), .ret (I t5), .ret (I t6), .br true]) (r := I t6) (ob := [(t6 != 0) = true, Computes cx 59 [.lst true 1 [I t2, I t3, I t4, I t5]] (I t6), Computes cx 81 [.agg [I a7, I a8, I a9], I 64] (I t5), Computes cx 81 [.agg [I a4, I a5, I a6], I 64] (I t4), Computes cx 81 [.agg [I a1, I a2, I a3], I 4096] (I t3), Computes cx 66 [B (!t1), I 8] (I t2), Computes cx 121 [.v (.string a0)] (B t1)]) (by kernel_rfl) ⟨(net h7), ((c_field_first h6).le (.cons (.full _ _ _) (.nil)) (.refl _)), (c_field_checkParts h5), (c_field_checkParts h4), (c_field_checkParts h3), (c_field_when h2), (c_light_IsName h1), trivial⟩
/- spillage/field.left: .agg [I a0, I a1], .agg [I a2, I a3], .agg [I a4, I a5] -/
def F_field_left (n : Nat) (a0 : Int) (a1 : Int) (a2 : Int) (a3 : Int) (a4 : Int) (a5 : Int) : Option (Int) :=
  if inI64 (a2 - a0) then
  if inI64 (a5 - a1) then
  if inI64 ((a2 - a0) * (a5 - a1)) then
  if inI64 (a3 - a1) then
  if inI64 (a4 - a0) then
  if inI64 ((a3 - a1) * (a4 - a0)) then
  if inI64 (((a2 - a0) * (a5 - a1)) - ((a3 - a1) * (a4 - a0))) then
  some (((a2 - a0) * (a5 - a1)) - ((a3 - a1) * (a4 - a0)))
  else none
  else none
  else none
  else none
  else none
  else none
  else none
theorem c_field_left {n : Nat} {a0 : Int} {a1 : Int} {a2 : Int} {a3 : Int} {a4 : Int} {a5 : Int} {r : Int} (h : F_field_left n a0 a1 a2 a3 a4 a5 = some r) : Computes cx 70 [.agg [I a0, I a1], .agg [I a2, I a3], .agg [I a4, I a5]] (I r) := by
  unfold F_field_left at h
  obtain ⟨h1, h⟩ := grd_of h
  obtain ⟨h2, h⟩ := grd_of h
  obtain ⟨h3, h⟩ := grd_of h
  obtain ⟨h4, h⟩ := grd_of h
  obtain ⟨h5, h⟩ := grd_of h
  obtain ⟨h6, h⟩ := grd_of h
  obtain ⟨h7, h⟩ := grd_of h
  replace h := Option.some.inj h
  subst h
  exact run (n := 100) (f := 70) (args := [.agg [I a0, I a1], .agg [I a2, I a3], .agg [I a4, I a5]]) (orc := []) (r := I (((a2 - a0) * (a5 - a1)) - ((a3 - a1) * (a4 - a0)))) (ob := [inI64 (((a2 - a0) * (a5 - a1)) - ((a3 - a1) * (a4 - a0))), inI64 ((a3 - a1) * (a4 - a0)), inI64 (a4 - a0), inI64 (a3 - a1), inI64 ((a2 - a0) * (a5 - a1)), inI64 (a5 - a1), inI64 (a2 - a0)]) (by kernel_rfl) ⟨h7, h6, h5, h4, h3, h2, h1, trivial⟩
/- cmp.isNaN[int]: I a0 -/
def F_cmp_isNaN_g (n : Nat) (a0 : Int) : Option (Bool) :=
  some (a0 != a0)
theorem c_cmp_isNaN_g {n : Nat} {a0 : Int} {r : Bool} (h : F_cmp_isNaN_g n a0 = some r) : Computes cx 123 [I a0] (B r) := by
  unfold F_cmp_isNaN_g at h
  replace h := Option.some.inj h
  subst h
  exact run (n := 100) (f := 123) (args := [I a0]) (orc := []) (r := B (a0 != a0)) (ob := []) (by kernel_rfl) trivial
/- cmp.Compare[int]: I a0, I a1 -/
def F_cmp_Compare_g (n : Nat) (a0 : Int) (a1 : Int) : Option (Int) :=
  (F_cmp_isNaN_g n a0).bind fun t1 =>
  (F_cmp_isNaN_g n a1).bind fun t2 =>
  if t1 = true then
    if t2 = true then
      some 0
    else
    some (-1)
  else
  if t2 = true then
    some 1
  else
  if a0 < a1 then
    some (-1)
  else
  if a0 > a1 then
    some 1
  else
  some 0
theorem c_cmp_Compare_g {n : Nat} {a0 : Int} {a1 : Int} {r : Int} (h : F_cmp_Compare_g n a0 a1 = some r) : Computes cx 64 [I a0, I a1] (I r) := by
  unfold F_cmp_Compare_g at h
  obtain ⟨t1, h1, h⟩ := bnd_of h
  obtain ⟨t2, h2, h⟩ := bnd_of h
  by_cases h3 : t1 = true
  · replace h := ite_t h h3
    by_cases h4 : t2 = true
    · replace h := ite_t h h4
      replace h := Option.some.inj h
      subst h
      exact run (n := 100) (f := 64) (args := [I a0, I a1]) (orc := [.ret (B t1), .ret (B t2), .br true, .br true]) (r := I 0) (ob := [t2 = true, t1 = true, Computes cx 123 [I a1] (B t2), Computes cx 123 [I a0] (B t1)]) (by kernel_rfl) ⟨h4, h3, (c_cmp_isNaN_g h2), (c_cmp_isNaN_g h1), trivial⟩
    · replace h := ite_f h h4
      replace h := Option.some.inj h
      subst h
      exact run (n := 100) (f := 64) (args := [I a0, I a1]) (orc := [.ret (B t1), .ret (B t2), .br true, .br false]) (r := I (-1)) (ob := [t2 = false, t1 = true, Computes cx 123 [I a1] (B t2), Computes cx 123 [I a0] (B t1)]) (by kernel_rfl) ⟨(bfalse h4), h3, (c_cmp_isNaN_g h2), (c_cmp_isNaN_g h1), trivial⟩
  · replace h := ite_f h h3
    by_cases h4 : t2 = true
    · replace h := ite_t h h4
      replace h := Option.some.inj h
      subst h
      exact run (n := 100) (f := 64) (args := [I a0, I a1]) (orc := [.ret (B t1), .ret (B t2), .br false, .br true]) (r := I 1) (ob := [t2 = true, t1 = false, Computes cx 123 [I a1] (B t2), Computes cx 123 [I a0] (B t1)]) (by kernel_rfl) ⟨h4, (bfalse h3), (c_cmp_isNaN_g h2), (c_cmp_isNaN_g h1), trivial⟩
    · replace h := ite_f h h4
      by_cases h5 : a0 < a1
      · replace h := ite_t h h5
        replace h := Option.some.inj h
        subst h
        exact run (n := 100) (f := 64) (args := [I a0, I a1]) (orc := [.ret (B t1), .ret (B t2), .br false, .br false, .br true]) (r := I (-1)) (ob := [(decide (a0 < a1)) = true, t2 = false, t1 = false, Computes cx 123 [I a1] (B t2), Computes cx 123 [I a0] (B t1)]) (by kernel_rfl) ⟨(decide_eq_true h5), (bfalse h4), (bfalse h3), (c_cmp_isNaN_g h2), (c_cmp_isNaN_g h1), trivial⟩
      · replace h := ite_f h h5
        by_cases h6 : a0 > a1
        · replace h := ite_t h h6
          replace h := Option.some.inj h
          subst h
          exact run (n := 100) (f := 64) (args := [I a0, I a1]) (orc := [.ret (B t1), .ret (B t2), .br false, .br false, .br false, .br true]) (r := I 1) (ob := [(decide (a0 > a1)) = true, (decide (a0 < a1)) = false, t2 = false, t1 = false, Computes cx 123 [I a1] (B t2), Computes cx 123 [I a0] (B t1)]) (by kernel_rfl) ⟨(decide_eq_true h6), (decide_eq_false h5), (bfalse h4), (bfalse h3), (c_cmp_isNaN_g h2), (c_cmp_isNaN_g h1), trivial⟩
        · replace h := ite_f h h6
          replace h := Option.some.inj h
          subst h
          exact run (n := 100) (f := 64) (args := [I a0, I a1]) (orc := [.ret (B t1), .ret (B t2), .br false, .br false, .br false, .br false]) (r := I 0) (ob := [(decide (a0 > a1)) = false, (decide (a0 < a1)) = false, t2 = false, t1 = false, Computes cx 123 [I a1] (B t2), Computes cx 123 [I a0] (B t1)]) (by kernel_rfl) ⟨(decide_eq_false h6), (decide_eq_false h5), (bfalse h4), (bfalse h3), (c_cmp_isNaN_g h2), (c_cmp_isNaN_g h1), trivial⟩
def F_field_lowest_L1 (n : Nat) (a0 : Int) (a1 : Int) (sa : (Int × Int)) : Option (((Int × Int)) ⊕ ((Int))) :=
  if sa.2 = 0 then
    some (.inr sa.1)
  else
  if sa.2 ≠ 0 then
  some (.inl (sa.2, (Int.tmod sa.1 sa.2)))
  else none
noncomputable def T_field_lowest_L1 (a0 : Int) (a1 : Int) (sa : (Int × Int)) : List (Nat × AV) := [(0, .d (I a0)), (1, .d (I a1)), (4, .ptr 0 0 0 0 0), (5, .d (I sa.1)), (6, .d (I sa.2))]
noncomputable def H_field_lowest_L1 (a0 : Int) (a1 : Int) (sa : (Int × Int)) : List (Nat × Blk) := [(0, .box (.d (.agg [I 0, I 0])))]
noncomputable def X_field_lowest_L1 (a0 : Int) (a1 : Int) (e : (Int)) : Ex := (.exit 0)
noncomputable def XT_field_lowest_L1 (a0 : Int) (a1 : Int) (e : (Int)) : List (Nat × AV) := [(0, .d (I a0)), (1, .d (I a1)), (4, .ptr 0 0 0 0 0), (5, .d (I e))]
noncomputable def XH_field_lowest_L1 (a0 : Int) (a1 : Int) (e : (Int)) : List (Nat × Blk) := [(0, .box (.d (.agg [I 0, I 0])))]
theorem R_field_lowest_L1 {n : Nat} {a0 : Int} {a1 : Int} (sa : (Int × Int)) (r) (h : F_field_lowest_L1 n a0 a1 sa = some r) : Rd cx (loopAt cx.P 65 0) 22 0 false (T_field_lowest_L1 a0 a1) (H_field_lowest_L1 a0 a1) (X_field_lowest_L1 a0 a1) (XT_field_lowest_L1 a0 a1) (XH_field_lowest_L1 a0 a1) sa r := by
  unfold F_field_lowest_L1 at h
  by_cases ha1 : sa.2 = 0
  · replace h := ite_t h ha1
    replace h := Option.some.inj h
    subst h
    exact ⟨⟨100, 5, [.br false], [], [0, 1, 4, 5], [0], round_of (ob := [(sa.2 != 0) = false]) (by kernel_rfl) ⟨(nef ha1), trivial⟩⟩, nofun⟩
  · replace h := ite_f h ha1
    obtain ⟨ha2, h⟩ := grd_of h
    replace h := Option.some.inj h
    subst h
    exact ⟨100, 5, [.br true], [], [0, 1, 4, 5, 6], [0], round_of (ob := [sa.2 ≠ 0, (sa.2 != 0) = true]) (by kernel_rfl) ⟨ha2, (net ha1), trivial⟩⟩
/- spillage/field.lowest: I a0, I a1 -/
def F_field_lowest (n : Nat) (a0 : Int) (a1 : Int) : Option (Int × Int) :=
  (loopF (F_field_lowest_L1 n a0 a1) n (a0, a1)).bind fun t1 =>
  if t1 ≠ 0 then
  if inI64 (Int.tdiv a0 t1) then
  if inI64 (Int.tdiv a1 t1) then
  some ((Int.tdiv a0 t1), (Int.tdiv a1 t1))
  else none
  else none
  else none
theorem c_field_lowest {n : Nat} {a0 : Int} {a1 : Int} {r : Int × Int} (h : F_field_lowest n a0 a1 = some r) : Computes cx 65 [I a0, I a1] (.agg [I r.1, I r.2]) := by
  unfold F_field_lowest at h
  obtain ⟨t1, h1, h⟩ := bnd_of h
  obtain ⟨h2, h⟩ := grd_of h
  obtain ⟨h3, h⟩ := grd_of h
  obtain ⟨h4, h⟩ := grd_of h
  replace h := Option.some.inj h
  subst h
  exact run (n := 100) (f := 65) (args := [I a0, I a1]) (orc := [.lp [] [0, 1, 4, 5, 6] [0] (.exit 0) [(0, .d (I a0)), (1, .d (I a1)), (4, .ptr 0 0 0 0 0), (5, .d (I t1))] [(0, .box (.d (.agg [I 0, I 0])))] 24]) (r := .agg [I (Int.tdiv a0 t1), I (Int.tdiv a1 t1)]) (ob := [t1 ≠ 0, inI64 (Int.tdiv a1 t1), t1 ≠ 0, inI64 (Int.tdiv a0 t1), LoopN cx (loopAt cx.P 65 0) 22 0 false [(0, .d (I a0)), (1, .d (I a1)), (4, .ptr 0 0 0 0 0), (5, .d (I a0)), (6, .d (I a1))] [(0, .box (.d (.agg [I 0, I 0])))] (.exit 0) [(0, .d (I a0)), (1, .d (I a1)), (4, .ptr 0 0 0 0 0), (5, .d (I t1))] [(0, .box (.d (.agg [I 0, I 0])))]]) (by kernel_rfl) ⟨h2, h4, h2, h3, (loopF_to R_field_lowest_L1 h1), trivial⟩
end Go.Proofs.YtojmcpnpojdnmaaGreatDoor
