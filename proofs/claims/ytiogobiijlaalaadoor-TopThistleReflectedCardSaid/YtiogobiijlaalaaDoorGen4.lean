/-
  Printed by gsx.py: functions of the program as Lean functions, and that the code computes them.
-/
import Derived.Test.YtiogobiijlaalaaDoorGen3
set_option linter.unusedVariables false
set_option linter.unusedSimpArgs false
set_option linter.unnecessarySimpa false
set_option maxRecDepth 10000
namespace Go.Proofs.YtiogobiijlaalaaDoor
open Go.SX
/- (spillage/field.Mirror).meets: .agg [.v (.string a0), I a1, I a2, I a3, I a4, I a5, I a6, I a7, I a8, I a9], I a10, .agg [I a11, I a12, I a13, I a14, I a15, I a16, B a17] -/
def F_field_Mirror_meets (n : Nat) (a0 : ByteArray) (a1 : Int) (a2 : Int) (a3 : Int) (a4 : Int) (a5 : Int) (a6 : Int) (a7 : Int) (a8 : Int) (a9 : Int) (a10 : Int) (a11 : Int) (a12 : Int) (a13 : Int) (a14 : Int) (a15 : Int) (a16 : Int) (a17 : Bool) : Option (Bool) :=
  (F_field_times n (IntKind.wrap .i64 (0 - a10)) a1 a2 a3).bind fun t1 =>
  (F_field_plus n a11 a12 a13 t1.1 t1.2.1 t1.2.2).bind fun t2 =>
  (F_field_Mirror_normal n a0 a1 a2 a3 a4 a5 a6 a7 a8 a9).bind fun t3 =>
  (F_field_dot n t3.1 t3.2.1 t3.2.2 a14 a15 a16).bind fun t4 =>
  (F_field_dot n t3.1 t3.2.1 t3.2.2 t2.1 t2.2.1 t2.2.2).bind fun t5 =>
  if t4 < 0 then
    if (IntKind.wrap .i64 (0 - t4)) = 0 then
      some false
    else
    if (IntKind.wrap .i64 (0 - (IntKind.wrap .i64 (0 - t5)))) ≤ 0 then
      some false
    else
    if a17 = true then
      if (IntKind.wrap .i64 (0 - (IntKind.wrap .i64 (0 - t5)))) ≥ (IntKind.wrap .i64 (0 - t4)) then
        some false
      else
      (F_field_cross n a14 a15 a16 t2.1 t2.2.1 t2.2.2).bind fun t11 =>
      (F_field_dot n t11.1 t11.2.1 t11.2.2 a7 a8 a9).bind fun t12 =>
      (F_field_dot n t11.1 t11.2.1 t11.2.2 a4 a5 a6).bind fun t13 =>
      if inI64 (a10 * (IntKind.wrap .i64 (0 - t4))) then
      if (maxI t12 (IntKind.wrap .i64 (0 - t12))) ≤ (a10 * (IntKind.wrap .i64 (0 - t4))) then
        some (decide ((maxI t13 (IntKind.wrap .i64 (0 - t13))) ≤ (a10 * (IntKind.wrap .i64 (0 - t4)))))
      else
      some false
      else none
    else
    (F_field_cross n a14 a15 a16 t2.1 t2.2.1 t2.2.2).bind fun t10 =>
    (F_field_dot n t10.1 t10.2.1 t10.2.2 a7 a8 a9).bind fun t11 =>
    (F_field_dot n t10.1 t10.2.1 t10.2.2 a4 a5 a6).bind fun t12 =>
    if inI64 (a10 * (IntKind.wrap .i64 (0 - t4))) then
    if (maxI t11 (IntKind.wrap .i64 (0 - t11))) ≤ (a10 * (IntKind.wrap .i64 (0 - t4))) then
      some (decide ((maxI t12 (IntKind.wrap .i64 (0 - t12))) ≤ (a10 * (IntKind.wrap .i64 (0 - t4)))))
    else
    some false
    else none
  else
  if t4 = 0 then
    some false
  else
  if (IntKind.wrap .i64 (0 - t5)) ≤ 0 then
    some false
  else
  if a17 = true then
    if (IntKind.wrap .i64 (0 - t5)) ≥ t4 then
      some false
    else
    (F_field_cross n a14 a15 a16 t2.1 t2.2.1 t2.2.2).bind fun t11 =>
    (F_field_dot n t11.1 t11.2.1 t11.2.2 a7 a8 a9).bind fun t12 =>
    (F_field_dot n t11.1 t11.2.1 t11.2.2 a4 a5 a6).bind fun t13 =>
    if inI64 (a10 * t4) then
    if (maxI t12 (IntKind.wrap .i64 (0 - t12))) ≤ (a10 * t4) then
      some (decide ((maxI t13 (IntKind.wrap .i64 (0 - t13))) ≤ (a10 * t4)))
    else
    some false
    else none
  else
  (F_field_cross n a14 a15 a16 t2.1 t2.2.1 t2.2.2).bind fun t10 =>
  (F_field_dot n t10.1 t10.2.1 t10.2.2 a7 a8 a9).bind fun t11 =>
  (F_field_dot n t10.1 t10.2.1 t10.2.2 a4 a5 a6).bind fun t12 =>
  if inI64 (a10 * t4) then
  if (maxI t11 (IntKind.wrap .i64 (0 - t11))) ≤ (a10 * t4) then
    some (decide ((maxI t12 (IntKind.wrap .i64 (0 - t12))) ≤ (a10 * t4)))
  else
  some false
  else none
theorem c_field_Mirror_meets {n : Nat} {a0 : ByteArray} {a1 : Int} {a2 : Int} {a3 : Int} {a4 : Int} {a5 : Int} {a6 : Int} {a7 : Int} {a8 : Int} {a9 : Int} {a10 : Int} {a11 : Int} {a12 : Int} {a13 : Int} {a14 : Int} {a15 : Int} {a16 : Int} {a17 : Bool} {r : Bool} (h : F_field_Mirror_meets n a0 a1 a2 a3 a4 a5 a6 a7 a8 a9 a10 a11 a12 a13 a14 a15 a16 a17 = some r) : Computes cx 105 [.agg [.v (.string a0), I a1, I a2, I a3, I a4, I a5, I a6, I a7, I a8, I a9], I a10, .agg [I a11, I a12, I a13, I a14, I a15, I a16, B a17]] (B r) := by
  unfold F_field_Mirror_meets at h
  obtain ⟨t1, h1, h⟩ := bnd_of h
  obtain ⟨t2, h2, h⟩ := bnd_of h
  obtain ⟨t3, h3, h⟩ := bnd_of h
  obtain ⟨t4, h4, h⟩ := bnd_of h
  obtain ⟨t5, h5, h⟩ := bnd_of h
  by_cases h6 : t4 < 0
  · replace h := ite_t h h6
    by_cases h7 : (IntKind.wrap .i64 (0 - t4)) = 0
    · replace h := ite_t h h7
      replace h := Option.some.inj h
      subst h
      exact run (n := 100) (f := 105) (args := [.agg [.v (.string a0), I a1, I a2, I a3, I a4, I a5, I a6, I a7, I a8, I a9], I a10, .agg [I a11, I a12, I a13, I a14, I a15, I a16, B a17]]) (orc := [.ret (.agg [I t1.1, I t1.2.1, I t1.2.2]), .ret (.agg [I t2.1, I t2.2.1, I t2.2.2]), .ret (.agg [I t3.1, I t3.2.1, I t3.2.2]), .ret (I t4), .ret (.agg [I t3.1, I t3.2.1, I t3.2.2]), .ret (I t5), .br true, .br true, .no, .no]) (r := B false) (ob := [((IntKind.wrap .i64 (0 - t4)) == 0) = true, (decide (t4 < 0)) = true, Computes cx 59 [.agg [I t3.1, I t3.2.1, I t3.2.2], .agg [I t2.1, I t2.2.1, I t2.2.2]] (I t5), Computes cx 60 [.agg [.v (.string a0), I a1, I a2, I a3, I a4, I a5, I a6, I a7, I a8, I a9]] (.agg [I t3.1, I t3.2.1, I t3.2.2]), Computes cx 59 [.agg [I t3.1, I t3.2.1, I t3.2.2], .agg [I a14, I a15, I a16]] (I t4), Computes cx 60 [.agg [.v (.string a0), I a1, I a2, I a3, I a4, I a5, I a6, I a7, I a8, I a9]] (.agg [I t3.1, I t3.2.1, I t3.2.2]), Computes cx 98 [.agg [I a11, I a12, I a13], .agg [I t1.1, I t1.2.1, I t1.2.2]] (.agg [I t2.1, I t2.2.1, I t2.2.2]), Computes cx 99 [I (IntKind.wrap .i64 (0 - a10)), .agg [I a1, I a2, I a3]] (.agg [I t1.1, I t1.2.1, I t1.2.2])]) (e_field_Mirror_meets_0 a0 a1 a2 a3 a4 a5 a6 a7 a8 a9 a10 a11 a12 a13 a14 a15 a16 a17 t1 t2 t3 t4 t5) ⟨(eqt h7), (decide_eq_true h6), (c_field_dot h5), (c_field_Mirror_normal h3), (c_field_dot h4), (c_field_Mirror_normal h3), (c_field_plus h2), (c_field_times h1), trivial⟩
    · replace h := ite_f h h7
      by_cases h8 : (IntKind.wrap .i64 (0 - (IntKind.wrap .i64 (0 - t5)))) ≤ 0
      · replace h := ite_t h h8
        replace h := Option.some.inj h
        subst h
        exact run (n := 100) (f := 105) (args := [.agg [.v (.string a0), I a1, I a2, I a3, I a4, I a5, I a6, I a7, I a8, I a9], I a10, .agg [I a11, I a12, I a13, I a14, I a15, I a16, B a17]]) (orc := [.ret (.agg [I t1.1, I t1.2.1, I t1.2.2]), .ret (.agg [I t2.1, I t2.2.1, I t2.2.2]), .ret (.agg [I t3.1, I t3.2.1, I t3.2.2]), .ret (I t4), .ret (.agg [I t3.1, I t3.2.1, I t3.2.2]), .ret (I t5), .br true, .br false, .br true, .no]) (r := B false) (ob := [(decide ((IntKind.wrap .i64 (0 - (IntKind.wrap .i64 (0 - t5)))) ≤ 0)) = true, ((IntKind.wrap .i64 (0 - t4)) == 0) = false, (decide (t4 < 0)) = true, Computes cx 59 [.agg [I t3.1, I t3.2.1, I t3.2.2], .agg [I t2.1, I t2.2.1, I t2.2.2]] (I t5), Computes cx 60 [.agg [.v (.string a0), I a1, I a2, I a3, I a4, I a5, I a6, I a7, I a8, I a9]] (.agg [I t3.1, I t3.2.1, I t3.2.2]), Computes cx 59 [.agg [I t3.1, I t3.2.1, I t3.2.2], .agg [I a14, I a15, I a16]] (I t4), Computes cx 60 [.agg [.v (.string a0), I a1, I a2, I a3, I a4, I a5, I a6, I a7, I a8, I a9]] (.agg [I t3.1, I t3.2.1, I t3.2.2]), Computes cx 98 [.agg [I a11, I a12, I a13], .agg [I t1.1, I t1.2.1, I t1.2.2]] (.agg [I t2.1, I t2.2.1, I t2.2.2]), Computes cx 99 [I (IntKind.wrap .i64 (0 - a10)), .agg [I a1, I a2, I a3]] (.agg [I t1.1, I t1.2.1, I t1.2.2])]) (e_field_Mirror_meets_1 a0 a1 a2 a3 a4 a5 a6 a7 a8 a9 a10 a11 a12 a13 a14 a15 a16 a17 t1 t2 t3 t4 t5) ⟨(decide_eq_true h8), (eqf h7), (decide_eq_true h6), (c_field_dot h5), (c_field_Mirror_normal h3), (c_field_dot h4), (c_field_Mirror_normal h3), (c_field_plus h2), (c_field_times h1), trivial⟩
      · replace h := ite_f h h8
        by_cases h9 : a17 = true
        · replace h := ite_t h h9
          by_cases h10 : (IntKind.wrap .i64 (0 - (IntKind.wrap .i64 (0 - t5)))) ≥ (IntKind.wrap .i64 (0 - t4))
          · replace h := ite_t h h10
            replace h := Option.some.inj h
            subst h
            exact run (n := 100) (f := 105) (args := [.agg [.v (.string a0), I a1, I a2, I a3, I a4, I a5, I a6, I a7, I a8, I a9], I a10, .agg [I a11, I a12, I a13, I a14, I a15, I a16, B a17]]) (orc := [.ret (.agg [I t1.1, I t1.2.1, I t1.2.2]), .ret (.agg [I t2.1, I t2.2.1, I t2.2.2]), .ret (.agg [I t3.1, I t3.2.1, I t3.2.2]), .ret (I t4), .ret (.agg [I t3.1, I t3.2.1, I t3.2.2]), .ret (I t5), .br true, .br false, .br false, .br true, .br true]) (r := B false) (ob := [(decide ((IntKind.wrap .i64 (0 - (IntKind.wrap .i64 (0 - t5)))) ≥ (IntKind.wrap .i64 (0 - t4)))) = true, a17 = true, (decide ((IntKind.wrap .i64 (0 - (IntKind.wrap .i64 (0 - t5)))) ≤ 0)) = false, ((IntKind.wrap .i64 (0 - t4)) == 0) = false, (decide (t4 < 0)) = true, Computes cx 59 [.agg [I t3.1, I t3.2.1, I t3.2.2], .agg [I t2.1, I t2.2.1, I t2.2.2]] (I t5), Computes cx 60 [.agg [.v (.string a0), I a1, I a2, I a3, I a4, I a5, I a6, I a7, I a8, I a9]] (.agg [I t3.1, I t3.2.1, I t3.2.2]), Computes cx 59 [.agg [I t3.1, I t3.2.1, I t3.2.2], .agg [I a14, I a15, I a16]] (I t4), Computes cx 60 [.agg [.v (.string a0), I a1, I a2, I a3, I a4, I a5, I a6, I a7, I a8, I a9]] (.agg [I t3.1, I t3.2.1, I t3.2.2]), Computes cx 98 [.agg [I a11, I a12, I a13], .agg [I t1.1, I t1.2.1, I t1.2.2]] (.agg [I t2.1, I t2.2.1, I t2.2.2]), Computes cx 99 [I (IntKind.wrap .i64 (0 - a10)), .agg [I a1, I a2, I a3]] (.agg [I t1.1, I t1.2.1, I t1.2.2])]) (e_field_Mirror_meets_2 a0 a1 a2 a3 a4 a5 a6 a7 a8 a9 a10 a11 a12 a13 a14 a15 a16 a17 t1 t2 t3 t4 t5) ⟨(decide_eq_true h10), h9, (decide_eq_false h8), (eqf h7), (decide_eq_true h6), (c_field_dot h5), (c_field_Mirror_normal h3), (c_field_dot h4), (c_field_Mirror_normal h3), (c_field_plus h2), (c_field_times h1), trivial⟩
          · replace h := ite_f h h10
            obtain ⟨t11, h11, h⟩ := bnd_of h
            obtain ⟨t12, h12, h⟩ := bnd_of h
            obtain ⟨t13, h13, h⟩ := bnd_of h
            obtain ⟨h14, h⟩ := grd_of h
            by_cases h15 : (maxI t12 (IntKind.wrap .i64 (0 - t12))) ≤ (a10 * (IntKind.wrap .i64 (0 - t4)))
            · replace h := ite_t h h15
              replace h := Option.some.inj h
              subst h
              exact run (n := 100) (f := 105) (args := [.agg [.v (.string a0), I a1, I a2, I a3, I a4, I a5, I a6, I a7, I a8, I a9], I a10, .agg [I a11, I a12, I a13, I a14, I a15, I a16, B a17]]) (orc := [.ret (.agg [I t1.1, I t1.2.1, I t1.2.2]), .ret (.agg [I t2.1, I t2.2.1, I t2.2.2]), .ret (.agg [I t3.1, I t3.2.1, I t3.2.2]), .ret (I t4), .ret (.agg [I t3.1, I t3.2.1, I t3.2.2]), .ret (I t5), .br true, .br false, .br false, .br true, .br false, .ret (.agg [I t11.1, I t11.2.1, I t11.2.2]), .ret (I t12), .ret (I t13), .br true]) (r := B (decide ((maxI t13 (IntKind.wrap .i64 (0 - t13))) ≤ (a10 * (IntKind.wrap .i64 (0 - t4)))))) (ob := [inI64 (a10 * (IntKind.wrap .i64 (0 - t4))), (decide ((maxI t12 (IntKind.wrap .i64 (0 - t12))) ≤ (a10 * (IntKind.wrap .i64 (0 - t4))))) = true, inI64 (a10 * (IntKind.wrap .i64 (0 - t4))), Computes cx 59 [.agg [I t11.1, I t11.2.1, I t11.2.2], .agg [I a4, I a5, I a6]] (I t13), Computes cx 59 [.agg [I t11.1, I t11.2.1, I t11.2.2], .agg [I a7, I a8, I a9]] (I t12), Computes cx 85 [.agg [I a14, I a15, I a16], .agg [I t2.1, I t2.2.1, I t2.2.2]] (.agg [I t11.1, I t11.2.1, I t11.2.2]), (decide ((IntKind.wrap .i64 (0 - (IntKind.wrap .i64 (0 - t5)))) ≥ (IntKind.wrap .i64 (0 - t4)))) = false, a17 = true, (decide ((IntKind.wrap .i64 (0 - (IntKind.wrap .i64 (0 - t5)))) ≤ 0)) = false, ((IntKind.wrap .i64 (0 - t4)) == 0) = false, (decide (t4 < 0)) = true, Computes cx 59 [.agg [I t3.1, I t3.2.1, I t3.2.2], .agg [I t2.1, I t2.2.1, I t2.2.2]] (I t5), Computes cx 60 [.agg [.v (.string a0), I a1, I a2, I a3, I a4, I a5, I a6, I a7, I a8, I a9]] (.agg [I t3.1, I t3.2.1, I t3.2.2]), Computes cx 59 [.agg [I t3.1, I t3.2.1, I t3.2.2], .agg [I a14, I a15, I a16]] (I t4), Computes cx 60 [.agg [.v (.string a0), I a1, I a2, I a3, I a4, I a5, I a6, I a7, I a8, I a9]] (.agg [I t3.1, I t3.2.1, I t3.2.2]), Computes cx 98 [.agg [I a11, I a12, I a13], .agg [I t1.1, I t1.2.1, I t1.2.2]] (.agg [I t2.1, I t2.2.1, I t2.2.2]), Computes cx 99 [I (IntKind.wrap .i64 (0 - a10)), .agg [I a1, I a2, I a3]] (.agg [I t1.1, I t1.2.1, I t1.2.2])]) (e_field_Mirror_meets_3 a0 a1 a2 a3 a4 a5 a6 a7 a8 a9 a10 a11 a12 a13 a14 a15 a16 a17 t1 t2 t3 t4 t5 t11 t12 t13) ⟨h14, (decide_eq_true h15), h14, (c_field_dot h13), (c_field_dot h12), (c_field_cross h11), (decide_eq_false h10), h9, (decide_eq_false h8), (eqf h7), (decide_eq_true h6), (c_field_dot h5), (c_field_Mirror_normal h3), (c_field_dot h4), (c_field_Mirror_normal h3), (c_field_plus h2), (c_field_times h1), trivial⟩
            · replace h := ite_f h h15
              replace h := Option.some.inj h
              subst h
              exact run (n := 100) (f := 105) (args := [.agg [.v (.string a0), I a1, I a2, I a3, I a4, I a5, I a6, I a7, I a8, I a9], I a10, .agg [I a11, I a12, I a13, I a14, I a15, I a16, B a17]]) (orc := [.ret (.agg [I t1.1, I t1.2.1, I t1.2.2]), .ret (.agg [I t2.1, I t2.2.1, I t2.2.2]), .ret (.agg [I t3.1, I t3.2.1, I t3.2.2]), .ret (I t4), .ret (.agg [I t3.1, I t3.2.1, I t3.2.2]), .ret (I t5), .br true, .br false, .br false, .br true, .br false, .ret (.agg [I t11.1, I t11.2.1, I t11.2.2]), .ret (I t12), .ret (I t13), .br false]) (r := B false) (ob := [(decide ((maxI t12 (IntKind.wrap .i64 (0 - t12))) ≤ (a10 * (IntKind.wrap .i64 (0 - t4))))) = false, inI64 (a10 * (IntKind.wrap .i64 (0 - t4))), Computes cx 59 [.agg [I t11.1, I t11.2.1, I t11.2.2], .agg [I a4, I a5, I a6]] (I t13), Computes cx 59 [.agg [I t11.1, I t11.2.1, I t11.2.2], .agg [I a7, I a8, I a9]] (I t12), Computes cx 85 [.agg [I a14, I a15, I a16], .agg [I t2.1, I t2.2.1, I t2.2.2]] (.agg [I t11.1, I t11.2.1, I t11.2.2]), (decide ((IntKind.wrap .i64 (0 - (IntKind.wrap .i64 (0 - t5)))) ≥ (IntKind.wrap .i64 (0 - t4)))) = false, a17 = true, (decide ((IntKind.wrap .i64 (0 - (IntKind.wrap .i64 (0 - t5)))) ≤ 0)) = false, ((IntKind.wrap .i64 (0 - t4)) == 0) = false, (decide (t4 < 0)) = true, Computes cx 59 [.agg [I t3.1, I t3.2.1, I t3.2.2], .agg [I t2.1, I t2.2.1, I t2.2.2]] (I t5), Computes cx 60 [.agg [.v (.string a0), I a1, I a2, I a3, I a4, I a5, I a6, I a7, I a8, I a9]] (.agg [I t3.1, I t3.2.1, I t3.2.2]), Computes cx 59 [.agg [I t3.1, I t3.2.1, I t3.2.2], .agg [I a14, I a15, I a16]] (I t4), Computes cx 60 [.agg [.v (.string a0), I a1, I a2, I a3, I a4, I a5, I a6, I a7, I a8, I a9]] (.agg [I t3.1, I t3.2.1, I t3.2.2]), Computes cx 98 [.agg [I a11, I a12, I a13], .agg [I t1.1, I t1.2.1, I t1.2.2]] (.agg [I t2.1, I t2.2.1, I t2.2.2]), Computes cx 99 [I (IntKind.wrap .i64 (0 - a10)), .agg [I a1, I a2, I a3]] (.agg [I t1.1, I t1.2.1, I t1.2.2])]) (e_field_Mirror_meets_4 a0 a1 a2 a3 a4 a5 a6 a7 a8 a9 a10 a11 a12 a13 a14 a15 a16 a17 t1 t2 t3 t4 t5 t11 t12 t13) ⟨(decide_eq_false h15), h14, (c_field_dot h13), (c_field_dot h12), (c_field_cross h11), (decide_eq_false h10), h9, (decide_eq_false h8), (eqf h7), (decide_eq_true h6), (c_field_dot h5), (c_field_Mirror_normal h3), (c_field_dot h4), (c_field_Mirror_normal h3), (c_field_plus h2), (c_field_times h1), trivial⟩
        · replace h := ite_f h h9
          obtain ⟨t10, h10, h⟩ := bnd_of h
          obtain ⟨t11, h11, h⟩ := bnd_of h
          obtain ⟨t12, h12, h⟩ := bnd_of h
          obtain ⟨h13, h⟩ := grd_of h
          by_cases h14 : (maxI t11 (IntKind.wrap .i64 (0 - t11))) ≤ (a10 * (IntKind.wrap .i64 (0 - t4)))
          · replace h := ite_t h h14
            replace h := Option.some.inj h
            subst h
            exact run (n := 100) (f := 105) (args := [.agg [.v (.string a0), I a1, I a2, I a3, I a4, I a5, I a6, I a7, I a8, I a9], I a10, .agg [I a11, I a12, I a13, I a14, I a15, I a16, B a17]]) (orc := [.ret (.agg [I t1.1, I t1.2.1, I t1.2.2]), .ret (.agg [I t2.1, I t2.2.1, I t2.2.2]), .ret (.agg [I t3.1, I t3.2.1, I t3.2.2]), .ret (I t4), .ret (.agg [I t3.1, I t3.2.1, I t3.2.2]), .ret (I t5), .br true, .br false, .br false, .br false, .no, .ret (.agg [I t10.1, I t10.2.1, I t10.2.2]), .ret (I t11), .ret (I t12), .br true]) (r := B (decide ((maxI t12 (IntKind.wrap .i64 (0 - t12))) ≤ (a10 * (IntKind.wrap .i64 (0 - t4)))))) (ob := [inI64 (a10 * (IntKind.wrap .i64 (0 - t4))), (decide ((maxI t11 (IntKind.wrap .i64 (0 - t11))) ≤ (a10 * (IntKind.wrap .i64 (0 - t4))))) = true, inI64 (a10 * (IntKind.wrap .i64 (0 - t4))), Computes cx 59 [.agg [I t10.1, I t10.2.1, I t10.2.2], .agg [I a4, I a5, I a6]] (I t12), Computes cx 59 [.agg [I t10.1, I t10.2.1, I t10.2.2], .agg [I a7, I a8, I a9]] (I t11), Computes cx 85 [.agg [I a14, I a15, I a16], .agg [I t2.1, I t2.2.1, I t2.2.2]] (.agg [I t10.1, I t10.2.1, I t10.2.2]), a17 = false, (decide ((IntKind.wrap .i64 (0 - (IntKind.wrap .i64 (0 - t5)))) ≤ 0)) = false, ((IntKind.wrap .i64 (0 - t4)) == 0) = false, (decide (t4 < 0)) = true, Computes cx 59 [.agg [I t3.1, I t3.2.1, I t3.2.2], .agg [I t2.1, I t2.2.1, I t2.2.2]] (I t5), Computes cx 60 [.agg [.v (.string a0), I a1, I a2, I a3, I a4, I a5, I a6, I a7, I a8, I a9]] (.agg [I t3.1, I t3.2.1, I t3.2.2]), Computes cx 59 [.agg [I t3.1, I t3.2.1, I t3.2.2], .agg [I a14, I a15, I a16]] (I t4), Computes cx 60 [.agg [.v (.string a0), I a1, I a2, I a3, I a4, I a5, I a6, I a7, I a8, I a9]] (.agg [I t3.1, I t3.2.1, I t3.2.2]), Computes cx 98 [.agg [I a11, I a12, I a13], .agg [I t1.1, I t1.2.1, I t1.2.2]] (.agg [I t2.1, I t2.2.1, I t2.2.2]), Computes cx 99 [I (IntKind.wrap .i64 (0 - a10)), .agg [I a1, I a2, I a3]] (.agg [I t1.1, I t1.2.1, I t1.2.2])]) (e_field_Mirror_meets_5 a0 a1 a2 a3 a4 a5 a6 a7 a8 a9 a10 a11 a12 a13 a14 a15 a16 a17 t1 t2 t3 t4 t5 t10 t11 t12) ⟨h13, (decide_eq_true h14), h13, (c_field_dot h12), (c_field_dot h11), (c_field_cross h10), (bfalse h9), (decide_eq_false h8), (eqf h7), (decide_eq_true h6), (c_field_dot h5), (c_field_Mirror_normal h3), (c_field_dot h4), (c_field_Mirror_normal h3), (c_field_plus h2), (c_field_times h1), trivial⟩
          · replace h := ite_f h h14
            replace h := Option.some.inj h
            subst h
            exact run (n := 100) (f := 105) (args := [.agg [.v (.string a0), I a1, I a2, I a3, I a4, I a5, I a6, I a7, I a8, I a9], I a10, .agg [I a11, I a12, I a13, I a14, I a15, I a16, B a17]]) (orc := [.ret (.agg [I t1.1, I t1.2.1, I t1.2.2]), .ret (.agg [I t2.1, I t2.2.1, I t2.2.2]), .ret (.agg [I t3.1, I t3.2.1, I t3.2.2]), .ret (I t4), .ret (.agg [I t3.1, I t3.2.1, I t3.2.2]), .ret (I t5), .br true, .br false, .br false, .br false, .no, .ret (.agg [I t10.1, I t10.2.1, I t10.2.2]), .ret (I t11), .ret (I t12), .br false]) (r := B false) (ob := [(decide ((maxI t11 (IntKind.wrap .i64 (0 - t11))) ≤ (a10 * (IntKind.wrap .i64 (0 - t4))))) = false, inI64 (a10 * (IntKind.wrap .i64 (0 - t4))), Computes cx 59 [.agg [I t10.1, I t10.2.1, I t10.2.2], .agg [I a4, I a5, I a6]] (I t12), Computes cx 59 [.agg [I t10.1, I t10.2.1, I t10.2.2], .agg [I a7, I a8, I a9]] (I t11), Computes cx 85 [.agg [I a14, I a15, I a16], .agg [I t2.1, I t2.2.1, I t2.2.2]] (.agg [I t10.1, I t10.2.1, I t10.2.2]), a17 = false, (decide ((IntKind.wrap .i64 (0 - (IntKind.wrap .i64 (0 - t5)))) ≤ 0)) = false, ((IntKind.wrap .i64 (0 - t4)) == 0) = false, (decide (t4 < 0)) = true, Computes cx 59 [.agg [I t3.1, I t3.2.1, I t3.2.2], .agg [I t2.1, I t2.2.1, I t2.2.2]] (I t5), Computes cx 60 [.agg [.v (.string a0), I a1, I a2, I a3, I a4, I a5, I a6, I a7, I a8, I a9]] (.agg [I t3.1, I t3.2.1, I t3.2.2]), Computes cx 59 [.agg [I t3.1, I t3.2.1, I t3.2.2], .agg [I a14, I a15, I a16]] (I t4), Computes cx 60 [.agg [.v (.string a0), I a1, I a2, I a3, I a4, I a5, I a6, I a7, I a8, I a9]] (.agg [I t3.1, I t3.2.1, I t3.2.2]), Computes cx 98 [.agg [I a11, I a12, I a13], .agg [I t1.1, I t1.2.1, I t1.2.2]] (.agg [I t2.1, I t2.2.1, I t2.2.2]), Computes cx 99 [I (IntKind.wrap .i64 (0 - a10)), .agg [I a1, I a2, I a3]] (.agg [I t1.1, I t1.2.1, I t1.2.2])]) (e_field_Mirror_meets_6 a0 a1 a2 a3 a4 a5 a6 a7 a8 a9 a10 a11 a12 a13 a14 a15 a16 a17 t1 t2 t3 t4 t5 t10 t11 t12) ⟨(decide_eq_false h14), h13, (c_field_dot h12), (c_field_dot h11), (c_field_cross h10), (bfalse h9), (decide_eq_false h8), (eqf h7), (decide_eq_true h6), (c_field_dot h5), (c_field_Mirror_normal h3), (c_field_dot h4), (c_field_Mirror_normal h3), (c_field_plus h2), (c_field_times h1), trivial⟩
  · replace h := ite_f h h6
    by_cases h7 : t4 = 0
    · replace h := ite_t h h7
      replace h := Option.some.inj h
      subst h
      exact run (n := 100) (f := 105) (args := [.agg [.v (.string a0), I a1, I a2, I a3, I a4, I a5, I a6, I a7, I a8, I a9], I a10, .agg [I a11, I a12, I a13, I a14, I a15, I a16, B a17]]) (orc := [.ret (.agg [I t1.1, I t1.2.1, I t1.2.2]), .ret (.agg [I t2.1, I t2.2.1, I t2.2.2]), .ret (.agg [I t3.1, I t3.2.1, I t3.2.2]), .ret (I t4), .ret (.agg [I t3.1, I t3.2.1, I t3.2.2]), .ret (I t5), .br false, .br true, .no, .no]) (r := B false) (ob := [(t4 == 0) = true, (decide (t4 < 0)) = false, Computes cx 59 [.agg [I t3.1, I t3.2.1, I t3.2.2], .agg [I t2.1, I t2.2.1, I t2.2.2]] (I t5), Computes cx 60 [.agg [.v (.string a0), I a1, I a2, I a3, I a4, I a5, I a6, I a7, I a8, I a9]] (.agg [I t3.1, I t3.2.1, I t3.2.2]), Computes cx 59 [.agg [I t3.1, I t3.2.1, I t3.2.2], .agg [I a14, I a15, I a16]] (I t4), Computes cx 60 [.agg [.v (.string a0), I a1, I a2, I a3, I a4, I a5, I a6, I a7, I a8, I a9]] (.agg [I t3.1, I t3.2.1, I t3.2.2]), Computes cx 98 [.agg [I a11, I a12, I a13], .agg [I t1.1, I t1.2.1, I t1.2.2]] (.agg [I t2.1, I t2.2.1, I t2.2.2]), Computes cx 99 [I (IntKind.wrap .i64 (0 - a10)), .agg [I a1, I a2, I a3]] (.agg [I t1.1, I t1.2.1, I t1.2.2])]) (e_field_Mirror_meets_7 a0 a1 a2 a3 a4 a5 a6 a7 a8 a9 a10 a11 a12 a13 a14 a15 a16 a17 t1 t2 t3 t4 t5) ⟨(eqt h7), (decide_eq_false h6), (c_field_dot h5), (c_field_Mirror_normal h3), (c_field_dot h4), (c_field_Mirror_normal h3), (c_field_plus h2), (c_field_times h1), trivial⟩
    · replace h := ite_f h h7
      by_cases h8 : (IntKind.wrap .i64 (0 - t5)) ≤ 0
      · replace h := ite_t h h8
        replace h := Option.some.inj h
        subst h
        exact run (n := 100) (f := 105) (args := [.agg [.v (.string a0), I a1, I a2, I a3, I a4, I a5, I a6, I a7, I a8, I a9], I a10, .agg [I a11, I a12, I a13, I a14, I a15, I a16, B a17]]) (orc := [.ret (.agg [I t1.1, I t1.2.1, I t1.2.2]), .ret (.agg [I t2.1, I t2.2.1, I t2.2.2]), .ret (.agg [I t3.1, I t3.2.1, I t3.2.2]), .ret (I t4), .ret (.agg [I t3.1, I t3.2.1, I t3.2.2]), .ret (I t5), .br false, .br false, .br true, .no]) (r := B false) (ob := [(decide ((IntKind.wrap .i64 (0 - t5)) ≤ 0)) = true, (t4 == 0) = false, (decide (t4 < 0)) = false, Computes cx 59 [.agg [I t3.1, I t3.2.1, I t3.2.2], .agg [I t2.1, I t2.2.1, I t2.2.2]] (I t5), Computes cx 60 [.agg [.v (.string a0), I a1, I a2, I a3, I a4, I a5, I a6, I a7, I a8, I a9]] (.agg [I t3.1, I t3.2.1, I t3.2.2]), Computes cx 59 [.agg [I t3.1, I t3.2.1, I t3.2.2], .agg [I a14, I a15, I a16]] (I t4), Computes cx 60 [.agg [.v (.string a0), I a1, I a2, I a3, I a4, I a5, I a6, I a7, I a8, I a9]] (.agg [I t3.1, I t3.2.1, I t3.2.2]), Computes cx 98 [.agg [I a11, I a12, I a13], .agg [I t1.1, I t1.2.1, I t1.2.2]] (.agg [I t2.1, I t2.2.1, I t2.2.2]), Computes cx 99 [I (IntKind.wrap .i64 (0 - a10)), .agg [I a1, I a2, I a3]] (.agg [I t1.1, I t1.2.1, I t1.2.2])]) (e_field_Mirror_meets_8 a0 a1 a2 a3 a4 a5 a6 a7 a8 a9 a10 a11 a12 a13 a14 a15 a16 a17 t1 t2 t3 t4 t5) ⟨(decide_eq_true h8), (eqf h7), (decide_eq_false h6), (c_field_dot h5), (c_field_Mirror_normal h3), (c_field_dot h4), (c_field_Mirror_normal h3), (c_field_plus h2), (c_field_times h1), trivial⟩
      · replace h := ite_f h h8
        by_cases h9 : a17 = true
        · replace h := ite_t h h9
          by_cases h10 : (IntKind.wrap .i64 (0 - t5)) ≥ t4
          · replace h := ite_t h h10
            replace h := Option.some.inj h
            subst h
            exact run (n := 100) (f := 105) (args := [.agg [.v (.string a0), I a1, I a2, I a3, I a4, I a5, I a6, I a7, I a8, I a9], I a10, .agg [I a11, I a12, I a13, I a14, I a15, I a16, B a17]]) (orc := [.ret (.agg [I t1.1, I t1.2.1, I t1.2.2]), .ret (.agg [I t2.1, I t2.2.1, I t2.2.2]), .ret (.agg [I t3.1, I t3.2.1, I t3.2.2]), .ret (I t4), .ret (.agg [I t3.1, I t3.2.1, I t3.2.2]), .ret (I t5), .br false, .br false, .br false, .br true, .br true]) (r := B false) (ob := [(decide ((IntKind.wrap .i64 (0 - t5)) ≥ t4)) = true, a17 = true, (decide ((IntKind.wrap .i64 (0 - t5)) ≤ 0)) = false, (t4 == 0) = false, (decide (t4 < 0)) = false, Computes cx 59 [.agg [I t3.1, I t3.2.1, I t3.2.2], .agg [I t2.1, I t2.2.1, I t2.2.2]] (I t5), Computes cx 60 [.agg [.v (.string a0), I a1, I a2, I a3, I a4, I a5, I a6, I a7, I a8, I a9]] (.agg [I t3.1, I t3.2.1, I t3.2.2]), Computes cx 59 [.agg [I t3.1, I t3.2.1, I t3.2.2], .agg [I a14, I a15, I a16]] (I t4), Computes cx 60 [.agg [.v (.string a0), I a1, I a2, I a3, I a4, I a5, I a6, I a7, I a8, I a9]] (.agg [I t3.1, I t3.2.1, I t3.2.2]), Computes cx 98 [.agg [I a11, I a12, I a13], .agg [I t1.1, I t1.2.1, I t1.2.2]] (.agg [I t2.1, I t2.2.1, I t2.2.2]), Computes cx 99 [I (IntKind.wrap .i64 (0 - a10)), .agg [I a1, I a2, I a3]] (.agg [I t1.1, I t1.2.1, I t1.2.2])]) (e_field_Mirror_meets_9 a0 a1 a2 a3 a4 a5 a6 a7 a8 a9 a10 a11 a12 a13 a14 a15 a16 a17 t1 t2 t3 t4 t5) ⟨(decide_eq_true h10), h9, (decide_eq_false h8), (eqf h7), (decide_eq_false h6), (c_field_dot h5), (c_field_Mirror_normal h3), (c_field_dot h4), (c_field_Mirror_normal h3), (c_field_plus h2), (c_field_times h1), trivial⟩
          · replace h := ite_f h h10
            obtain ⟨t11, h11, h⟩ := bnd_of h
            obtain ⟨t12, h12, h⟩ := bnd_of h
            obtain ⟨t13, h13, h⟩ := bnd_of h
            obtain ⟨h14, h⟩ := grd_of h
            by_cases h15 : (maxI t12 (IntKind.wrap .i64 (0 - t12))) ≤ (a10 * t4)
            · replace h := ite_t h h15
              replace h := Option.some.inj h
              subst h
              exact run (n := 100) (f := 105) (args := [.agg [.v (.string a0), I a1, I a2, I a3, I a4, I a5, I a6, I a7, I a8, I a9], I a10, .agg [I a11, I a12, I a13, I a14, I a15, I a16, B a17]]) (orc := [.ret (.agg [I t1.1, I t1.2.1, I t1.2.2]), .ret (.agg [I t2.1, I t2.2.1, I t2.2.2]), .ret (.agg [I t3.1, I t3.2.1, I t3.2.2]), .ret (I t4), .ret (.agg [I t3.1, I t3.2.1, I t3.2.2]), .ret (I t5), .br false, .br false, .br false, .br true, .br false, .ret (.agg [I t11.1, I t11.2.1, I t11.2.2]), .ret (I t12), .ret (I t13), .br true]) (r := B (decide ((maxI t13 (IntKind.wrap .i64 (0 - t13))) ≤ (a10 * t4)))) (ob := [inI64 (a10 * t4), (decide ((maxI t12 (IntKind.wrap .i64 (0 - t12))) ≤ (a10 * t4))) = true, inI64 (a10 * t4), Computes cx 59 [.agg [I t11.1, I t11.2.1, I t11.2.2], .agg [I a4, I a5, I a6]] (I t13), Computes cx 59 [.agg [I t11.1, I t11.2.1, I t11.2.2], .agg [I a7, I a8, I a9]] (I t12), Computes cx 85 [.agg [I a14, I a15, I a16], .agg [I t2.1, I t2.2.1, I t2.2.2]] (.agg [I t11.1, I t11.2.1, I t11.2.2]), (decide ((IntKind.wrap .i64 (0 - t5)) ≥ t4)) = false, a17 = true, (decide ((IntKind.wrap .i64 (0 - t5)) ≤ 0)) = false, (t4 == 0) = false, (decide (t4 < 0)) = false, Computes cx 59 [.agg [I t3.1, I t3.2.1, I t3.2.2], .agg [I t2.1, I t2.2.1, I t2.2.2]] (I t5), Computes cx 60 [.agg [.v (.string a0), I a1, I a2, I a3, I a4, I a5, I a6, I a7, I a8, I a9]] (.agg [I t3.1, I t3.2.1, I t3.2.2]), Computes cx 59 [.agg [I t3.1, I t3.2.1, I t3.2.2], .agg [I a14, I a15, I a16]] (I t4), Computes cx 60 [.agg [.v (.string a0), I a1, I a2, I a3, I a4, I a5, I a6, I a7, I a8, I a9]] (.agg [I t3.1, I t3.2.1, I t3.2.2]), Computes cx 98 [.agg [I a11, I a12, I a13], .agg [I t1.1, I t1.2.1, I t1.2.2]] (.agg [I t2.1, I t2.2.1, I t2.2.2]), Computes cx 99 [I (IntKind.wrap .i64 (0 - a10)), .agg [I a1, I a2, I a3]] (.agg [I t1.1, I t1.2.1, I t1.2.2])]) (e_field_Mirror_meets_10 a0 a1 a2 a3 a4 a5 a6 a7 a8 a9 a10 a11 a12 a13 a14 a15 a16 a17 t1 t2 t3 t4 t5 t11 t12 t13) ⟨h14, (decide_eq_true h15), h14, (c_field_dot h13), (c_field_dot h12), (c_field_cross h11), (decide_eq_false h10), h9, (decide_eq_false h8), (eqf h7), (decide_eq_false h6), (c_field_dot h5), (c_field_Mirror_normal h3), (c_field_dot h4), (c_field_Mirror_normal h3), (c_field_plus h2), (c_field_times h1), trivial⟩
            · replace h := ite_f h h15
              replace h := Option.some.inj h
              subst h
              exact run (n := 100) (f := 105) (args := [.agg [.v (.string a0), I a1, I a2, I a3, I a4, I a5, I a6, I a7, I a8, I a9], I a10, .agg [I a11, I a12, I a13, I a14, I a15, I a16, B a17]]) (orc := [.ret (.agg [I t1.1, I t1.2.1, I t1.2.2]), .ret (.agg [I t2.1, I t2.2.1, I t2.2.2]), .ret (.agg [I t3.1, I t3.2.1, I t3.2.2]), .ret (I t4), .ret (.agg [I t3.1, I t3.2.1, I t3.2.2]), .ret (I t5), .br false, .br false, .br false, .br true, .br false, .ret (.agg [I t11.1, I t11.2.1, I t11.2.2]), .ret (I t12), .ret (I t13), .br false]) (r := B false) (ob := [(decide ((maxI t12 (IntKind.wrap .i64 (0 - t12))) ≤ (a10 * t4))) = false, inI64 (a10 * t4), Computes cx 59 [.agg [I t11.1, I t11.2.1, I t11.2.2], .agg [I a4, I a5, I a6]] (I t13), Computes cx 59 [.agg [I t11.1, I t11.2.1, I t11.2.2], .agg [I a7, I a8, I a9]] (I t12), Computes cx 85 [.agg [I a14, I a15, I a16], .agg [I t2.1, I t2.2.1, I t2.2.2]] (.agg [I t11.1, I t11.2.1, I t11.2.2]), (decide ((IntKind.wrap .i64 (0 - t5)) ≥ t4)) = false, a17 = true, (decide ((IntKind.wrap .i64 (0 - t5)) ≤ 0)) = false, (t4 == 0) = false, (decide (t4 < 0)) = false, Computes cx 59 [.agg [I t3.1, I t3.2.1, I t3.2.2], .agg [I t2.1, I t2.2.1, I t2.2.2]] (I t5), Computes cx 60 [.agg [.v (.string a0), I a1, I a2, I a3, I a4, I a5, I a6, I a7, I a8, I a9]] (.agg [I t3.1, I t3.2.1, I t3.2.2]), Computes cx 59 [.agg [I t3.1, I t3.2.1, I t3.2.2], .agg [I a14, I a15, I a16]] (I t4), Computes cx 60 [.agg [.v (.string a0), I a1, I a2, I a3, I a4, I a5, I a6, I a7, I a8, I a9]] (.agg [I t3.1, I t3.2.1, I t3.2.2]), Computes cx 98 [.agg [I a11, I a12, I a13], .agg [I t1.1, I t1.2.1, I t1.2.2]] (.agg [I t2.1, I t2.2.1, I t2.2.2]), Computes cx 99 [I (IntKind.wrap .i64 (0 - a10)), .agg [I a1, I a2, I a3]] (.agg [I t1.1, I t1.2.1, I t1.2.2])]) (e_field_Mirror_meets_11 a0 a1 a2 a3 a4 a5 a6 a7 a8 a9 a10 a11 a12 a13 a14 a15 a16 a17 t1 t2 t3 t4 t5 t11 t12 t13) ⟨(decide_eq_false h15), h14, (c_field_dot h13), (c_field_dot h12), (c_field_cross h11), (decide_eq_false h10), h9, (decide_eq_false h8), (eqf h7), (decide_eq_false h6), (c_field_dot h5), (c_field_Mirror_normal h3), (c_field_dot h4), (c_field_Mirror_normal h3), (c_field_plus h2), (c_field_times h1), trivial⟩
        · replace h := ite_f h h9
          obtain ⟨t10, h10, h⟩ := bnd_of h
          obtain ⟨t11, h11, h⟩ := bnd_of h
          obtain ⟨t12, h12, h⟩ := bnd_of h
          obtain ⟨h13, h⟩ := grd_of h
          by_cases h14 : (maxI t11 (IntKind.wrap .i64 (0 - t11))) ≤ (a10 * t4)
          · replace h := ite_t h h14
            replace h := Option.some.inj h
            subst h
            exact run (n := 100) (f := 105) (args := [.agg [.v (.string a0), I a1, I a2, I a3, I a4, I a5, I a6, I a7, I a8, I a9], I a10, .agg [I a11, I a12, I a13, I a14, I a15, I a16, B a17]]) (orc := [.ret (.agg [I t1.1, I t1.2.1, I t1.2.2]), .ret (.agg [I t2.1, I t2.2.1, I t2.2.2]), .ret (.agg [I t3.1, I t3.2.1, I t3.2.2]), .ret (I t4), .ret (.agg [I t3.1, I t3.2.1, I t3.2.2]), .ret (I t5), .br false, .br false, .br false, .br false, .no, .ret (.agg [I t10.1, I t10.2.1, I t10.2.2]), .ret (I t11), .ret (I t12), .br true]) (r := B (decide ((maxI t12 (IntKind.wrap .i64 (0 - t12))) ≤ (a10 * t4)))) (ob := [inI64 (a10 * t4), (decide ((maxI t11 (IntKind.wrap .i64 (0 - t11))) ≤ (a10 * t4))) = true, inI64 (a10 * t4), Computes cx 59 [.agg [I t10.1, I t10.2.1, I t10.2.2], .agg [I a4, I a5, I a6]] (I t12), Computes cx 59 [.agg [I t10.1, I t10.2.1, I t10.2.2], .agg [I a7, I a8, I a9]] (I t11), Computes cx 85 [.agg [I a14, I a15, I a16], .agg [I t2.1, I t2.2.1, I t2.2.2]] (.agg [I t10.1, I t10.2.1, I t10.2.2]), a17 = false, (decide ((IntKind.wrap .i64 (0 - t5)) ≤ 0)) = false, (t4 == 0) = false, (decide (t4 < 0)) = false, Computes cx 59 [.agg [I t3.1, I t3.2.1, I t3.2.2], .agg [I t2.1, I t2.2.1, I t2.2.2]] (I t5), Computes cx 60 [.agg [.v (.string a0), I a1, I a2, I a3, I a4, I a5, I a6, I a7, I a8, I a9]] (.agg [I t3.1, I t3.2.1, I t3.2.2]), Computes cx 59 [.agg [I t3.1, I t3.2.1, I t3.2.2], .agg [I a14, I a15, I a16]] (I t4), Computes cx 60 [.agg [.v (.string a0), I a1, I a2, I a3, I a4, I a5, I a6, I a7, I a8, I a9]] (.agg [I t3.1, I t3.2.1, I t3.2.2]), Computes cx 98 [.agg [I a11, I a12, I a13], .agg [I t1.1, I t1.2.1, I t1.2.2]] (.agg [I t2.1, I t2.2.1, I t2.2.2]), Computes cx 99 [I (IntKind.wrap .i64 (0 - a10)), .agg [I a1, I a2, I a3]] (.agg [I t1.1, I t1.2.1, I t1.2.2])]) (e_field_Mirror_meets_12 a0 a1 a2 a3 a4 a5 a6 a7 a8 a9 a10 a11 a12 a13 a14 a15 a16 a17 t1 t2 t3 t4 t5 t10 t11 t12) ⟨h13, (decide_eq_true h14), h13, (c_field_dot h12), (c_field_dot h11), (c_field_cross h10), (bfalse h9), (decide_eq_false h8), (eqf h7), (decide_eq_false h6), (c_field_dot h5), (c_field_Mirror_normal h3), (c_field_dot h4), (c_field_Mirror_normal h3), (c_field_plus h2), (c_field_times h1), trivial⟩
          · replace h := ite_f h h14
            replace h := Option.some.inj h
            subst h
            exact run (n := 100) (f := 105) (args := [.agg [.v (.string a0), I a1, I a2, I a3, I a4, I a5, I a6, I a7, I a8, I a9], I a10, .agg [I a11, I a12, I a13, I a14, I a15, I a16, B a17]]) (orc := [.ret (.agg [I t1.1, I t1.2.1, I t1.2.2]), .ret (.agg [I t2.1, I t2.2.1, I t2.2.2]), .ret (.agg [I t3.1, I t3.2.1, I t3.2.2]), .ret (I t4), .ret (.agg [I t3.1, I t3.2.1, I t3.2.2]), .ret (I t5), .br false, .br false, .br false, .br false, .no, .ret (.agg [I t10.1, I t10.2.1, I t10.2.2]), .ret (I t11), .ret (I t12), .br false]) (r := B false) (ob := [(decide ((maxI t11 (IntKind.wrap .i64 (0 - t11))) ≤ (a10 * t4))) = false, inI64 (a10 * t4), Computes cx 59 [.agg [I t10.1, I t10.2.1, I t10.2.2], .agg [I a4, I a5, I a6]] (I t12), Computes cx 59 [.agg [I t10.1, I t10.2.1, I t10.2.2], .agg [I a7, I a8, I a9]] (I t11), Computes cx 85 [.agg [I a14, I a15, I a16], .agg [I t2.1, I t2.2.1, I t2.2.2]] (.agg [I t10.1, I t10.2.1, I t10.2.2]), a17 = false, (decide ((IntKind.wrap .i64 (0 - t5)) ≤ 0)) = false, (t4 == 0) = false, (decide (t4 < 0)) = false, Computes cx 59 [.agg [I t3.1, I t3.2.1, I t3.2.2], .agg [I t2.1, I t2.2.1, I t2.2.2]] (I t5), Computes cx 60 [.agg [.v (.string a0), I a1, I a2, I a3, I a4, I a5, I a6, I a7, I a8, I a9]] (.agg [I t3.1, I t3.2.1, I t3.2.2]), Computes cx 59 [.agg [I t3.1, I t3.2.1, I t3.2.2], .agg [I a14, I a15, I a16]] (I t4), Computes cx 60 [.agg [.v (.string a0), I a1, I a2, I a3, I a4, I a5, I a6, I a7, I a8, I a9]] (.agg [I t3.1, I t3.2.1, I t3.2.2]), Computes cx 98 [.agg [I a11, I a12, I a13], .agg [I t1.1, I t1.2.1, I t1.2.2]] (.agg [I t2.1, I t2.2.1, I t2.2.2]), Computes cx 99 [I (IntKind.wrap .i64 (0 - a10)), .agg [I a1, I a2, I a3]] (.agg [I t1.1, I t1.2.1, I t1.2.2])]) (e_field_Mirror_meets_13 a0 a1 a2 a3 a4 a5 a6 a7 a8 a9 a10 a11 a12 a13 a14 a15 a16 a17 t1 t2 t3 t4 t5 t10 t11 t12) ⟨(decide_eq_false h14), h13, (c_field_dot h12), (c_field_dot h11), (c_field_cross h10), (bfalse h9), (decide_eq_false h8), (eqf h7), (decide_eq_false h6), (c_field_dot h5), (c_field_Mirror_normal h3), (c_field_dot h4), (c_field_Mirror_normal h3), (c_field_plus h2), (c_field_times h1), trivial⟩
def F_field_met_L1 (n : Nat) (a0 : List D) (a1 : Int) (a2 : Int) (a3 : Int) (a4 : Int) (a5 : Int) (a6 : Int) (a7 : Int) (a8 : Int) (a9 : Bool) (sa : (Int)) : Option (((Int)) ⊕ ((Unit) ⊕ (Unit))) :=
  if sa < ((a0).length : Int) then
    (el un_Asi9Z a0 sa).bind fun ta2 =>
    if sa = a1 then
      if inI64 (sa + 1) then
      some (.inl (sa + 1))
      else none
    else
    (F_field_Mirror_meets n ta2.1 ta2.2.1 ta2.2.2.1 ta2.2.2.2.1 ta2.2.2.2.2.1 ta2.2.2.2.2.2.1 ta2.2.2.2.2.2.2.1 ta2.2.2.2.2.2.2.2.1 ta2.2.2.2.2.2.2.2.2.1 ta2.2.2.2.2.2.2.2.2.2 a2 a3 a4 a5 a6 a7 a8 a9).bind fun ta4 =>
    if ta4 = true then
      some (.inr (.inl ()))
    else
    if inI64 (sa + 1) then
    some (.inl (sa + 1))
    else none
  else
  some (.inr (.inr ()))
noncomputable def T_field_met_L1 (a0 : List D) (a1 : Int) (a2 : Int) (a3 : Int) (a4 : Int) (a5 : Int) (a6 : Int) (a7 : Int) (a8 : Int) (a9 : Bool) (sa : (Int)) : List (Nat × AV) := [(1, .d (I a1)), (2, .d (I a2)), (7, .ptr 0 0 0 0 0), (11, .d (.lst false 10 a0)), (12, .d (I ((a0).length : Int))), (13, .d (I sa))]
noncomputable def H_field_met_L1 (a0 : List D) (a1 : Int) (a2 : Int) (a3 : Int) (a4 : Int) (a5 : Int) (a6 : Int) (a7 : Int) (a8 : Int) (a9 : Bool) (sa : (Int)) : List (Nat × Blk) := [(0, .box (.d (.agg [I a3, I a4, I a5, I a6, I a7, I a8, B a9])))]
noncomputable def X_field_met_L1 (a0 : List D) (a1 : Int) (a2 : Int) (a3 : Int) (a4 : Int) (a5 : Int) (a6 : Int) (a7 : Int) (a8 : Int) (a9 : Bool) (e : (Unit) ⊕ (Unit)) : Ex := match e with
  | (.inl e) => .ret
  | (.inr e) => (.exit 0)
noncomputable def XT_field_met_L1 (a0 : List D) (a1 : Int) (a2 : Int) (a3 : Int) (a4 : Int) (a5 : Int) (a6 : Int) (a7 : Int) (a8 : Int) (a9 : Bool) (e : (Unit) ⊕ (Unit)) : List (Nat × AV) := match e with
  | (.inl e) => [(8, .d (B true))]
  | (.inr e) => []
noncomputable def XH_field_met_L1 (a0 : List D) (a1 : Int) (a2 : Int) (a3 : Int) (a4 : Int) (a5 : Int) (a6 : Int) (a7 : Int) (a8 : Int) (a9 : Bool) (e : (Unit) ⊕ (Unit)) : List (Nat × Blk) := match e with
  | (.inl e) => []
  | (.inr e) => []
theorem R_field_met_L1 {n : Nat} {a0 : List D} {a1 : Int} {a2 : Int} {a3 : Int} {a4 : Int} {a5 : Int} {a6 : Int} {a7 : Int} {a8 : Int} {a9 : Bool} (sa : (Int)) (r) (h : F_field_met_L1 n a0 a1 a2 a3 a4 a5 a6 a7 a8 a9 sa = some r) : Rd cx (loopAt cx.P 100 0) 28 0 false (T_field_met_L1 a0 a1 a2 a3 a4 a5 a6 a7 a8 a9) (H_field_met_L1 a0 a1 a2 a3 a4 a5 a6 a7 a8 a9) (X_field_met_L1 a0 a1 a2 a3 a4 a5 a6 a7 a8 a9) (XT_field_met_L1 a0 a1 a2 a3 a4 a5 a6 a7 a8 a9) (XH_field_met_L1 a0 a1 a2 a3 a4 a5 a6 a7 a8 a9) sa r := by
  unfold F_field_met_L1 at h
  by_cases ha1 : sa < ((a0).length : Int)
  · replace h := ite_t h ha1
    obtain ⟨ta2, ha2, h⟩ := bnd_of h
    by_cases ha3 : sa = a1
    · replace h := ite_t h ha3
      obtain ⟨ha4, h⟩ := grd_of h
      replace h := Option.some.inj h
      subst h
      exact ⟨100, 5, [.br true, .el (.agg [.v (.string ta2.1), I ta2.2.1, I ta2.2.2.1, I ta2.2.2.2.1, I ta2.2.2.2.2.1, I ta2.2.2.2.2.2.1, I ta2.2.2.2.2.2.2.1, I ta2.2.2.2.2.2.2.2.1, I ta2.2.2.2.2.2.2.2.2.1, I ta2.2.2.2.2.2.2.2.2.2]), .br false, .no], [], [1, 2, 7, 11, 12, 13], [0], round_of (ob := [inI64 (sa + 1), (sa != a1) = false, (0 : Int) ≤ sa, nth (a0) (Int.toNat sa) = some (.agg [.v (.string ta2.1), I ta2.2.1, I ta2.2.2.1, I ta2.2.2.2.1, I ta2.2.2.2.2.1, I ta2.2.2.2.2.2.1, I ta2.2.2.2.2.2.2.1, I ta2.2.2.2.2.2.2.2.1, I ta2.2.2.2.2.2.2.2.2.1, I ta2.2.2.2.2.2.2.2.2.2]), (decide (sa < ((a0).length : Int))) = true]) (by kernel_rfl) ⟨ha4, (nef ha3), (el_ok un_Asi9Z_ok ha2).1, (el_ok un_Asi9Z_ok ha2).2, (decide_eq_true ha1), trivial⟩⟩
    · replace h := ite_f h ha3
      obtain ⟨ta4, ha4, h⟩ := bnd_of h
      by_cases ha5 : ta4 = true
      · replace h := ite_t h ha5
        replace h := Option.some.inj h
        subst h
        exact ⟨⟨100, 5, [.br true, .el (.agg [.v (.string ta2.1), I ta2.2.1, I ta2.2.2.1, I ta2.2.2.2.1, I ta2.2.2.2.2.1, I ta2.2.2.2.2.2.1, I ta2.2.2.2.2.2.2.1, I ta2.2.2.2.2.2.2.2.1, I ta2.2.2.2.2.2.2.2.2.1, I ta2.2.2.2.2.2.2.2.2.2]), .br true, .ret (B ta4), .br true], [], [8], [], round_of (ob := [ta4 = true, Computes cx 105 [.agg [.v (.string ta2.1), I ta2.2.1, I ta2.2.2.1, I ta2.2.2.2.1, I ta2.2.2.2.2.1, I ta2.2.2.2.2.2.1, I ta2.2.2.2.2.2.2.1, I ta2.2.2.2.2.2.2.2.1, I ta2.2.2.2.2.2.2.2.2.1, I ta2.2.2.2.2.2.2.2.2.2], I a2, .agg [I a3, I a4, I a5, I a6, I a7, I a8, B a9]] (B ta4), (sa != a1) = true, (0 : Int) ≤ sa, nth (a0) (Int.toNat sa) = some (.agg [.v (.string ta2.1), I ta2.2.1, I ta2.2.2.1, I ta2.2.2.2.1, I ta2.2.2.2.2.1, I ta2.2.2.2.2.2.1, I ta2.2.2.2.2.2.2.1, I ta2.2.2.2.2.2.2.2.1, I ta2.2.2.2.2.2.2.2.2.1, I ta2.2.2.2.2.2.2.2.2.2]), (decide (sa < ((a0).length : Int))) = true]) (by kernel_rfl) ⟨ha5, (c_field_Mirror_meets ha4), (net ha3), (el_ok un_Asi9Z_ok ha2).1, (el_ok un_Asi9Z_ok ha2).2, (decide_eq_true ha1), trivial⟩⟩, nofun⟩
      · replace h := ite_f h ha5
        obtain ⟨ha6, h⟩ := grd_of h
        replace h := Option.some.inj h
        subst h
        exact ⟨100, 5, [.br true, .el (.agg [.v (.string ta2.1), I ta2.2.1, I ta2.2.2.1, I ta2.2.2.2.1, I ta2.2.2.2.2.1, I ta2.2.2.2.2.2.1, I ta2.2.2.2.2.2.2.1, I ta2.2.2.2.2.2.2.2.1, I ta2.2.2.2.2.2.2.2.2.1, I ta2.2.2.2.2.2.2.2.2.2]), .br true, .ret (B ta4), .br false], [], [1, 2, 7, 11, 12, 13], [0], round_of (ob := [inI64 (sa + 1), ta4 = false, Computes cx 105 [.agg [.v (.string ta2.1), I ta2.2.1, I ta2.2.2.1, I ta2.2.2.2.1, I ta2.2.2.2.2.1, I ta2.2.2.2.2.2.1, I ta2.2.2.2.2.2.2.1, I ta2.2.2.2.2.2.2.2.1, I ta2.2.2.2.2.2.2.2.2.1, I ta2.2.2.2.2.2.2.2.2.2], I a2, .agg [I a3, I a4, I a5, I a6, I a7, I a8, B a9]] (B ta4), (sa != a1) = true, (0 : Int) ≤ sa, nth (a0) (Int.toNat sa) = some (.agg [.v (.string ta2.1), I ta2.2.1, I ta2.2.2.1, I ta2.2.2.2.1, I ta2.2.2.2.2.1, I ta2.2.2.2.2.2.1, I ta2.2.2.2.2.2.2.1, I ta2.2.2.2.2.2.2.2.1, I ta2.2.2.2.2.2.2.2.2.1, I ta2.2.2.2.2.2.2.2.2.2]), (decide (sa < ((a0).length : Int))) = true]) (by kernel_rfl) ⟨ha6, (bfalse ha5), (c_field_Mirror_meets ha4), (net ha3), (el_ok un_Asi9Z_ok ha2).1, (el_ok un_Asi9Z_ok ha2).2, (decide_eq_true ha1), trivial⟩⟩
  · replace h := ite_f h ha1
    replace h := Option.some.inj h
    subst h
    exact ⟨⟨100, 5, [.br false], [], [], [], round_of (ob := [(decide (sa < ((a0).length : Int))) = false]) (by kernel_rfl) ⟨(decide_eq_false ha1), trivial⟩⟩, nofun⟩
/- spillage/field.met: .lst false 10 a0, I a1, I a2, .agg [I a3, I a4, I a5, I a6, I a7, I a8, B a9] -/
def F_field_met (n : Nat) (a0 : List D) (a1 : Int) (a2 : Int) (a3 : Int) (a4 : Int) (a5 : Int) (a6 : Int) (a7 : Int) (a8 : Int) (a9 : Bool) : Option (Bool) :=
  (loopF (F_field_met_L1 n a0 a1 a2 a3 a4 a5 a6 a7 a8 a9) n 0).bind fun t1 => match t1 with
    | (.inl t1) => (
      some true)
    | (.inr t1) => (
      some false)
theorem c_field_met {n : Nat} {a0 : List D} {a1 : Int} {a2 : Int} {a3 : Int} {a4 : Int} {a5 : Int} {a6 : Int} {a7 : Int} {a8 : Int} {a9 : Bool} {r : Bool} (h : F_field_met n a0 a1 a2 a3 a4 a5 a6 a7 a8 a9 = some r) : Computes cx 100 [.lst false 10 a0, I a1, I a2, .agg [I a3, I a4, I a5, I a6, I a7, I a8, B a9]] (B r) := by
  unfold F_field_met at h
  obtain ⟨t1, h1, h⟩ := bnd_of h
  rcases t1 with t1 | t1
  · replace h := Option.some.inj h
    subst h
    exact run (n := 100) (f := 100) (args := [.lst false 10 a0, I a1, I a2, .agg [I a3, I a4, I a5, I a6, I a7, I a8, B a9]]) (orc := [.lp [] [1, 2, 7, 11, 12, 13] [0] .ret [(8, .d (B true))] [] 34]) (r := B true) (ob := [LoopN cx (loopAt cx.P 100 0) 28 0 false [(1, .d (I a1)), (2, .d (I a2)), (7, .ptr 0 0 0 0 0), (11, .d (.lst false 10 a0)), (12, .d (I ((a0).length : Int))), (13, .d (I 0))] [(0, .box (.d (.agg [I a3, I a4, I a5, I a6, I a7, I a8, B a9])))] .ret [(8, .d (B true))] []]) (by kernel_rfl) ⟨(loopF_to R_field_met_L1 h1), trivial⟩
  · replace h := Option.some.inj h
    subst h
    exact run (n := 100) (f := 100) (args := [.lst false 10 a0, I a1, I a2, .agg [I a3, I a4, I a5, I a6, I a7, I a8, B a9]]) (orc := [.lp [] [1, 2, 7, 11, 12, 13] [0] (.exit 0) [] [] 34]) (r := B false) (ob := [LoopN cx (loopAt cx.P 100 0) 28 0 false [(1, .d (I a1)), (2, .d (I a2)), (7, .ptr 0 0 0 0 0), (11, .d (.lst false 10 a0)), (12, .d (I ((a0).length : Int))), (13, .d (I 0))] [(0, .box (.d (.agg [I a3, I a4, I a5, I a6, I a7, I a8, B a9])))] (.exit 0) [] []]) (by kernel_rfl) ⟨(loopF_to R_field_met_L1 h1), trivial⟩
def F_field_blocked_L2 (n : Nat) (a0 : List D) (a1 : Int) (a2 : Int) (a3 : Int) (a4 : Int) (a5 : Int) (t1 : ByteArray × Int × Int × Int × Int × Int × Int × Int × Int × Int) (sa : Int) (sb : (Unit) ⊕ (Int × List D)) : Option (((Unit) ⊕ (Int × List D)) ⊕ ((Unit) ⊕ (List D))) := match sb with
  | (.inl sb) => (
    if 0 < a5 then
      (F_field_times n a5 t1.2.1 t1.2.2.1 t1.2.2.2.1).bind fun tb2 =>
      if inI64 (1 - a5) then
      (F_field_times n (1 - a5) t1.2.2.2.2.1 t1.2.2.2.2.2.1 t1.2.2.2.2.2.2.1).bind fun tb4 =>
      if inI64 (2 * sa) then
      if inI64 ((2 * sa) + 1) then
      if inI64 (((2 * sa) + 1) - a5) then
      (F_field_times n (((2 * sa) + 1) - a5) t1.2.2.2.2.2.2.2.1 t1.2.2.2.2.2.2.2.2.1 t1.2.2.2.2.2.2.2.2.2).bind fun tb8 =>
      (F_field_plus n tb4.1 tb4.2.1 tb4.2.2 tb8.1 tb8.2.1 tb8.2.2).bind fun tb9 =>
      (F_field_plus n tb2.1 tb2.2.1 tb2.2.2 tb9.1 tb9.2.1 tb9.2.2).bind fun tb10 =>
      if inI64 (sa * a5) then
      if inI64 ((sa * a5) + 0) then
      some (.inl (.inr (1, [.agg [I ((sa * a5) + 0), I tb10.1, I tb10.2.1, I tb10.2.2]])))
      else none
      else none
      else none
      else none
      else none
      else none
    else
    some (.inr (.inl ())))
  | (.inr sb) => (
    if sb.1 < a5 then
      (F_field_times n a5 t1.2.1 t1.2.2.1 t1.2.2.2.1).bind fun tb2 =>
      if inI64 (2 * sb.1) then
      if inI64 ((2 * sb.1) + 1) then
      if inI64 (((2 * sb.1) + 1) - a5) then
      (F_field_times n (((2 * sb.1) + 1) - a5) t1.2.2.2.2.1 t1.2.2.2.2.2.1 t1.2.2.2.2.2.2.1).bind fun tb6 =>
      if inI64 (2 * sa) then
      if inI64 ((2 * sa) + 1) then
      if inI64 (((2 * sa) + 1) - a5) then
      (F_field_times n (((2 * sa) + 1) - a5) t1.2.2.2.2.2.2.2.1 t1.2.2.2.2.2.2.2.2.1 t1.2.2.2.2.2.2.2.2.2).bind fun tb10 =>
      (F_field_plus n tb6.1 tb6.2.1 tb6.2.2 tb10.1 tb10.2.1 tb10.2.2).bind fun tb11 =>
      (F_field_plus n tb2.1 tb2.2.1 tb2.2.2 tb11.1 tb11.2.1 tb11.2.2).bind fun tb12 =>
      if inI64 (sa * a5) then
      if inI64 ((sa * a5) + sb.1) then
      if roomP 32 ((sb.2).length + 1) then
      if inI64 (sb.1 + 1) then
      some (.inl (.inr ((sb.1 + 1), (sb.2 ++ ([.agg [I ((sa * a5) + sb.1), I tb12.1, I tb12.2.1, I tb12.2.2]] : List D)))))
      else none
      else none
      else none
      else none
      else none
      else none
      else none
      else none
      else none
      else none
    else
    some (.inr (.inr sb.2)))
noncomputable def T_field_blocked_L2 (a0 : List D) (a1 : Int) (a2 : Int) (a3 : Int) (a4 : Int) (a5 : Int) (t1 : ByteArray × Int × Int × Int × Int × Int × Int × Int × Int × Int) (sa : Int) (sb : (Unit) ⊕ (Int × List D)) : List (Nat × AV) := match sb with
  | (.inl sb) => [(0, .own 30 0), (1, .ptr 19 0 0 0 0), (2, .ptr 18 0 0 0 0), (4, .d (I sa)), (7, .d (I a5)), (8, .d (I sa)), (11, .d (I a5)), (12, .d (I 0))]
  | (.inr sb) => [(0, .own 30 0), (1, .ptr 19 0 0 0 0), (2, .ptr 18 0 0 0 0), (4, .d (I sa)), (7, .d (I a5)), (8, .d (I sa)), (11, .d (I a5)), (12, .d (I sb.1))]
noncomputable def H_field_blocked_L2 (a0 : List D) (a1 : Int) (a2 : Int) (a3 : Int) (a4 : Int) (a5 : Int) (t1 : ByteArray × Int × Int × Int × Int × Int × Int × Int × Int × Int) (sa : Int) (sb : (Unit) ⊕ (Int × List D)) : List (Nat × Blk) := match sb with
  | (.inl sb) => [(0, .box (.d (.lst false 10 a0))), (1, .box (.d (I a1))), (2, .box (.d (.agg [I a2, I a3, I a4]))), (3, .box (.d (I a5))), (9, .box (.d (.agg [.v (.string t1.1), I t1.2.1, I t1.2.2.1, I t1.2.2.2.1, I t1.2.2.2.2.1, I t1.2.2.2.2.2.1, I t1.2.2.2.2.2.2.1, I t1.2.2.2.2.2.2.2.1, I t1.2.2.2.2.2.2.2.2.1, I t1.2.2.2.2.2.2.2.2.2]))), (18, .box (.d (.agg [.v (.string t1.1), I t1.2.1, I t1.2.2.1, I t1.2.2.2.1, I t1.2.2.2.2.1, I t1.2.2.2.2.2.1, I t1.2.2.2.2.2.2.1, I t1.2.2.2.2.2.2.2.1, I t1.2.2.2.2.2.2.2.2.1, I t1.2.2.2.2.2.2.2.2.2]))), (19, .box (.d (I a5))), (27, .box (.d (.lst true 0 []))), (30, .loop true [(6, .fn (.func 104) [] [.ptr 19 0 0 0 0, .ptr 18 0 0 0 0]), (4, .d (.lst true 0 [])), (2, .ptr 27 0 0 0 0), (1, .fn (.func 104) [] [.ptr 19 0 0 0 0, .ptr 18 0 0 0 0]), (0, .d (.lst true 0 []))] [7] (rangeAt cx.P 103 0).1 (rangeAt cx.P 103 0).2 13)]
  | (.inr sb) => [(0, .box (.d (.lst false 10 a0))), (1, .box (.d (I a1))), (2, .box (.d (.agg [I a2, I a3, I a4]))), (3, .box (.d (I a5))), (9, .box (.d (.agg [.v (.string t1.1), I t1.2.1, I t1.2.2.1, I t1.2.2.2.1, I t1.2.2.2.2.1, I t1.2.2.2.2.2.1, I t1.2.2.2.2.2.2.1, I t1.2.2.2.2.2.2.2.1, I t1.2.2.2.2.2.2.2.2.1, I t1.2.2.2.2.2.2.2.2.2]))), (18, .box (.d (.agg [.v (.string t1.1), I t1.2.1, I t1.2.2.1, I t1.2.2.2.1, I t1.2.2.2.2.1, I t1.2.2.2.2.2.1, I t1.2.2.2.2.2.2.1, I t1.2.2.2.2.2.2.2.1, I t1.2.2.2.2.2.2.2.2.1, I t1.2.2.2.2.2.2.2.2.2]))), (19, .box (.d (I a5))), (27, .box (.own 80 0)), (30, .loop true [(6, .fn (.func 104) [] [.ptr 19 0 0 0 0, .ptr 18 0 0 0 0]), (4, .d (.lst true 0 [])), (2, .ptr 27 0 0 0 0), (1, .fn (.func 104) [] [.ptr 19 0 0 0 0, .ptr 18 0 0 0 0]), (0, .d (.lst true 0 []))] [7] (rangeAt cx.P 103 0).1 (rangeAt cx.P 103 0).2 13), (80, .row 0 4 sb.2)]
noncomputable def X_field_blocked_L2 (a0 : List D) (a1 : Int) (a2 : Int) (a3 : Int) (a4 : Int) (a5 : Int) (t1 : ByteArray × Int × Int × Int × Int × Int × Int × Int × Int × Int) (sa : Int) (e : (Unit) ⊕ (List D)) : Ex := match e with
  | (.inl e) => (.exit 2)
  | (.inr e) => (.exit 2)
noncomputable def XT_field_blocked_L2 (a0 : List D) (a1 : Int) (a2 : Int) (a3 : Int) (a4 : Int) (a5 : Int) (t1 : ByteArray × Int × Int × Int × Int × Int × Int × Int × Int × Int) (sa : Int) (e : (Unit) ⊕ (List D)) : List (Nat × AV) := match e with
  | (.inl e) => [(0, .own 30 0), (1, .ptr 19 0 0 0 0), (2, .ptr 18 0 0 0 0), (7, .d (I a5)), (8, .d (I sa))]
  | (.inr e) => [(0, .own 30 0), (1, .ptr 19 0 0 0 0), (2, .ptr 18 0 0 0 0), (7, .d (I a5)), (8, .d (I sa))]
noncomputable def XH_field_blocked_L2 (a0 : List D) (a1 : Int) (a2 : Int) (a3 : Int) (a4 : Int) (a5 : Int) (t1 : ByteArray × Int × Int × Int × Int × Int × Int × Int × Int × Int) (sa : Int) (e : (Unit) ⊕ (List D)) : List (Nat × Blk) := match e with
  | (.inl e) => [(0, .box (.d (.lst false 10 a0))), (1, .box (.d (I a1))), (2, .box (.d (.agg [I a2, I a3, I a4]))), (3, .box (.d (I a5))), (9, .box (.d (.agg [.v (.string t1.1), I t1.2.1, I t1.2.2.1, I t1.2.2.2.1, I t1.2.2.2.2.1, I t1.2.2.2.2.2.1, I t1.2.2.2.2.2.2.1, I t1.2.2.2.2.2.2.2.1, I t1.2.2.2.2.2.2.2.2.1, I t1.2.2.2.2.2.2.2.2.2]))), (18, .box (.d (.agg [.v (.string t1.1), I t1.2.1, I t1.2.2.1, I t1.2.2.2.1, I t1.2.2.2.2.1, I t1.2.2.2.2.2.1, I t1.2.2.2.2.2.2.1, I t1.2.2.2.2.2.2.2.1, I t1.2.2.2.2.2.2.2.2.1, I t1.2.2.2.2.2.2.2.2.2]))), (19, .box (.d (I a5))), (27, .box (.d (.lst true 0 []))), (30, .loop true [(6, .fn (.func 104) [] [.ptr 19 0 0 0 0, .ptr 18 0 0 0 0]), (4, .d (.lst true 0 [])), (2, .ptr 27 0 0 0 0), (1, .fn (.func 104) [] [.ptr 19 0 0 0 0, .ptr 18 0 0 0 0]), (0, .d (.lst true 0 []))] [7] (rangeAt cx.P 103 0).1 (rangeAt cx.P 103 0).2 13)]
  | (.inr e) => [(0, .box (.d (.lst false 10 a0))), (1, .box (.d (I a1))), (2, .box (.d (.agg [I a2, I a3, I a4]))), (3, .box (.d (I a5))), (9, .box (.d (.agg [.v (.string t1.1), I t1.2.1, I t1.2.2.1, I t1.2.2.2.1, I t1.2.2.2.2.1, I t1.2.2.2.2.2.1, I t1.2.2.2.2.2.2.1, I t1.2.2.2.2.2.2.2.1, I t1.2.2.2.2.2.2.2.2.1, I t1.2.2.2.2.2.2.2.2.2]))), (18, .box (.d (.agg [.v (.string t1.1), I t1.2.1, I t1.2.2.1, I t1.2.2.2.1, I t1.2.2.2.2.1, I t1.2.2.2.2.2.1, I t1.2.2.2.2.2.2.1, I t1.2.2.2.2.2.2.2.1, I t1.2.2.2.2.2.2.2.2.1, I t1.2.2.2.2.2.2.2.2.2]))), (19, .box (.d (I a5))), (27, .box (.own 80 0)), (30, .loop true [(6, .fn (.func 104) [] [.ptr 19 0 0 0 0, .ptr 18 0 0 0 0]), (4, .d (.lst true 0 [])), (2, .ptr 27 0 0 0 0), (1, .fn (.func 104) [] [.ptr 19 0 0 0 0, .ptr 18 0 0 0 0]), (0, .d (.lst true 0 []))] [7] (rangeAt cx.P 103 0).1 (rangeAt cx.P 103 0).2 13), (80, .row 0 4 e)]
theorem R_field_blocked_L2 {n : Nat} {a0 : List D} {a1 : Int} {a2 : Int} {a3 : Int} {a4 : Int} {a5 : Int} {t1 : ByteArray × Int × Int × Int × Int × Int × Int × Int × Int × Int} {sa : Int} (sb : (Unit) ⊕ (Int × List D)) (r) (h : F_field_blocked_L2 n a0 a1 a2 a3 a4 a5 t1 sa sb = some r) : Rd cx (loopAt cx.P 104 1) 49 31 false (T_field_blocked_L2 a0 a1 a2 a3 a4 a5 t1 sa) (H_field_blocked_L2 a0 a1 a2 a3 a4 a5 t1 sa) (X_field_blocked_L2 a0 a1 a2 a3 a4 a5 t1 sa) (XT_field_blocked_L2 a0 a1 a2 a3 a4 a5 t1 sa) (XH_field_blocked_L2 a0 a1 a2 a3 a4 a5 t1 sa) sb r := by
  unfold F_field_blocked_L2 at h
  rcases sb with sb | sb
  · by_cases hb1 : 0 < a5
    · replace h := ite_t h hb1
      obtain ⟨tb2, hb2, h⟩ := bnd_of h
      obtain ⟨hb3, h⟩ := grd_of h
      obtain ⟨tb4, hb4, h⟩ := bnd_of h
      obtain ⟨hb5, h⟩ := grd_of h
      obtain ⟨hb6, h⟩ := grd_of h
      obtain ⟨hb7, h⟩ := grd_of h
      obtain ⟨tb8, hb8, h⟩ := bnd_of h
      obtain ⟨tb9, hb9, h⟩ := bnd_of h
      obtain ⟨tb10, hb10, h⟩ := bnd_of h
      obtain ⟨hb11, h⟩ := grd_of h
      obtain ⟨hb12, h⟩ := grd_of h
      replace h := Option.some.inj h
      subst h
      exact ⟨100, 38, [.br true, .ret (.agg [I tb2.1, I tb2.2.1, I tb2.2.2]), .ret (.agg [I tb4.1, I tb4.2.1, I tb4.2.2]), .ret (.agg [I tb8.1, I tb8.2.1, I tb8.2.2]), .ret (.agg [I tb9.1, I tb9.2.1, I tb9.2.2]), .ret (.agg [I tb10.1, I tb10.2.1, I tb10.2.2]), .no, .no, .no], [], [0, 1, 2, 4, 7, 8, 11, 12], [0, 1, 2, 3, 9, 18, 19, 27, 30, 80], round_of (ob := [inI64 1, inI64 ((sa * a5) + 0), inI64 (sa * a5), Computes cx 98 [.agg [I tb2.1, I tb2.2.1, I tb2.2.2], .agg [I tb9.1, I tb9.2.1, I tb9.2.2]] (.agg [I tb10.1, I tb10.2.1, I tb10.2.2]), Computes cx 98 [.agg [I tb4.1, I tb4.2.1, I tb4.2.2], .agg [I tb8.1, I tb8.2.1, I tb8.2.2]] (.agg [I tb9.1, I tb9.2.1, I tb9.2.2]), Computes cx 99 [I (((2 * sa) + 1) - a5), .agg [I t1.2.2.2.2.2.2.2.1, I t1.2.2.2.2.2.2.2.2.1, I t1.2.2.2.2.2.2.2.2.2]] (.agg [I tb8.1, I tb8.2.1, I tb8.2.2]), inI64 (((2 * sa) + 1) - a5), inI64 ((2 * sa) + 1), inI64 (2 * sa), Computes cx 99 [I (1 - a5), .agg [I t1.2.2.2.2.1, I t1.2.2.2.2.2.1, I t1.2.2.2.2.2.2.1]] (.agg [I tb4.1, I tb4.2.1, I tb4.2.2]), inI64 (1 - a5), inI64 1, inI64 0, Computes cx 99 [I a5, .agg [I t1.2.1, I t1.2.2.1, I t1.2.2.2.1]] (.agg [I tb2.1, I tb2.2.1, I tb2.2.2]), (decide (0 < a5)) = true]) (by kernel_rfl) ⟨(by unfold inI64; omega), hb12, hb11, (c_field_plus hb10), (c_field_plus hb9), (c_field_times hb8), hb7, hb6, hb5, (c_field_times hb4), hb3, (by unfold inI64; omega), (by unfold inI64; omega), (c_field_times hb2), (decide_eq_true hb1), trivial⟩⟩
    · replace h := ite_f h hb1
      replace h := Option.some.inj h
      subst h
      exact ⟨⟨100, 38, [.br false], [], [0, 1, 2, 7, 8], [0, 1, 2, 3, 9, 18, 19, 27, 30], round_of (ob := [(decide (0 < a5)) = false]) (by kernel_rfl) ⟨(decide_eq_false hb1), trivial⟩⟩, nofun⟩
  · by_cases hb1 : sb.1 < a5
    · replace h := ite_t h hb1
      obtain ⟨tb2, hb2, h⟩ := bnd_of h
      obtain ⟨hb3, h⟩ := grd_of h
      obtain ⟨hb4, h⟩ := grd_of h
      obtain ⟨hb5, h⟩ := grd_of h
      obtain ⟨tb6, hb6, h⟩ := bnd_of h
      obtain ⟨hb7, h⟩ := grd_of h
      obtain ⟨hb8, h⟩ := grd_of h
      obtain ⟨hb9, h⟩ := grd_of h
      obtain ⟨tb10, hb10, h⟩ := bnd_of h
      obtain ⟨tb11, hb11, h⟩ := bnd_of h
      obtain ⟨tb12, hb12, h⟩ := bnd_of h
      obtain ⟨hb13, h⟩ := grd_of h
      obtain ⟨hb14, h⟩ := grd_of h
      obtain ⟨hb15, h⟩ := grd_of h
      obtain ⟨hb16, h⟩ := grd_of h
      replace h := Option.some.inj h
      subst h
      exact ⟨100, 81, [.br true, .ret (.agg [I tb2.1, I tb2.2.1, I tb2.2.2]), .ret (.agg [I tb6.1, I tb6.2.1, I tb6.2.2]), .ret (.agg [I tb10.1, I tb10.2.1, I tb10.2.2]), .ret (.agg [I tb11.1, I tb11.2.1, I tb11.2.2]), .ret (.agg [I tb12.1, I tb12.2.1, I tb12.2.2]), .br true, .no], [], [0, 1, 2, 4, 7, 8, 11, 12], [0, 1, 2, 3, 9, 18, 19, 27, 30, 80], round_of (ob := [inI64 (sb.1 + 1), room cx 130 ((sb.2).length + 1), inI64 ((sa * a5) + sb.1), inI64 (sa * a5), Computes cx 98 [.agg [I tb2.1, I tb2.2.1, I tb2.2.2], .agg [I tb11.1, I tb11.2.1, I tb11.2.2]] (.agg [I tb12.1, I tb12.2.1, I tb12.2.2]), Computes cx 98 [.agg [I tb6.1, I tb6.2.1, I tb6.2.2], .agg [I tb10.1, I tb10.2.1, I tb10.2.2]] (.agg [I tb11.1, I tb11.2.1, I tb11.2.2]), Computes cx 99 [I (((2 * sa) + 1) - a5), .agg [I t1.2.2.2.2.2.2.2.1, I t1.2.2.2.2.2.2.2.2.1, I t1.2.2.2.2.2.2.2.2.2]] (.agg [I tb10.1, I tb10.2.1, I tb10.2.2]), inI64 (((2 * sa) + 1) - a5), inI64 ((2 * sa) + 1), inI64 (2 * sa), Computes cx 99 [I (((2 * sb.1) + 1) - a5), .agg [I t1.2.2.2.2.1, I t1.2.2.2.2.2.1, I t1.2.2.2.2.2.2.1]] (.agg [I tb6.1, I tb6.2.1, I tb6.2.2]), inI64 (((2 * sb.1) + 1) - a5), inI64 ((2 * sb.1) + 1), inI64 (2 * sb.1), Computes cx 99 [I a5, .agg [I t1.2.1, I t1.2.2.1, I t1.2.2.2.1]] (.agg [I tb2.1, I tb2.2.1, I tb2.2.2]), (decide (sb.1 < a5)) = true]) (by kernel_rfl) ⟨hb16, (room_of (b := 32) (by kernel_rfl) (by decide) hb15), hb14, hb13, (c_field_plus hb12), (c_field_plus hb11), (c_field_times hb10), hb9, hb8, hb7, (c_field_times hb6), hb5, hb4, hb3, (c_field_times hb2), (decide_eq_true hb1), trivial⟩⟩
    · replace h := ite_f h hb1
      replace h := Option.some.inj h
      subst h
      exact ⟨⟨100, 81, [.br false], [], [0, 1, 2, 7, 8], [0, 1, 2, 3, 9, 18, 19, 27, 30, 80], round_of (ob := [(decide (sb.1 < a5)) = false]) (by kernel_rfl) ⟨(decide_eq_false hb1), trivial⟩⟩, nofun⟩
def F_field_blocked_L3 (n : Nat) (a0 : List D) (a1 : Int) (a2 : Int) (a3 : Int) (a4 : Int) (a5 : Int) (t1 : ByteArray × Int × Int × Int × Int × Int × Int × Int × Int × Int) (sa : Int × List D) (sb : (Int × List D)) : Option (((Int × List D)) ⊕ ((List D))) :=
  if sb.1 < a5 then
    (F_field_times n a5 t1.2.1 t1.2.2.1 t1.2.2.2.1).bind fun tb2 =>
    if inI64 (2 * sb.1) then
    if inI64 ((2 * sb.1) + 1) then
    if inI64 (((2 * sb.1) + 1) - a5) then
    (F_field_times n (((2 * sb.1) + 1) - a5) t1.2.2.2.2.1 t1.2.2.2.2.2.1 t1.2.2.2.2.2.2.1).bind fun tb6 =>
    if inI64 (2 * sa.1) then
    if inI64 ((2 * sa.1) + 1) then
    if inI64 (((2 * sa.1) + 1) - a5) then
    (F_field_times n (((2 * sa.1) + 1) - a5) t1.2.2.2.2.2.2.2.1 t1.2.2.2.2.2.2.2.2.1 t1.2.2.2.2.2.2.2.2.2).bind fun tb10 =>
    (F_field_plus n tb6.1 tb6.2.1 tb6.2.2 tb10.1 tb10.2.1 tb10.2.2).bind fun tb11 =>
    (F_field_plus n tb2.1 tb2.2.1 tb2.2.2 tb11.1 tb11.2.1 tb11.2.2).bind fun tb12 =>
    if inI64 (sa.1 * a5) then
    if inI64 ((sa.1 * a5) + sb.1) then
    if roomP 32 ((sb.2).length + 1) then
    if inI64 (sb.1 + 1) then
    some (.inl ((sb.1 + 1), (sb.2 ++ ([.agg [I ((sa.1 * a5) + sb.1), I tb12.1, I tb12.2.1, I tb12.2.2]] : List D))))
    else none
    else none
    else none
    else none
    else none
    else none
    else none
    else none
    else none
    else none
  else
  some (.inr sb.2)
noncomputable def T_field_blocked_L3 (a0 : List D) (a1 : Int) (a2 : Int) (a3 : Int) (a4 : Int) (a5 : Int) (t1 : ByteArray × Int × Int × Int × Int × Int × Int × Int × Int × Int) (sa : Int × List D) (sb : (Int × List D)) : List (Nat × AV) := [(0, .own 30 0), (1, .ptr 19 0 0 0 0), (2, .ptr 18 0 0 0 0), (4, .d (I sa.1)), (7, .d (I a5)), (8, .d (I sa.1)), (11, .d (I a5)), (12, .d (I sb.1))]
noncomputable def H_field_blocked_L3 (a0 : List D) (a1 : Int) (a2 : Int) (a3 : Int) (a4 : Int) (a5 : Int) (t1 : ByteArray × Int × Int × Int × Int × Int × Int × Int × Int × Int) (sa : Int × List D) (sb : (Int × List D)) : List (Nat × Blk) := [(0, .box (.d (.lst false 10 a0))), (1, .box (.d (I a1))), (2, .box (.d (.agg [I a2, I a3, I a4]))), (3, .box (.d (I a5))), (9, .box (.d (.agg [.v (.string t1.1), I t1.2.1, I t1.2.2.1, I t1.2.2.2.1, I t1.2.2.2.2.1, I t1.2.2.2.2.2.1, I t1.2.2.2.2.2.2.1, I t1.2.2.2.2.2.2.2.1, I t1.2.2.2.2.2.2.2.2.1, I t1.2.2.2.2.2.2.2.2.2]))), (18, .box (.d (.agg [.v (.string t1.1), I t1.2.1, I t1.2.2.1, I t1.2.2.2.1, I t1.2.2.2.2.1, I t1.2.2.2.2.2.1, I t1.2.2.2.2.2.2.1, I t1.2.2.2.2.2.2.2.1, I t1.2.2.2.2.2.2.2.2.1, I t1.2.2.2.2.2.2.2.2.2]))), (19, .box (.d (I a5))), (27, .box (.own 80 0)), (30, .loop true [(6, .fn (.func 104) [] [.ptr 19 0 0 0 0, .ptr 18 0 0 0 0]), (4, .d (.lst true 0 [])), (2, .ptr 27 0 0 0 0), (1, .fn (.func 104) [] [.ptr 19 0 0 0 0, .ptr 18 0 0 0 0]), (0, .d (.lst true 0 []))] [7] (rangeAt cx.P 103 0).1 (rangeAt cx.P 103 0).2 13), (80, .row 0 4 sb.2)]
noncomputable def X_field_blocked_L3 (a0 : List D) (a1 : Int) (a2 : Int) (a3 : Int) (a4 : Int) (a5 : Int) (t1 : ByteArray × Int × Int × Int × Int × Int × Int × Int × Int × Int) (sa : Int × List D) (e : (List D)) : Ex := (.exit 2)
noncomputable def XT_field_blocked_L3 (a0 : List D) (a1 : Int) (a2 : Int) (a3 : Int) (a4 : Int) (a5 : Int) (t1 : ByteArray × Int × Int × Int × Int × Int × Int × Int × Int × Int) (sa : Int × List D) (e : (List D)) : List (Nat × AV) := [(0, .own 30 0), (1, .ptr 19 0 0 0 0), (2, .ptr 18 0 0 0 0), (7, .d (I a5)), (8, .d (I sa.1))]
noncomputable def XH_field_blocked_L3 (a0 : List D) (a1 : Int) (a2 : Int) (a3 : Int) (a4 : Int) (a5 : Int) (t1 : ByteArray × Int × Int × Int × Int × Int × Int × Int × Int × Int) (sa : Int × List D) (e : (List D)) : List (Nat × Blk) := [(0, .box (.d (.lst false 10 a0))), (1, .box (.d (I a1))), (2, .box (.d (.agg [I a2, I a3, I a4]))), (3, .box (.d (I a5))), (9, .box (.d (.agg [.v (.string t1.1), I t1.2.1, I t1.2.2.1, I t1.2.2.2.1, I t1.2.2.2.2.1, I t1.2.2.2.2.2.1, I t1.2.2.2.2.2.2.1, I t1.2.2.2.2.2.2.2.1, I t1.2.2.2.2.2.2.2.2.1, I t1.2.2.2.2.2.2.2.2.2]))), (18, .box (.d (.agg [.v (.string t1.1), I t1.2.1, I t1.2.2.1, I t1.2.2.2.1, I t1.2.2.2.2.1, I t1.2.2.2.2.2.1, I t1.2.2.2.2.2.2.1, I t1.2.2.2.2.2.2.2.1, I t1.2.2.2.2.2.2.2.2.1, I t1.2.2.2.2.2.2.2.2.2]))), (19, .box (.d (I a5))), (27, .box (.own 80 0)), (30, .loop true [(6, .fn (.func 104) [] [.ptr 19 0 0 0 0, .ptr 18 0 0 0 0]), (4, .d (.lst true 0 [])), (2, .ptr 27 0 0 0 0), (1, .fn (.func 104) [] [.ptr 19 0 0 0 0, .ptr 18 0 0 0 0]), (0, .d (.lst true 0 []))] [7] (rangeAt cx.P 103 0).1 (rangeAt cx.P 103 0).2 13), (80, .row 0 4 e)]
theorem R_field_blocked_L3 {n : Nat} {a0 : List D} {a1 : Int} {a2 : Int} {a3 : Int} {a4 : Int} {a5 : Int} {t1 : ByteArray × Int × Int × Int × Int × Int × Int × Int × Int × Int} {sa : Int × List D} (sb : (Int × List D)) (r) (h : F_field_blocked_L3 n a0 a1 a2 a3 a4 a5 t1 sa sb = some r) : Rd cx (loopAt cx.P 104 1) 49 31 false (T_field_blocked_L3 a0 a1 a2 a3 a4 a5 t1 sa) (H_field_blocked_L3 a0 a1 a2 a3 a4 a5 t1 sa) (X_field_blocked_L3 a0 a1 a2 a3 a4 a5 t1 sa) (XT_field_blocked_L3 a0 a1 a2 a3 a4 a5 t1 sa) (XH_field_blocked_L3 a0 a1 a2 a3 a4 a5 t1 sa) sb r := by
  unfold F_field_blocked_L3 at h
  by_cases hb1 : sb.1 < a5
  · replace h := ite_t h hb1
    obtain ⟨tb2, hb2, h⟩ := bnd_of h
    obtain ⟨hb3, h⟩ := grd_of h
    obtain ⟨hb4, h⟩ := grd_of h
    obtain ⟨hb5, h⟩ := grd_of h
    obtain ⟨tb6, hb6, h⟩ := bnd_of h
    obtain ⟨hb7, h⟩ := grd_of h
    obtain ⟨hb8, h⟩ := grd_of h
    obtain ⟨hb9, h⟩ := grd_of h
    obtain ⟨tb10, hb10, h⟩ := bnd_of h
    obtain ⟨tb11, hb11, h⟩ := bnd_of h
    obtain ⟨tb12, hb12, h⟩ := bnd_of h
    obtain ⟨hb13, h⟩ := grd_of h
    obtain ⟨hb14, h⟩ := grd_of h
    obtain ⟨hb15, h⟩ := grd_of h
    obtain ⟨hb16, h⟩ := grd_of h
    replace h := Option.some.inj h
    subst h
    exact ⟨100, 86, [.br true, .ret (.agg [I tb2.1, I tb2.2.1, I tb2.2.2]), .ret (.agg [I tb6.1, I tb6.2.1, I tb6.2.2]), .ret (.agg [I tb10.1, I tb10.2.1, I tb10.2.2]), .ret (.agg [I tb11.1, I tb11.2.1, I tb11.2.2]), .ret (.agg [I tb12.1, I tb12.2.1, I tb12.2.2]), .br true, .no], [], [0, 1, 2, 4, 7, 8, 11, 12], [0, 1, 2, 3, 9, 18, 19, 27, 30, 80], round_of (ob := [inI64 (sb.1 + 1), room cx 130 ((sb.2).length + 1), inI64 ((sa.1 * a5) + sb.1), inI64 (sa.1 * a5), Computes cx 98 [.agg [I tb2.1, I tb2.2.1, I tb2.2.2], .agg [I tb11.1, I tb11.2.1, I tb11.2.2]] (.agg [I tb12.1, I tb12.2.1, I tb12.2.2]), Computes cx 98 [.agg [I tb6.1, I tb6.2.1, I tb6.2.2], .agg [I tb10.1, I tb10.2.1, I tb10.2.2]] (.agg [I tb11.1, I tb11.2.1, I tb11.2.2]), Computes cx 99 [I (((2 * sa.1) + 1) - a5), .agg [I t1.2.2.2.2.2.2.2.1, I t1.2.2.2.2.2.2.2.2.1, I t1.2.2.2.2.2.2.2.2.2]] (.agg [I tb10.1, I tb10.2.1, I tb10.2.2]), inI64 (((2 * sa.1) + 1) - a5), inI64 ((2 * sa.1) + 1), inI64 (2 * sa.1), Computes cx 99 [I (((2 * sb.1) + 1) - a5), .agg [I t1.2.2.2.2.1, I t1.2.2.2.2.2.1, I t1.2.2.2.2.2.2.1]] (.agg [I tb6.1, I tb6.2.1, I tb6.2.2]), inI64 (((2 * sb.1) + 1) - a5), inI64 ((2 * sb.1) + 1), inI64 (2 * sb.1), Computes cx 99 [I a5, .agg [I t1.2.1, I t1.2.2.1, I t1.2.2.2.1]] (.agg [I tb2.1, I tb2.2.1, I tb2.2.2]), (decide (sb.1 < a5)) = true]) (by kernel_rfl) ⟨hb16, (room_of (b := 32) (by kernel_rfl) (by decide) hb15), hb14, hb13, (c_field_plus hb12), (c_field_plus hb11), (c_field_times hb10), hb9, hb8, hb7, (c_field_times hb6), hb5, hb4, hb3, (c_field_times hb2), (decide_eq_true hb1), trivial⟩⟩
  · replace h := ite_f h hb1
    replace h := Option.some.inj h
    subst h
    exact ⟨⟨100, 86, [.br false], [], [0, 1, 2, 7, 8], [0, 1, 2, 3, 9, 18, 19, 27, 30, 80], round_of (ob := [(decide (sb.1 < a5)) = false]) (by kernel_rfl) ⟨(decide_eq_false hb1), trivial⟩⟩, nofun⟩
def F_field_blocked_L4 (n : Nat) (a0 : List D) (a1 : Int) (a2 : Int) (a3 : Int) (a4 : Int) (a5 : Int) (t1 : ByteArray × Int × Int × Int × Int × Int × Int × Int × Int × Int) (sa : (Int) ⊕ (Int × List D)) : Option (((Int) ⊕ (Int × List D)) ⊕ ((Unit) ⊕ (List D))) := match sa with
  | (.inl sa) => (
    if sa < a5 then
      (loopF (F_field_blocked_L2 n a0 a1 a2 a3 a4 a5 t1 sa) n (.inl ())).bind fun ta2 => match ta2 with
        | (.inl ta2) => (
          if inI64 (sa + 1) then
          some (.inl (.inl (sa + 1)))
          else none)
        | (.inr ta2) => (
          if inI64 (sa + 1) then
          some (.inl (.inr ((sa + 1), ta2)))
          else none)
    else
    some (.inr (.inl ())))
  | (.inr sa) => (
    if sa.1 < a5 then
      (loopF (F_field_blocked_L3 n a0 a1 a2 a3 a4 a5 t1 sa) n (0, sa.2)).bind fun ta2 =>
      if inI64 (sa.1 + 1) then
      some (.inl (.inr ((sa.1 + 1), ta2)))
      else none
    else
    some (.inr (.inr sa.2)))
noncomputable def T_field_blocked_L4 (a0 : List D) (a1 : Int) (a2 : Int) (a3 : Int) (a4 : Int) (a5 : Int) (t1 : ByteArray × Int × Int × Int × Int × Int × Int × Int × Int × Int) (sa : (Int) ⊕ (Int × List D)) : List (Nat × AV) := match sa with
  | (.inl sa) => [(0, .own 30 0), (1, .ptr 19 0 0 0 0), (2, .ptr 18 0 0 0 0), (7, .d (I a5)), (8, .d (I sa))]
  | (.inr sa) => [(0, .own 30 0), (1, .ptr 19 0 0 0 0), (2, .ptr 18 0 0 0 0), (7, .d (I a5)), (8, .d (I sa.1))]
noncomputable def H_field_blocked_L4 (a0 : List D) (a1 : Int) (a2 : Int) (a3 : Int) (a4 : Int) (a5 : Int) (t1 : ByteArray × Int × Int × Int × Int × Int × Int × Int × Int × Int) (sa : (Int) ⊕ (Int × List D)) : List (Nat × Blk) := match sa with
  | (.inl sa) => [(0, .box (.d (.lst false 10 a0))), (1, .box (.d (I a1))), (2, .box (.d (.agg [I a2, I a3, I a4]))), (3, .box (.d (I a5))), (9, .box (.d (.agg [.v (.string t1.1), I t1.2.1, I t1.2.2.1, I t1.2.2.2.1, I t1.2.2.2.2.1, I t1.2.2.2.2.2.1, I t1.2.2.2.2.2.2.1, I t1.2.2.2.2.2.2.2.1, I t1.2.2.2.2.2.2.2.2.1, I t1.2.2.2.2.2.2.2.2.2]))), (18, .box (.d (.agg [.v (.string t1.1), I t1.2.1, I t1.2.2.1, I t1.2.2.2.1, I t1.2.2.2.2.1, I t1.2.2.2.2.2.1, I t1.2.2.2.2.2.2.1, I t1.2.2.2.2.2.2.2.1, I t1.2.2.2.2.2.2.2.2.1, I t1.2.2.2.2.2.2.2.2.2]))), (19, .box (.d (I a5))), (27, .box (.d (.lst true 0 []))), (30, .loop true [(6, .fn (.func 104) [] [.ptr 19 0 0 0 0, .ptr 18 0 0 0 0]), (4, .d (.lst true 0 [])), (2, .ptr 27 0 0 0 0), (1, .fn (.func 104) [] [.ptr 19 0 0 0 0, .ptr 18 0 0 0 0]), (0, .d (.lst true 0 []))] [7] (rangeAt cx.P 103 0).1 (rangeAt cx.P 103 0).2 13)]
  | (.inr sa) => [(0, .box (.d (.lst false 10 a0))), (1, .box (.d (I a1))), (2, .box (.d (.agg [I a2, I a3, I a4]))), (3, .box (.d (I a5))), (9, .box (.d (.agg [.v (.string t1.1), I t1.2.1, I t1.2.2.1, I t1.2.2.2.1, I t1.2.2.2.2.1, I t1.2.2.2.2.2.1, I t1.2.2.2.2.2.2.1, I t1.2.2.2.2.2.2.2.1, I t1.2.2.2.2.2.2.2.2.1, I t1.2.2.2.2.2.2.2.2.2]))), (18, .box (.d (.agg [.v (.string t1.1), I t1.2.1, I t1.2.2.1, I t1.2.2.2.1, I t1.2.2.2.2.1, I t1.2.2.2.2.2.1, I t1.2.2.2.2.2.2.1, I t1.2.2.2.2.2.2.2.1, I t1.2.2.2.2.2.2.2.2.1, I t1.2.2.2.2.2.2.2.2.2]))), (19, .box (.d (I a5))), (27, .box (.own 80 0)), (30, .loop true [(6, .fn (.func 104) [] [.ptr 19 0 0 0 0, .ptr 18 0 0 0 0]), (4, .d (.lst true 0 [])), (2, .ptr 27 0 0 0 0), (1, .fn (.func 104) [] [.ptr 19 0 0 0 0, .ptr 18 0 0 0 0]), (0, .d (.lst true 0 []))] [7] (rangeAt cx.P 103 0).1 (rangeAt cx.P 103 0).2 13), (80, .row 0 4 sa.2)]
noncomputable def X_field_blocked_L4 (a0 : List D) (a1 : Int) (a2 : Int) (a3 : Int) (a4 : Int) (a5 : Int) (t1 : ByteArray × Int × Int × Int × Int × Int × Int × Int × Int × Int) (e : (Unit) ⊕ (List D)) : Ex := match e with
  | (.inl e) => (.exit 0)
  | (.inr e) => (.exit 0)
noncomputable def XT_field_blocked_L4 (a0 : List D) (a1 : Int) (a2 : Int) (a3 : Int) (a4 : Int) (a5 : Int) (t1 : ByteArray × Int × Int × Int × Int × Int × Int × Int × Int × Int) (e : (Unit) ⊕ (List D)) : List (Nat × AV) := match e with
  | (.inl e) => []
  | (.inr e) => []
noncomputable def XH_field_blocked_L4 (a0 : List D) (a1 : Int) (a2 : Int) (a3 : Int) (a4 : Int) (a5 : Int) (t1 : ByteArray × Int × Int × Int × Int × Int × Int × Int × Int × Int) (e : (Unit) ⊕ (List D)) : List (Nat × Blk) := match e with
  | (.inl e) => [(0, .box (.d (.lst false 10 a0))), (1, .box (.d (I a1))), (2, .box (.d (.agg [I a2, I a3, I a4]))), (3, .box (.d (I a5))), (9, .box (.d (.agg [.v (.string t1.1), I t1.2.1, I t1.2.2.1, I t1.2.2.2.1, I t1.2.2.2.2.1, I t1.2.2.2.2.2.1, I t1.2.2.2.2.2.2.1, I t1.2.2.2.2.2.2.2.1, I t1.2.2.2.2.2.2.2.2.1, I t1.2.2.2.2.2.2.2.2.2]))), (18, .box (.d (.agg [.v (.string t1.1), I t1.2.1, I t1.2.2.1, I t1.2.2.2.1, I t1.2.2.2.2.1, I t1.2.2.2.2.2.1, I t1.2.2.2.2.2.2.1, I t1.2.2.2.2.2.2.2.1, I t1.2.2.2.2.2.2.2.2.1, I t1.2.2.2.2.2.2.2.2.2]))), (19, .box (.d (I a5))), (27, .box (.d (.lst true 0 []))), (30, .loop true [(6, .fn (.func 104) [] [.ptr 19 0 0 0 0, .ptr 18 0 0 0 0]), (4, .d (.lst true 0 [])), (2, .ptr 27 0 0 0 0), (1, .fn (.func 104) [] [.ptr 19 0 0 0 0, .ptr 18 0 0 0 0]), (0, .d (.lst true 0 []))] [7] (rangeAt cx.P 103 0).1 (rangeAt cx.P 103 0).2 13)]
  | (.inr e) => [(0, .box (.d (.lst false 10 a0))), (1, .box (.d (I a1))), (2, .box (.d (.agg [I a2, I a3, I a4]))), (3, .box (.d (I a5))), (9, .box (.d (.agg [.v (.string t1.1), I t1.2.1, I t1.2.2.1, I t1.2.2.2.1, I t1.2.2.2.2.1, I t1.2.2.2.2.2.1, I t1.2.2.2.2.2.2.1, I t1.2.2.2.2.2.2.2.1, I t1.2.2.2.2.2.2.2.2.1, I t1.2.2.2.2.2.2.2.2.2]))), (18, .box (.d (.agg [.v (.string t1.1), I t1.2.1, I t1.2.2.1, I t1.2.2.2.1, I t1.2.2.2.2.1, I t1.2.2.2.2.2.1, I t1.2.2.2.2.2.2.1, I t1.2.2.2.2.2.2.2.1, I t1.2.2.2.2.2.2.2.2.1, I t1.2.2.2.2.2.2.2.2.2]))), (19, .box (.d (I a5))), (27, .box (.own 80 0)), (30, .loop true [(6, .fn (.func 104) [] [.ptr 19 0 0 0 0, .ptr 18 0 0 0 0]), (4, .d (.lst true 0 [])), (2, .ptr 27 0 0 0 0), (1, .fn (.func 104) [] [.ptr 19 0 0 0 0, .ptr 18 0 0 0 0]), (0, .d (.lst true 0 []))] [7] (rangeAt cx.P 103 0).1 (rangeAt cx.P 103 0).2 13), (80, .row 0 4 e)]
theorem R_field_blocked_L4 {n : Nat} {a0 : List D} {a1 : Int} {a2 : Int} {a3 : Int} {a4 : Int} {a5 : Int} {t1 : ByteArray × Int × Int × Int × Int × Int × Int × Int × Int × Int} (sa : (Int) ⊕ (Int × List D)) (r) (h : F_field_blocked_L4 n a0 a1 a2 a3 a4 a5 t1 sa = some r) : Rd cx (loopAt cx.P 104 0) 49 31 false (T_field_blocked_L4 a0 a1 a2 a3 a4 a5 t1) (H_field_blocked_L4 a0 a1 a2 a3 a4 a5 t1) (X_field_blocked_L4 a0 a1 a2 a3 a4 a5 t1) (XT_field_blocked_L4 a0 a1 a2 a3 a4 a5 t1) (XH_field_blocked_L4 a0 a1 a2 a3 a4 a5 t1) sa r := by
  unfold F_field_blocked_L4 at h
  rcases sa with sa | sa
  · by_cases ha1 : sa < a5
    · replace h := ite_t h ha1
      obtain ⟨ta2, ha2, h⟩ := bnd_of h
      rcases ta2 with ta2 | ta2
      · obtain ⟨ha3, h⟩ := grd_of h
        replace h := Option.some.inj h
        subst h
        exact ⟨100, 33, [.br true, .lp [] [0, 1, 2, 4, 7, 8, 11, 12] [0, 1, 2, 3, 9, 18, 19, 27, 30] (.exit 2) [(0, .own 30 0), (1, .ptr 19 0 0 0 0), (2, .ptr 18 0 0 0 0), (7, .d (I a5)), (8, .d (I sa))] [(0, .box (.d (.lst false 10 a0))), (1, .box (.d (I a1))), (2, .box (.d (.agg [I a2, I a3, I a4]))), (3, .box (.d (I a5))), (9, .box (.d (.agg [.v (.string t1.1), I t1.2.1, I t1.2.2.1, I t1.2.2.2.1, I t1.2.2.2.2.1, I t1.2.2.2.2.2.1, I t1.2.2.2.2.2.2.1, I t1.2.2.2.2.2.2.2.1, I t1.2.2.2.2.2.2.2.2.1, I t1.2.2.2.2.2.2.2.2.2]))), (18, .box (.d (.agg [.v (.string t1.1), I t1.2.1, I t1.2.2.1, I t1.2.2.2.1, I t1.2.2.2.2.1, I t1.2.2.2.2.2.1, I t1.2.2.2.2.2.2.1, I t1.2.2.2.2.2.2.2.1, I t1.2.2.2.2.2.2.2.2.1, I t1.2.2.2.2.2.2.2.2.2]))), (19, .box (.d (I a5))), (27, .box (.d (.lst true 0 []))), (30, .loop true [(6, .fn (.func 104) [] [.ptr 19 0 0 0 0, .ptr 18 0 0 0 0]), (4, .d (.lst true 0 [])), (2, .ptr 27 0 0 0 0), (1, .fn (.func 104) [] [.ptr 19 0 0 0 0, .ptr 18 0 0 0 0]), (0, .d (.lst true 0 []))] [7] (rangeAt cx.P 103 0).1 (rangeAt cx.P 103 0).2 13)] 138], [], [0, 1, 2, 7, 8], [0, 1, 2, 3, 9, 18, 19, 27, 30], round_of (ob := [inI64 (sa + 1), LoopN cx (loopAt cx.P 104 1) 49 31 false [(0, .own 30 0), (1, .ptr 19 0 0 0 0), (2, .ptr 18 0 0 0 0), (4, .d (I sa)), (7, .d (I a5)), (8, .d (I sa)), (11, .d (I a5)), (12, .d (I 0))] [(0, .box (.d (.lst false 10 a0))), (1, .box (.d (I a1))), (2, .box (.d (.agg [I a2, I a3, I a4]))), (3, .box (.d (I a5))), (9, .box (.d (.agg [.v (.string t1.1), I t1.2.1, I t1.2.2.1, I t1.2.2.2.1, I t1.2.2.2.2.1, I t1.2.2.2.2.2.1, I t1.2.2.2.2.2.2.1, I t1.2.2.2.2.2.2.2.1, I t1.2.2.2.2.2.2.2.2.1, I t1.2.2.2.2.2.2.2.2.2]))), (18, .box (.d (.agg [.v (.string t1.1), I t1.2.1, I t1.2.2.1, I t1.2.2.2.1, I t1.2.2.2.2.1, I t1.2.2.2.2.2.1, I t1.2.2.2.2.2.2.1, I t1.2.2.2.2.2.2.2.1, I t1.2.2.2.2.2.2.2.2.1, I t1.2.2.2.2.2.2.2.2.2]))), (19, .box (.d (I a5))), (27, .box (.d (.lst true 0 []))), (30, .loop true [(6, .fn (.func 104) [] [.ptr 19 0 0 0 0, .ptr 18 0 0 0 0]), (4, .d (.lst true 0 [])), (2, .ptr 27 0 0 0 0), (1, .fn (.func 104) [] [.ptr 19 0 0 0 0, .ptr 18 0 0 0 0]), (0, .d (.lst true 0 []))] [7] (rangeAt cx.P 103 0).1 (rangeAt cx.P 103 0).2 13)] (.exit 2) [(0, .own 30 0), (1, .ptr 19 0 0 0 0), (2, .ptr 18 0 0 0 0), (7, .d (I a5)), (8, .d (I sa))] [(0, .box (.d (.lst false 10 a0))), (1, .box (.d (I a1))), (2, .box (.d (.agg [I a2, I a3, I a4]))), (3, .box (.d (I a5))), (9, .box (.d (.agg [.v (.string t1.1), I t1.2.1, I t1.2.2.1, I t1.2.2.2.1, I t1.2.2.2.2.1, I t1.2.2.2.2.2.1, I t1.2.2.2.2.2.2.1, I t1.2.2.2.2.2.2.2.1, I t1.2.2.2.2.2.2.2.2.1, I t1.2.2.2.2.2.2.2.2.2]))), (18, .box (.d (.agg [.v (.string t1.1), I t1.2.1, I t1.2.2.1, I t1.2.2.2.1, I t1.2.2.2.2.1, I t1.2.2.2.2.2.1, I t1.2.2.2.2.2.2.1, I t1.2.2.2.2.2.2.2.1, I t1.2.2.2.2.2.2.2.2.1, I t1.2.2.2.2.2.2.2.2.2]))), (19, .box (.d (I a5))), (27, .box (.d (.lst true 0 []))), (30, .loop true [(6, .fn (.func 104) [] [.ptr 19 0 0 0 0, .ptr 18 0 0 0 0]), (4, .d (.lst true 0 [])), (2, .ptr 27 0 0 0 0), (1, .fn (.func 104) [] [.ptr 19 0 0 0 0, .ptr 18 0 0 0 0]), (0, .d (.lst true 0 []))] [7] (rangeAt cx.P 103 0).1 (rangeAt cx.P 103 0).2 13)], (decide (sa < a5)) = true]) (by kernel_rfl) ⟨ha3, (loopF_to R_field_blocked_L2 ha2), (decide_eq_true ha1), trivial⟩⟩
      · obtain ⟨ha3, h⟩ := grd_of h
        replace h := Option.some.inj h
        subst h
        exact ⟨100, 33, [.br true, .lp [] [0, 1, 2, 4, 7, 8, 11, 12] [0, 1, 2, 3, 9, 18, 19, 27, 30] (.exit 2) [(0, .own 30 0), (1, .ptr 19 0 0 0 0), (2, .ptr 18 0 0 0 0), (7, .d (I a5)), (8, .d (I sa))] [(0, .box (.d (.lst false 10 a0))), (1, .box (.d (I a1))), (2, .box (.d (.agg [I a2, I a3, I a4]))), (3, .box (.d (I a5))), (9, .box (.d (.agg [.v (.string t1.1), I t1.2.1, I t1.2.2.1, I t1.2.2.2.1, I t1.2.2.2.2.1, I t1.2.2.2.2.2.1, I t1.2.2.2.2.2.2.1, I t1.2.2.2.2.2.2.2.1, I t1.2.2.2.2.2.2.2.2.1, I t1.2.2.2.2.2.2.2.2.2]))), (18, .box (.d (.agg [.v (.string t1.1), I t1.2.1, I t1.2.2.1, I t1.2.2.2.1, I t1.2.2.2.2.1, I t1.2.2.2.2.2.1, I t1.2.2.2.2.2.2.1, I t1.2.2.2.2.2.2.2.1, I t1.2.2.2.2.2.2.2.2.1, I t1.2.2.2.2.2.2.2.2.2]))), (19, .box (.d (I a5))), (27, .box (.own 80 0)), (30, .loop true [(6, .fn (.func 104) [] [.ptr 19 0 0 0 0, .ptr 18 0 0 0 0]), (4, .d (.lst true 0 [])), (2, .ptr 27 0 0 0 0), (1, .fn (.func 104) [] [.ptr 19 0 0 0 0, .ptr 18 0 0 0 0]), (0, .d (.lst true 0 []))] [7] (rangeAt cx.P 103 0).1 (rangeAt cx.P 103 0).2 13), (80, .row 0 4 ta2)] 138], [], [0, 1, 2, 7, 8], [0, 1, 2, 3, 9, 18, 19, 27, 30, 80], round_of (ob := [inI64 (sa + 1), LoopN cx (loopAt cx.P 104 1) 49 31 false [(0, .own 30 0), (1, .ptr 19 0 0 0 0), (2, .ptr 18 0 0 0 0), (4, .d (I sa)), (7, .d (I a5)), (8, .d (I sa)), (11, .d (I a5)), (12, .d (I 0))] [(0, .box (.d (.lst false 10 a0))), (1, .box (.d (I a1))), (2, .box (.d (.agg [I a2, I a3, I a4]))), (3, .box (.d (I a5))), (9, .box (.d (.agg [.v (.string t1.1), I t1.2.1, I t1.2.2.1, I t1.2.2.2.1, I t1.2.2.2.2.1, I t1.2.2.2.2.2.1, I t1.2.2.2.2.2.2.1, I t1.2.2.2.2.2.2.2.1, I t1.2.2.2.2.2.2.2.2.1, I t1.2.2.2.2.2.2.2.2.2]))), (18, .box (.d (.agg [.v (.string t1.1), I t1.2.1, I t1.2.2.1, I t1.2.2.2.1, I t1.2.2.2.2.1, I t1.2.2.2.2.2.1, I t1.2.2.2.2.2.2.1, I t1.2.2.2.2.2.2.2.1, I t1.2.2.2.2.2.2.2.2.1, I t1.2.2.2.2.2.2.2.2.2]))), (19, .box (.d (I a5))), (27, .box (.d (.lst true 0 []))), (30, .loop true [(6, .fn (.func 104) [] [.ptr 19 0 0 0 0, .ptr 18 0 0 0 0]), (4, .d (.lst true 0 [])), (2, .ptr 27 0 0 0 0), (1, .fn (.func 104) [] [.ptr 19 0 0 0 0, .ptr 18 0 0 0 0]), (0, .d (.lst true 0 []))] [7] (rangeAt cx.P 103 0).1 (rangeAt cx.P 103 0).2 13)] (.exit 2) [(0, .own 30 0), (1, .ptr 19 0 0 0 0), (2, .ptr 18 0 0 0 0), (7, .d (I a5)), (8, .d (I sa))] [(0, .box (.d (.lst false 10 a0))), (1, .box (.d (I a1))), (2, .box (.d (.agg [I a2, I a3, I a4]))), (3, .box (.d (I a5))), (9, .box (.d (.agg [.v (.string t1.1), I t1.2.1, I t1.2.2.1, I t1.2.2.2.1, I t1.2.2.2.2.1, I t1.2.2.2.2.2.1, I t1.2.2.2.2.2.2.1, I t1.2.2.2.2.2.2.2.1, I t1.2.2.2.2.2.2.2.2.1, I t1.2.2.2.2.2.2.2.2.2]))), (18, .box (.d (.agg [.v (.string t1.1), I t1.2.1, I t1.2.2.1, I t1.2.2.2.1, I t1.2.2.2.2.1, I t1.2.2.2.2.2.1, I t1.2.2.2.2.2.2.1, I t1.2.2.2.2.2.2.2.1, I t1.2.2.2.2.2.2.2.2.1, I t1.2.2.2.2.2.2.2.2.2]))), (19, .box (.d (I a5))), (27, .box (.own 80 0)), (30, .loop true [(6, .fn (.func 104) [] [.ptr 19 0 0 0 0, .ptr 18 0 0 0 0]), (4, .d (.lst true 0 [])), (2, .ptr 27 0 0 0 0), (1, .fn (.func 104) [] [.ptr 19 0 0 0 0, .ptr 18 0 0 0 0]), (0, .d (.lst true 0 []))] [7] (rangeAt cx.P 103 0).1 (rangeAt cx.P 103 0).2 13), (80, .row 0 4 ta2)], (decide (sa < a5)) = true]) (by kernel_rfl) ⟨ha3, (loopF_to R_field_blocked_L2 ha2), (decide_eq_true ha1), trivial⟩⟩
    · replace h := ite_f h ha1
      replace h := Option.some.inj h
      subst h
      exact ⟨⟨100, 33, [.br false], [], [], [0, 1, 2, 3, 9, 18, 19, 27, 30], round_of (ob := [(decide (sa < a5)) = false]) (by kernel_rfl) ⟨(decide_eq_false ha1), trivial⟩⟩, nofun⟩
  · by_cases ha1 : sa.1 < a5
    · replace h := ite_t h ha1
      obtain ⟨ta2, ha2, h⟩ := bnd_of h
      obtain ⟨ha3, h⟩ := grd_of h
      replace h := Option.some.inj h
      subst h
      exact ⟨100, 81, [.br true, .lp [] [0, 1, 2, 4, 7, 8, 11, 12] [0, 1, 2, 3, 9, 18, 19, 27, 30, 80] (.exit 2) [(0, .own 30 0), (1, .ptr 19 0 0 0 0), (2, .ptr 18 0 0 0 0), (7, .d (I a5)), (8, .d (I sa.1))] [(0, .box (.d (.lst false 10 a0))), (1, .box (.d (I a1))), (2, .box (.d (.agg [I a2, I a3, I a4]))), (3, .box (.d (I a5))), (9, .box (.d (.agg [.v (.string t1.1), I t1.2.1, I t1.2.2.1, I t1.2.2.2.1, I t1.2.2.2.2.1, I t1.2.2.2.2.2.1, I t1.2.2.2.2.2.2.1, I t1.2.2.2.2.2.2.2.1, I t1.2.2.2.2.2.2.2.2.1, I t1.2.2.2.2.2.2.2.2.2]))), (18, .box (.d (.agg [.v (.string t1.1), I t1.2.1, I t1.2.2.1, I t1.2.2.2.1, I t1.2.2.2.2.1, I t1.2.2.2.2.2.1, I t1.2.2.2.2.2.2.1, I t1.2.2.2.2.2.2.2.1, I t1.2.2.2.2.2.2.2.2.1, I t1.2.2.2.2.2.2.2.2.2]))), (19, .box (.d (I a5))), (27, .box (.own 80 0)), (30, .loop true [(6, .fn (.func 104) [] [.ptr 19 0 0 0 0, .ptr 18 0 0 0 0]), (4, .d (.lst true 0 [])), (2, .ptr 27 0 0 0 0), (1, .fn (.func 104) [] [.ptr 19 0 0 0 0, .ptr 18 0 0 0 0]), (0, .d (.lst true 0 []))] [7] (rangeAt cx.P 103 0).1 (rangeAt cx.P 103 0).2 13), (80, .row 0 4 ta2)] 143], [], [0, 1, 2, 7, 8], [0, 1, 2, 3, 9, 18, 19, 27, 30, 80], round_of (ob := [inI64 (sa.1 + 1), LoopN cx (loopAt cx.P 104 1) 49 31 false [(0, .own 30 0), (1, .ptr 19 0 0 0 0), (2, .ptr 18 0 0 0 0), (4, .d (I sa.1)), (7, .d (I a5)), (8, .d (I sa.1)), (11, .d (I a5)), (12, .d (I 0))] [(0, .box (.d (.lst false 10 a0))), (1, .box (.d (I a1))), (2, .box (.d (.agg [I a2, I a3, I a4]))), (3, .box (.d (I a5))), (9, .box (.d (.agg [.v (.string t1.1), I t1.2.1, I t1.2.2.1, I t1.2.2.2.1, I t1.2.2.2.2.1, I t1.2.2.2.2.2.1, I t1.2.2.2.2.2.2.1, I t1.2.2.2.2.2.2.2.1, I t1.2.2.2.2.2.2.2.2.1, I t1.2.2.2.2.2.2.2.2.2]))), (18, .box (.d (.agg [.v (.string t1.1), I t1.2.1, I t1.2.2.1, I t1.2.2.2.1, I t1.2.2.2.2.1, I t1.2.2.2.2.2.1, I t1.2.2.2.2.2.2.1, I t1.2.2.2.2.2.2.2.1, I t1.2.2.2.2.2.2.2.2.1, I t1.2.2.2.2.2.2.2.2.2]))), (19, .box (.d (I a5))), (27, .box (.own 80 0)), (30, .loop true [(6, .fn (.func 104) [] [.ptr 19 0 0 0 0, .ptr 18 0 0 0 0]), (4, .d (.lst true 0 [])), (2, .ptr 27 0 0 0 0), (1, .fn (.func 104) [] [.ptr 19 0 0 0 0, .ptr 18 0 0 0 0]), (0, .d (.lst true 0 []))] [7] (rangeAt cx.P 103 0).1 (rangeAt cx.P 103 0).2 13), (80, .row 0 4 sa.2)] (.exit 2) [(0, .own 30 0), (1, .ptr 19 0 0 0 0), (2, .ptr 18 0 0 0 0), (7, .d (I a5)), (8, .d (I sa.1))] [(0, .box (.d (.lst false 10 a0))), (1, .box (.d (I a1))), (2, .box (.d (.agg [I a2, I a3, I a4]))), (3, .box (.d (I a5))), (9, .box (.d (.agg [.v (.string t1.1), I t1.2.1, I t1.2.2.1, I t1.2.2.2.1, I t1.2.2.2.2.1, I t1.2.2.2.2.2.1, I t1.2.2.2.2.2.2.1, I t1.2.2.2.2.2.2.2.1, I t1.2.2.2.2.2.2.2.2.1, I t1.2.2.2.2.2.2.2.2.2]))), (18, .box (.d (.agg [.v (.string t1.1), I t1.2.1, I t1.2.2.1, I t1.2.2.2.1, I t1.2.2.2.2.1, I t1.2.2.2.2.2.1, I t1.2.2.2.2.2.2.1, I t1.2.2.2.2.2.2.2.1, I t1.2.2.2.2.2.2.2.2.1, I t1.2.2.2.2.2.2.2.2.2]))), (19, .box (.d (I a5))), (27, .box (.own 80 0)), (30, .loop true [(6, .fn (.func 104) [] [.ptr 19 0 0 0 0, .ptr 18 0 0 0 0]), (4, .d (.lst true 0 [])), (2, .ptr 27 0 0 0 0), (1, .fn (.func 104) [] [.ptr 19 0 0 0 0, .ptr 18 0 0 0 0]), (0, .d (.lst true 0 []))] [7] (rangeAt cx.P 103 0).1 (rangeAt cx.P 103 0).2 13), (80, .row 0 4 ta2)], (decide (sa.1 < a5)) = true]) (by kernel_rfl) ⟨ha3, (loopF_to R_field_blocked_L3 ha2), (decide_eq_true ha1), trivial⟩⟩
    · replace h := ite_f h ha1
      replace h := Option.some.inj h
      subst h
      exact ⟨⟨100, 81, [.br false], [], [], [0, 1, 2, 3, 9, 18, 19, 27, 30, 80], round_of (ob := [(decide (sa.1 < a5)) = false]) (by kernel_rfl) ⟨(decide_eq_false ha1), trivial⟩⟩, nofun⟩
def F_field_blocked_L5 (n : Nat) (a0 : List D) (a1 : Int) (a2 : Int) (a3 : Int) (a4 : Int) (a5 : Int) (t1 : ByteArray × Int × Int × Int × Int × Int × Int × Int × Int × Int) (t2 : List D) (sa : (Int × List D)) : Option (((Int × List D)) ⊕ ((List D))) :=
  if sa.1 < ((t2).length : Int) then
    if 0 ≤ sa.1 ∧ sa.1 < ((t2).length : Int) then
    ((nth (t2) (Int.toNat sa.1)).bind un_Ai4Z).bind fun ta3 =>
    (F_field_times n a5 a2 a3 a4).bind fun ta4 =>
    (F_field_times n (-1) ta3.2.1 ta3.2.2.1 ta3.2.2.2).bind fun ta5 =>
    (F_field_plus n ta4.1 ta4.2.1 ta4.2.2 ta5.1 ta5.2.1 ta5.2.2).bind fun ta6 =>
    (F_field_Mirror_normal n t1.1 t1.2.1 t1.2.2.1 t1.2.2.2.1 t1.2.2.2.2.1 t1.2.2.2.2.2.1 t1.2.2.2.2.2.2.1 t1.2.2.2.2.2.2.2.1 t1.2.2.2.2.2.2.2.2.1 t1.2.2.2.2.2.2.2.2.2).bind fun ta7 =>
    (F_field_dot n ta7.1 ta7.2.1 ta7.2.2 ta6.1 ta6.2.1 ta6.2.2).bind fun ta8 =>
    if ta8 ≤ 0 then
      if roomP 1 ((sa.2).length + 1) then
      if inI64 (sa.1 + 1) then
      some (.inl ((sa.1 + 1), (sa.2 ++ ([B true] : List D))))
      else none
      else none
    else
    (F_field_met n a0 a1 a5 ta3.2.1 ta3.2.2.1 ta3.2.2.2 ta6.1 ta6.2.1 ta6.2.2 true).bind fun ta10 =>
    if roomP 1 ((sa.2).length + 1) then
    if inI64 (sa.1 + 1) then
    some (.inl ((sa.1 + 1), (sa.2 ++ ([B ta10] : List D))))
    else none
    else none
    else none
  else
  some (.inr sa.2)
noncomputable def T_field_blocked_L5 (a0 : List D) (a1 : Int) (a2 : Int) (a3 : Int) (a4 : Int) (a5 : Int) (t1 : ByteArray × Int × Int × Int × Int × Int × Int × Int × Int × Int) (t2 : List D) (sa : (Int × List D)) : List (Nat × AV) := [(1, .fn (.func 97) [] [.ptr 3 0 0 0 0, .ptr 2 0 0 0 0, .ptr 9 0 0 0 0, .ptr 0 0 0 0 0, .ptr 1 0 0 0 0]), (5, .own 163 0), (8, .own 80 0), (9, .d (I ((t2).length : Int))), (10, .d (I sa.1))]
noncomputable def H_field_blocked_L5 (a0 : List D) (a1 : Int) (a2 : Int) (a3 : Int) (a4 : Int) (a5 : Int) (t1 : ByteArray × Int × Int × Int × Int × Int × Int × Int × Int × Int) (t2 : List D) (sa : (Int × List D)) : List (Nat × Blk) := [(0, .box (.d (.lst false 10 a0))), (1, .box (.d (I a1))), (2, .box (.d (.agg [I a2, I a3, I a4]))), (3, .box (.d (I a5))), (9, .box (.d (.agg [.v (.string t1.1), I t1.2.1, I t1.2.2.1, I t1.2.2.2.1, I t1.2.2.2.2.1, I t1.2.2.2.2.2.1, I t1.2.2.2.2.2.2.1, I t1.2.2.2.2.2.2.2.1, I t1.2.2.2.2.2.2.2.2.1, I t1.2.2.2.2.2.2.2.2.2]))), (18, .box (.d (.agg [.v (.string t1.1), I t1.2.1, I t1.2.2.1, I t1.2.2.2.1, I t1.2.2.2.2.1, I t1.2.2.2.2.2.1, I t1.2.2.2.2.2.2.1, I t1.2.2.2.2.2.2.2.1, I t1.2.2.2.2.2.2.2.2.1, I t1.2.2.2.2.2.2.2.2.2]))), (19, .box (.d (I a5))), (27, .box (.own 80 0)), (30, .dead), (80, .row 0 4 t2), (163, .row 0 1 sa.2)]
noncomputable def X_field_blocked_L5 (a0 : List D) (a1 : Int) (a2 : Int) (a3 : Int) (a4 : Int) (a5 : Int) (t1 : ByteArray × Int × Int × Int × Int × Int × Int × Int × Int × Int) (t2 : List D) (e : (List D)) : Ex := (.exit 0)
noncomputable def XT_field_blocked_L5 (a0 : List D) (a1 : Int) (a2 : Int) (a3 : Int) (a4 : Int) (a5 : Int) (t1 : ByteArray × Int × Int × Int × Int × Int × Int × Int × Int × Int) (t2 : List D) (e : (List D)) : List (Nat × AV) := [(5, .own 163 0)]
noncomputable def XH_field_blocked_L5 (a0 : List D) (a1 : Int) (a2 : Int) (a3 : Int) (a4 : Int) (a5 : Int) (t1 : ByteArray × Int × Int × Int × Int × Int × Int × Int × Int × Int) (t2 : List D) (e : (List D)) : List (Nat × Blk) := [(0, .box (.d (.lst false 10 a0))), (1, .box (.d (I a1))), (2, .box (.d (.agg [I a2, I a3, I a4]))), (3, .box (.d (I a5))), (9, .box (.d (.agg [.v (.string t1.1), I t1.2.1, I t1.2.2.1, I t1.2.2.2.1, I t1.2.2.2.2.1, I t1.2.2.2.2.2.1, I t1.2.2.2.2.2.2.1, I t1.2.2.2.2.2.2.2.1, I t1.2.2.2.2.2.2.2.2.1, I t1.2.2.2.2.2.2.2.2.2]))), (18, .box (.d (.agg [.v (.string t1.1), I t1.2.1, I t1.2.2.1, I t1.2.2.2.1, I t1.2.2.2.2.1, I t1.2.2.2.2.2.1, I t1.2.2.2.2.2.2.1, I t1.2.2.2.2.2.2.2.1, I t1.2.2.2.2.2.2.2.2.1, I t1.2.2.2.2.2.2.2.2.2]))), (19, .box (.d (I a5))), (27, .box (.own 80 0)), (30, .dead), (80, .row 0 4 t2), (163, .row 0 1 e)]
theorem R_field_blocked_L5 {n : Nat} {a0 : List D} {a1 : Int} {a2 : Int} {a3 : Int} {a4 : Int} {a5 : Int} {t1 : ByteArray × Int × Int × Int × Int × Int × Int × Int × Int × Int} {t2 : List D} (sa : (Int × List D)) (r) (h : F_field_blocked_L5 n a0 a1 a2 a3 a4 a5 t1 t2 sa = some r) : Rd cx (loopAt cx.P 94 0) 22 158 false (T_field_blocked_L5 a0 a1 a2 a3 a4 a5 t1 t2) (H_field_blocked_L5 a0 a1 a2 a3 a4 a5 t1 t2) (X_field_blocked_L5 a0 a1 a2 a3 a4 a5 t1 t2) (XT_field_blocked_L5 a0 a1 a2 a3 a4 a5 t1 t2) (XH_field_blocked_L5 a0 a1 a2 a3 a4 a5 t1 t2) sa r := by
  unfold F_field_blocked_L5 at h
  by_cases ha1 : sa.1 < ((t2).length : Int)
  · replace h := ite_t h ha1
    obtain ⟨ha2, h⟩ := grd_of h
    obtain ⟨ta3, ha3, h⟩ := bnd_of h
    obtain ⟨ta4, ha4, h⟩ := bnd_of h
    obtain ⟨ta5, ha5, h⟩ := bnd_of h
    obtain ⟨ta6, ha6, h⟩ := bnd_of h
    obtain ⟨ta7, ha7, h⟩ := bnd_of h
    obtain ⟨ta8, ha8, h⟩ := bnd_of h
    by_cases ha9 : ta8 ≤ 0
    · replace h := ite_t h ha9
      obtain ⟨ha10, h⟩ := grd_of h
      obtain ⟨ha11, h⟩ := grd_of h
      replace h := Option.some.inj h
      subst h
      exact ⟨100, 164, [.br true, .br true, .el (.agg [I ta3.1, I ta3.2.1, I ta3.2.2.1, I ta3.2.2.2]), .br true, .ret (.agg [I ta4.1, I ta4.2.1, I ta4.2.2]), .ret (.agg [I ta5.1, I ta5.2.1, I ta5.2.2]), .ret (.agg [I ta6.1, I ta6.2.1, I ta6.2.2]), .ret (.agg [I ta7.1, I ta7.2.1, I ta7.2.2]), .ret (I ta8), .br true, .br true], [], [1, 5, 8, 9, 10], [0, 1, 2, 3, 9, 18, 19, 27, 30, 80, 163], round_of (ob := [inI64 (sa.1 + 1), room cx 4 ((sa.2).length + 1), (decide (ta8 ≤ 0)) = true, Computes cx 59 [.agg [I ta7.1, I ta7.2.1, I ta7.2.2], .agg [I ta6.1, I ta6.2.1, I ta6.2.2]] (I ta8), Computes cx 60 [.agg [.v (.string t1.1), I t1.2.1, I t1.2.2.1, I t1.2.2.2.1, I t1.2.2.2.2.1, I t1.2.2.2.2.2.1, I t1.2.2.2.2.2.2.1, I t1.2.2.2.2.2.2.2.1, I t1.2.2.2.2.2.2.2.2.1, I t1.2.2.2.2.2.2.2.2.2]] (.agg [I ta7.1, I ta7.2.1, I ta7.2.2]), Computes cx 98 [.agg [I ta4.1, I ta4.2.1, I ta4.2.2], .agg [I ta5.1, I ta5.2.1, I ta5.2.2]] (.agg [I ta6.1, I ta6.2.1, I ta6.2.2]), Computes cx 99 [I (-1), .agg [I ta3.2.1, I ta3.2.2.1, I ta3.2.2.2]] (.agg [I ta5.1, I ta5.2.1, I ta5.2.2]), Computes cx 99 [I a5, .agg [I a2, I a3, I a4]] (.agg [I ta4.1, I ta4.2.1, I ta4.2.2]), nth (t2) (Int.toNat sa.1) = some (.agg [I ta3.1, I ta3.2.1, I ta3.2.2.1, I ta3.2.2.2]), 0 ≤ sa.1 ∧ sa.1 < ((t2).length : Int), (decide (sa.1 < ((t2).length : Int))) = true]) (by kernel_rfl) ⟨ha11, (room_of (b := 1) (by kernel_rfl) (by decide) ha10), (decide_eq_true ha9), (c_field_dot ha8), (c_field_Mirror_normal ha7), (c_field_plus ha6), (c_field_times ha5), (c_field_times ha4), nel_ok un_Ai4Z_ok ha3, ha2, (decide_eq_true ha1), trivial⟩⟩
    · replace h := ite_f h ha9
      obtain ⟨ta10, ha10, h⟩ := bnd_of h
      obtain ⟨ha11, h⟩ := grd_of h
      obtain ⟨ha12, h⟩ := grd_of h
      replace h := Option.some.inj h
      subst h
      exact ⟨100, 164, [.br true, .br true, .el (.agg [I ta3.1, I ta3.2.1, I ta3.2.2.1, I ta3.2.2.2]), .br true, .ret (.agg [I ta4.1, I ta4.2.1, I ta4.2.2]), .ret (.agg [I ta5.1, I ta5.2.1, I ta5.2.2]), .ret (.agg [I ta6.1, I ta6.2.1, I ta6.2.2]), .ret (.agg [I ta7.1, I ta7.2.1, I ta7.2.2]), .ret (I ta8), .br false, .ret (B ta10), .br true], [], [1, 5, 8, 9, 10], [0, 1, 2, 3, 9, 18, 19, 27, 30, 80, 163], round_of (ob := [inI64 (sa.1 + 1), room cx 4 ((sa.2).length + 1), Computes cx 100 [.lst false 10 a0, I a1, I a5, .agg [I ta3.2.1, I ta3.2.2.1, I ta3.2.2.2, I ta6.1, I ta6.2.1, I ta6.2.2, B true]] (B ta10), (decide (ta8 ≤ 0)) = false, Computes cx 59 [.agg [I ta7.1, I ta7.2.1, I ta7.2.2], .agg [I ta6.1, I ta6.2.1, I ta6.2.2]] (I ta8), Computes cx 60 [.agg [.v (.string t1.1), I t1.2.1, I t1.2.2.1, I t1.2.2.2.1, I t1.2.2.2.2.1, I t1.2.2.2.2.2.1, I t1.2.2.2.2.2.2.1, I t1.2.2.2.2.2.2.2.1, I t1.2.2.2.2.2.2.2.2.1, I t1.2.2.2.2.2.2.2.2.2]] (.agg [I ta7.1, I ta7.2.1, I ta7.2.2]), Computes cx 98 [.agg [I ta4.1, I ta4.2.1, I ta4.2.2], .agg [I ta5.1, I ta5.2.1, I ta5.2.2]] (.agg [I ta6.1, I ta6.2.1, I ta6.2.2]), Computes cx 99 [I (-1), .agg [I ta3.2.1, I ta3.2.2.1, I ta3.2.2.2]] (.agg [I ta5.1, I ta5.2.1, I ta5.2.2]), Computes cx 99 [I a5, .agg [I a2, I a3, I a4]] (.agg [I ta4.1, I ta4.2.1, I ta4.2.2]), nth (t2) (Int.toNat sa.1) = some (.agg [I ta3.1, I ta3.2.1, I ta3.2.2.1, I ta3.2.2.2]), 0 ≤ sa.1 ∧ sa.1 < ((t2).length : Int), (decide (sa.1 < ((t2).length : Int))) = true]) (by kernel_rfl) ⟨ha12, (room_of (b := 1) (by kernel_rfl) (by decide) ha11), (c_field_met ha10), (decide_eq_false ha9), (c_field_dot ha8), (c_field_Mirror_normal ha7), (c_field_plus ha6), (c_field_times ha5), (c_field_times ha4), nel_ok un_Ai4Z_ok ha3, ha2, (decide_eq_true ha1), trivial⟩⟩
  · replace h := ite_f h ha1
    replace h := Option.some.inj h
    subst h
    exact ⟨⟨100, 164, [.br false], [], [5], [0, 1, 2, 3, 9, 18, 19, 27, 30, 80, 163], round_of (ob := [(decide (sa.1 < ((t2).length : Int))) = false]) (by kernel_rfl) ⟨(decide_eq_false ha1), trivial⟩⟩, nofun⟩
/- spillage/field.blocked: .lst false 10 a0, I a1, .agg [I a2, I a3, I a4], I a5 -/
def F_field_blocked (n : Nat) (a0 : List D) (a1 : Int) (a2 : Int) (a3 : Int) (a4 : Int) (a5 : Int) : Option (List D) :=
  (el un_Asi9Z a0 a1).bind fun t1 =>
  (loopF (F_field_blocked_L4 n a0 a1 a2 a3 a4 a5 t1) n (.inl 0)).bind fun t2 => match t2 with
    | (.inl t2) => (
      some [])
    | (.inr t2) => (
      (loopF (F_field_blocked_L5 n a0 a1 a2 a3 a4 a5 t1 t2) n (0, [])).bind fun t3 =>
      some t3)
theorem c_field_blocked {n : Nat} {a0 : List D} {a1 : Int} {a2 : Int} {a3 : Int} {a4 : Int} {a5 : Int} {r : List D} (h : F_field_blocked n a0 a1 a2 a3 a4 a5 = some r) : Computes cx 88 [.lst false 10 a0, I a1, .agg [I a2, I a3, I a4], I a5] (.lst false 1 r) := by
  unfold F_field_blocked at h
  obtain ⟨t1, h1, h⟩ := bnd_of h
  obtain ⟨t2, h2, h⟩ := bnd_of h
  rcases t2 with t2 | t2
  · replace h := Option.some.inj h
    subst h
    exact (run (n := 100) (f := 88) (args := [.lst false 10 a0, I a1, .agg [I a2, I a3, I a4], I a5]) (orc := [.el (.agg [.v (.string t1.1), I t1.2.1, I t1.2.2.1, I t1.2.2.2.1, I t1.2.2.2.2.1, I t1.2.2.2.2.2.1, I t1.2.2.2.2.2.2.1, I t1.2.2.2.2.2.2.2.1, I t1.2.2.2.2.2.2.2.2.1, I t1.2.2.2.2.2.2.2.2.2]), .br true, .br true, .br true, .lp [] [0, 1, 2, 7, 8] [0, 1, 2, 3, 9, 18, 19, 27, 30] (.exit 0) [] [(0, .box (.d (.lst false 10 a0))), (1, .box (.d (I a1))), (2, .box (.d (.agg [I a2, I a3, I a4]))), (3, .box (.d (I a5))), (9, .box (.d (.agg [.v (.string t1.1), I t1.2.1, I t1.2.2.1, I t1.2.2.2.1, I t1.2.2.2.2.1, I t1.2.2.2.2.2.1, I t1.2.2.2.2.2.2.1, I t1.2.2.2.2.2.2.2.1, I t1.2.2.2.2.2.2.2.2.1, I t1.2.2.2.2.2.2.2.2.2]))), (18, .box (.d (.agg [.v (.string t1.1), I t1.2.1, I t1.2.2.1, I t1.2.2.2.1, I t1.2.2.2.2.1, I t1.2.2.2.2.2.1, I t1.2.2.2.2.2.2.1, I t1.2.2.2.2.2.2.2.1, I t1.2.2.2.2.2.2.2.2.1, I t1.2.2.2.2.2.2.2.2.2]))), (19, .box (.d (I a5))), (27, .box (.d (.lst true 0 []))), (30, .loop true [(6, .fn (.func 104) [] [.ptr 19 0 0 0 0, .ptr 18 0 0 0 0]), (4, .d (.lst true 0 [])), (2, .ptr 27 0 0 0 0), (1, .fn (.func 104) [] [.ptr 19 0 0 0 0, .ptr 18 0 0 0 0]), (0, .d (.lst true 0 []))] [7] (rangeAt cx.P 103 0).1 (rangeAt cx.P 103 0).2 13)] 156, .br true, .no, .no]) (r := .lst true 0 []) (ob := [LoopN cx (loopAt cx.P 104 0) 49 31 false [(0, .own 30 0), (1, .ptr 19 0 0 0 0), (2, .ptr 18 0 0 0 0), (7, .d (I a5)), (8, .d (I 0))] [(0, .box (.d (.lst false 10 a0))), (1, .box (.d (I a1))), (2, .box (.d (.agg [I a2, I a3, I a4]))), (3, .box (.d (I a5))), (9, .box (.d (.agg [.v (.string t1.1), I t1.2.1, I t1.2.2.1, I t1.2.2.2.1, I t1.2.2.2.2.1, I t1.2.2.2.2.2.1, I t1.2.2.2.2.2.2.1, I t1.2.2.2.2.2.2.2.1, I t1.2.2.2.2.2.2.2.2.1, I t1.2.2.2.2.2.2.2.2.2]))), (18, .box (.d (.agg [.v (.string t1.1), I t1.2.1, I t1.2.2.1, I t1.2.2.2.1, I t1.2.2.2.2.1, I t1.2.2.2.2.2.1, I t1.2.2.2.2.2.2.1, I t1.2.2.2.2.2.2.2.1, I t1.2.2.2.2.2.2.2.2.1, I t1.2.2.2.2.2.2.2.2.2]))), (19, .box (.d (I a5))), (27, .box (.d (.lst true 0 []))), (30, .loop true [(6, .fn (.func 104) [] [.ptr 19 0 0 0 0, .ptr 18 0 0 0 0]), (4, .d (.lst true 0 [])), (2, .ptr 27 0 0 0 0), (1, .fn (.func 104) [] [.ptr 19 0 0 0 0, .ptr 18 0 0 0 0]), (0, .d (.lst true 0 []))] [7] (rangeAt cx.P 103 0).1 (rangeAt cx.P 103 0).2 13)] (.exit 0) [] [(0, .box (.d (.lst false 10 a0))), (1, .box (.d (I a1))), (2, .box (.d (.agg [I a2, I a3, I a4]))), (3, .box (.d (I a5))), (9, .box (.d (.agg [.v (.string t1.1), I t1.2.1, I t1.2.2.1, I t1.2.2.2.1, I t1.2.2.2.2.1, I t1.2.2.2.2.2.1, I t1.2.2.2.2.2.2.1, I t1.2.2.2.2.2.2.2.1, I t1.2.2.2.2.2.2.2.2.1, I t1.2.2.2.2.2.2.2.2.2]))), (18, .box (.d (.agg [.v (.string t1.1), I t1.2.1, I t1.2.2.1, I t1.2.2.2.1, I t1.2.2.2.2.1, I t1.2.2.2.2.2.1, I t1.2.2.2.2.2.2.1, I t1.2.2.2.2.2.2.2.1, I t1.2.2.2.2.2.2.2.2.1, I t1.2.2.2.2.2.2.2.2.2]))), (19, .box (.d (I a5))), (27, .box (.d (.lst true 0 []))), (30, .loop true [(6, .fn (.func 104) [] [.ptr 19 0 0 0 0, .ptr 18 0 0 0 0]), (4, .d (.lst true 0 [])), (2, .ptr 27 0 0 0 0), (1, .fn (.func 104) [] [.ptr 19 0 0 0 0, .ptr 18 0 0 0 0]), (0, .d (.lst true 0 []))] [7] (rangeAt cx.P 103 0).1 (rangeAt cx.P 103 0).2 13)], (0 : Int) ≤ a1, nth (a0) (Int.toNat a1) = some (.agg [.v (.string t1.1), I t1.2.1, I t1.2.2.1, I t1.2.2.2.1, I t1.2.2.2.2.1, I t1.2.2.2.2.2.1, I t1.2.2.2.2.2.2.1, I t1.2.2.2.2.2.2.2.1, I t1.2.2.2.2.2.2.2.2.1, I t1.2.2.2.2.2.2.2.2.2])]) (by kernel_rfl) ⟨(loopF_to R_field_blocked_L4 h2), (el_ok un_Asi9Z_ok h1).1, (el_ok un_Asi9Z_ok h1).2, trivial⟩).le (LEs.refl _) (.lst _ _ _ _ _ nofun (.inl rfl))
  · obtain ⟨t3, h3, h⟩ := bnd_of h
    replace h := Option.some.inj h
    subst h
    exact run (n := 100) (f := 88) (args := [.lst false 10 a0, I a1, .agg [I a2, I a3, I a4], I a5]) (orc := [.el (.agg [.v (.string t1.1), I t1.2.1, I t1.2.2.1, I t1.2.2.2.1, I t1.2.2.2.2.1, I t1.2.2.2.2.2.1, I t1.2.2.2.2.2.2.1, I t1.2.2.2.2.2.2.2.1, I t1.2.2.2.2.2.2.2.2.1, I t1.2.2.2.2.2.2.2.2.2]), .br true, .br true, .br true, .lp [] [0, 1, 2, 7, 8] [0, 1, 2, 3, 9, 18, 19, 27, 30] (.exit 0) [] [(0, .box (.d (.lst false 10 a0))), (1, .box (.d (I a1))), (2, .box (.d (.agg [I a2, I a3, I a4]))), (3, .box (.d (I a5))), (9, .box (.d (.agg [.v (.string t1.1), I t1.2.1, I t1.2.2.1, I t1.2.2.2.1, I t1.2.2.2.2.1, I t1.2.2.2.2.2.1, I t1.2.2.2.2.2.2.1, I t1.2.2.2.2.2.2.2.1, I t1.2.2.2.2.2.2.2.2.1, I t1.2.2.2.2.2.2.2.2.2]))), (18, .box (.d (.agg [.v (.string t1.1), I t1.2.1, I t1.2.2.1, I t1.2.2.2.1, I t1.2.2.2.2.1, I t1.2.2.2.2.2.1, I t1.2.2.2.2.2.2.1, I t1.2.2.2.2.2.2.2.1, I t1.2.2.2.2.2.2.2.2.1, I t1.2.2.2.2.2.2.2.2.2]))), (19, .box (.d (I a5))), (27, .box (.own 80 0)), (30, .loop true [(6, .fn (.func 104) [] [.ptr 19 0 0 0 0, .ptr 18 0 0 0 0]), (4, .d (.lst true 0 [])), (2, .ptr 27 0 0 0 0), (1, .fn (.func 104) [] [.ptr 19 0 0 0 0, .ptr 18 0 0 0 0]), (0, .d (.lst true 0 []))] [7] (rangeAt cx.P 103 0).1 (rangeAt cx.P 103 0).2 13), (80, .row 0 4 t2)] 156, .br true, .lp [5, 1] [1, 5, 8, 9, 10] [0, 1, 2, 3, 9, 18, 19, 27, 30, 80, 163] (.exit 0) [(5, .own 163 0)] [(0, .box (.d (.lst false 10 a0))), (1, .box (.d (I a1))), (2, .box (.d (.agg [I a2, I a3, I a4]))), (3, .box (.d (I a5))), (9, .box (.d (.agg [.v (.string t1.1), I t1.2.1, I t1.2.2.1, I t1.2.2.2.1, I t1.2.2.2.2.1, I t1.2.2.2.2.2.1, I t1.2.2.2.2.2.2.1, I t1.2.2.2.2.2.2.2.1, I t1.2.2.2.2.2.2.2.2.1, I t1.2.2.2.2.2.2.2.2.2]))), (18, .box (.d (.agg [.v (.string t1.1), I t1.2.1, I t1.2.2.1, I t1.2.2.2.1, I t1.2.2.2.2.1, I t1.2.2.2.2.2.1, I t1.2.2.2.2.2.2.1, I t1.2.2.2.2.2.2.2.1, I t1.2.2.2.2.2.2.2.2.1, I t1.2.2.2.2.2.2.2.2.2]))), (19, .box (.d (I a5))), (27, .box (.own 80 0)), (30, .dead), (80, .row 0 4 t2), (163, .row 0 1 t3)] 216]) (r := .lst false 1 t3) (ob := [LoopN cx (loopAt cx.P 94 0) 22 158 false [(1, .fn (.func 97) [] [.ptr 3 0 0 0 0, .ptr 2 0 0 0 0, .ptr 9 0 0 0 0, .ptr 0 0 0 0 0, .ptr 1 0 0 0 0]), (5, .own 163 0), (8, .own 80 0), (9, .d (I ((t2).length : Int))), (10, .d (I 0))] [(0, .box (.d (.lst false 10 a0))), (1, .box (.d (I a1))), (2, .box (.d (.agg [I a2, I a3, I a4]))), (3, .box (.d (I a5))), (9, .box (.d (.agg [.v (.string t1.1), I t1.2.1, I t1.2.2.1, I t1.2.2.2.1, I t1.2.2.2.2.1, I t1.2.2.2.2.2.1, I t1.2.2.2.2.2.2.1, I t1.2.2.2.2.2.2.2.1, I t1.2.2.2.2.2.2.2.2.1, I t1.2.2.2.2.2.2.2.2.2]))), (18, .box (.d (.agg [.v (.string t1.1), I t1.2.1, I t1.2.2.1, I t1.2.2.2.1, I t1.2.2.2.2.1, I t1.2.2.2.2.2.1, I t1.2.2.2.2.2.2.1, I t1.2.2.2.2.2.2.2.1, I t1.2.2.2.2.2.2.2.2.1, I t1.2.2.2.2.2.2.2.2.2]))), (19, .box (.d (I a5))), (27, .box (.own 80 0)), (30, .dead), (80, .row 0 4 t2), (163, .row 0 1 [])] (.exit 0) [(5, .own 163 0)] [(0, .box (.d (.lst false 10 a0))), (1, .box (.d (I a1))), (2, .box (.d (.agg [I a2, I a3, I a4]))), (3, .box (.d (I a5))), (9, .box (.d (.agg [.v (.string t1.1), I t1.2.1, I t1.2.2.1, I t1.2.2.2.1, I t1.2.2.2.2.1, I t1.2.2.2.2.2.1, I t1.2.2.2.2.2.2.1, I t1.2.2.2.2.2.2.2.1, I t1.2.2.2.2.2.2.2.2.1, I t1.2.2.2.2.2.2.2.2.2]))), (18, .box (.d (.agg [.v (.string t1.1), I t1.2.1, I t1.2.2.1, I t1.2.2.2.1, I t1.2.2.2.2.1, I t1.2.2.2.2.2.1, I t1.2.2.2.2.2.2.1, I t1.2.2.2.2.2.2.2.1, I t1.2.2.2.2.2.2.2.2.1, I t1.2.2.2.2.2.2.2.2.2]))), (19, .box (.d (I a5))), (27, .box (.own 80 0)), (30, .dead), (80, .row 0 4 t2), (163, .row 0 1 t3)], LoopN cx (loopAt cx.P 104 0) 49 31 false [(0, .own 30 0), (1, .ptr 19 0 0 0 0), (2, .ptr 18 0 0 0 0), (7, .d (I a5)), (8, .d (I 0))] [(0, .box (.d (.lst false 10 a0))), (1, .box (.d (I a1))), (2, .box (.d (.agg [I a2, I a3, I a4]))), (3, .box (.d (I a5))), (9, .box (.d (.agg [.v (.string t1.1), I t1.2.1, I t1.2.2.1, I t1.2.2.2.1, I t1.2.2.2.2.1, I t1.2.2.2.2.2.1, I t1.2.2.2.2.2.2.1, I t1.2.2.2.2.2.2.2.1, I t1.2.2.2.2.2.2.2.2.1, I t1.2.2.2.2.2.2.2.2.2]))), (18, .box (.d (.agg [.v (.string t1.1), I t1.2.1, I t1.2.2.1, I t1.2.2.2.1, I t1.2.2.2.2.1, I t1.2.2.2.2.2.1, I t1.2.2.2.2.2.2.1, I t1.2.2.2.2.2.2.2.1, I t1.2.2.2.2.2.2.2.2.1, I t1.2.2.2.2.2.2.2.2.2]))), (19, .box (.d (I a5))), (27, .box (.d (.lst true 0 []))), (30, .loop true [(6, .fn (.func 104) [] [.ptr 19 0 0 0 0, .ptr 18 0 0 0 0]), (4, .d (.lst true 0 [])), (2, .ptr 27 0 0 0 0), (1, .fn (.func 104) [] [.ptr 19 0 0 0 0, .ptr 18 0 0 0 0]), (0, .d (.lst true 0 []))] [7] (rangeAt cx.P 103 0).1 (rangeAt cx.P 103 0).2 13)] (.exit 0) [] [(0, .box (.d (.lst false 10 a0))), (1, .box (.d (I a1))), (2, .box (.d (.agg [I a2, I a3, I a4]))), (3, .box (.d (I a5))), (9, .box (.d (.agg [.v (.string t1.1), I t1.2.1, I t1.2.2.1, I t1.2.2.2.1, I t1.2.2.2.2.1, I t1.2.2.2.2.2.1, I t1.2.2.2.2.2.2.1, I t1.2.2.2.2.2.2.2.1, I t1.2.2.2.2.2.2.2.2.1, I t1.2.2.2.2.2.2.2.2.2]))), (18, .box (.d (.agg [.v (.string t1.1), I t1.2.1, I t1.2.2.1, I t1.2.2.2.1, I t1.2.2.2.2.1, I t1.2.2.2.2.2.1, I t1.2.2.2.2.2.2.1, I t1.2.2.2.2.2.2.2.1, I t1.2.2.2.2.2.2.2.2.1, I t1.2.2.2.2.2.2.2.2.2]))), (19, .box (.d (I a5))), (27, .box (.own 80 0)), (30, .loop true [(6, .fn (.func 104) [] [.ptr 19 0 0 0 0, .ptr 18 0 0 0 0]), (4, .d (.lst true 0 [])), (2, .ptr 27 0 0 0 0), (1, .fn (.func 104) [] [.ptr 19 0 0 0 0, .ptr 18 0 0 0 0]), (0, .d (.lst true 0 []))] [7] (rangeAt cx.P 103 0).1 (rangeAt cx.P 103 0).2 13), (80, .row 0 4 t2)], (0 : Int) ≤ a1, nth (a0) (Int.toNat a1) = some (.agg [.v (.string t1.1), I t1.2.1, I t1.2.2.1, I t1.2.2.2.1, I t1.2.2.2.2.1, I t1.2.2.2.2.2.1, I t1.2.2.2.2.2.2.1, I t1.2.2.2.2.2.2.2.1, I t1.2.2.2.2.2.2.2.2.1, I t1.2.2.2.2.2.2.2.2.2])]) (by kernel_rfl) ⟨(loopF_to R_field_blocked_L5 h3), (loopF_to R_field_blocked_L4 h2), (el_ok un_Asi9Z_ok h1).1, (el_ok un_Asi9Z_ok h1).2, trivial⟩
end Go.Proofs.YtiogobiijlaalaaDoor
