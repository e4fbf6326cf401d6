/-
  Printed by gsx.py: functions of the program as Lean functions, and that the code computes them.
-/
import Derived.Test.YtlakflidecdepaaGreatDoorGen1
set_option linter.unusedVariables false
set_option linter.unusedSimpArgs false
set_option linter.unnecessarySimpa false
set_option maxRecDepth 10000
namespace Go.Proofs.YtlakflidecdepaaGreatDoor
open Go.SX
/- (spillage/field.Mirror).meets: .agg [.v (.string a0), I a1, I a2, I a3, I a4, I a5, I a6, I a7, I a8, I a9], I a10, .agg [I a11, I a12, I a13, I a14, I a15, I a16, B a17] -/
def F_field_Mirror_meets (n : Nat) (a0 : ByteArray) (a1 : Int) (a2 : Int) (a3 : Int) (a4 : Int) (a5 : Int) (a6 : Int) (a7 : Int) (a8 : Int) (a9 : Int) (a10 : Int) (a11 : Int) (a12 : Int) (a13 : Int) (a14 : Int) (a15 : Int) (a16 : Int) (a17 : Bool) : Option (Bool) :=
  (F_field_times n (IntKind.wrap .i64 (0 - a10)) a1 a2 a3).bind fun t1 =>
  (F_field_plus n a11 a12 a13 t1.1 t1.2.1 t1.2.2).bind fun t2 =>
  (F_field_Mirror_normal n a0 a1 a2 a3 a4 a5 a6 a7 a8 a9).bind fun t3 =>
  (F_field_dot n t3.1 t3.2.1 t3.2.2 a14 a15 a16).bind fun t4 =>
  (F_field_dot n t3.1 t3.2.1 t3.2.2 t2.1 t2.2.1 t2.2.2).bind fun t5 =>
  if t4 < 0 then
    if (IntKind.wrap .i64 (0 - t4)) = 0 then
      some false
    else
    if (IntKind.wrap .i64 (0 - (IntKind.wrap .i64 (0 - t5)))) ≤ 0 then
      some false
    else
    if a17 = true then
      if (IntKind.wrap .i64 (0 - (IntKind.wrap .i64 (0 - t5)))) ≥ (IntKind.wrap .i64 (0 - t4)) then
        some false
      else
      (F_field_cross n a14 a15 a16 t2.1 t2.2.1 t2.2.2).bind fun t11 =>
      (F_field_dot n t11.1 t11.2.1 t11.2.2 a7 a8 a9).bind fun t12 =>
      (F_field_dot n t11.1 t11.2.1 t11.2.2 a4 a5 a6).bind fun t13 =>
      if inI64 (a10 * (IntKind.wrap .i64 (0 - t4))) then
      if (maxI t12 (IntKind.wrap .i64 (0 - t12))) ≤ (a10 * (IntKind.wrap .i64 (0 - t4))) then
        some (decide ((maxI t13 (IntKind.wrap .i64 (0 - t13))) ≤ (a10 * (IntKind.wrap .i64 (0 - t4)))))
      else
      some false
      else none
    else
    (F_field_cross n a14 a15 a16 t2.1 t2.2.1 t2.2.2).bind fun t10 =>
    (F_field_dot n t10.1 t10.2.1 t10.2.2 a7 a8 a9).bind fun t11 =>
    (F_field_dot n t10.1 t10.2.1 t10.2.2 a4 a5 a6).bind fun t12 =>
    if inI64 (a10 * (IntKind.wrap .i64 (0 - t4))) then
    if (maxI t11 (IntKind.wrap .i64 (0 - t11))) ≤ (a10 * (IntKind.wrap .i64 (0 - t4))) then
      some (decide ((maxI t12 (IntKind.wrap .i64 (0 - t12))) ≤ (a10 * (IntKind.wrap .i64 (0 - t4)))))
    else
    some false
    else none
  else
  if t4 = 0 then
    some false
  else
  if (IntKind.wrap .i64 (0 - t5)) ≤ 0 then
    some false
  else
  if a17 = true then
    if (IntKind.wrap .i64 (0 - t5)) ≥ t4 then
      some false
    else
    (F_field_cross n a14 a15 a16 t2.1 t2.2.1 t2.2.2).bind fun t11 =>
    (F_field_dot n t11.1 t11.2.1 t11.2.2 a7 a8 a9).bind fun t12 =>
    (F_field_dot n t11.1 t11.2.1 t11.2.2 a4 a5 a6).bind fun t13 =>
    if inI64 (a10 * t4) then
    if (maxI t12 (IntKind.wrap .i64 (0 - t12))) ≤ (a10 * t4) then
      some (decide ((maxI t13 (IntKind.wrap .i64 (0 - t13))) ≤ (a10 * t4)))
    else
    some false
    else none
  else
  (F_field_cross n a14 a15 a16 t2.1 t2.2.1 t2.2.2).bind fun t10 =>
  (F_field_dot n t10.1 t10.2.1 t10.2.2 a7 a8 a9).bind fun t11 =>
  (F_field_dot n t10.1 t10.2.1 t10.2.2 a4 a5 a6).bind fun t12 =>
  if inI64 (a10 * t4) then
  if (maxI t11 (IntKind.wrap .i64 (0 - t11))) ≤ (a10 * t4) then
    some (decide ((maxI t12 (IntKind.wrap .i64 (0 - t12))) ≤ (a10 * t4)))
  else
  some false
  else none
theorem c_field_Mirror_meets {n : Nat} {a0 : ByteArray} {a1 : Int} {a2 : Int} {a3 : Int} {a4 : Int} {a5 : Int} {a6 : Int} {a7 : Int} {a8 : Int} {a9 : Int} {a10 : Int} {a11 : Int} {a12 : Int} {a13 : Int} {a14 : Int} {a15 : Int} {a16 : Int} {a17 : Bool} {r : Bool} (h : F_field_Mirror_meets n a0 a1 a2 a3 a4 a5 a6 a7 a8 a9 a10 a11 a12 a13 a14 a15 a16 a17 = some r) : Computes cx 84 [.agg [.v (.string a0), I a1, I a2, I a3, I a4, I a5, I a6, I a7, I a8, I a9], I a10, .agg [I a11, I a12, I a13, I a14, I a15, I a16, B a17]] (B r) := by
  unfold F_field_Mirror_meets at h
  obtain ⟨t1, h1, h⟩ := bnd_of h
  obtain ⟨t2, h2, h⟩ := bnd_of h
  obtain ⟨t3, h3, h⟩ := bnd_of h
  obtain ⟨t4, h4, h⟩ := bnd_of h
  obtain ⟨t5, h5, h⟩ := bnd_of h
  by_cases h6 : t4 < 0
  · replace h := ite_t h h6
    by_cases h7 : (IntKind.wrap .i64 (0 - t4)) = 0
    · replace h := ite_t h h7
      replace h := Option.some.inj h
      subst h
      exact run (n := 100) (f := 84) (args := [.agg [.v (.string a0), I a1, I a2, I a3, I a4, I a5, I a6, I a7, I a8, I a9], I a10, .agg [I a11, I a12, I a13, I a14, I a15, I a16, B a17]]) (orc := [.ret (.agg [I t1.1, I t1.2.1, I t1.2.2]), .ret (.agg [I t2.1, I t2.2.1, I t2.2.2]), .ret (.agg [I t3.1, I t3.2.1, I t3.2.2]), .ret (I t4), .ret (.agg [I t3.1, I t3.2.1, I t3.2.2]), .ret (I t5), .br true, .br true, .no, .no]) (r := B false) (ob := [((IntKind.wrap .i64 (0 - t4)) == 0) = true, (decide (t4 < 0)) = true, Computes cx 62 [.agg [I t3.1, I t3.2.1, I t3.2.2], .agg [I t2.1, I t2.2.1, I t2.2.2]] (I t5), Computes cx 59 [.agg [.v (.string a0), I a1, I a2, I a3, I a4, I a5, I a6, I a7, I a8, I a9]] (.agg [I t3.1, I t3.2.1, I t3.2.2]), Computes cx 62 [.agg [I t3.1, I t3.2.1, I t3.2.2], .agg [I a14, I a15, I a16]] (I t4), Computes cx 59 [.agg [.v (.string a0), I a1, I a2, I a3, I a4, I a5, I a6, I a7, I a8, I a9]] (.agg [I t3.1, I t3.2.1, I t3.2.2]), Computes cx 76 [.agg [I a11, I a12, I a13], .agg [I t1.1, I t1.2.1, I t1.2.2]] (.agg [I t2.1, I t2.2.1, I t2.2.2]), Computes cx 77 [I (IntKind.wrap .i64 (0 - a10)), .agg [I a1, I a2, I a3]] (.agg [I t1.1, I t1.2.1, I t1.2.2])]) (e_field_Mirror_meets_0 a0 a1 a2 a3 a4 a5 a6 a7 a8 a9 a10 a11 a12 a13 a14 a15 a16 a17 t1 t2 t3 t4 t5) ⟨(eqt h7), (decide_eq_true h6), (c_field_dot h5), (c_field_Mirror_normal h3), (c_field_dot h4), (c_field_Mirror_normal h3), (c_field_plus h2), (c_field_times h1), trivial⟩
    · replace h := ite_f h h7
      by_cases h8 : (IntKind.wrap .i64 (0 - (IntKind.wrap .i64 (0 - t5)))) ≤ 0
      · replace h := ite_t h h8
        replace h := Option.some.inj h
        subst h
        exact run (n := 100) (f := 84) (args := [.agg [.v (.string a0), I a1, I a2, I a3, I a4, I a5, I a6, I a7, I a8, I a9], I a10, .agg [I a11, I a12, I a13, I a14, I a15, I a16, B a17]]) (orc := [.ret (.agg [I t1.1, I t1.2.1, I t1.2.2]), .ret (.agg [I t2.1, I t2.2.1, I t2.2.2]), .ret (.agg [I t3.1, I t3.2.1, I t3.2.2]), .ret (I t4), .ret (.agg [I t3.1, I t3.2.1, I t3.2.2]), .ret (I t5), .br true, .br false, .br true, .no]) (r := B false) (ob := [(decide ((IntKind.wrap .i64 (0 - (IntKind.wrap .i64 (0 - t5)))) ≤ 0)) = true, ((IntKind.wrap .i64 (0 - t4)) == 0) = false, (decide (t4 < 0)) = true, Computes cx 62 [.agg [I t3.1, I t3.2.1, I t3.2.2], .agg [I t2.1, I t2.2.1, I t2.2.2]] (I t5), Computes cx 59 [.agg [.v (.string a0), I a1, I a2, I a3, I a4, I a5, I a6, I a7, I a8, I a9]] (.agg [I t3.1, I t3.2.1, I t3.2.2]), Computes cx 62 [.agg [I t3.1, I t3.2.1, I t3.2.2], .agg [I a14, I a15, I a16]] (I t4), Computes cx 59 [.agg [.v (.string a0), I a1, I a2, I a3, I a4, I a5, I a6, I a7, I a8, I a9]] (.agg [I t3.1, I t3.2.1, I t3.2.2]), Computes cx 76 [.agg [I a11, I a12, I a13], .agg [I t1.1, I t1.2.1, I t1.2.2]] (.agg [I t2.1, I t2.2.1, I t2.2.2]), Computes cx 77 [I (IntKind.wrap .i64 (0 - a10)), .agg [I a1, I a2, I a3]] (.agg [I t1.1, I t1.2.1, I t1.2.2])]) (e_field_Mirror_meets_1 a0 a1 a2 a3 a4 a5 a6 a7 a8 a9 a10 a11 a12 a13 a14 a15 a16 a17 t1 t2 t3 t4 t5) ⟨(decide_eq_true h8), (eqf h7), (decide_eq_true h6), (c_field_dot h5), (c_field_Mirror_normal h3), (c_field_dot h4), (c_field_Mirror_normal h3), (c_field_plus h2), (c_field_times h1), trivial⟩
      · replace h := ite_f h h8
        by_cases h9 : a17 = true
        · replace h := ite_t h h9
          by_cases h10 : (IntKind.wrap .i64 (0 - (IntKind.wrap .i64 (0 - t5)))) ≥ (IntKind.wrap .i64 (0 - t4))
          · replace h := ite_t h h10
            replace h := Option.some.inj h
            subst h
            exact run (n := 100) (f := 84) (args := [.agg [.v (.string a0), I a1, I a2, I a3, I a4, I a5, I a6, I a7, I a8, I a9], I a10, .agg [I a11, I a12, I a13, I a14, I a15, I a16, B a17]]) (orc := [.ret (.agg [I t1.1, I t1.2.1, I t1.2.2]), .ret (.agg [I t2.1, I t2.2.1, I t2.2.2]), .ret (.agg [I t3.1, I t3.2.1, I t3.2.2]), .ret (I t4), .ret (.agg [I t3.1, I t3.2.1, I t3.2.2]), .ret (I t5), .br true, .br false, .br false, .br true, .br true]) (r := B false) (ob := [(decide ((IntKind.wrap .i64 (0 - (IntKind.wrap .i64 (0 - t5)))) ≥ (IntKind.wrap .i64 (0 - t4)))) = true, a17 = true, (decide ((IntKind.wrap .i64 (0 - (IntKind.wrap .i64 (0 - t5)))) ≤ 0)) = false, ((IntKind.wrap .i64 (0 - t4)) == 0) = false, (decide (t4 < 0)) = true, Computes cx 62 [.agg [I t3.1, I t3.2.1, I t3.2.2], .agg [I t2.1, I t2.2.1, I t2.2.2]] (I t5), Computes cx 59 [.agg [.v (.string a0), I a1, I a2, I a3, I a4, I a5, I a6, I a7, I a8, I a9]] (.agg [I t3.1, I t3.2.1, I t3.2.2]), Computes cx 62 [.agg [I t3.1, I t3.2.1, I t3.2.2], .agg [I a14, I a15, I a16]] (I t4), Computes cx 59 [.agg [.v (.string a0), I a1, I a2, I a3, I a4, I a5, I a6, I a7, I a8, I a9]] (.agg [I t3.1, I t3.2.1, I t3.2.2]), Computes cx 76 [.agg [I a11, I a12, I a13], .agg [I t1.1, I t1.2.1, I t1.2.2]] (.agg [I t2.1, I t2.2.1, I t2.2.2]), Computes cx 77 [I (IntKind.wrap .i64 (0 - a10)), .agg [I a1, I a2, I a3]] (.agg [I t1.1, I t1.2.1, I t1.2.2])]) (e_field_Mirror_meets_2 a0 a1 a2 a3 a4 a5 a6 a7 a8 a9 a10 a11 a12 a13 a14 a15 a16 a17 t1 t2 t3 t4 t5) ⟨(decide_eq_true h10), h9, (decide_eq_false h8), (eqf h7), (decide_eq_true h6), (c_field_dot h5), (c_field_Mirror_normal h3), (c_field_dot h4), (c_field_Mirror_normal h3), (c_field_plus h2), (c_field_times h1), trivial⟩
          · replace h := ite_f h h10
            obtain ⟨t11, h11, h⟩ := bnd_of h
            obtain ⟨t12, h12, h⟩ := bnd_of h
            obtain ⟨t13, h13, h⟩ := bnd_of h
            obtain ⟨h14, h⟩ := grd_of h
            by_cases h15 : (maxI t12 (IntKind.wrap .i64 (0 - t12))) ≤ (a10 * (IntKind.wrap .i64 (0 - t4)))
            · replace h := ite_t h h15
              replace h := Option.some.inj h
              subst h
              exact run (n := 100) (f := 84) (args := [.agg [.v (.string a0), I a1, I a2, I a3, I a4, I a5, I a6, I a7, I a8, I a9], I a10, .agg [I a11, I a12, I a13, I a14, I a15, I a16, B a17]]) (orc := [.ret (.agg [I t1.1, I t1.2.1, I t1.2.2]), .ret (.agg [I t2.1, I t2.2.1, I t2.2.2]), .ret (.agg [I t3.1, I t3.2.1, I t3.2.2]), .ret (I t4), .ret (.agg [I t3.1, I t3.2.1, I t3.2.2]), .ret (I t5), .br true, .br false, .br false, .br true, .br false, .ret (.agg [I t11.1, I t11.2.1, I t11.2.2]), .ret (I t12), .ret (I t13), .br true]) (r := B (decide ((maxI t13 (IntKind.wrap .i64 (0 - t13))) ≤ (a10 * (IntKind.wrap .i64 (0 - t4)))))) (ob := [inI64 (a10 * (IntKind.wrap .i64 (0 - t4))), (decide ((maxI t12 (IntKind.wrap .i64 (0 - t12))) ≤ (a10 * (IntKind.wrap .i64 (0 - t4))))) = true, inI64 (a10 * (IntKind.wrap .i64 (0 - t4))), Computes cx 62 [.agg [I t11.1, I t11.2.1, I t11.2.2], .agg [I a4, I a5, I a6]] (I t13), Computes cx 62 [.agg [I t11.1, I t11.2.1, I t11.2.2], .agg [I a7, I a8, I a9]] (I t12), Computes cx 92 [.agg [I a14, I a15, I a16], .agg [I t2.1, I t2.2.1, I t2.2.2]] (.agg [I t11.1, I t11.2.1, I t11.2.2]), (decide ((IntKind.wrap .i64 (0 - (IntKind.wrap .i64 (0 - t5)))) ≥ (IntKind.wrap .i64 (0 - t4)))) = false, a17 = true, (decide ((IntKind.wrap .i64 (0 - (IntKind.wrap .i64 (0 - t5)))) ≤ 0)) = false, ((IntKind.wrap .i64 (0 - t4)) == 0) = false, (decide (t4 < 0)) = true, Computes cx 62 [.agg [I t3.1, I t3.2.1, I t3.2.2], .agg [I t2.1, I t2.2.1, I t2.2.2]] (I t5), Computes cx 59 [.agg [.v (.string a0), I a1, I a2, I a3, I a4, I a5, I a6, I a7, I a8, I a9]] (.agg [I t3.1, I t3.2.1, I t3.2.2]), Computes cx 62 [.agg [I t3.1, I t3.2.1, I t3.2.2], .agg [I a14, I a15, I a16]] (I t4), Computes cx 59 [.agg [.v (.string a0), I a1, I a2, I a3, I a4, I a5, I a6, I a7, I a8, I a9]] (.agg [I t3.1, I t3.2.1, I t3.2.2]), Computes cx 76 [.agg [I a11, I a12, I a13], .agg [I t1.1, I t1.2.1, I t1.2.2]] (.agg [I t2.1, I t2.2.1, I t2.2.2]), Computes cx 77 [I (IntKind.wrap .i64 (0 - a10)), .agg [I a1, I a2, I a3]] (.agg [I t1.1, I t1.2.1, I t1.2.2])]) (e_field_Mirror_meets_3 a0 a1 a2 a3 a4 a5 a6 a7 a8 a9 a10 a11 a12 a13 a14 a15 a16 a17 t1 t2 t3 t4 t5 t11 t12 t13) ⟨h14, (decide_eq_true h15), h14, (c_field_dot h13), (c_field_dot h12), (c_field_cross h11), (decide_eq_false h10), h9, (decide_eq_false h8), (eqf h7), (decide_eq_true h6), (c_field_dot h5), (c_field_Mirror_normal h3), (c_field_dot h4), (c_field_Mirror_normal h3), (c_field_plus h2), (c_field_times h1), trivial⟩
            · replace h := ite_f h h15
              replace h := Option.some.inj h
              subst h
              exact run (n := 100) (f := 84) (args := [.agg [.v (.string a0), I a1, I a2, I a3, I a4, I a5, I a6, I a7, I a8, I a9], I a10, .agg [I a11, I a12, I a13, I a14, I a15, I a16, B a17]]) (orc := [.ret (.agg [I t1.1, I t1.2.1, I t1.2.2]), .ret (.agg [I t2.1, I t2.2.1, I t2.2.2]), .ret (.agg [I t3.1, I t3.2.1, I t3.2.2]), .ret (I t4), .ret (.agg [I t3.1, I t3.2.1, I t3.2.2]), .ret (I t5), .br true, .br false, .br false, .br true, .br false, .ret (.agg [I t11.1, I t11.2.1, I t11.2.2]), .ret (I t12), .ret (I t13), .br false]) (r := B false) (ob := [(decide ((maxI t12 (IntKind.wrap .i64 (0 - t12))) ≤ (a10 * (IntKind.wrap .i64 (0 - t4))))) = false, inI64 (a10 * (IntKind.wrap .i64 (0 - t4))), Computes cx 62 [.agg [I t11.1, I t11.2.1, I t11.2.2], .agg [I a4, I a5, I a6]] (I t13), Computes cx 62 [.agg [I t11.1, I t11.2.1, I t11.2.2], .agg [I a7, I a8, I a9]] (I t12), Computes cx 92 [.agg [I a14, I a15, I a16], .agg [I t2.1, I t2.2.1, I t2.2.2]] (.agg [I t11.1, I t11.2.1, I t11.2.2]), (decide ((IntKind.wrap .i64 (0 - (IntKind.wrap .i64 (0 - t5)))) ≥ (IntKind.wrap .i64 (0 - t4)))) = false, a17 = true, (decide ((IntKind.wrap .i64 (0 - (IntKind.wrap .i64 (0 - t5)))) ≤ 0)) = false, ((IntKind.wrap .i64 (0 - t4)) == 0) = false, (decide (t4 < 0)) = true, Computes cx 62 [.agg [I t3.1, I t3.2.1, I t3.2.2], .agg [I t2.1, I t2.2.1, I t2.2.2]] (I t5), Computes cx 59 [.agg [.v (.string a0), I a1, I a2, I a3, I a4, I a5, I a6, I a7, I a8, I a9]] (.agg [I t3.1, I t3.2.1, I t3.2.2]), Computes cx 62 [.agg [I t3.1, I t3.2.1, I t3.2.2], .agg [I a14, I a15, I a16]] (I t4), Computes cx 59 [.agg [.v (.string a0), I a1, I a2, I a3, I a4, I a5, I a6, I a7, I a8, I a9]] (.agg [I t3.1, I t3.2.1, I t3.2.2]), Computes cx 76 [.agg [I a11, I a12, I a13], .agg [I t1.1, I t1.2.1, I t1.2.2]] (.agg [I t2.1, I t2.2.1, I t2.2.2]), Computes cx 77 [I (IntKind.wrap .i64 (0 - a10)), .agg [I a1, I a2, I a3]] (.agg [I t1.1, I t1.2.1, I t1.2.2])]) (e_field_Mirror_meets_4 a0 a1 a2 a3 a4 a5 a6 a7 a8 a9 a10 a11 a12 a13 a14 a15 a16 a17 t1 t2 t3 t4 t5 t11 t12 t13) ⟨(decide_eq_false h15), h14, (c_field_dot h13), (c_field_dot h12), (c_field_cross h11), (decide_eq_false h10), h9, (decide_eq_false h8), (eqf h7), (decide_eq_true h6), (c_field_dot h5), (c_field_Mirror_normal h3), (c_field_dot h4), (c_field_Mirror_normal h3), (c_field_plus h2), (c_field_times h1), trivial⟩
        · replace h := ite_f h h9
          obtain ⟨t10, h10, h⟩ := bnd_of h
          obtain ⟨t11, h11, h⟩ := bnd_of h
          obtain ⟨t12, h12, h⟩ := bnd_of h
          obtain ⟨h13, h⟩ := grd_of h
          by_cases h14 : (maxI t11 (IntKind.wrap .i64 (0 - t11))) ≤ (a10 * (IntKind.wrap .i64 (0 - t4)))
          · replace h := ite_t h h14
            replace h := Option.some.inj h
            subst h
            exact run (n := 100) (f := 84) (args := [.agg [.v (.string a0), I a1, I a2, I a3, I a4, I a5, I a6, I a7, I a8, I a9], I a10, .agg [I a11, I a12, I a13, I a14, I a15, I a16, B a17]]) (orc := [.ret (.agg [I t1.1, I t1.2.1, I t1.2.2]), .ret (.agg [I t2.1, I t2.2.1, I t2.2.2]), .ret (.agg [I t3.1, I t3.2.1, I t3.2.2]), .ret (I t4), .ret (.agg [I t3.1, I t3.2.1, I t3.2.2]), .ret (I t5), .br true, .br false, .br false, .br false, .no, .ret (.agg [I t10.1, I t10.2.1, I t10.2.2]), .ret (I t11), .ret (I t12), .br true]) (r := B (decide ((maxI t12 (IntKind.wrap .i64 (0 - t12))) ≤ (a10 * (IntKind.wrap .i64 (0 - t4)))))) (ob := [inI64 (a10 * (IntKind.wrap .i64 (0 - t4))), (decide ((maxI t11 (IntKind.wrap .i64 (0 - t11))) ≤ (a10 * (IntKind.wrap .i64 (0 - t4))))) = true, inI64 (a10 * (IntKind.wrap .i64 (0 - t4))), Computes cx 62 [.agg [I t10.1, I t10.2.1, I t10.2.2], .agg [I a4, I a5, I a6]] (I t12), Computes cx 62 [.agg [I t10.1, I t10.2.1, I t10.2.2], .agg [I a7, I a8, I a9]] (I t11), Computes cx 92 [.agg [I a14, I a15, I a16], .agg [I t2.1, I t2.2.1, I t2.2.2]] (.agg [I t10.1, I t10.2.1, I t10.2.2]), a17 = false, (decide ((IntKind.wrap .i64 (0 - (IntKind.wrap .i64 (0 - t5)))) ≤ 0)) = false, ((IntKind.wrap .i64 (0 - t4)) == 0) = false, (decide (t4 < 0)) = true, Computes cx 62 [.agg [I t3.1, I t3.2.1, I t3.2.2], .agg [I t2.1, I t2.2.1, I t2.2.2]] (I t5), Computes cx 59 [.agg [.v (.string a0), I a1, I a2, I a3, I a4, I a5, I a6, I a7, I a8, I a9]] (.agg [I t3.1, I t3.2.1, I t3.2.2]), Computes cx 62 [.agg [I t3.1, I t3.2.1, I t3.2.2], .agg [I a14, I a15, I a16]] (I t4), Computes cx 59 [.agg [.v (.string a0), I a1, I a2, I a3, I a4, I a5, I a6, I a7, I a8, I a9]] (.agg [I t3.1, I t3.2.1, I t3.2.2]), Computes cx 76 [.agg [I a11, I a12, I a13], .agg [I t1.1, I t1.2.1, I t1.2.2]] (.agg [I t2.1, I t2.2.1, I t2.2.2]), Computes cx 77 [I (IntKind.wrap .i64 (0 - a10)), .agg [I a1, I a2, I a3]] (.agg [I t1.1, I t1.2.1, I t1.2.2])]) (e_field_Mirror_meets_5 a0 a1 a2 a3 a4 a5 a6 a7 a8 a9 a10 a11 a12 a13 a14 a15 a16 a17 t1 t2 t3 t4 t5 t10 t11 t12) ⟨h13, (decide_eq_true h14), h13, (c_field_dot h12), (c_field_dot h11), (c_field_cross h10), (bfalse h9), (decide_eq_false h8), (eqf h7), (decide_eq_true h6), (c_field_dot h5), (c_field_Mirror_normal h3), (c_field_dot h4), (c_field_Mirror_normal h3), (c_field_plus h2), (c_field_times h1), trivial⟩
          · replace h := ite_f h h14
            replace h := Option.some.inj h
            subst h
            exact run (n := 100) (f := 84) (args := [.agg [.v (.string a0), I a1, I a2, I a3, I a4, I a5, I a6, I a7, I a8, I a9], I a10, .agg [I a11, I a12, I a13, I a14, I a15, I a16, B a17]]) (orc := [.ret (.agg [I t1.1, I t1.2.1, I t1.2.2]), .ret (.agg [I t2.1, I t2.2.1, I t2.2.2]), .ret (.agg [I t3.1, I t3.2.1, I t3.2.2]), .ret (I t4), .ret (.agg [I t3.1, I t3.2.1, I t3.2.2]), .ret (I t5), .br true, .br false, .br false, .br false, .no, .ret (.agg [I t10.1, I t10.2.1, I t10.2.2]), .ret (I t11), .ret (I t12), .br false]) (r := B false) (ob := [(decide ((maxI t11 (IntKind.wrap .i64 (0 - t11))) ≤ (a10 * (IntKind.wrap .i64 (0 - t4))))) = false, inI64 (a10 * (IntKind.wrap .i64 (0 - t4))), Computes cx 62 [.agg [I t10.1, I t10.2.1, I t10.2.2], .agg [I a4, I a5, I a6]] (I t12), Computes cx 62 [.agg [I t10.1, I t10.2.1, I t10.2.2], .agg [I a7, I a8, I a9]] (I t11), Computes cx 92 [.agg [I a14, I a15, I a16], .agg [I t2.1, I t2.2.1, I t2.2.2]] (.agg [I t10.1, I t10.2.1, I t10.2.2]), a17 = false, (decide ((IntKind.wrap .i64 (0 - (IntKind.wrap .i64 (0 - t5)))) ≤ 0)) = false, ((IntKind.wrap .i64 (0 - t4)) == 0) = false, (decide (t4 < 0)) = true, Computes cx 62 [.agg [I t3.1, I t3.2.1, I t3.2.2], .agg [I t2.1, I t2.2.1, I t2.2.2]] (I t5), Computes cx 59 [.agg [.v (.string a0), I a1, I a2, I a3, I a4, I a5, I a6, I a7, I a8, I a9]] (.agg [I t3.1, I t3.2.1, I t3.2.2]), Computes cx 62 [.agg [I t3.1, I t3.2.1, I t3.2.2], .agg [I a14, I a15, I a16]] (I t4), Computes cx 59 [.agg [.v (.string a0), I a1, I a2, I a3, I a4, I a5, I a6, I a7, I a8, I a9]] (.agg [I t3.1, I t3.2.1, I t3.2.2]), Computes cx 76 [.agg [I a11, I a12, I a13], .agg [I t1.1, I t1.2.1, I t1.2.2]] (.agg [I t2.1, I t2.2.1, I t2.2.2]), Computes cx 77 [I (IntKind.wrap .i64 (0 - a10)), .agg [I a1, I a2, I a3]] (.agg [I t1.1, I t1.2.1, I t1.2.2])]) (e_field_Mirror_meets_6 a0 a1 a2 a3 a4 a5 a6 a7 a8 a9 a10 a11 a12 a13 a14 a15 a16 a17 t1 t2 t3 t4 t5 t10 t11 t12) ⟨(decide_eq_false h14), h13, (c_field_dot h12), (c_field_dot h11), (c_field_cross h10), (bfalse h9), (decide_eq_false h8), (eqf h7), (decide_eq_true h6), (c_field_dot h5), (c_field_Mirror_normal h3), (c_field_dot h4), (c_field_Mirror_normal h3), (c_field_plus h2), (c_field_times h1), trivial⟩
  · replace h := ite_f h h6
    by_cases h7 : t4 = 0
    · replace h := ite_t h h7
      replace h := Option.some.inj h
      subst h
      exact run (n := 100) (f := 84) (args := [.agg [.v (.string a0), I a1, I a2, I a3, I a4, I a5, I a6, I a7, I a8, I a9], I a10, .agg [I a11, I a12, I a13, I a14, I a15, I a16, B a17]]) (orc := [.ret (.agg [I t1.1, I t1.2.1, I t1.2.2]), .ret (.agg [I t2.1, I t2.2.1, I t2.2.2]), .ret (.agg [I t3.1, I t3.2.1, I t3.2.2]), .ret (I t4), .ret (.agg [I t3.1, I t3.2.1, I t3.2.2]), .ret (I t5), .br false, .br true, .no, .no]) (r := B false) (ob := [(t4 == 0) = true, (decide (t4 < 0)) = false, Computes cx 62 [.agg [I t3.1, I t3.2.1, I t3.2.2], .agg [I t2.1, I t2.2.1, I t2.2.2]] (I t5), Computes cx 59 [.agg [.v (.string a0), I a1, I a2, I a3, I a4, I a5, I a6, I a7, I a8, I a9]] (.agg [I t3.1, I t3.2.1, I t3.2.2]), Computes cx 62 [.agg [I t3.1, I t3.2.1, I t3.2.2], .agg [I a14, I a15, I a16]] (I t4), Computes cx 59 [.agg [.v (.string a0), I a1, I a2, I a3, I a4, I a5, I a6, I a7, I a8, I a9]] (.agg [I t3.1, I t3.2.1, I t3.2.2]), Computes cx 76 [.agg [I a11, I a12, I a13], .agg [I t1.1, I t1.2.1, I t1.2.2]] (.agg [I t2.1, I t2.2.1, I t2.2.2]), Computes cx 77 [I (IntKind.wrap .i64 (0 - a10)), .agg [I a1, I a2, I a3]] (.agg [I t1.1, I t1.2.1, I t1.2.2])]) (e_field_Mirror_meets_7 a0 a1 a2 a3 a4 a5 a6 a7 a8 a9 a10 a11 a12 a13 a14 a15 a16 a17 t1 t2 t3 t4 t5) ⟨(eqt h7), (decide_eq_false h6), (c_field_dot h5), (c_field_Mirror_normal h3), (c_field_dot h4), (c_field_Mirror_normal h3), (c_field_plus h2), (c_field_times h1), trivial⟩
    · replace h := ite_f h h7
      by_cases h8 : (IntKind.wrap .i64 (0 - t5)) ≤ 0
      · replace h := ite_t h h8
        replace h := Option.some.inj h
        subst h
        exact run (n := 100) (f := 84) (args := [.agg [.v (.string a0), I a1, I a2, I a3, I a4, I a5, I a6, I a7, I a8, I a9], I a10, .agg [I a11, I a12, I a13, I a14, I a15, I a16, B a17]]) (orc := [.ret (.agg [I t1.1, I t1.2.1, I t1.2.2]), .ret (.agg [I t2.1, I t2.2.1, I t2.2.2]), .ret (.agg [I t3.1, I t3.2.1, I t3.2.2]), .ret (I t4), .ret (.agg [I t3.1, I t3.2.1, I t3.2.2]), .ret (I t5), .br false, .br false, .br true, .no]) (r := B false) (ob := [(decide ((IntKind.wrap .i64 (0 - t5)) ≤ 0)) = true, (t4 == 0) = false, (decide (t4 < 0)) = false, Computes cx 62 [.agg [I t3.1, I t3.2.1, I t3.2.2], .agg [I t2.1, I t2.2.1, I t2.2.2]] (I t5), Computes cx 59 [.agg [.v (.string a0), I a1, I a2, I a3, I a4, I a5, I a6, I a7, I a8, I a9]] (.agg [I t3.1, I t3.2.1, I t3.2.2]), Computes cx 62 [.agg [I t3.1, I t3.2.1, I t3.2.2], .agg [I a14, I a15, I a16]] (I t4), Computes cx 59 [.agg [.v (.string a0), I a1, I a2, I a3, I a4, I a5, I a6, I a7, I a8, I a9]] (.agg [I t3.1, I t3.2.1, I t3.2.2]), Computes cx 76 [.agg [I a11, I a12, I a13], .agg [I t1.1, I t1.2.1, I t1.2.2]] (.agg [I t2.1, I t2.2.1, I t2.2.2]), Computes cx 77 [I (IntKind.wrap .i64 (0 - a10)), .agg [I a1, I a2, I a3]] (.agg [I t1.1, I t1.2.1, I t1.2.2])]) (e_field_Mirror_meets_8 a0 a1 a2 a3 a4 a5 a6 a7 a8 a9 a10 a11 a12 a13 a14 a15 a16 a17 t1 t2 t3 t4 t5) ⟨(decide_eq_true h8), (eqf h7), (decide_eq_false h6), (c_field_dot h5), (c_field_Mirror_normal h3), (c_field_dot h4), (c_field_Mirror_normal h3), (c_field_plus h2), (c_field_times h1), trivial⟩
      · replace h := ite_f h h8
        by_cases h9 : a17 = true
        · replace h := ite_t h h9
          by_cases h10 : (IntKind.wrap .i64 (0 - t5)) ≥ t4
          · replace h := ite_t h h10
            replace h := Option.some.inj h
            subst h
            exact run (n := 100) (f := 84) (args := [.agg [.v (.string a0), I a1, I a2, I a3, I a4, I a5, I a6, I a7, I a8, I a9], I a10, .agg [I a11, I a12, I a13, I a14, I a15, I a16, B a17]]) (orc := [.ret (.agg [I t1.1, I t1.2.1, I t1.2.2]), .ret (.agg [I t2.1, I t2.2.1, I t2.2.2]), .ret (.agg [I t3.1, I t3.2.1, I t3.2.2]), .ret (I t4), .ret (.agg [I t3.1, I t3.2.1, I t3.2.2]), .ret (I t5), .br false, .br false, .br false, .br true, .br true]) (r := B false) (ob := [(decide ((IntKind.wrap .i64 (0 - t5)) ≥ t4)) = true, a17 = true, (decide ((IntKind.wrap .i64 (0 - t5)) ≤ 0)) = false, (t4 == 0) = false, (decide (t4 < 0)) = false, Computes cx 62 [.agg [I t3.1, I t3.2.1, I t3.2.2], .agg [I t2.1, I t2.2.1, I t2.2.2]] (I t5), Computes cx 59 [.agg [.v (.string a0), I a1, I a2, I a3, I a4, I a5, I a6, I a7, I a8, I a9]] (.agg [I t3.1, I t3.2.1, I t3.2.2]), Computes cx 62 [.agg [I t3.1, I t3.2.1, I t3.2.2], .agg [I a14, I a15, I a16]] (I t4), Computes cx 59 [.agg [.v (.string a0), I a1, I a2, I a3, I a4, I a5, I a6, I a7, I a8, I a9]] (.agg [I t3.1, I t3.2.1, I t3.2.2]), Computes cx 76 [.agg [I a11, I a12, I a13], .agg [I t1.1, I t1.2.1, I t1.2.2]] (.agg [I t2.1, I t2.2.1, I t2.2.2]), Computes cx 77 [I (IntKind.wrap .i64 (0 - a10)), .agg [I a1, I a2, I a3]] (.agg [I t1.1, I t1.2.1, I t1.2.2])]) (e_field_Mirror_meets_9 a0 a1 a2 a3 a4 a5 a6 a7 a8 a9 a10 a11 a12 a13 a14 a15 a16 a17 t1 t2 t3 t4 t5) ⟨(decide_eq_true h10), h9, (decide_eq_false h8), (eqf h7), (decide_eq_false h6), (c_field_dot h5), (c_field_Mirror_normal h3), (c_field_dot h4), (c_field_Mirror_normal h3), (c_field_plus h2), (c_field_times h1), trivial⟩
          · replace h := ite_f h h10
            obtain ⟨t11, h11, h⟩ := bnd_of h
            obtain ⟨t12, h12, h⟩ := bnd_of h
            obtain ⟨t13, h13, h⟩ := bnd_of h
            obtain ⟨h14, h⟩ := grd_of h
            by_cases h15 : (maxI t12 (IntKind.wrap .i64 (0 - t12))) ≤ (a10 * t4)
            · replace h := ite_t h h15
              replace h := Option.some.inj h
              subst h
              exact run (n := 100) (f := 84) (args := [.agg [.v (.string a0), I a1, I a2, I a3, I a4, I a5, I a6, I a7, I a8, I a9], I a10, .agg [I a11, I a12, I a13, I a14, I a15, I a16, B a17]]) (orc := [.ret (.agg [I t1.1, I t1.2.1, I t1.2.2]), .ret (.agg [I t2.1, I t2.2.1, I t2.2.2]), .ret (.agg [I t3.1, I t3.2.1, I t3.2.2]), .ret (I t4), .ret (.agg [I t3.1, I t3.2.1, I t3.2.2]), .ret (I t5), .br false, .br false, .br false, .br true, .br false, .ret (.agg [I t11.1, I t11.2.1, I t11.2.2]), .ret (I t12), .ret (I t13), .br true]) (r := B (decide ((maxI t13 (IntKind.wrap .i64 (0 - t13))) ≤ (a10 * t4)))) (ob := [inI64 (a10 * t4), (decide ((maxI t12 (IntKind.wrap .i64 (0 - t12))) ≤ (a10 * t4))) = true, inI64 (a10 * t4), Computes cx 62 [.agg [I t11.1, I t11.2.1, I t11.2.2], .agg [I a4, I a5, I a6]] (I t13), Computes cx 62 [.agg [I t11.1, I t11.2.1, I t11.2.2], .agg [I a7, I a8, I a9]] (I t12), Computes cx 92 [.agg [I a14, I a15, I a16], .agg [I t2.1, I t2.2.1, I t2.2.2]] (.agg [I t11.1, I t11.2.1, I t11.2.2]), (decide ((IntKind.wrap .i64 (0 - t5)) ≥ t4)) = false, a17 = true, (decide ((IntKind.wrap .i64 (0 - t5)) ≤ 0)) = false, (t4 == 0) = false, (decide (t4 < 0)) = false, Computes cx 62 [.agg [I t3.1, I t3.2.1, I t3.2.2], .agg [I t2.1, I t2.2.1, I t2.2.2]] (I t5), Computes cx 59 [.agg [.v (.string a0), I a1, I a2, I a3, I a4, I a5, I a6, I a7, I a8, I a9]] (.agg [I t3.1, I t3.2.1, I t3.2.2]), Computes cx 62 [.agg [I t3.1, I t3.2.1, I t3.2.2], .agg [I a14, I a15, I a16]] (I t4), Computes cx 59 [.agg [.v (.string a0), I a1, I a2, I a3, I a4, I a5, I a6, I a7, I a8, I a9]] (.agg [I t3.1, I t3.2.1, I t3.2.2]), Computes cx 76 [.agg [I a11, I a12, I a13], .agg [I t1.1, I t1.2.1, I t1.2.2]] (.agg [I t2.1, I t2.2.1, I t2.2.2]), Computes cx 77 [I (IntKind.wrap .i64 (0 - a10)), .agg [I a1, I a2, I a3]] (.agg [I t1.1, I t1.2.1, I t1.2.2])]) (e_field_Mirror_meets_10 a0 a1 a2 a3 a4 a5 a6 a7 a8 a9 a10 a11 a12 a13 a14 a15 a16 a17 t1 t2 t3 t4 t5 t11 t12 t13) ⟨h14, (decide_eq_true h15), h14, (c_field_dot h13), (c_field_dot h12), (c_field_cross h11), (decide_eq_false h10), h9, (decide_eq_false h8), (eqf h7), (decide_eq_false h6), (c_field_dot h5), (c_field_Mirror_normal h3), (c_field_dot h4), (c_field_Mirror_normal h3), (c_field_plus h2), (c_field_times h1), trivial⟩
            · replace h := ite_f h h15
              replace h := Option.some.inj h
              subst h
              exact run (n := 100) (f := 84) (args := [.agg [.v (.string a0), I a1, I a2, I a3, I a4, I a5, I a6, I a7, I a8, I a9], I a10, .agg [I a11, I a12, I a13, I a14, I a15, I a16, B a17]]) (orc := [.ret (.agg [I t1.1, I t1.2.1, I t1.2.2]), .ret (.agg [I t2.1, I t2.2.1, I t2.2.2]), .ret (.agg [I t3.1, I t3.2.1, I t3.2.2]), .ret (I t4), .ret (.agg [I t3.1, I t3.2.1, I t3.2.2]), .ret (I t5), .br false, .br false, .br false, .br true, .br false, .ret (.agg [I t11.1, I t11.2.1, I t11.2.2]), .ret (I t12), .ret (I t13), .br false]) (r := B false) (ob := [(decide ((maxI t12 (IntKind.wrap .i64 (0 - t12))) ≤ (a10 * t4))) = false, inI64 (a10 * t4), Computes cx 62 [.agg [I t11.1, I t11.2.1, I t11.2.2], .agg [I a4, I a5, I a6]] (I t13), Computes cx 62 [.agg [I t11.1, I t11.2.1, I t11.2.2], .agg [I a7, I a8, I a9]] (I t12), Computes cx 92 [.agg [I a14, I a15, I a16], .agg [I t2.1, I t2.2.1, I t2.2.2]] (.agg [I t11.1, I t11.2.1, I t11.2.2]), (decide ((IntKind.wrap .i64 (0 - t5)) ≥ t4)) = false, a17 = true, (decide ((IntKind.wrap .i64 (0 - t5)) ≤ 0)) = false, (t4 == 0) = false, (decide (t4 < 0)) = false, Computes cx 62 [.agg [I t3.1, I t3.2.1, I t3.2.2], .agg [I t2.1, I t2.2.1, I t2.2.2]] (I t5), Computes cx 59 [.agg [.v (.string a0), I a1, I a2, I a3, I a4, I a5, I a6, I a7, I a8, I a9]] (.agg [I t3.1, I t3.2.1, I t3.2.2]), Computes cx 62 [.agg [I t3.1, I t3.2.1, I t3.2.2], .agg [I a14, I a15, I a16]] (I t4), Computes cx 59 [.agg [.v (.string a0), I a1, I a2, I a3, I a4, I a5, I a6, I a7, I a8, I a9]] (.agg [I t3.1, I t3.2.1, I t3.2.2]), Computes cx 76 [.agg [I a11, I a12, I a13], .agg [I t1.1, I t1.2.1, I t1.2.2]] (.agg [I t2.1, I t2.2.1, I t2.2.2]), Computes cx 77 [I (IntKind.wrap .i64 (0 - a10)), .agg [I a1, I a2, I a3]] (.agg [I t1.1, I t1.2.1, I t1.2.2])]) (e_field_Mirror_meets_11 a0 a1 a2 a3 a4 a5 a6 a7 a8 a9 a10 a11 a12 a13 a14 a15 a16 a17 t1 t2 t3 t4 t5 t11 t12 t13) ⟨(decide_eq_false h15), h14, (c_field_dot h13), (c_field_dot h12), (c_field_cross h11), (decide_eq_false h10), h9, (decide_eq_false h8), (eqf h7), (decide_eq_false h6), (c_field_dot h5), (c_field_Mirror_normal h3), (c_field_dot h4), (c_field_Mirror_normal h3), (c_field_plus h2), (c_field_times h1), trivial⟩
        · replace h := ite_f h h9
          obtain ⟨t10, h10, h⟩ := bnd_of h
          obtain ⟨t11, h11, h⟩ := bnd_of h
          obtain ⟨t12, h12, h⟩ := bnd_of h
          obtain ⟨h13, h⟩ := grd_of h
          by_cases h14 : (maxI t11 (IntKind.wrap .i64 (0 - t11))) ≤ (a10 * t4)
          · replace h := ite_t h h14
            replace h := Option.some.inj h
            subst h
            exact run (n := 100) (f := 84) (args := [.agg [.v (.string a0), I a1, I a2, I a3, I a4, I a5, I a6, I a7, I a8, I a9], I a10, .agg [I a11, I a12, I a13, I a14, I a15, I a16, B a17]]) (orc := [.ret (.agg [I t1.1, I t1.2.1, I t1.2.2]), .ret (.agg [I t2.1, I t2.2.1, I t2.2.2]), .ret (.agg [I t3.1, I t3.2.1, I t3.2.2]), .ret (I t4), .ret (.agg [I t3.1, I t3.2.1, I t3.2.2]), .ret (I t5), .br false, .br false, .br false, .br false, .no, .ret (.agg [I t10.1, I t10.2.1, I t10.2.2]), .ret (I t11), .ret (I t12), .br true]) (r := B (decide ((maxI t12 (IntKind.wrap .i64 (0 - t12))) ≤ (a10 * t4)))) (ob := [inI64 (a10 * t4), (decide ((maxI t11 (IntKind.wrap .i64 (0 - t11))) ≤ (a10 * t4))) = true, inI64 (a10 * t4), Computes cx 62 [.agg [I t10.1, I t10.2.1, I t10.2.2], .agg [I a4, I a5, I a6]] (I t12), Computes cx 62 [.agg [I t10.1, I t10.2.1, I t10.2.2], .agg [I a7, I a8, I a9]] (I t11), Computes cx 92 [.agg [I a14, I a15, I a16], .agg [I t2.1, I t2.2.1, I t2.2.2]] (.agg [I t10.1, I t10.2.1, I t10.2.2]), a17 = false, (decide ((IntKind.wrap .i64 (0 - t5)) ≤ 0)) = false, (t4 == 0) = false, (decide (t4 < 0)) = false, Computes cx 62 [.agg [I t3.1, I t3.2.1, I t3.2.2], .agg [I t2.1, I t2.2.1, I t2.2.2]] (I t5), Computes cx 59 [.agg [.v (.string a0), I a1, I a2, I a3, I a4, I a5, I a6, I a7, I a8, I a9]] (.agg [I t3.1, I t3.2.1, I t3.2.2]), Computes cx 62 [.agg [I t3.1, I t3.2.1, I t3.2.2], .agg [I a14, I a15, I a16]] (I t4), Computes cx 59 [.agg [.v (.string a0), I a1, I a2, I a3, I a4, I a5, I a6, I a7, I a8, I a9]] (.agg [I t3.1, I t3.2.1, I t3.2.2]), Computes cx 76 [.agg [I a11, I a12, I a13], .agg [I t1.1, I t1.2.1, I t1.2.2]] (.agg [I t2.1, I t2.2.1, I t2.2.2]), Computes cx 77 [I (IntKind.wrap .i64 (0 - a10)), .agg [I a1, I a2, I a3]] (.agg [I t1.1, I t1.2.1, I t1.2.2])]) (e_field_Mirror_meets_12 a0 a1 a2 a3 a4 a5 a6 a7 a8 a9 a10 a11 a12 a13 a14 a15 a16 a17 t1 t2 t3 t4 t5 t10 t11 t12) ⟨h13, (decide_eq_true h14), h13, (c_field_dot h12), (c_field_dot h11), (c_field_cross h10), (bfalse h9), (decide_eq_false h8), (eqf h7), (decide_eq_false h6), (c_field_dot h5), (c_field_Mirror_normal h3), (c_field_dot h4), (c_field_Mirror_normal h3), (c_field_plus h2), (c_field_times h1), trivial⟩
          · replace h := ite_f h h14
            replace h := Option.some.inj h
            subst h
            exact run (n := 100) (f := 84) (args := [.agg [.v (.string a0), I a1, I a2, I a3, I a4, I a5, I a6, I a7, I a8, I a9], I a10, .agg [I a11, I a12, I a13, I a14, I a15, I a16, B a17]]) (orc := [.ret (.agg [I t1.1, I t1.2.1, I t1.2.2]), .ret (.agg [I t2.1, I t2.2.1, I t2.2.2]), .ret (.agg [I t3.1, I t3.2.1, I t3.2.2]), .ret (I t4), .ret (.agg [I t3.1, I t3.2.1, I t3.2.2]), .ret (I t5), .br false, .br false, .br false, .br false, .no, .ret (.agg [I t10.1, I t10.2.1, I t10.2.2]), .ret (I t11), .ret (I t12), .br false]) (r := B false) (ob := [(decide ((maxI t11 (IntKind.wrap .i64 (0 - t11))) ≤ (a10 * t4))) = false, inI64 (a10 * t4), Computes cx 62 [.agg [I t10.1, I t10.2.1, I t10.2.2], .agg [I a4, I a5, I a6]] (I t12), Computes cx 62 [.agg [I t10.1, I t10.2.1, I t10.2.2], .agg [I a7, I a8, I a9]] (I t11), Computes cx 92 [.agg [I a14, I a15, I a16], .agg [I t2.1, I t2.2.1, I t2.2.2]] (.agg [I t10.1, I t10.2.1, I t10.2.2]), a17 = false, (decide ((IntKind.wrap .i64 (0 - t5)) ≤ 0)) = false, (t4 == 0) = false, (decide (t4 < 0)) = false, Computes cx 62 [.agg [I t3.1, I t3.2.1, I t3.2.2], .agg [I t2.1, I t2.2.1, I t2.2.2]] (I t5), Computes cx 59 [.agg [.v (.string a0), I a1, I a2, I a3, I a4, I a5, I a6, I a7, I a8, I a9]] (.agg [I t3.1, I t3.2.1, I t3.2.2]), Computes cx 62 [.agg [I t3.1, I t3.2.1, I t3.2.2], .agg [I a14, I a15, I a16]] (I t4), Computes cx 59 [.agg [.v (.string a0), I a1, I a2, I a3, I a4, I a5, I a6, I a7, I a8, I a9]] (.agg [I t3.1, I t3.2.1, I t3.2.2]), Computes cx 76 [.agg [I a11, I a12, I a13], .agg [I t1.1, I t1.2.1, I t1.2.2]] (.agg [I t2.1, I t2.2.1, I t2.2.2]), Computes cx 77 [I (IntKind.wrap .i64 (0 - a10)), .agg [I a1, I a2, I a3]] (.agg [I t1.1, I t1.2.1, I t1.2.2])]) (e_field_Mirror_meets_13 a0 a1 a2 a3 a4 a5 a6 a7 a8 a9 a10 a11 a12 a13 a14 a15 a16 a17 t1 t2 t3 t4 t5 t10 t11 t12) ⟨(decide_eq_false h14), h13, (c_field_dot h12), (c_field_dot h11), (c_field_cross h10), (bfalse h9), (decide_eq_false h8), (eqf h7), (decide_eq_false h6), (c_field_dot h5), (c_field_Mirror_normal h3), (c_field_dot h4), (c_field_Mirror_normal h3), (c_field_plus h2), (c_field_times h1), trivial⟩
def F_light_IsName_L1 (n : Nat) (a0 : ByteArray) (sa : (Nat)) : Option (((Nat)) ⊕ ((Unit) ⊕ (Unit))) :=
  if sa < a0.size then
    if ((Utf8.decode a0 sa).1 : Int) ≥ 97 then
      if ((Utf8.decode a0 sa).1 : Int) ≤ 122 then
        some (.inl (sa + (Utf8.decode a0 sa).2))
      else
      if ((Utf8.decode a0 sa).1 : Int) ≥ 65 then
        if ((Utf8.decode a0 sa).1 : Int) ≤ 90 then
          some (.inl (sa + (Utf8.decode a0 sa).2))
        else
        if ((sa : Nat) : Int) = 0 then
          some (.inr (.inl ()))
        else
        if ((Utf8.decode a0 sa).1 : Int) = 95 then
          some (.inl (sa + (Utf8.decode a0 sa).2))
        else
        if ((Utf8.decode a0 sa).1 : Int) < 48 then
          some (.inr (.inl ()))
        else
        if ((Utf8.decode a0 sa).1 : Int) > 57 then
          some (.inr (.inl ()))
        else
        some (.inl (sa + (Utf8.decode a0 sa).2))
      else
      if ((sa : Nat) : Int) = 0 then
        some (.inr (.inl ()))
      else
      if ((Utf8.decode a0 sa).1 : Int) = 95 then
        some (.inl (sa + (Utf8.decode a0 sa).2))
      else
      if ((Utf8.decode a0 sa).1 : Int) < 48 then
        some (.inr (.inl ()))
      else
      if ((Utf8.decode a0 sa).1 : Int) > 57 then
        some (.inr (.inl ()))
      else
      some (.inl (sa + (Utf8.decode a0 sa).2))
    else
    if ((Utf8.decode a0 sa).1 : Int) ≥ 65 then
      if ((Utf8.decode a0 sa).1 : Int) ≤ 90 then
        some (.inl (sa + (Utf8.decode a0 sa).2))
      else
      if ((sa : Nat) : Int) = 0 then
        some (.inr (.inl ()))
      else
      if ((Utf8.decode a0 sa).1 : Int) = 95 then
        some (.inl (sa + (Utf8.decode a0 sa).2))
      else
      if ((Utf8.decode a0 sa).1 : Int) < 48 then
        some (.inr (.inl ()))
      else
      if ((Utf8.decode a0 sa).1 : Int) > 57 then
        some (.inr (.inl ()))
      else
      some (.inl (sa + (Utf8.decode a0 sa).2))
    else
    if ((sa : Nat) : Int) = 0 then
      some (.inr (.inl ()))
    else
    if ((Utf8.decode a0 sa).1 : Int) = 95 then
      some (.inl (sa + (Utf8.decode a0 sa).2))
    else
    if ((Utf8.decode a0 sa).1 : Int) < 48 then
      some (.inr (.inl ()))
    else
    if ((Utf8.decode a0 sa).1 : Int) > 57 then
      some (.inr (.inl ()))
    else
    some (.inl (sa + (Utf8.decode a0 sa).2))
  else
  some (.inr (.inr ()))
noncomputable def T_light_IsName_L1 (a0 : ByteArray) (sa : (Nat)) : List (Nat × AV) := [(0, .d (.v (.string a0))), (7, .own 2 0)]
noncomputable def H_light_IsName_L1 (a0 : ByteArray) (sa : (Nat)) : List (Nat × Blk) := [(2, .it a0 sa)]
noncomputable def X_light_IsName_L1 (a0 : ByteArray) (e : (Unit) ⊕ (Unit)) : Ex := match e with
  | (.inl e) => .ret
  | (.inr e) => (.exit 0)
noncomputable def XT_light_IsName_L1 (a0 : ByteArray) (e : (Unit) ⊕ (Unit)) : List (Nat × AV) := match e with
  | (.inl e) => [(2, .d (B false))]
  | (.inr e) => [(0, .d (.v (.string a0)))]
noncomputable def XH_light_IsName_L1 (a0 : ByteArray) (e : (Unit) ⊕ (Unit)) : List (Nat × Blk) := match e with
  | (.inl e) => []
  | (.inr e) => []
theorem R_light_IsName_L1 {n : Nat} {a0 : ByteArray} (sa : (Nat)) (r) (h : F_light_IsName_L1 n a0 sa = some r) : Rd cx (loopAt cx.P 91 0) 51 0 false (T_light_IsName_L1 a0) (H_light_IsName_L1 a0) (X_light_IsName_L1 a0) (XT_light_IsName_L1 a0) (XH_light_IsName_L1 a0) sa r := by
  unfold F_light_IsName_L1 at h
  by_cases ha1 : sa < a0.size
  · replace h := ite_t h ha1
    by_cases ha2 : ((Utf8.decode a0 sa).1 : Int) ≥ 97
    · replace h := ite_t h ha2
      by_cases ha3 : ((Utf8.decode a0 sa).1 : Int) ≤ 122
      · replace h := ite_t h ha3
        replace h := Option.some.inj h
        subst h
        exact ⟨100, 3, [.br true, .no, .br true, .br true, .no, .no], [], [0, 7], [2], round_of (ob := [(decide (((Utf8.decode a0 sa).1 : Int) ≤ 122)) = true, (decide (((Utf8.decode a0 sa).1 : Int) ≥ 97)) = true, sa < a0.size]) (by kernel_rfl) ⟨(decide_eq_true ha3), (decide_eq_true ha2), ha1, trivial⟩⟩
      · replace h := ite_f h ha3
        by_cases ha4 : ((Utf8.decode a0 sa).1 : Int) ≥ 65
        · replace h := ite_t h ha4
          by_cases ha5 : ((Utf8.decode a0 sa).1 : Int) ≤ 90
          · replace h := ite_t h ha5
            replace h := Option.some.inj h
            subst h
            exact ⟨100, 3, [.br true, .no, .br true, .br false, .br true, .br false, .no], [], [0, 7], [2], round_of (ob := [(!(decide (((Utf8.decode a0 sa).1 : Int) ≤ 90))) = false, (decide (((Utf8.decode a0 sa).1 : Int) ≥ 65)) = true, (decide (((Utf8.decode a0 sa).1 : Int) ≤ 122)) = false, (decide (((Utf8.decode a0 sa).1 : Int) ≥ 97)) = true, sa < a0.size]) (by kernel_rfl) ⟨(notf (decide_eq_true ha5)), (decide_eq_true ha4), (decide_eq_false ha3), (decide_eq_true ha2), ha1, trivial⟩⟩
          · replace h := ite_f h ha5
            by_cases ha6 : ((sa : Nat) : Int) = 0
            · replace h := ite_t h ha6
              replace h := Option.some.inj h
              subst h
              exact ⟨⟨100, 3, [.br true, .no, .br true, .br false, .br true, .br true, .br true, .no], [], [2], [], round_of (ob := [(((sa : Nat) : Int) == 0) = true, (!(decide (((Utf8.decode a0 sa).1 : Int) ≤ 90))) = true, (decide (((Utf8.decode a0 sa).1 : Int) ≥ 65)) = true, (decide (((Utf8.decode a0 sa).1 : Int) ≤ 122)) = false, (decide (((Utf8.decode a0 sa).1 : Int) ≥ 97)) = true, sa < a0.size]) (by kernel_rfl) ⟨(eqt ha6), (nott (decide_eq_false ha5)), (decide_eq_true ha4), (decide_eq_false ha3), (decide_eq_true ha2), ha1, trivial⟩⟩, nofun⟩
            · replace h := ite_f h ha6
              by_cases ha7 : ((Utf8.decode a0 sa).1 : Int) = 95
              · replace h := ite_t h ha7
                replace h := Option.some.inj h
                subst h
                exact ⟨100, 3, [.br true, .no, .br true, .br false, .br true, .br true, .br false, .br false, .no], [], [0, 7], [2], round_of (ob := [(((Utf8.decode a0 sa).1 : Int) != 95) = false, (((sa : Nat) : Int) == 0) = false, (!(decide (((Utf8.decode a0 sa).1 : Int) ≤ 90))) = true, (decide (((Utf8.decode a0 sa).1 : Int) ≥ 65)) = true, (decide (((Utf8.decode a0 sa).1 : Int) ≤ 122)) = false, (decide (((Utf8.decode a0 sa).1 : Int) ≥ 97)) = true, sa < a0.size]) (by kernel_rfl) ⟨(nef ha7), (eqf ha6), (nott (decide_eq_false ha5)), (decide_eq_true ha4), (decide_eq_false ha3), (decide_eq_true ha2), ha1, trivial⟩⟩
              · replace h := ite_f h ha7
                by_cases ha8 : ((Utf8.decode a0 sa).1 : Int) < 48
                · replace h := ite_t h ha8
                  replace h := Option.some.inj h
                  subst h
                  exact ⟨⟨100, 3, [.br true, .no, .br true, .br false, .br true, .br true, .br false, .br true, .br true, .no], [], [2], [], round_of (ob := [(decide (((Utf8.decode a0 sa).1 : Int) < 48)) = true, (((Utf8.decode a0 sa).1 : Int) != 95) = true, (((sa : Nat) : Int) == 0) = false, (!(decide (((Utf8.decode a0 sa).1 : Int) ≤ 90))) = true, (decide (((Utf8.decode a0 sa).1 : Int) ≥ 65)) = true, (decide (((Utf8.decode a0 sa).1 : Int) ≤ 122)) = false, (decide (((Utf8.decode a0 sa).1 : Int) ≥ 97)) = true, sa < a0.size]) (by kernel_rfl) ⟨(decide_eq_true ha8), (net ha7), (eqf ha6), (nott (decide_eq_false ha5)), (decide_eq_true ha4), (decide_eq_false ha3), (decide_eq_true ha2), ha1, trivial⟩⟩, nofun⟩
                · replace h := ite_f h ha8
                  by_cases ha9 : ((Utf8.decode a0 sa).1 : Int) > 57
                  · replace h := ite_t h ha9
                    replace h := Option.some.inj h
                    subst h
                    exact ⟨⟨100, 3, [.br true, .no, .br true, .br false, .br true, .br true, .br false, .br true, .br false, .br true], [], [2], [], round_of (ob := [(decide (((Utf8.decode a0 sa).1 : Int) > 57)) = true, (decide (((Utf8.decode a0 sa).1 : Int) < 48)) = false, (((Utf8.decode a0 sa).1 : Int) != 95) = true, (((sa : Nat) : Int) == 0) = false, (!(decide (((Utf8.decode a0 sa).1 : Int) ≤ 90))) = true, (decide (((Utf8.decode a0 sa).1 : Int) ≥ 65)) = true, (decide (((Utf8.decode a0 sa).1 : Int) ≤ 122)) = false, (decide (((Utf8.decode a0 sa).1 : Int) ≥ 97)) = true, sa < a0.size]) (by kernel_rfl) ⟨(decide_eq_true ha9), (decide_eq_false ha8), (net ha7), (eqf ha6), (nott (decide_eq_false ha5)), (decide_eq_true ha4), (decide_eq_false ha3), (decide_eq_true ha2), ha1, trivial⟩⟩, nofun⟩
                  · replace h := ite_f h ha9
                    replace h := Option.some.inj h
                    subst h
                    exact ⟨100, 3, [.br true, .no, .br true, .br false, .br true, .br true, .br false, .br true, .br false, .br false], [], [0, 7], [2], round_of (ob := [(decide (((Utf8.decode a0 sa).1 : Int) > 57)) = false, (decide (((Utf8.decode a0 sa).1 : Int) < 48)) = false, (((Utf8.decode a0 sa).1 : Int) != 95) = true, (((sa : Nat) : Int) == 0) = false, (!(decide (((Utf8.decode a0 sa).1 : Int) ≤ 90))) = true, (decide (((Utf8.decode a0 sa).1 : Int) ≥ 65)) = true, (decide (((Utf8.decode a0 sa).1 : Int) ≤ 122)) = false, (decide (((Utf8.decode a0 sa).1 : Int) ≥ 97)) = true, sa < a0.size]) (by kernel_rfl) ⟨(decide_eq_false ha9), (decide_eq_false ha8), (net ha7), (eqf ha6), (nott (decide_eq_false ha5)), (decide_eq_true ha4), (decide_eq_false ha3), (decide_eq_true ha2), ha1, trivial⟩⟩
        · replace h := ite_f h ha4
          by_cases ha5 : ((sa : Nat) : Int) = 0
          · replace h := ite_t h ha5
            replace h := Option.some.inj h
            subst h
            exact ⟨⟨100, 3, [.br true, .no, .br true, .br false, .br false, .no, .br true, .no], [], [2], [], round_of (ob := [(((sa : Nat) : Int) == 0) = true, (decide (((Utf8.decode a0 sa).1 : Int) ≥ 65)) = false, (decide (((Utf8.decode a0 sa).1 : Int) ≤ 122)) = false, (decide (((Utf8.decode a0 sa).1 : Int) ≥ 97)) = true, sa < a0.size]) (by kernel_rfl) ⟨(eqt ha5), (decide_eq_false ha4), (decide_eq_false ha3), (decide_eq_true ha2), ha1, trivial⟩⟩, nofun⟩
          · replace h := ite_f h ha5
            by_cases ha6 : ((Utf8.decode a0 sa).1 : Int) = 95
            · replace h := ite_t h ha6
              replace h := Option.some.inj h
              subst h
              exact ⟨100, 3, [.br true, .no, .br true, .br false, .br false, .no, .br false, .br false, .no], [], [0, 7], [2], round_of (ob := [(((Utf8.decode a0 sa).1 : Int) != 95) = false, (((sa : Nat) : Int) == 0) = false, (decide (((Utf8.decode a0 sa).1 : Int) ≥ 65)) = false, (decide (((Utf8.decode a0 sa).1 : Int) ≤ 122)) = false, (decide (((Utf8.decode a0 sa).1 : Int) ≥ 97)) = true, sa < a0.size]) (by kernel_rfl) ⟨(nef ha6), (eqf ha5), (decide_eq_false ha4), (decide_eq_false ha3), (decide_eq_true ha2), ha1, trivial⟩⟩
            · replace h := ite_f h ha6
              by_cases ha7 : ((Utf8.decode a0 sa).1 : Int) < 48
              · replace h := ite_t h ha7
                replace h := Option.some.inj h
                subst h
                exact ⟨⟨100, 3, [.br true, .no, .br true, .br false, .br false, .no, .br false, .br true, .br true, .no], [], [2], [], round_of (ob := [(decide (((Utf8.decode a0 sa).1 : Int) < 48)) = true, (((Utf8.decode a0 sa).1 : Int) != 95) = true, (((sa : Nat) : Int) == 0) = false, (decide (((Utf8.decode a0 sa).1 : Int) ≥ 65)) = false, (decide (((Utf8.decode a0 sa).1 : Int) ≤ 122)) = false, (decide (((Utf8.decode a0 sa).1 : Int) ≥ 97)) = true, sa < a0.size]) (by kernel_rfl) ⟨(decide_eq_true ha7), (net ha6), (eqf ha5), (decide_eq_false ha4), (decide_eq_false ha3), (decide_eq_true ha2), ha1, trivial⟩⟩, nofun⟩
              · replace h := ite_f h ha7
                by_cases ha8 : ((Utf8.decode a0 sa).1 : Int) > 57
                · replace h := ite_t h ha8
                  replace h := Option.some.inj h
                  subst h
                  exact ⟨⟨100, 3, [.br true, .no, .br true, .br false, .br false, .no, .br false, .br true, .br false, .br true], [], [2], [], round_of (ob := [(decide (((Utf8.decode a0 sa).1 : Int) > 57)) = true, (decide (((Utf8.decode a0 sa).1 : Int) < 48)) = false, (((Utf8.decode a0 sa).1 : Int) != 95) = true, (((sa : Nat) : Int) == 0) = false, (decide (((Utf8.decode a0 sa).1 : Int) ≥ 65)) = false, (decide (((Utf8.decode a0 sa).1 : Int) ≤ 122)) = false, (decide (((Utf8.decode a0 sa).1 : Int) ≥ 97)) = true, sa < a0.size]) (by kernel_rfl) ⟨(decide_eq_true ha8), (decide_eq_false ha7), (net ha6), (eqf ha5), (decide_eq_false ha4), (decide_eq_false ha3), (decide_eq_true ha2), ha1, trivial⟩⟩, nofun⟩
                · replace h := ite_f h ha8
                  replace h := Option.some.inj h
                  subst h
                  exact ⟨100, 3, [.br true, .no, .br true, .br false, .br false, .no, .br false, .br true, .br false, .br false], [], [0, 7], [2], round_of (ob := [(decide (((Utf8.decode a0 sa).1 : Int) > 57)) = false, (decide (((Utf8.decode a0 sa).1 : Int) < 48)) = false, (((Utf8.decode a0 sa).1 : Int) != 95) = true, (((sa : Nat) : Int) == 0) = false, (decide (((Utf8.decode a0 sa).1 : Int) ≥ 65)) = false, (decide (((Utf8.decode a0 sa).1 : Int) ≤ 122)) = false, (decide (((Utf8.decode a0 sa).1 : Int) ≥ 97)) = true, sa < a0.size]) (by kernel_rfl) ⟨(decide_eq_false ha8), (decide_eq_false ha7), (net ha6), (eqf ha5), (decide_eq_false ha4), (decide_eq_false ha3), (decide_eq_true ha2), ha1, trivial⟩⟩
    · replace h := ite_f h ha2
      by_cases ha3 : ((Utf8.decode a0 sa).1 : Int) ≥ 65
      · replace h := ite_t h ha3
        by_cases ha4 : ((Utf8.decode a0 sa).1 : Int) ≤ 90
        · replace h := ite_t h ha4
          replace h := Option.some.inj h
          subst h
          exact ⟨100, 3, [.br true, .no, .br false, .no, .br true, .br false, .no], [], [0, 7], [2], round_of (ob := [(!(decide (((Utf8.decode a0 sa).1 : Int) ≤ 90))) = false, (decide (((Utf8.decode a0 sa).1 : Int) ≥ 65)) = true, (decide (((Utf8.decode a0 sa).1 : Int) ≥ 97)) = false, sa < a0.size]) (by kernel_rfl) ⟨(notf (decide_eq_true ha4)), (decide_eq_true ha3), (decide_eq_false ha2), ha1, trivial⟩⟩
        · replace h := ite_f h ha4
          by_cases ha5 : ((sa : Nat) : Int) = 0
          · replace h := ite_t h ha5
            replace h := Option.some.inj h
            subst h
            exact ⟨⟨100, 3, [.br true, .no, .br false, .no, .br true, .br true, .br true, .no], [], [2], [], round_of (ob := [(((sa : Nat) : Int) == 0) = true, (!(decide (((Utf8.decode a0 sa).1 : Int) ≤ 90))) = true, (decide (((Utf8.decode a0 sa).1 : Int) ≥ 65)) = true, (decide (((Utf8.decode a0 sa).1 : Int) ≥ 97)) = false, sa < a0.size]) (by kernel_rfl) ⟨(eqt ha5), (nott (decide_eq_false ha4)), (decide_eq_true ha3), (decide_eq_false ha2), ha1, trivial⟩⟩, nofun⟩
          · replace h := ite_f h ha5
            by_cases ha6 : ((Utf8.decode a0 sa).1 : Int) = 95
            · replace h := ite_t h ha6
              replace h := Option.some.inj h
              subst h
              exact ⟨100, 3, [.br true, .no, .br false, .no, .br true, .br true, .br false, .br false, .no], [], [0, 7], [2], round_of (ob := [(((Utf8.decode a0 sa).1 : Int) != 95) = false, (((sa : Nat) : Int) == 0) = false, (!(decide (((Utf8.decode a0 sa).1 : Int) ≤ 90))) = true, (decide (((Utf8.decode a0 sa).1 : Int) ≥ 65)) = true, (decide (((Utf8.decode a0 sa).1 : Int) ≥ 97)) = false, sa < a0.size]) (by kernel_rfl) ⟨(nef ha6), (eqf ha5), (nott (decide_eq_false ha4)), (decide_eq_true ha3), (decide_eq_false ha2), ha1, trivial⟩⟩
            · replace h := ite_f h ha6
              by_cases ha7 : ((Utf8.decode a0 sa).1 : Int) < 48
              · replace h := ite_t h ha7
                replace h := Option.some.inj h
                subst h
                exact ⟨⟨100, 3, [.br true, .no, .br false, .no, .br true, .br true, .br false, .br true, .br true, .no], [], [2], [], round_of (ob := [(decide (((Utf8.decode a0 sa).1 : Int) < 48)) = true, (((Utf8.decode a0 sa).1 : Int) != 95) = true, (((sa : Nat) : Int) == 0) = false, (!(decide (((Utf8.decode a0 sa).1 : Int) ≤ 90))) = true, (decide (((Utf8.decode a0 sa).1 : Int) ≥ 65)) = true, (decide (((Utf8.decode a0 sa).1 : Int) ≥ 97)) = false, sa < a0.size]) (by kernel_rfl) ⟨(decide_eq_true ha7), (net ha6), (eqf ha5), (nott (decide_eq_false ha4)), (decide_eq_true ha3), (decide_eq_false ha2), ha1, trivial⟩⟩, nofun⟩
              · replace h := ite_f h ha7
                by_cases ha8 : ((Utf8.decode a0 sa).1 : Int) > 57
                · replace h := ite_t h ha8
                  replace h := Option.some.inj h
                  subst h
                  exact ⟨⟨100, 3, [.br true, .no, .br false, .no, .br true, .br true, .br false, .br true, .br false, .br true], [], [2], [], round_of (ob := [(decide (((Utf8.decode a0 sa).1 : Int) > 57)) = true, (decide (((Utf8.decode a0 sa).1 : Int) < 48)) = false, (((Utf8.decode a0 sa).1 : Int) != 95) = true, (((sa : Nat) : Int) == 0) = false, (!(decide (((Utf8.decode a0 sa).1 : Int) ≤ 90))) = true, (decide (((Utf8.decode a0 sa).1 : Int) ≥ 65)) = true, (decide (((Utf8.decode a0 sa).1 : Int) ≥ 97)) = false, sa < a0.size]) (by kernel_rfl) ⟨(decide_eq_true ha8), (decide_eq_false ha7), (net ha6), (eqf ha5), (nott (decide_eq_false ha4)), (decide_eq_true ha3), (decide_eq_false ha2), ha1, trivial⟩⟩, nofun⟩
                · replace h := ite_f h ha8
                  replace h := Option.some.inj h
                  subst h
                  exact ⟨100, 3, [.br true, .no, .br false, .no, .br true, .br true, .br false, .br true, .br false, .br false], [], [0, 7], [2], round_of (ob := [(decide (((Utf8.decode a0 sa).1 : Int) > 57)) = false, (decide (((Utf8.decode a0 sa).1 : Int) < 48)) = false, (((Utf8.decode a0 sa).1 : Int) != 95) = true, (((sa : Nat) : Int) == 0) = false, (!(decide (((Utf8.decode a0 sa).1 : Int) ≤ 90))) = true, (decide (((Utf8.decode a0 sa).1 : Int) ≥ 65)) = true, (decide (((Utf8.decode a0 sa).1 : Int) ≥ 97)) = false, sa < a0.size]) (by kernel_rfl) ⟨(decide_eq_false ha8), (decide_eq_false ha7), (net ha6), (eqf ha5), (nott (decide_eq_false ha4)), (decide_eq_true ha3), (decide_eq_false ha2), ha1, trivial⟩⟩
      · replace h := ite_f h ha3
        by_cases ha4 : ((sa : Nat) : Int) = 0
        · replace h := ite_t h ha4
          replace h := Option.some.inj h
          subst h
          exact ⟨⟨100, 3, [.br true, .no, .br false, .no, .br false, .no, .br true, .no], [], [2], [], round_of (ob := [(((sa : Nat) : Int) == 0) = true, (decide (((Utf8.decode a0 sa).1 : Int) ≥ 65)) = false, (decide (((Utf8.decode a0 sa).1 : Int) ≥ 97)) = false, sa < a0.size]) (by kernel_rfl) ⟨(eqt ha4), (decide_eq_false ha3), (decide_eq_false ha2), ha1, trivial⟩⟩, nofun⟩
        · replace h := ite_f h ha4
          by_cases ha5 : ((Utf8.decode a0 sa).1 : Int) = 95
          · replace h := ite_t h ha5
            replace h := Option.some.inj h
            subst h
            exact ⟨100, 3, [.br true, .no, .br false, .no, .br false, .no, .br false, .br false, .no], [], [0, 7], [2], round_of (ob := [(((Utf8.decode a0 sa).1 : Int) != 95) = false, (((sa : Nat) : Int) == 0) = false, (decide (((Utf8.decode a0 sa).1 : Int) ≥ 65)) = false, (decide (((Utf8.decode a0 sa).1 : Int) ≥ 97)) = false, sa < a0.size]) (by kernel_rfl) ⟨(nef ha5), (eqf ha4), (decide_eq_false ha3), (decide_eq_false ha2), ha1, trivial⟩⟩
          · replace h := ite_f h ha5
            by_cases ha6 : ((Utf8.decode a0 sa).1 : Int) < 48
            · replace h := ite_t h ha6
              replace h := Option.some.inj h
              subst h
              exact ⟨⟨100, 3, [.br true, .no, .br false, .no, .br false, .no, .br false, .br true, .br true, .no], [], [2], [], round_of (ob := [(decide (((Utf8.decode a0 sa).1 : Int) < 48)) = true, (((Utf8.decode a0 sa).1 : Int) != 95) = true, (((sa : Nat) : Int) == 0) = false, (decide (((Utf8.decode a0 sa).1 : Int) ≥ 65)) = false, (decide (((Utf8.decode a0 sa).1 : Int) ≥ 97)) = false, sa < a0.size]) (by kernel_rfl) ⟨(decide_eq_true ha6), (net ha5), (eqf ha4), (decide_eq_false ha3), (decide_eq_false ha2), ha1, trivial⟩⟩, nofun⟩
            · replace h := ite_f h ha6
              by_cases ha7 : ((Utf8.decode a0 sa).1 : Int) > 57
              · replace h := ite_t h ha7
                replace h := Option.some.inj h
                subst h
                exact ⟨⟨100, 3, [.br true, .no, .br false, .no, .br false, .no, .br false, .br true, .br false, .br true], [], [2], [], round_of (ob := [(decide (((Utf8.decode a0 sa).1 : Int) > 57)) = true, (decide (((Utf8.decode a0 sa).1 : Int) < 48)) = false, (((Utf8.decode a0 sa).1 : Int) != 95) = true, (((sa : Nat) : Int) == 0) = false, (decide (((Utf8.decode a0 sa).1 : Int) ≥ 65)) = false, (decide (((Utf8.decode a0 sa).1 : Int) ≥ 97)) = false, sa < a0.size]) (by kernel_rfl) ⟨(decide_eq_true ha7), (decide_eq_false ha6), (net ha5), (eqf ha4), (decide_eq_false ha3), (decide_eq_false ha2), ha1, trivial⟩⟩, nofun⟩
              · replace h := ite_f h ha7
                replace h := Option.some.inj h
                subst h
                exact ⟨100, 3, [.br true, .no, .br false, .no, .br false, .no, .br false, .br true, .br false, .br false], [], [0, 7], [2], round_of (ob := [(decide (((Utf8.decode a0 sa).1 : Int) > 57)) = false, (decide (((Utf8.decode a0 sa).1 : Int) < 48)) = false, (((Utf8.decode a0 sa).1 : Int) != 95) = true, (((sa : Nat) : Int) == 0) = false, (decide (((Utf8.decode a0 sa).1 : Int) ≥ 65)) = false, (decide (((Utf8.decode a0 sa).1 : Int) ≥ 97)) = false, sa < a0.size]) (by kernel_rfl) ⟨(decide_eq_false ha7), (decide_eq_false ha6), (net ha5), (eqf ha4), (decide_eq_false ha3), (decide_eq_false ha2), ha1, trivial⟩⟩
  · replace h := ite_f h ha1
    replace h := Option.some.inj h
    subst h
    exact ⟨⟨100, 3, [.br false, .no], [], [0], [], round_of (ob := [¬ sa < a0.size]) (by kernel_rfl) ⟨ha1, trivial⟩⟩, nofun⟩
/- spillage/light.IsName: .v (.string a0) -/
def F_light_IsName (n : Nat) (a0 : ByteArray) : Option (Bool) :=
  (loopF (F_light_IsName_L1 n a0) n 0).bind fun t1 => match t1 with
    | (.inl t1) => (
      some false)
    | (.inr t1) => (
      if (!(a0.toList == (⟨#[]⟩ : ByteArray).toList)) = true then
        some (decide ((a0.size : Int) ≤ 24))
      else
      some false)
theorem c_light_IsName {n : Nat} {a0 : ByteArray} {r : Bool} (h : F_light_IsName n a0 = some r) : Computes cx 91 [.v (.string a0)] (B r) := by
  unfold F_light_IsName at h
  obtain ⟨t1, h1, h⟩ := bnd_of h
  rcases t1 with t1 | t1
  · replace h := Option.some.inj h
    subst h
    exact run (n := 100) (f := 91) (args := [.v (.string a0)]) (orc := [.lp [] [0, 7] [2] .ret [(2, .d (B false))] [] 54]) (r := B false) (ob := [LoopN cx (loopAt cx.P 91 0) 51 0 false [(0, .d (.v (.string a0))), (7, .own 2 0)] [(2, .it a0 0)] .ret [(2, .d (B false))] []]) (by kernel_rfl) ⟨(loopF_to R_light_IsName_L1 h1), trivial⟩
  · by_cases h2 : (!(a0.toList == (⟨#[]⟩ : ByteArray).toList)) = true
    · replace h := ite_t h h2
      replace h := Option.some.inj h
      subst h
      exact run (n := 100) (f := 91) (args := [.v (.string a0)]) (orc := [.lp [] [0, 7] [2] (.exit 0) [(0, .d (.v (.string a0)))] [] 54, .br true]) (r := B (decide ((a0.size : Int) ≤ 24))) (ob := [(!(a0.toList == (⟨#[]⟩ : ByteArray).toList)) = true, LoopN cx (loopAt cx.P 91 0) 51 0 false [(0, .d (.v (.string a0))), (7, .own 2 0)] [(2, .it a0 0)] (.exit 0) [(0, .d (.v (.string a0)))] []]) (by kernel_rfl) ⟨h2, (loopF_to R_light_IsName_L1 h1), trivial⟩
    · replace h := ite_f h h2
      replace h := Option.some.inj h
      subst h
      exact run (n := 100) (f := 91) (args := [.v (.string a0)]) (orc := [.lp [] [0, 7] [2] (.exit 0) [(0, .d (.v (.string a0)))] [] 54, .br false]) (r := B false) (ob := [(!(a0.toList == (⟨#[]⟩ : ByteArray).toList)) = false, LoopN cx (loopAt cx.P 91 0) 51 0 false [(0, .d (.v (.string a0))), (7, .own 2 0)] [(2, .it a0 0)] (.exit 0) [(0, .d (.v (.string a0)))] []]) (by kernel_rfl) ⟨(bfalse h2), (loopF_to R_light_IsName_L1 h1), trivial⟩
end Go.Proofs.YtlakflidecdepaaGreatDoor
