/-
  Printed by gsx.py: functions of the program as Lean functions, and that the code computes them.
-/
import Derived.Test.YtbjibgaknkaifaaGreatDoorGen2
set_option linter.unusedVariables false
set_option linter.unusedSimpArgs false
set_option linter.unnecessarySimpa false
set_option maxRecDepth 10000
namespace Go.Proofs.YtbjibgaknkaifaaGreatDoor
open Go.SX
/- spillage/spillageref04.Meets: .agg [.v (.string a0), I a1, I a2, I a3, I a4, I a5, I a6, I a7, I a8, I a9], I a10, .agg [I a11, I a12, I a13], .agg [I a14, I a15, I a16], B a17 -/
def F_ref04_Meets (n : Nat) (a0 : ByteArray) (a1 : Int) (a2 : Int) (a3 : Int) (a4 : Int) (a5 : Int) (a6 : Int) (a7 : Int) (a8 : Int) (a9 : Int) (a10 : Int) (a11 : Int) (a12 : Int) (a13 : Int) (a14 : Int) (a15 : Int) (a16 : Int) (a17 : Bool) : Option (Bool) :=
  (F_ref04_Normal n a0 a1 a2 a3 a4 a5 a6 a7 a8 a9).bind fun t1 =>
  (F_ref04_Dot n a14 a15 a16 t1.1 t1.2.1 t1.2.2).bind fun t2 =>
  if t2 = 0 then
    some false
  else
  (F_ref04_times n a10 a1 a2 a3).bind fun t4 =>
  (F_ref04_times n (-1) a11 a12 a13).bind fun t5 =>
  (F_ref04_plus n t4.1 t4.2.1 t4.2.2 t5.1 t5.2.1 t5.2.2).bind fun t6 =>
  (F_ref04_Dot n t6.1 t6.2.1 t6.2.2 t1.1 t1.2.1 t1.2.2).bind fun t7 =>
  (F_ref04_Cross n a14 a15 a16 t6.1 t6.2.1 t6.2.2).bind fun t8 =>
  (F_ref04_Dot n t8.1 t8.2.1 t8.2.2 a7 a8 a9).bind fun t9 =>
  if inI64 (0 - t9) then
  (F_ref04_Dot n t8.1 t8.2.1 t8.2.2 a4 a5 a6).bind fun t11 =>
  if t2 < 0 then
    if inI64 (0 - t2) then
    if inI64 (0 - t7) then
    if (0 - t7) > 0 then
      if a17 = true then
        if (0 - t7) < (0 - t2) then
          (F_ref04_abs n (0 - t9)).bind fun t18 =>
          if inI64 (a10 * (0 - t2)) then
          if t18 ≤ (a10 * (0 - t2)) then
            (F_ref04_abs n t11).bind fun t21 =>
            some (decide (t21 ≤ (a10 * (0 - t2))))
          else
          some false
          else none
        else
        some false
      else
      (F_ref04_abs n (0 - t9)).bind fun t17 =>
      if inI64 (a10 * (0 - t2)) then
      if t17 ≤ (a10 * (0 - t2)) then
        (F_ref04_abs n t11).bind fun t20 =>
        some (decide (t20 ≤ (a10 * (0 - t2))))
      else
      some false
      else none
    else
    some false
    else none
    else none
  else
  if t7 > 0 then
    if a17 = true then
      if t7 < t2 then
        (F_ref04_abs n (0 - t9)).bind fun t16 =>
        if inI64 (a10 * t2) then
        if t16 ≤ (a10 * t2) then
          (F_ref04_abs n t11).bind fun t19 =>
          some (decide (t19 ≤ (a10 * t2)))
        else
        some false
        else none
      else
      some false
    else
    (F_ref04_abs n (0 - t9)).bind fun t15 =>
    if inI64 (a10 * t2) then
    if t15 ≤ (a10 * t2) then
      (F_ref04_abs n t11).bind fun t18 =>
      some (decide (t18 ≤ (a10 * t2)))
    else
    some false
    else none
  else
  some false
  else none
theorem c_ref04_Meets {n : Nat} {a0 : ByteArray} {a1 : Int} {a2 : Int} {a3 : Int} {a4 : Int} {a5 : Int} {a6 : Int} {a7 : Int} {a8 : Int} {a9 : Int} {a10 : Int} {a11 : Int} {a12 : Int} {a13 : Int} {a14 : Int} {a15 : Int} {a16 : Int} {a17 : Bool} {r : Bool} (h : F_ref04_Meets n a0 a1 a2 a3 a4 a5 a6 a7 a8 a9 a10 a11 a12 a13 a14 a15 a16 a17 = some r) : Computes cx 23 [.agg [.v (.string a0), I a1, I a2, I a3, I a4, I a5, I a6, I a7, I a8, I a9], I a10, .agg [I a11, I a12, I a13], .agg [I a14, I a15, I a16], B a17] (B r) := by
  unfold F_ref04_Meets at h
  obtain ⟨t1, h1, h⟩ := bnd_of h
  obtain ⟨t2, h2, h⟩ := bnd_of h
  by_cases h3 : t2 = 0
  · replace h := ite_t h h3
    replace h := Option.some.inj h
    subst h
    exact run (n := 100) (f := 23) (args := [.agg [.v (.string a0), I a1, I a2, I a3, I a4, I a5, I a6, I a7, I a8, I a9], I a10, .agg [I a11, I a12, I a13], .agg [I a14, I a15, I a16], B a17]) (orc := [.ret (.agg [I t1.1, I t1.2.1, I t1.2.2]), .ret (I t2), .br true]) (r := B false) (ob := [(t2 == 0) = true, Computes cx 78 [.agg [I a14, I a15, I a16], .agg [I t1.1, I t1.2.1, I t1.2.2]] (I t2), Computes cx 35 [.agg [.v (.string a0), I a1, I a2, I a3, I a4, I a5, I a6, I a7, I a8, I a9]] (.agg [I t1.1, I t1.2.1, I t1.2.2])]) (e_ref04_Meets_0 a0 a1 a2 a3 a4 a5 a6 a7 a8 a9 a10 a11 a12 a13 a14 a15 a16 a17 t1 t2) ⟨(eqt h3), (c_ref04_Dot h2), (c_ref04_Normal h1), trivial⟩
  · replace h := ite_f h h3
    obtain ⟨t4, h4, h⟩ := bnd_of h
    obtain ⟨t5, h5, h⟩ := bnd_of h
    obtain ⟨t6, h6, h⟩ := bnd_of h
    obtain ⟨t7, h7, h⟩ := bnd_of h
    obtain ⟨t8, h8, h⟩ := bnd_of h
    obtain ⟨t9, h9, h⟩ := bnd_of h
    obtain ⟨h10, h⟩ := grd_of h
    obtain ⟨t11, h11, h⟩ := bnd_of h
    by_cases h12 : t2 < 0
    · replace h := ite_t h h12
      obtain ⟨h13, h⟩ := grd_of h
      obtain ⟨h14, h⟩ := grd_of h
      by_cases h15 : (0 - t7) > 0
      · replace h := ite_t h h15
        by_cases h16 : a17 = true
        · replace h := ite_t h h16
          by_cases h17 : (0 - t7) < (0 - t2)
          · replace h := ite_t h h17
            obtain ⟨t18, h18, h⟩ := bnd_of h
            obtain ⟨h19, h⟩ := grd_of h
            by_cases h20 : t18 ≤ (a10 * (0 - t2))
            · replace h := ite_t h h20
              obtain ⟨t21, h21, h⟩ := bnd_of h
              replace h := Option.some.inj h
              subst h
              exact run (n := 100) (f := 23) (args := [.agg [.v (.string a0), I a1, I a2, I a3, I a4, I a5, I a6, I a7, I a8, I a9], I a10, .agg [I a11, I a12, I a13], .agg [I a14, I a15, I a16], B a17]) (orc := [.ret (.agg [I t1.1, I t1.2.1, I t1.2.2]), .ret (I t2), .br false, .ret (.agg [I t4.1, I t4.2.1, I t4.2.2]), .ret (.agg [I t5.1, I t5.2.1, I t5.2.2]), .ret (.agg [I t6.1, I t6.2.1, I t6.2.2]), .ret (.agg [I t1.1, I t1.2.1, I t1.2.2]), .ret (I t7), .ret (.agg [I t8.1, I t8.2.1, I t8.2.2]), .ret (I t9), .ret (.agg [I t8.1, I t8.2.1, I t8.2.2]), .ret (I t11), .br true, .br true, .br false, .br true, .ret (I t18), .br true, .ret (I t21)]) (r := B (decide (t21 ≤ (a10 * (0 - t2))))) (ob := [inI64 (a10 * (0 - t2)), Computes cx 87 [I t11] (I t21), (decide (t18 ≤ (a10 * (0 - t2)))) = true, inI64 (a10 * (0 - t2)), Computes cx 87 [I (0 - t9)] (I t18), (decide ((0 - t7) < (0 - t2))) = true, (!a17) = false, (decide ((0 - t7) > 0)) = true, inI64 (0 - t7), inI64 (0 - t2), (decide (t2 < 0)) = true, Computes cx 78 [.agg [I t8.1, I t8.2.1, I t8.2.2], .agg [I a4, I a5, I a6]] (I t11), Computes cx 77 [.agg [I a14, I a15, I a16], .agg [I t6.1, I t6.2.1, I t6.2.2]] (.agg [I t8.1, I t8.2.1, I t8.2.2]), inI64 (0 - t9), Computes cx 78 [.agg [I t8.1, I t8.2.1, I t8.2.2], .agg [I a7, I a8, I a9]] (I t9), Computes cx 77 [.agg [I a14, I a15, I a16], .agg [I t6.1, I t6.2.1, I t6.2.2]] (.agg [I t8.1, I t8.2.1, I t8.2.2]), Computes cx 78 [.agg [I t6.1, I t6.2.1, I t6.2.2], .agg [I t1.1, I t1.2.1, I t1.2.2]] (I t7), Computes cx 35 [.agg [.v (.string a0), I a1, I a2, I a3, I a4, I a5, I a6, I a7, I a8, I a9]] (.agg [I t1.1, I t1.2.1, I t1.2.2]), Computes cx 85 [.agg [I t4.1, I t4.2.1, I t4.2.2], .agg [I t5.1, I t5.2.1, I t5.2.2]] (.agg [I t6.1, I t6.2.1, I t6.2.2]), Computes cx 86 [I (-1), .agg [I a11, I a12, I a13]] (.agg [I t5.1, I t5.2.1, I t5.2.2]), Computes cx 86 [I a10, .agg [I a1, I a2, I a3]] (.agg [I t4.1, I t4.2.1, I t4.2.2]), (t2 == 0) = false, Computes cx 78 [.agg [I a14, I a15, I a16], .agg [I t1.1, I t1.2.1, I t1.2.2]] (I t2), Computes cx 35 [.agg [.v (.string a0), I a1, I a2, I a3, I a4, I a5, I a6, I a7, I a8, I a9]] (.agg [I t1.1, I t1.2.1, I t1.2.2])]) (e_ref04_Meets_1 a0 a1 a2 a3 a4 a5 a6 a7 a8 a9 a10 a11 a12 a13 a14 a15 a16 a17 t1 t2 t4 t5 t6 t7 t8 t9 t11 t18 t21) ⟨h19, (c_ref04_abs h21), (decide_eq_true h20), h19, (c_ref04_abs h18), (decide_eq_true h17), (notf h16), (decide_eq_true h15), h14, h13, (decide_eq_true h12), (c_ref04_Dot h11), (c_ref04_Cross h8), h10, (c_ref04_Dot h9), (c_ref04_Cross h8), (c_ref04_Dot h7), (c_ref04_Normal h1), (c_ref04_plus h6), (c_ref04_times h5), (c_ref04_times h4), (eqf h3), (c_ref04_Dot h2), (c_ref04_Normal h1), trivial⟩
            · replace h := ite_f h h20
              replace h := Option.some.inj h
              subst h
              exact run (n := 100) (f := 23) (args := [.agg [.v (.string a0), I a1, I a2, I a3, I a4, I a5, I a6, I a7, I a8, I a9], I a10, .agg [I a11, I a12, I a13], .agg [I a14, I a15, I a16], B a17]) (orc := [.ret (.agg [I t1.1, I t1.2.1, I t1.2.2]), .ret (I t2), .br false, .ret (.agg [I t4.1, I t4.2.1, I t4.2.2]), .ret (.agg [I t5.1, I t5.2.1, I t5.2.2]), .ret (.agg [I t6.1, I t6.2.1, I t6.2.2]), .ret (.agg [I t1.1, I t1.2.1, I t1.2.2]), .ret (I t7), .ret (.agg [I t8.1, I t8.2.1, I t8.2.2]), .ret (I t9), .ret (.agg [I t8.1, I t8.2.1, I t8.2.2]), .ret (I t11), .br true, .br true, .br false, .br true, .ret (I t18), .br false]) (r := B false) (ob := [(decide (t18 ≤ (a10 * (0 - t2)))) = false, inI64 (a10 * (0 - t2)), Computes cx 87 [I (0 - t9)] (I t18), (decide ((0 - t7) < (0 - t2))) = true, (!a17) = false, (decide ((0 - t7) > 0)) = true, inI64 (0 - t7), inI64 (0 - t2), (decide (t2 < 0)) = true, Computes cx 78 [.agg [I t8.1, I t8.2.1, I t8.2.2], .agg [I a4, I a5, I a6]] (I t11), Computes cx 77 [.agg [I a14, I a15, I a16], .agg [I t6.1, I t6.2.1, I t6.2.2]] (.agg [I t8.1, I t8.2.1, I t8.2.2]), inI64 (0 - t9), Computes cx 78 [.agg [I t8.1, I t8.2.1, I t8.2.2], .agg [I a7, I a8, I a9]] (I t9), Computes cx 77 [.agg [I a14, I a15, I a16], .agg [I t6.1, I t6.2.1, I t6.2.2]] (.agg [I t8.1, I t8.2.1, I t8.2.2]), Computes cx 78 [.agg [I t6.1, I t6.2.1, I t6.2.2], .agg [I t1.1, I t1.2.1, I t1.2.2]] (I t7), Computes cx 35 [.agg [.v (.string a0), I a1, I a2, I a3, I a4, I a5, I a6, I a7, I a8, I a9]] (.agg [I t1.1, I t1.2.1, I t1.2.2]), Computes cx 85 [.agg [I t4.1, I t4.2.1, I t4.2.2], .agg [I t5.1, I t5.2.1, I t5.2.2]] (.agg [I t6.1, I t6.2.1, I t6.2.2]), Computes cx 86 [I (-1), .agg [I a11, I a12, I a13]] (.agg [I t5.1, I t5.2.1, I t5.2.2]), Computes cx 86 [I a10, .agg [I a1, I a2, I a3]] (.agg [I t4.1, I t4.2.1, I t4.2.2]), (t2 == 0) = false, Computes cx 78 [.agg [I a14, I a15, I a16], .agg [I t1.1, I t1.2.1, I t1.2.2]] (I t2), Computes cx 35 [.agg [.v (.string a0), I a1, I a2, I a3, I a4, I a5, I a6, I a7, I a8, I a9]] (.agg [I t1.1, I t1.2.1, I t1.2.2])]) (e_ref04_Meets_2 a0 a1 a2 a3 a4 a5 a6 a7 a8 a9 a10 a11 a12 a13 a14 a15 a16 a17 t1 t2 t4 t5 t6 t7 t8 t9 t11 t18) ⟨(decide_eq_false h20), h19, (c_ref04_abs h18), (decide_eq_true h17), (notf h16), (decide_eq_true h15), h14, h13, (decide_eq_true h12), (c_ref04_Dot h11), (c_ref04_Cross h8), h10, (c_ref04_Dot h9), (c_ref04_Cross h8), (c_ref04_Dot h7), (c_ref04_Normal h1), (c_ref04_plus h6), (c_ref04_times h5), (c_ref04_times h4), (eqf h3), (c_ref04_Dot h2), (c_ref04_Normal h1), trivial⟩
          · replace h := ite_f h h17
            replace h := Option.some.inj h
            subst h
            exact run (n := 100) (f := 23) (args := [.agg [.v (.string a0), I a1, I a2, I a3, I a4, I a5, I a6, I a7, I a8, I a9], I a10, .agg [I a11, I a12, I a13], .agg [I a14, I a15, I a16], B a17]) (orc := [.ret (.agg [I t1.1, I t1.2.1, I t1.2.2]), .ret (I t2), .br false, .ret (.agg [I t4.1, I t4.2.1, I t4.2.2]), .ret (.agg [I t5.1, I t5.2.1, I t5.2.2]), .ret (.agg [I t6.1, I t6.2.1, I t6.2.2]), .ret (.agg [I t1.1, I t1.2.1, I t1.2.2]), .ret (I t7), .ret (.agg [I t8.1, I t8.2.1, I t8.2.2]), .ret (I t9), .ret (.agg [I t8.1, I t8.2.1, I t8.2.2]), .ret (I t11), .br true, .br true, .br false, .br false, .no]) (r := B false) (ob := [(decide ((0 - t7) < (0 - t2))) = false, (!a17) = false, (decide ((0 - t7) > 0)) = true, inI64 (0 - t7), inI64 (0 - t2), (decide (t2 < 0)) = true, Computes cx 78 [.agg [I t8.1, I t8.2.1, I t8.2.2], .agg [I a4, I a5, I a6]] (I t11), Computes cx 77 [.agg [I a14, I a15, I a16], .agg [I t6.1, I t6.2.1, I t6.2.2]] (.agg [I t8.1, I t8.2.1, I t8.2.2]), inI64 (0 - t9), Computes cx 78 [.agg [I t8.1, I t8.2.1, I t8.2.2], .agg [I a7, I a8, I a9]] (I t9), Computes cx 77 [.agg [I a14, I a15, I a16], .agg [I t6.1, I t6.2.1, I t6.2.2]] (.agg [I t8.1, I t8.2.1, I t8.2.2]), Computes cx 78 [.agg [I t6.1, I t6.2.1, I t6.2.2], .agg [I t1.1, I t1.2.1, I t1.2.2]] (I t7), Computes cx 35 [.agg [.v (.string a0), I a1, I a2, I a3, I a4, I a5, I a6, I a7, I a8, I a9]] (.agg [I t1.1, I t1.2.1, I t1.2.2]), Computes cx 85 [.agg [I t4.1, I t4.2.1, I t4.2.2], .agg [I t5.1, I t5.2.1, I t5.2.2]] (.agg [I t6.1, I t6.2.1, I t6.2.2]), Computes cx 86 [I (-1), .agg [I a11, I a12, I a13]] (.agg [I t5.1, I t5.2.1, I t5.2.2]), Computes cx 86 [I a10, .agg [I a1, I a2, I a3]] (.agg [I t4.1, I t4.2.1, I t4.2.2]), (t2 == 0) = false, Computes cx 78 [.agg [I a14, I a15, I a16], .agg [I t1.1, I t1.2.1, I t1.2.2]] (I t2), Computes cx 35 [.agg [.v (.string a0), I a1, I a2, I a3, I a4, I a5, I a6, I a7, I a8, I a9]] (.agg [I t1.1, I t1.2.1, I t1.2.2])]) (e_ref04_Meets_3 a0 a1 a2 a3 a4 a5 a6 a7 a8 a9 a10 a11 a12 a13 a14 a15 a16 a17 t1 t2 t4 t5 t6 t7 t8 t9 t11) ⟨(decide_eq_false h17), (notf h16), (decide_eq_true h15), h14, h13, (decide_eq_true h12), (c_ref04_Dot h11), (c_ref04_Cross h8), h10, (c_ref04_Dot h9), (c_ref04_Cross h8), (c_ref04_Dot h7), (c_ref04_Normal h1), (c_ref04_plus h6), (c_ref04_times h5), (c_ref04_times h4), (eqf h3), (c_ref04_Dot h2), (c_ref04_Normal h1), trivial⟩
        · replace h := ite_f h h16
          obtain ⟨t17, h17, h⟩ := bnd_of h
          obtain ⟨h18, h⟩ := grd_of h
          by_cases h19 : t17 ≤ (a10 * (0 - t2))
          · replace h := ite_t h h19
            obtain ⟨t20, h20, h⟩ := bnd_of h
            replace h := Option.some.inj h
            subst h
            exact run (n := 100) (f := 23) (args := [.agg [.v (.string a0), I a1, I a2, I a3, I a4, I a5, I a6, I a7, I a8, I a9], I a10, .agg [I a11, I a12, I a13], .agg [I a14, I a15, I a16], B a17]) (orc := [.ret (.agg [I t1.1, I t1.2.1, I t1.2.2]), .ret (I t2), .br false, .ret (.agg [I t4.1, I t4.2.1, I t4.2.2]), .ret (.agg [I t5.1, I t5.2.1, I t5.2.2]), .ret (.agg [I t6.1, I t6.2.1, I t6.2.2]), .ret (.agg [I t1.1, I t1.2.1, I t1.2.2]), .ret (I t7), .ret (.agg [I t8.1, I t8.2.1, I t8.2.2]), .ret (I t9), .ret (.agg [I t8.1, I t8.2.1, I t8.2.2]), .ret (I t11), .br true, .br true, .br true, .no, .ret (I t17), .br true, .ret (I t20)]) (r := B (decide (t20 ≤ (a10 * (0 - t2))))) (ob := [inI64 (a10 * (0 - t2)), Computes cx 87 [I t11] (I t20), (decide (t17 ≤ (a10 * (0 - t2)))) = true, inI64 (a10 * (0 - t2)), Computes cx 87 [I (0 - t9)] (I t17), (!a17) = true, (decide ((0 - t7) > 0)) = true, inI64 (0 - t7), inI64 (0 - t2), (decide (t2 < 0)) = true, Computes cx 78 [.agg [I t8.1, I t8.2.1, I t8.2.2], .agg [I a4, I a5, I a6]] (I t11), Computes cx 77 [.agg [I a14, I a15, I a16], .agg [I t6.1, I t6.2.1, I t6.2.2]] (.agg [I t8.1, I t8.2.1, I t8.2.2]), inI64 (0 - t9), Computes cx 78 [.agg [I t8.1, I t8.2.1, I t8.2.2], .agg [I a7, I a8, I a9]] (I t9), Computes cx 77 [.agg [I a14, I a15, I a16], .agg [I t6.1, I t6.2.1, I t6.2.2]] (.agg [I t8.1, I t8.2.1, I t8.2.2]), Computes cx 78 [.agg [I t6.1, I t6.2.1, I t6.2.2], .agg [I t1.1, I t1.2.1, I t1.2.2]] (I t7), Computes cx 35 [.agg [.v (.string a0), I a1, I a2, I a3, I a4, I a5, I a6, I a7, I a8, I a9]] (.agg [I t1.1, I t1.2.1, I t1.2.2]), Computes cx 85 [.agg [I t4.1, I t4.2.1, I t4.2.2], .agg [I t5.1, I t5.2.1, I t5.2.2]] (.agg [I t6.1, I t6.2.1, I t6.2.2]), Computes cx 86 [I (-1), .agg [I a11, I a12, I a13]] (.agg [I t5.1, I t5.2.1, I t5.2.2]), Computes cx 86 [I a10, .agg [I a1, I a2, I a3]] (.agg [I t4.1, I t4.2.1, I t4.2.2]), (t2 == 0) = false, Computes cx 78 [.agg [I a14, I a15, I a16], .agg [I t1.1, I t1.2.1, I t1.2.2]] (I t2), Computes cx 35 [.agg [.v (.string a0), I a1, I a2, I a3, I a4, I a5, I a6, I a7, I a8, I a9]] (.agg [I t1.1, I t1.2.1, I t1.2.2])]) (e_ref04_Meets_4 a0 a1 a2 a3 a4 a5 a6 a7 a8 a9 a10 a11 a12 a13 a14 a15 a16 a17 t1 t2 t4 t5 t6 t7 t8 t9 t11 t17 t20) ⟨h18, (c_ref04_abs h20), (decide_eq_true h19), h18, (c_ref04_abs h17), (nott (bfalse h16)), (decide_eq_true h15), h14, h13, (decide_eq_true h12), (c_ref04_Dot h11), (c_ref04_Cross h8), h10, (c_ref04_Dot h9), (c_ref04_Cross h8), (c_ref04_Dot h7), (c_ref04_Normal h1), (c_ref04_plus h6), (c_ref04_times h5), (c_ref04_times h4), (eqf h3), (c_ref04_Dot h2), (c_ref04_Normal h1), trivial⟩
          · replace h := ite_f h h19
            replace h := Option.some.inj h
            subst h
            exact run (n := 100) (f := 23) (args := [.agg [.v (.string a0), I a1, I a2, I a3, I a4, I a5, I a6, I a7, I a8, I a9], I a10, .agg [I a11, I a12, I a13], .agg [I a14, I a15, I a16], B a17]) (orc := [.ret (.agg [I t1.1, I t1.2.1, I t1.2.2]), .ret (I t2), .br false, .ret (.agg [I t4.1, I t4.2.1, I t4.2.2]), .ret (.agg [I t5.1, I t5.2.1, I t5.2.2]), .ret (.agg [I t6.1, I t6.2.1, I t6.2.2]), .ret (.agg [I t1.1, I t1.2.1, I t1.2.2]), .ret (I t7), .ret (.agg [I t8.1, I t8.2.1, I t8.2.2]), .ret (I t9), .ret (.agg [I t8.1, I t8.2.1, I t8.2.2]), .ret (I t11), .br true, .br true, .br true, .no, .ret (I t17), .br false]) (r := B false) (ob := [(decide (t17 ≤ (a10 * (0 - t2)))) = false, inI64 (a10 * (0 - t2)), Computes cx 87 [I (0 - t9)] (I t17), (!a17) = true, (decide ((0 - t7) > 0)) = true, inI64 (0 - t7), inI64 (0 - t2), (decide (t2 < 0)) = true, Computes cx 78 [.agg [I t8.1, I t8.2.1, I t8.2.2], .agg [I a4, I a5, I a6]] (I t11), Computes cx 77 [.agg [I a14, I a15, I a16], .agg [I t6.1, I t6.2.1, I t6.2.2]] (.agg [I t8.1, I t8.2.1, I t8.2.2]), inI64 (0 - t9), Computes cx 78 [.agg [I t8.1, I t8.2.1, I t8.2.2], .agg [I a7, I a8, I a9]] (I t9), Computes cx 77 [.agg [I a14, I a15, I a16], .agg [I t6.1, I t6.2.1, I t6.2.2]] (.agg [I t8.1, I t8.2.1, I t8.2.2]), Computes cx 78 [.agg [I t6.1, I t6.2.1, I t6.2.2], .agg [I t1.1, I t1.2.1, I t1.2.2]] (I t7), Computes cx 35 [.agg [.v (.string a0), I a1, I a2, I a3, I a4, I a5, I a6, I a7, I a8, I a9]] (.agg [I t1.1, I t1.2.1, I t1.2.2]), Computes cx 85 [.agg [I t4.1, I t4.2.1, I t4.2.2], .agg [I t5.1, I t5.2.1, I t5.2.2]] (.agg [I t6.1, I t6.2.1, I t6.2.2]), Computes cx 86 [I (-1), .agg [I a11, I a12, I a13]] (.agg [I t5.1, I t5.2.1, I t5.2.2]), Computes cx 86 [I a10, .agg [I a1, I a2, I a3]] (.agg [I t4.1, I t4.2.1, I t4.2.2]), (t2 == 0) = false, Computes cx 78 [.agg [I a14, I a15, I a16], .agg [I t1.1, I t1.2.1, I t1.2.2]] (I t2), Computes cx 35 [.agg [.v (.string a0), I a1, I a2, I a3, I a4, I a5, I a6, I a7, I a8, I a9]] (.agg [I t1.1, I t1.2.1, I t1.2.2])]) (e_ref04_Meets_5 a0 a1 a2 a3 a4 a5 a6 a7 a8 a9 a10 a11 a12 a13 a14 a15 a16 a17 t1 t2 t4 t5 t6 t7 t8 t9 t11 t17) ⟨(decide_eq_false h19), h18, (c_ref04_abs h17), (nott (bfalse h16)), (decide_eq_true h15), h14, h13, (decide_eq_true h12), (c_ref04_Dot h11), (c_ref04_Cross h8), h10, (c_ref04_Dot h9), (c_ref04_Cross h8), (c_ref04_Dot h7), (c_ref04_Normal h1), (c_ref04_plus h6), (c_ref04_times h5), (c_ref04_times h4), (eqf h3), (c_ref04_Dot h2), (c_ref04_Normal h1), trivial⟩
      · replace h := ite_f h h15
        replace h := Option.some.inj h
        subst h
        exact run (n := 100) (f := 23) (args := [.agg [.v (.string a0), I a1, I a2, I a3, I a4, I a5, I a6, I a7, I a8, I a9], I a10, .agg [I a11, I a12, I a13], .agg [I a14, I a15, I a16], B a17]) (orc := [.ret (.agg [I t1.1, I t1.2.1, I t1.2.2]), .ret (I t2), .br false, .ret (.agg [I t4.1, I t4.2.1, I t4.2.2]), .ret (.agg [I t5.1, I t5.2.1, I t5.2.2]), .ret (.agg [I t6.1, I t6.2.1, I t6.2.2]), .ret (.agg [I t1.1, I t1.2.1, I t1.2.2]), .ret (I t7), .ret (.agg [I t8.1, I t8.2.1, I t8.2.2]), .ret (I t9), .ret (.agg [I t8.1, I t8.2.1, I t8.2.2]), .ret (I t11), .br true, .br false, .no, .no]) (r := B false) (ob := [(decide ((0 - t7) > 0)) = false, inI64 (0 - t7), inI64 (0 - t2), (decide (t2 < 0)) = true, Computes cx 78 [.agg [I t8.1, I t8.2.1, I t8.2.2], .agg [I a4, I a5, I a6]] (I t11), Computes cx 77 [.agg [I a14, I a15, I a16], .agg [I t6.1, I t6.2.1, I t6.2.2]] (.agg [I t8.1, I t8.2.1, I t8.2.2]), inI64 (0 - t9), Computes cx 78 [.agg [I t8.1, I t8.2.1, I t8.2.2], .agg [I a7, I a8, I a9]] (I t9), Computes cx 77 [.agg [I a14, I a15, I a16], .agg [I t6.1, I t6.2.1, I t6.2.2]] (.agg [I t8.1, I t8.2.1, I t8.2.2]), Computes cx 78 [.agg [I t6.1, I t6.2.1, I t6.2.2], .agg [I t1.1, I t1.2.1, I t1.2.2]] (I t7), Computes cx 35 [.agg [.v (.string a0), I a1, I a2, I a3, I a4, I a5, I a6, I a7, I a8, I a9]] (.agg [I t1.1, I t1.2.1, I t1.2.2]), Computes cx 85 [.agg [I t4.1, I t4.2.1, I t4.2.2], .agg [I t5.1, I t5.2.1, I t5.2.2]] (.agg [I t6.1, I t6.2.1, I t6.2.2]), Computes cx 86 [I (-1), .agg [I a11, I a12, I a13]] (.agg [I t5.1, I t5.2.1, I t5.2.2]), Computes cx 86 [I a10, .agg [I a1, I a2, I a3]] (.agg [I t4.1, I t4.2.1, I t4.2.2]), (t2 == 0) = false, Computes cx 78 [.agg [I a14, I a15, I a16], .agg [I t1.1, I t1.2.1, I t1.2.2]] (I t2), Computes cx 35 [.agg [.v (.string a0), I a1, I a2, I a3, I a4, I a5, I a6, I a7, I a8, I a9]] (.agg [I t1.1, I t1.2.1, I t1.2.2])]) (e_ref04_Meets_6 a0 a1 a2 a3 a4 a5 a6 a7 a8 a9 a10 a11 a12 a13 a14 a15 a16 a17 t1 t2 t4 t5 t6 t7 t8 t9 t11) ⟨(decide_eq_false h15), h14, h13, (decide_eq_true h12), (c_ref04_Dot h11), (c_ref04_Cross h8), h10, (c_ref04_Dot h9), (c_ref04_Cross h8), (c_ref04_Dot h7), (c_ref04_Normal h1), (c_ref04_plus h6), (c_ref04_times h5), (c_ref04_times h4), (eqf h3), (c_ref04_Dot h2), (c_ref04_Normal h1), trivial⟩
    · replace h := ite_f h h12
      by_cases h13 : t7 > 0
      · replace h := ite_t h h13
        by_cases h14 : a17 = true
        · replace h := ite_t h h14
          by_cases h15 : t7 < t2
          · replace h := ite_t h h15
            obtain ⟨t16, h16, h⟩ := bnd_of h
            obtain ⟨h17, h⟩ := grd_of h
            by_cases h18 : t16 ≤ (a10 * t2)
            · replace h := ite_t h h18
              obtain ⟨t19, h19, h⟩ := bnd_of h
              replace h := Option.some.inj h
              subst h
              exact run (n := 100) (f := 23) (args := [.agg [.v (.string a0), I a1, I a2, I a3, I a4, I a5, I a6, I a7, I a8, I a9], I a10, .agg [I a11, I a12, I a13], .agg [I a14, I a15, I a16], B a17]) (orc := [.ret (.agg [I t1.1, I t1.2.1, I t1.2.2]), .ret (I t2), .br false, .ret (.agg [I t4.1, I t4.2.1, I t4.2.2]), .ret (.agg [I t5.1, I t5.2.1, I t5.2.2]), .ret (.agg [I t6.1, I t6.2.1, I t6.2.2]), .ret (.agg [I t1.1, I t1.2.1, I t1.2.2]), .ret (I t7), .ret (.agg [I t8.1, I t8.2.1, I t8.2.2]), .ret (I t9), .ret (.agg [I t8.1, I t8.2.1, I t8.2.2]), .ret (I t11), .br false, .br true, .br false, .br true, .ret (I t16), .br true, .ret (I t19)]) (r := B (decide (t19 ≤ (a10 * t2)))) (ob := [inI64 (a10 * t2), Computes cx 87 [I t11] (I t19), (decide (t16 ≤ (a10 * t2))) = true, inI64 (a10 * t2), Computes cx 87 [I (0 - t9)] (I t16), (decide (t7 < t2)) = true, (!a17) = false, (decide (t7 > 0)) = true, (decide (t2 < 0)) = false, Computes cx 78 [.agg [I t8.1, I t8.2.1, I t8.2.2], .agg [I a4, I a5, I a6]] (I t11), Computes cx 77 [.agg [I a14, I a15, I a16], .agg [I t6.1, I t6.2.1, I t6.2.2]] (.agg [I t8.1, I t8.2.1, I t8.2.2]), inI64 (0 - t9), Computes cx 78 [.agg [I t8.1, I t8.2.1, I t8.2.2], .agg [I a7, I a8, I a9]] (I t9), Computes cx 77 [.agg [I a14, I a15, I a16], .agg [I t6.1, I t6.2.1, I t6.2.2]] (.agg [I t8.1, I t8.2.1, I t8.2.2]), Computes cx 78 [.agg [I t6.1, I t6.2.1, I t6.2.2], .agg [I t1.1, I t1.2.1, I t1.2.2]] (I t7), Computes cx 35 [.agg [.v (.string a0), I a1, I a2, I a3, I a4, I a5, I a6, I a7, I a8, I a9]] (.agg [I t1.1, I t1.2.1, I t1.2.2]), Computes cx 85 [.agg [I t4.1, I t4.2.1, I t4.2.2], .agg [I t5.1, I t5.2.1, I t5.2.2]] (.agg [I t6.1, I t6.2.1, I t6.2.2]), Computes cx 86 [I (-1), .agg [I a11, I a12, I a13]] (.agg [I t5.1, I t5.2.1, I t5.2.2]), Computes cx 86 [I a10, .agg [I a1, I a2, I a3]] (.agg [I t4.1, I t4.2.1, I t4.2.2]), (t2 == 0) = false, Computes cx 78 [.agg [I a14, I a15, I a16], .agg [I t1.1, I t1.2.1, I t1.2.2]] (I t2), Computes cx 35 [.agg [.v (.string a0), I a1, I a2, I a3, I a4, I a5, I a6, I a7, I a8, I a9]] (.agg [I t1.1, I t1.2.1, I t1.2.2])]) (e_ref04_Meets_7 a0 a1 a2 a3 a4 a5 a6 a7 a8 a9 a10 a11 a12 a13 a14 a15 a16 a17 t1 t2 t4 t5 t6 t7 t8 t9 t11 t16 t19) ⟨h17, (c_ref04_abs h19), (decide_eq_true h18), h17, (c_ref04_abs h16), (decide_eq_true h15), (notf h14), (decide_eq_true h13), (decide_eq_false h12), (c_ref04_Dot h11), (c_ref04_Cross h8), h10, (c_ref04_Dot h9), (c_ref04_Cross h8), (c_ref04_Dot h7), (c_ref04_Normal h1), (c_ref04_plus h6), (c_ref04_times h5), (c_ref04_times h4), (eqf h3), (c_ref04_Dot h2), (c_ref04_Normal h1), trivial⟩
            · replace h := ite_f h h18
              replace h := Option.some.inj h
              subst h
              exact run (n := 100) (f := 23) (args := [.agg [.v (.string a0), I a1, I a2, I a3, I a4, I a5, I a6, I a7, I a8, I a9], I a10, .agg [I a11, I a12, I a13], .agg [I a14, I a15, I a16], B a17]) (orc := [.ret (.agg [I t1.1, I t1.2.1, I t1.2.2]), .ret (I t2), .br false, .ret (.agg [I t4.1, I t4.2.1, I t4.2.2]), .ret (.agg [I t5.1, I t5.2.1, I t5.2.2]), .ret (.agg [I t6.1, I t6.2.1, I t6.2.2]), .ret (.agg [I t1.1, I t1.2.1, I t1.2.2]), .ret (I t7), .ret (.agg [I t8.1, I t8.2.1, I t8.2.2]), .ret (I t9), .ret (.agg [I t8.1, I t8.2.1, I t8.2.2]), .ret (I t11), .br false, .br true, .br false, .br true, .ret (I t16), .br false]) (r := B false) (ob := [(decide (t16 ≤ (a10 * t2))) = false, inI64 (a10 * t2), Computes cx 87 [I (0 - t9)] (I t16), (decide (t7 < t2)) = true, (!a17) = false, (decide (t7 > 0)) = true, (decide (t2 < 0)) = false, Computes cx 78 [.agg [I t8.1, I t8.2.1, I t8.2.2], .agg [I a4, I a5, I a6]] (I t11), Computes cx 77 [.agg [I a14, I a15, I a16], .agg [I t6.1, I t6.2.1, I t6.2.2]] (.agg [I t8.1, I t8.2.1, I t8.2.2]), inI64 (0 - t9), Computes cx 78 [.agg [I t8.1, I t8.2.1, I t8.2.2], .agg [I a7, I a8, I a9]] (I t9), Computes cx 77 [.agg [I a14, I a15, I a16], .agg [I t6.1, I t6.2.1, I t6.2.2]] (.agg [I t8.1, I t8.2.1, I t8.2.2]), Computes cx 78 [.agg [I t6.1, I t6.2.1, I t6.2.2], .agg [I t1.1, I t1.2.1, I t1.2.2]] (I t7), Computes cx 35 [.agg [.v (.string a0), I a1, I a2, I a3, I a4, I a5, I a6, I a7, I a8, I a9]] (.agg [I t1.1, I t1.2.1, I t1.2.2]), Computes cx 85 [.agg [I t4.1, I t4.2.1, I t4.2.2], .agg [I t5.1, I t5.2.1, I t5.2.2]] (.agg [I t6.1, I t6.2.1, I t6.2.2]), Computes cx 86 [I (-1), .agg [I a11, I a12, I a13]] (.agg [I t5.1, I t5.2.1, I t5.2.2]), Computes cx 86 [I a10, .agg [I a1, I a2, I a3]] (.agg [I t4.1, I t4.2.1, I t4.2.2]), (t2 == 0) = false, Computes cx 78 [.agg [I a14, I a15, I a16], .agg [I t1.1, I t1.2.1, I t1.2.2]] (I t2), Computes cx 35 [.agg [.v (.string a0), I a1, I a2, I a3, I a4, I a5, I a6, I a7, I a8, I a9]] (.agg [I t1.1, I t1.2.1, I t1.2.2])]) (e_ref04_Meets_8 a0 a1 a2 a3 a4 a5 a6 a7 a8 a9 a10 a11 a12 a13 a14 a15 a16 a17 t1 t2 t4 t5 t6 t7 t8 t9 t11 t16) ⟨(decide_eq_false h18), h17, (c_ref04_abs h16), (decide_eq_true h15), (notf h14), (decide_eq_true h13), (decide_eq_false h12), (c_ref04_Dot h11), (c_ref04_Cross h8), h10, (c_ref04_Dot h9), (c_ref04_Cross h8), (c_ref04_Dot h7), (c_ref04_Normal h1), (c_ref04_plus h6), (c_ref04_times h5), (c_ref04_times h4), (eqf h3), (c_ref04_Dot h2), (c_ref04_Normal h1), trivial⟩
          · replace h := ite_f h h15
            replace h := Option.some.inj h
            subst h
            exact run (n := 100) (f := 23) (args := [.agg [.v (.string a0), I a1, I a2, I a3, I a4, I a5, I a6, I a7, I a8, I a9], I a10, .agg [I a11, I a12, I a13], .agg [I a14, I a15, I a16], B a17]) (orc := [.ret (.agg [I t1.1, I t1.2.1, I t1.2.2]), .ret (I t2), .br false, .ret (.agg [I t4.1, I t4.2.1, I t4.2.2]), .ret (.agg [I t5.1, I t5.2.1, I t5.2.2]), .ret (.agg [I t6.1, I t6.2.1, I t6.2.2]), .ret (.agg [I t1.1, I t1.2.1, I t1.2.2]), .ret (I t7), .ret (.agg [I t8.1, I t8.2.1, I t8.2.2]), .ret (I t9), .ret (.agg [I t8.1, I t8.2.1, I t8.2.2]), .ret (I t11), .br false, .br true, .br false, .br false, .no]) (r := B false) (ob := [(decide (t7 < t2)) = false, (!a17) = false, (decide (t7 > 0)) = true, (decide (t2 < 0)) = false, Computes cx 78 [.agg [I t8.1, I t8.2.1, I t8.2.2], .agg [I a4, I a5, I a6]] (I t11), Computes cx 77 [.agg [I a14, I a15, I a16], .agg [I t6.1, I t6.2.1, I t6.2.2]] (.agg [I t8.1, I t8.2.1, I t8.2.2]), inI64 (0 - t9), Computes cx 78 [.agg [I t8.1, I t8.2.1, I t8.2.2], .agg [I a7, I a8, I a9]] (I t9), Computes cx 77 [.agg [I a14, I a15, I a16], .agg [I t6.1, I t6.2.1, I t6.2.2]] (.agg [I t8.1, I t8.2.1, I t8.2.2]), Computes cx 78 [.agg [I t6.1, I t6.2.1, I t6.2.2], .agg [I t1.1, I t1.2.1, I t1.2.2]] (I t7), Computes cx 35 [.agg [.v (.string a0), I a1, I a2, I a3, I a4, I a5, I a6, I a7, I a8, I a9]] (.agg [I t1.1, I t1.2.1, I t1.2.2]), Computes cx 85 [.agg [I t4.1, I t4.2.1, I t4.2.2], .agg [I t5.1, I t5.2.1, I t5.2.2]] (.agg [I t6.1, I t6.2.1, I t6.2.2]), Computes cx 86 [I (-1), .agg [I a11, I a12, I a13]] (.agg [I t5.1, I t5.2.1, I t5.2.2]), Computes cx 86 [I a10, .agg [I a1, I a2, I a3]] (.agg [I t4.1, I t4.2.1, I t4.2.2]), (t2 == 0) = false, Computes cx 78 [.agg [I a14, I a15, I a16], .agg [I t1.1, I t1.2.1, I t1.2.2]] (I t2), Computes cx 35 [.agg [.v (.string a0), I a1, I a2, I a3, I a4, I a5, I a6, I a7, I a8, I a9]] (.agg [I t1.1, I t1.2.1, I t1.2.2])]) (e_ref04_Meets_9 a0 a1 a2 a3 a4 a5 a6 a7 a8 a9 a10 a11 a12 a13 a14 a15 a16 a17 t1 t2 t4 t5 t6 t7 t8 t9 t11) ⟨(decide_eq_false h15), (notf h14), (decide_eq_true h13), (decide_eq_false h12), (c_ref04_Dot h11), (c_ref04_Cross h8), h10, (c_ref04_Dot h9), (c_ref04_Cross h8), (c_ref04_Dot h7), (c_ref04_Normal h1), (c_ref04_plus h6), (c_ref04_times h5), (c_ref04_times h4), (eqf h3), (c_ref04_Dot h2), (c_ref04_Normal h1), trivial⟩
        · replace h := ite_f h h14
          obtain ⟨t15, h15, h⟩ := bnd_of h
          obtain ⟨h16, h⟩ := grd_of h
          by_cases h17 : t15 ≤ (a10 * t2)
          · replace h := ite_t h h17
            obtain ⟨t18, h18, h⟩ := bnd_of h
            replace h := Option.some.inj h
            subst h
            exact run (n := 100) (f := 23) (args := [.agg [.v (.string a0), I a1, I a2, I a3, I a4, I a5, I a6, I a7, I a8, I a9], I a10, .agg [I a11, I a12, I a13], .agg [I a14, I a15, I a16], B a17]) (orc := [.ret (.agg [I t1.1, I t1.2.1, I t1.2.2]), .ret (I t2), .br false, .ret (.agg [I t4.1, I t4.2.1, I t4.2.2]), .ret (.agg [I t5.1, I t5.2.1, I t5.2.2]), .ret (.agg [I t6.1, I t6.2.1, I t6.2.2]), .ret (.agg [I t1.1, I t1.2.1, I t1.2.2]), .ret (I t7), .ret (.agg [I t8.1, I t8.2.1, I t8.2.2]), .ret (I t9), .ret (.agg [I t8.1, I t8.2.1, I t8.2.2]), .ret (I t11), .br false, .br true, .br true, .no, .ret (I t15), .br true, .ret (I t18)]) (r := B (decide (t18 ≤ (a10 * t2)))) (ob := [inI64 (a10 * t2), Computes cx 87 [I t11] (I t18), (decide (t15 ≤ (a10 * t2))) = true, inI64 (a10 * t2), Computes cx 87 [I (0 - t9)] (I t15), (!a17) = true, (decide (t7 > 0)) = true, (decide (t2 < 0)) = false, Computes cx 78 [.agg [I t8.1, I t8.2.1, I t8.2.2], .agg [I a4, I a5, I a6]] (I t11), Computes cx 77 [.agg [I a14, I a15, I a16], .agg [I t6.1, I t6.2.1, I t6.2.2]] (.agg [I t8.1, I t8.2.1, I t8.2.2]), inI64 (0 - t9), Computes cx 78 [.agg [I t8.1, I t8.2.1, I t8.2.2], .agg [I a7, I a8, I a9]] (I t9), Computes cx 77 [.agg [I a14, I a15, I a16], .agg [I t6.1, I t6.2.1, I t6.2.2]] (.agg [I t8.1, I t8.2.1, I t8.2.2]), Computes cx 78 [.agg [I t6.1, I t6.2.1, I t6.2.2], .agg [I t1.1, I t1.2.1, I t1.2.2]] (I t7), Computes cx 35 [.agg [.v (.string a0), I a1, I a2, I a3, I a4, I a5, I a6, I a7, I a8, I a9]] (.agg [I t1.1, I t1.2.1, I t1.2.2]), Computes cx 85 [.agg [I t4.1, I t4.2.1, I t4.2.2], .agg [I t5.1, I t5.2.1, I t5.2.2]] (.agg [I t6.1, I t6.2.1, I t6.2.2]), Computes cx 86 [I (-1), .agg [I a11, I a12, I a13]] (.agg [I t5.1, I t5.2.1, I t5.2.2]), Computes cx 86 [I a10, .agg [I a1, I a2, I a3]] (.agg [I t4.1, I t4.2.1, I t4.2.2]), (t2 == 0) = false, Computes cx 78 [.agg [I a14, I a15, I a16], .agg [I t1.1, I t1.2.1, I t1.2.2]] (I t2), Computes cx 35 [.agg [.v (.string a0), I a1, I a2, I a3, I a4, I a5, I a6, I a7, I a8, I a9]] (.agg [I t1.1, I t1.2.1, I t1.2.2])]) (e_ref04_Meets_10 a0 a1 a2 a3 a4 a5 a6 a7 a8 a9 a10 a11 a12 a13 a14 a15 a16 a17 t1 t2 t4 t5 t6 t7 t8 t9 t11 t15 t18) ⟨h16, (c_ref04_abs h18), (decide_eq_true h17), h16, (c_ref04_abs h15), (nott (bfalse h14)), (decide_eq_true h13), (decide_eq_false h12), (c_ref04_Dot h11), (c_ref04_Cross h8), h10, (c_ref04_Dot h9), (c_ref04_Cross h8), (c_ref04_Dot h7), (c_ref04_Normal h1), (c_ref04_plus h6), (c_ref04_times h5), (c_ref04_times h4), (eqf h3), (c_ref04_Dot h2), (c_ref04_Normal h1), trivial⟩
          · replace h := ite_f h h17
            replace h := Option.some.inj h
            subst h
            exact run (n := 100) (f := 23) (args := [.agg [.v (.string a0), I a1, I a2, I a3, I a4, I a5, I a6, I a7, I a8, I a9], I a10, .agg [I a11, I a12, I a13], .agg [I a14, I a15, I a16], B a17]) (orc := [.ret (.agg [I t1.1, I t1.2.1, I t1.2.2]), .ret (I t2), .br false, .ret (.agg [I t4.1, I t4.2.1, I t4.2.2]), .ret (.agg [I t5.1, I t5.2.1, I t5.2.2]), .ret (.agg [I t6.1, I t6.2.1, I t6.2.2]), .ret (.agg [I t1.1, I t1.2.1, I t1.2.2]), .ret (I t7), .ret (.agg [I t8.1, I t8.2.1, I t8.2.2]), .ret (I t9), .ret (.agg [I t8.1, I t8.2.1, I t8.2.2]), .ret (I t11), .br false, .br true, .br true, .no, .ret (I t15), .br false]) (r := B false) (ob := [(decide (t15 ≤ (a10 * t2))) = false, inI64 (a10 * t2), Computes cx 87 [I (0 - t9)] (I t15), (!a17) = true, (decide (t7 > 0)) = true, (decide (t2 < 0)) = false, Computes cx 78 [.agg [I t8.1, I t8.2.1, I t8.2.2], .agg [I a4, I a5, I a6]] (I t11), Computes cx 77 [.agg [I a14, I a15, I a16], .agg [I t6.1, I t6.2.1, I t6.2.2]] (.agg [I t8.1, I t8.2.1, I t8.2.2]), inI64 (0 - t9), Computes cx 78 [.agg [I t8.1, I t8.2.1, I t8.2.2], .agg [I a7, I a8, I a9]] (I t9), Computes cx 77 [.agg [I a14, I a15, I a16], .agg [I t6.1, I t6.2.1, I t6.2.2]] (.agg [I t8.1, I t8.2.1, I t8.2.2]), Computes cx 78 [.agg [I t6.1, I t6.2.1, I t6.2.2], .agg [I t1.1, I t1.2.1, I t1.2.2]] (I t7), Computes cx 35 [.agg [.v (.string a0), I a1, I a2, I a3, I a4, I a5, I a6, I a7, I a8, I a9]] (.agg [I t1.1, I t1.2.1, I t1.2.2]), Computes cx 85 [.agg [I t4.1, I t4.2.1, I t4.2.2], .agg [I t5.1, I t5.2.1, I t5.2.2]] (.agg [I t6.1, I t6.2.1, I t6.2.2]), Computes cx 86 [I (-1), .agg [I a11, I a12, I a13]] (.agg [I t5.1, I t5.2.1, I t5.2.2]), Computes cx 86 [I a10, .agg [I a1, I a2, I a3]] (.agg [I t4.1, I t4.2.1, I t4.2.2]), (t2 == 0) = false, Computes cx 78 [.agg [I a14, I a15, I a16], .agg [I t1.1, I t1.2.1, I t1.2.2]] (I t2), Computes cx 35 [.agg [.v (.string a0), I a1, I a2, I a3, I a4, I a5, I a6, I a7, I a8, I a9]] (.agg [I t1.1, I t1.2.1, I t1.2.2])]) (e_ref04_Meets_11 a0 a1 a2 a3 a4 a5 a6 a7 a8 a9 a10 a11 a12 a13 a14 a15 a16 a17 t1 t2 t4 t5 t6 t7 t8 t9 t11 t15) ⟨(decide_eq_false h17), h16, (c_ref04_abs h15), (nott (bfalse h14)), (decide_eq_true h13), (decide_eq_false h12), (c_ref04_Dot h11), (c_ref04_Cross h8), h10, (c_ref04_Dot h9), (c_ref04_Cross h8), (c_ref04_Dot h7), (c_ref04_Normal h1), (c_ref04_plus h6), (c_ref04_times h5), (c_ref04_times h4), (eqf h3), (c_ref04_Dot h2), (c_ref04_Normal h1), trivial⟩
      · replace h := ite_f h h13
        replace h := Option.some.inj h
        subst h
        exact run (n := 100) (f := 23) (args := [.agg [.v (.string a0), I a1, I a2, I a3, I a4, I a5, I a6, I a7, I a8, I a9], I a10, .agg [I a11, I a12, I a13], .agg [I a14, I a15, I a16], B a17]) (orc := [.ret (.agg [I t1.1, I t1.2.1, I t1.2.2]), .ret (I t2), .br false, .ret (.agg [I t4.1, I t4.2.1, I t4.2.2]), .ret (.agg [I t5.1, I t5.2.1, I t5.2.2]), .ret (.agg [I t6.1, I t6.2.1, I t6.2.2]), .ret (.agg [I t1.1, I t1.2.1, I t1.2.2]), .ret (I t7), .ret (.agg [I t8.1, I t8.2.1, I t8.2.2]), .ret (I t9), .ret (.agg [I t8.1, I t8.2.1, I t8.2.2]), .ret (I t11), .br false, .br false, .no, .no]) (r := B false) (ob := [(decide (t7 > 0)) = false, (decide (t2 < 0)) = false, Computes cx 78 [.agg [I t8.1, I t8.2.1, I t8.2.2], .agg [I a4, I a5, I a6]] (I t11), Computes cx 77 [.agg [I a14, I a15, I a16], .agg [I t6.1, I t6.2.1, I t6.2.2]] (.agg [I t8.1, I t8.2.1, I t8.2.2]), inI64 (0 - t9), Computes cx 78 [.agg [I t8.1, I t8.2.1, I t8.2.2], .agg [I a7, I a8, I a9]] (I t9), Computes cx 77 [.agg [I a14, I a15, I a16], .agg [I t6.1, I t6.2.1, I t6.2.2]] (.agg [I t8.1, I t8.2.1, I t8.2.2]), Computes cx 78 [.agg [I t6.1, I t6.2.1, I t6.2.2], .agg [I t1.1, I t1.2.1, I t1.2.2]] (I t7), Computes cx 35 [.agg [.v (.string a0), I a1, I a2, I a3, I a4, I a5, I a6, I a7, I a8, I a9]] (.agg [I t1.1, I t1.2.1, I t1.2.2]), Computes cx 85 [.agg [I t4.1, I t4.2.1, I t4.2.2], .agg [I t5.1, I t5.2.1, I t5.2.2]] (.agg [I t6.1, I t6.2.1, I t6.2.2]), Computes cx 86 [I (-1), .agg [I a11, I a12, I a13]] (.agg [I t5.1, I t5.2.1, I t5.2.2]), Computes cx 86 [I a10, .agg [I a1, I a2, I a3]] (.agg [I t4.1, I t4.2.1, I t4.2.2]), (t2 == 0) = false, Computes cx 78 [.agg [I a14, I a15, I a16], .agg [I t1.1, I t1.2.1, I t1.2.2]] (I t2), Computes cx 35 [.agg [.v (.string a0), I a1, I a2, I a3, I a4, I a5, I a6, I a7, I a8, I a9]] (.agg [I t1.1, I t1.2.1, I t1.2.2])]) (e_ref04_Meets_12 a0 a1 a2 a3 a4 a5 a6 a7 a8 a9 a10 a11 a12 a13 a14 a15 a16 a17 t1 t2 t4 t5 t6 t7 t8 t9 t11) ⟨(decide_eq_false h13), (decide_eq_false h12), (c_ref04_Dot h11), (c_ref04_Cross h8), h10, (c_ref04_Dot h9), (c_ref04_Cross h8), (c_ref04_Dot h7), (c_ref04_Normal h1), (c_ref04_plus h6), (c_ref04_times h5), (c_ref04_times h4), (eqf h3), (c_ref04_Dot h2), (c_ref04_Normal h1), trivial⟩
def enc_Ai3Z (x : Int × Int × Int) : D := .agg [I x.1, I x.2.1, I x.2.2]
def un_Ai3Z : D → Option (Int × Int × Int)
  | .agg [c0, c1, c2] => (un_int .i64 c0).bind fun y0 => (un_int .i64 c1).bind fun y1 => (un_int .i64 c2).bind fun y2 => some (y0, y1, y2)
  | _ => none
theorem un_Ai3Z_ok {d : D} {x : Int × Int × Int} (h : un_Ai3Z d = some x) : d = enc_Ai3Z x := by
  unfold un_Ai3Z at h
  split at h
  case h_2 => cases h
  obtain ⟨y0, h0, h⟩ := bnd_of h
  obtain ⟨y1, h1, h⟩ := bnd_of h
  obtain ⟨y2, h2, h⟩ := bnd_of h
  cases h
  have e0 := un_int_ok h0
  have e1 := un_int_ok h1
  have e2 := un_int_ok h2
  rw [e0, e1, e2]; rfl
def enc_Asi9Z (x : ByteArray × Int × Int × Int × Int × Int × Int × Int × Int × Int) : D := .agg [.v (.string x.1), I x.2.1, I x.2.2.1, I x.2.2.2.1, I x.2.2.2.2.1, I x.2.2.2.2.2.1, I x.2.2.2.2.2.2.1, I x.2.2.2.2.2.2.2.1, I x.2.2.2.2.2.2.2.2.1, I x.2.2.2.2.2.2.2.2.2]
def un_Asi9Z : D → Option (ByteArray × Int × Int × Int × Int × Int × Int × Int × Int × Int)
  | .agg [c0, c1, c2, c3, c4, c5, c6, c7, c8, c9] => (un_str c0).bind fun y0 => (un_int .i64 c1).bind fun y1 => (un_int .i64 c2).bind fun y2 => (un_int .i64 c3).bind fun y3 => (un_int .i64 c4).bind fun y4 => (un_int .i64 c5).bind fun y5 => (un_int .i64 c6).bind fun y6 => (un_int .i64 c7).bind fun y7 => (un_int .i64 c8).bind fun y8 => (un_int .i64 c9).bind fun y9 => some (y0, y1, y2, y3, y4, y5, y6, y7, y8, y9)
  | _ => none
theorem un_Asi9Z_ok {d : D} {x : ByteArray × Int × Int × Int × Int × Int × Int × Int × Int × Int} (h : un_Asi9Z d = some x) : d = enc_Asi9Z x := by
  unfold un_Asi9Z at h
  split at h
  case h_2 => cases h
  obtain ⟨y0, h0, h⟩ := bnd_of h
  obtain ⟨y1, h1, h⟩ := bnd_of h
  obtain ⟨y2, h2, h⟩ := bnd_of h
  obtain ⟨y3, h3, h⟩ := bnd_of h
  obtain ⟨y4, h4, h⟩ := bnd_of h
  obtain ⟨y5, h5, h⟩ := bnd_of h
  obtain ⟨y6, h6, h⟩ := bnd_of h
  obtain ⟨y7, h7, h⟩ := bnd_of h
  obtain ⟨y8, h8, h⟩ := bnd_of h
  obtain ⟨y9, h9, h⟩ := bnd_of h
  cases h
  have e0 := un_str_ok h0
  have e1 := un_int_ok h1
  have e2 := un_int_ok h2
  have e3 := un_int_ok h3
  have e4 := un_int_ok h4
  have e5 := un_int_ok h5
  have e6 := un_int_ok h6
  have e7 := un_int_ok h7
  have e8 := un_int_ok h8
  have e9 := un_int_ok h9
  rw [e0, e1, e2, e3, e4, e5, e6, e7, e8, e9]; rfl
def F_ref04_Short_L1 (n : Nat) (a0 : List D) (sa : (Int)) : Option (((Int)) ⊕ ((Unit) ⊕ (Unit))) :=
  if sa < ((a0).length : Int) then
    (el un_Asi9Z a0 sa).bind fun ta2 =>
    (F_ref04_ShortMirror n ta2.1 ta2.2.1 ta2.2.2.1 ta2.2.2.2.1 ta2.2.2.2.2.1 ta2.2.2.2.2.2.1 ta2.2.2.2.2.2.2.1 ta2.2.2.2.2.2.2.2.1 ta2.2.2.2.2.2.2.2.2.1 ta2.2.2.2.2.2.2.2.2.2).bind fun ta3 =>
    if ta3 = true then
      if inI64 (sa + 1) then
      some (.inl (sa + 1))
      else none
    else
    some (.inr (.inl ()))
  else
  some (.inr (.inr ()))
noncomputable def T_ref04_Short_L1 (a0 : List D) (sa : (Int)) : List (Nat × AV) := [(0, .d (.lst false 10 a0)), (3, .d (I sa))]
noncomputable def H_ref04_Short_L1 (a0 : List D) (sa : (Int)) : List (Nat × Blk) := []
noncomputable def X_ref04_Short_L1 (a0 : List D) (e : (Unit) ⊕ (Unit)) : Ex := match e with
  | (.inl e) => .ret
  | (.inr e) => (.exit 0)
noncomputable def XT_ref04_Short_L1 (a0 : List D) (e : (Unit) ⊕ (Unit)) : List (Nat × AV) := match e with
  | (.inl e) => [(2, .d (B false))]
  | (.inr e) => [(0, .d (.lst false 10 a0))]
noncomputable def XH_ref04_Short_L1 (a0 : List D) (e : (Unit) ⊕ (Unit)) : List (Nat × Blk) := match e with
  | (.inl e) => []
  | (.inr e) => []
theorem R_ref04_Short_L1 {n : Nat} {a0 : List D} (sa : (Int)) (r) (h : F_ref04_Short_L1 n a0 sa = some r) : Rd cx (loopAt cx.P 30 0) 24 0 false (T_ref04_Short_L1 a0) (H_ref04_Short_L1 a0) (X_ref04_Short_L1 a0) (XT_ref04_Short_L1 a0) (XH_ref04_Short_L1 a0) sa r := by
  unfold F_ref04_Short_L1 at h
  by_cases ha1 : sa < ((a0).length : Int)
  · replace h := ite_t h ha1
    obtain ⟨ta2, ha2, h⟩ := bnd_of h
    obtain ⟨ta3, ha3, h⟩ := bnd_of h
    by_cases ha4 : ta3 = true
    · replace h := ite_t h ha4
      obtain ⟨ha5, h⟩ := grd_of h
      replace h := Option.some.inj h
      subst h
      exact ⟨100, 2, [.br true, .el (.agg [.v (.string ta2.1), I ta2.2.1, I ta2.2.2.1, I ta2.2.2.2.1, I ta2.2.2.2.2.1, I ta2.2.2.2.2.2.1, I ta2.2.2.2.2.2.2.1, I ta2.2.2.2.2.2.2.2.1, I ta2.2.2.2.2.2.2.2.2.1, I ta2.2.2.2.2.2.2.2.2.2]), .ret (B ta3), .br false], [], [0, 3], [], round_of (ob := [inI64 (sa + 1), (!ta3) = false, Computes cx 9 [.agg [.v (.string ta2.1), I ta2.2.1, I ta2.2.2.1, I ta2.2.2.2.1, I ta2.2.2.2.2.1, I ta2.2.2.2.2.2.1, I ta2.2.2.2.2.2.2.1, I ta2.2.2.2.2.2.2.2.1, I ta2.2.2.2.2.2.2.2.2.1, I ta2.2.2.2.2.2.2.2.2.2]] (B ta3), (0 : Int) ≤ sa, nth (a0) (Int.toNat sa) = some (.agg [.v (.string ta2.1), I ta2.2.1, I ta2.2.2.1, I ta2.2.2.2.1, I ta2.2.2.2.2.1, I ta2.2.2.2.2.2.1, I ta2.2.2.2.2.2.2.1, I ta2.2.2.2.2.2.2.2.1, I ta2.2.2.2.2.2.2.2.2.1, I ta2.2.2.2.2.2.2.2.2.2]), (decide (sa < ((a0).length : Int))) = true]) (by kernel_rfl) ⟨ha5, (notf ha4), (c_ref04_ShortMirror ha3), (el_ok un_Asi9Z_ok ha2).1, (el_ok un_Asi9Z_ok ha2).2, (decide_eq_true ha1), trivial⟩⟩
    · replace h := ite_f h ha4
      replace h := Option.some.inj h
      subst h
      exact ⟨⟨100, 2, [.br true, .el (.agg [.v (.string ta2.1), I ta2.2.1, I ta2.2.2.1, I ta2.2.2.2.1, I ta2.2.2.2.2.1, I ta2.2.2.2.2.2.1, I ta2.2.2.2.2.2.2.1, I ta2.2.2.2.2.2.2.2.1, I ta2.2.2.2.2.2.2.2.2.1, I ta2.2.2.2.2.2.2.2.2.2]), .ret (B ta3), .br true], [], [2], [], round_of (ob := [(!ta3) = true, Computes cx 9 [.agg [.v (.string ta2.1), I ta2.2.1, I ta2.2.2.1, I ta2.2.2.2.1, I ta2.2.2.2.2.1, I ta2.2.2.2.2.2.1, I ta2.2.2.2.2.2.2.1, I ta2.2.2.2.2.2.2.2.1, I ta2.2.2.2.2.2.2.2.2.1, I ta2.2.2.2.2.2.2.2.2.2]] (B ta3), (0 : Int) ≤ sa, nth (a0) (Int.toNat sa) = some (.agg [.v (.string ta2.1), I ta2.2.1, I ta2.2.2.1, I ta2.2.2.2.1, I ta2.2.2.2.2.1, I ta2.2.2.2.2.2.1, I ta2.2.2.2.2.2.2.1, I ta2.2.2.2.2.2.2.2.1, I ta2.2.2.2.2.2.2.2.2.1, I ta2.2.2.2.2.2.2.2.2.2]), (decide (sa < ((a0).length : Int))) = true]) (by kernel_rfl) ⟨(nott (bfalse ha4)), (c_ref04_ShortMirror ha3), (el_ok un_Asi9Z_ok ha2).1, (el_ok un_Asi9Z_ok ha2).2, (decide_eq_true ha1), trivial⟩⟩, nofun⟩
  · replace h := ite_f h ha1
    replace h := Option.some.inj h
    subst h
    exact ⟨⟨100, 2, [.br false], [], [0], [], round_of (ob := [(decide (sa < ((a0).length : Int))) = false]) (by kernel_rfl) ⟨(decide_eq_false ha1), trivial⟩⟩, nofun⟩
/- spillage/spillageref04.Short: .lst false 10 a0 -/
def F_ref04_Short (n : Nat) (a0 : List D) : Option (Bool) :=
  (loopF (F_ref04_Short_L1 n a0) n 0).bind fun t1 => match t1 with
    | (.inl t1) => (
      some false)
    | (.inr t1) => (
      if ((a0).length : Int) ≤ 6 then
        some true
      else
      some (((a0).length : Int) == 65))
theorem c_ref04_Short {n : Nat} {a0 : List D} {r : Bool} (h : F_ref04_Short n a0 = some r) : Computes cx 30 [.lst false 10 a0] (B r) := by
  unfold F_ref04_Short at h
  obtain ⟨t1, h1, h⟩ := bnd_of h
  rcases t1 with t1 | t1
  · replace h := Option.some.inj h
    subst h
    exact run (n := 100) (f := 30) (args := [.lst false 10 a0]) (orc := [.lp [] [0, 3] [] .ret [(2, .d (B false))] [] 26]) (r := B false) (ob := [LoopN cx (loopAt cx.P 30 0) 24 0 false [(0, .d (.lst false 10 a0)), (3, .d (I 0))] [] .ret [(2, .d (B false))] []]) (by kernel_rfl) ⟨(loopF_to R_ref04_Short_L1 h1), trivial⟩
  · by_cases h2 : ((a0).length : Int) ≤ 6
    · replace h := ite_t h h2
      replace h := Option.some.inj h
      subst h
      exact run (n := 100) (f := 30) (args := [.lst false 10 a0]) (orc := [.lp [] [0, 3] [] (.exit 0) [(0, .d (.lst false 10 a0))] [] 26, .br true]) (r := B true) (ob := [(decide (((a0).length : Int) ≤ 6)) = true, LoopN cx (loopAt cx.P 30 0) 24 0 false [(0, .d (.lst false 10 a0)), (3, .d (I 0))] [] (.exit 0) [(0, .d (.lst false 10 a0))] []]) (by kernel_rfl) ⟨(decide_eq_true h2), (loopF_to R_ref04_Short_L1 h1), trivial⟩
    · replace h := ite_f h h2
      replace h := Option.some.inj h
      subst h
      exact run (n := 100) (f := 30) (args := [.lst false 10 a0]) (orc := [.lp [] [0, 3] [] (.exit 0) [(0, .d (.lst false 10 a0))] [] 26, .br false]) (r := B (((a0).length : Int) == 65)) (ob := [(decide (((a0).length : Int) ≤ 6)) = false, LoopN cx (loopAt cx.P 30 0) 24 0 false [(0, .d (.lst false 10 a0)), (3, .d (I 0))] [] (.exit 0) [(0, .d (.lst false 10 a0))] []]) (by kernel_rfl) ⟨(decide_eq_false h2), (loopF_to R_ref04_Short_L1 h1), trivial⟩
def enc_Ai4Z (x : Int × Int × Int × Int) : D := .agg [I x.1, I x.2.1, I x.2.2.1, I x.2.2.2]
def un_Ai4Z : D → Option (Int × Int × Int × Int)
  | .agg [c0, c1, c2, c3] => (un_int .i64 c0).bind fun y0 => (un_int .i64 c1).bind fun y1 => (un_int .i64 c2).bind fun y2 => (un_int .i64 c3).bind fun y3 => some (y0, y1, y2, y3)
  | _ => none
theorem un_Ai4Z_ok {d : D} {x : Int × Int × Int × Int} (h : un_Ai4Z d = some x) : d = enc_Ai4Z x := by
  unfold un_Ai4Z at h
  split at h
  case h_2 => cases h
  obtain ⟨y0, h0, h⟩ := bnd_of h
  obtain ⟨y1, h1, h⟩ := bnd_of h
  obtain ⟨y2, h2, h⟩ := bnd_of h
  obtain ⟨y3, h3, h⟩ := bnd_of h
  cases h
  have e0 := un_int_ok h0
  have e1 := un_int_ok h1
  have e2 := un_int_ok h2
  have e3 := un_int_ok h3
  rw [e0, e1, e2, e3]; rfl
def F_ref04_Facets_L2 (n : Nat) (a0 : ByteArray) (a1 : Int) (a2 : Int) (a3 : Int) (a4 : Int) (a5 : Int) (a6 : Int) (a7 : Int) (a8 : Int) (a9 : Int) (a10 : Int) (sa : Int × List D) (sb : (Int × List D)) : Option (((Int × List D)) ⊕ ((List D))) :=
  if sb.1 < a10 then
    (F_ref04_times n a10 a1 a2 a3).bind fun tb2 =>
    if inI64 (2 * sb.1) then
    if inI64 ((2 * sb.1) + 1) then
    if inI64 (((2 * sb.1) + 1) - a10) then
    (F_ref04_times n (((2 * sb.1) + 1) - a10) a4 a5 a6).bind fun tb6 =>
    if inI64 (2 * sa.1) then
    if inI64 ((2 * sa.1) + 1) then
    if inI64 (((2 * sa.1) + 1) - a10) then
    (F_ref04_times n (((2 * sa.1) + 1) - a10) a7 a8 a9).bind fun tb10 =>
    (F_ref04_plus n tb6.1 tb6.2.1 tb6.2.2 tb10.1 tb10.2.1 tb10.2.2).bind fun tb11 =>
    (F_ref04_plus n tb2.1 tb2.2.1 tb2.2.2 tb11.1 tb11.2.1 tb11.2.2).bind fun tb12 =>
    if roomP 24 ((sb.2).length + 1) then
    if inI64 (sb.1 + 1) then
    some (.inl ((sb.1 + 1), (sb.2 ++ ([.agg [I tb12.1, I tb12.2.1, I tb12.2.2]] : List D))))
    else none
    else none
    else none
    else none
    else none
    else none
    else none
    else none
  else
  some (.inr sb.2)
noncomputable def T_ref04_Facets_L2 (a0 : ByteArray) (a1 : Int) (a2 : Int) (a3 : Int) (a4 : Int) (a5 : Int) (a6 : Int) (a7 : Int) (a8 : Int) (a9 : Int) (a10 : Int) (sa : Int × List D) (sb : (Int × List D)) : List (Nat × AV) := [(1, .d (I a10)), (2, .ptr 0 0 0 0 0), (5, .own 4 0), (6, .d (I sa.1)), (7, .d (I sb.1))]
noncomputable def H_ref04_Facets_L2 (a0 : ByteArray) (a1 : Int) (a2 : Int) (a3 : Int) (a4 : Int) (a5 : Int) (a6 : Int) (a7 : Int) (a8 : Int) (a9 : Int) (a10 : Int) (sa : Int × List D) (sb : (Int × List D)) : List (Nat × Blk) := [(0, .box (.d (.agg [.v (.string a0), I a1, I a2, I a3, I a4, I a5, I a6, I a7, I a8, I a9]))), (4, .row 0 3 sb.2)]
noncomputable def X_ref04_Facets_L2 (a0 : ByteArray) (a1 : Int) (a2 : Int) (a3 : Int) (a4 : Int) (a5 : Int) (a6 : Int) (a7 : Int) (a8 : Int) (a9 : Int) (a10 : Int) (sa : Int × List D) (e : (List D)) : Ex := (.exit 2)
noncomputable def XT_ref04_Facets_L2 (a0 : ByteArray) (a1 : Int) (a2 : Int) (a3 : Int) (a4 : Int) (a5 : Int) (a6 : Int) (a7 : Int) (a8 : Int) (a9 : Int) (a10 : Int) (sa : Int × List D) (e : (List D)) : List (Nat × AV) := [(1, .d (I a10)), (2, .ptr 0 0 0 0 0), (5, .own 4 0), (6, .d (I sa.1))]
noncomputable def XH_ref04_Facets_L2 (a0 : ByteArray) (a1 : Int) (a2 : Int) (a3 : Int) (a4 : Int) (a5 : Int) (a6 : Int) (a7 : Int) (a8 : Int) (a9 : Int) (a10 : Int) (sa : Int × List D) (e : (List D)) : List (Nat × Blk) := [(0, .box (.d (.agg [.v (.string a0), I a1, I a2, I a3, I a4, I a5, I a6, I a7, I a8, I a9]))), (4, .row 0 3 e)]
theorem R_ref04_Facets_L2 {n : Nat} {a0 : ByteArray} {a1 : Int} {a2 : Int} {a3 : Int} {a4 : Int} {a5 : Int} {a6 : Int} {a7 : Int} {a8 : Int} {a9 : Int} {a10 : Int} {sa : Int × List D} (sb : (Int × List D)) (r) (h : F_ref04_Facets_L2 n a0 a1 a2 a3 a4 a5 a6 a7 a8 a9 a10 sa sb = some r) : Rd cx (loopAt cx.P 36 1) 44 0 false (T_ref04_Facets_L2 a0 a1 a2 a3 a4 a5 a6 a7 a8 a9 a10 sa) (H_ref04_Facets_L2 a0 a1 a2 a3 a4 a5 a6 a7 a8 a9 a10 sa) (X_ref04_Facets_L2 a0 a1 a2 a3 a4 a5 a6 a7 a8 a9 a10 sa) (XT_ref04_Facets_L2 a0 a1 a2 a3 a4 a5 a6 a7 a8 a9 a10 sa) (XH_ref04_Facets_L2 a0 a1 a2 a3 a4 a5 a6 a7 a8 a9 a10 sa) sb r := by
  unfold F_ref04_Facets_L2 at h
  by_cases hb1 : sb.1 < a10
  · replace h := ite_t h hb1
    obtain ⟨tb2, hb2, h⟩ := bnd_of h
    obtain ⟨hb3, h⟩ := grd_of h
    obtain ⟨hb4, h⟩ := grd_of h
    obtain ⟨hb5, h⟩ := grd_of h
    obtain ⟨tb6, hb6, h⟩ := bnd_of h
    obtain ⟨hb7, h⟩ := grd_of h
    obtain ⟨hb8, h⟩ := grd_of h
    obtain ⟨hb9, h⟩ := grd_of h
    obtain ⟨tb10, hb10, h⟩ := bnd_of h
    obtain ⟨tb11, hb11, h⟩ := bnd_of h
    obtain ⟨tb12, hb12, h⟩ := bnd_of h
    obtain ⟨hb13, h⟩ := grd_of h
    obtain ⟨hb14, h⟩ := grd_of h
    replace h := Option.some.inj h
    subst h
    exact ⟨100, 9, [.br true, .ret (.agg [I tb2.1, I tb2.2.1, I tb2.2.2]), .ret (.agg [I tb6.1, I tb6.2.1, I tb6.2.2]), .ret (.agg [I tb10.1, I tb10.2.1, I tb10.2.2]), .ret (.agg [I tb11.1, I tb11.2.1, I tb11.2.2]), .ret (.agg [I tb12.1, I tb12.2.1, I tb12.2.2]), .br true], [], [1, 2, 5, 6, 7], [0, 4], round_of (ob := [inI64 (sb.1 + 1), room cx 23 ((sb.2).length + 1), Computes cx 85 [.agg [I tb2.1, I tb2.2.1, I tb2.2.2], .agg [I tb11.1, I tb11.2.1, I tb11.2.2]] (.agg [I tb12.1, I tb12.2.1, I tb12.2.2]), Computes cx 85 [.agg [I tb6.1, I tb6.2.1, I tb6.2.2], .agg [I tb10.1, I tb10.2.1, I tb10.2.2]] (.agg [I tb11.1, I tb11.2.1, I tb11.2.2]), Computes cx 86 [I (((2 * sa.1) + 1) - a10), .agg [I a7, I a8, I a9]] (.agg [I tb10.1, I tb10.2.1, I tb10.2.2]), inI64 (((2 * sa.1) + 1) - a10), inI64 ((2 * sa.1) + 1), inI64 (2 * sa.1), Computes cx 86 [I (((2 * sb.1) + 1) - a10), .agg [I a4, I a5, I a6]] (.agg [I tb6.1, I tb6.2.1, I tb6.2.2]), inI64 (((2 * sb.1) + 1) - a10), inI64 ((2 * sb.1) + 1), inI64 (2 * sb.1), Computes cx 86 [I a10, .agg [I a1, I a2, I a3]] (.agg [I tb2.1, I tb2.2.1, I tb2.2.2]), (decide (sb.1 < a10)) = true]) (by kernel_rfl) ⟨hb14, (room_of (b := 24) (by kernel_rfl) (by decide) hb13), (c_ref04_plus hb12), (c_ref04_plus hb11), (c_ref04_times hb10), hb9, hb8, hb7, (c_ref04_times hb6), hb5, hb4, hb3, (c_ref04_times hb2), (decide_eq_true hb1), trivial⟩⟩
  · replace h := ite_f h hb1
    replace h := Option.some.inj h
    subst h
    exact ⟨⟨100, 9, [.br false], [], [1, 2, 5, 6], [0, 4], round_of (ob := [(decide (sb.1 < a10)) = false]) (by kernel_rfl) ⟨(decide_eq_false hb1), trivial⟩⟩, nofun⟩
def F_ref04_Facets_L3 (n : Nat) (a0 : ByteArray) (a1 : Int) (a2 : Int) (a3 : Int) (a4 : Int) (a5 : Int) (a6 : Int) (a7 : Int) (a8 : Int) (a9 : Int) (a10 : Int) (sa : (Int × List D)) : Option (((Int × List D)) ⊕ ((List D))) :=
  if sa.1 < a10 then
    (loopF (F_ref04_Facets_L2 n a0 a1 a2 a3 a4 a5 a6 a7 a8 a9 a10 sa) n (0, sa.2)).bind fun ta2 =>
    if inI64 (sa.1 + 1) then
    some (.inl ((sa.1 + 1), ta2))
    else none
  else
  some (.inr sa.2)
noncomputable def T_ref04_Facets_L3 (a0 : ByteArray) (a1 : Int) (a2 : Int) (a3 : Int) (a4 : Int) (a5 : Int) (a6 : Int) (a7 : Int) (a8 : Int) (a9 : Int) (a10 : Int) (sa : (Int × List D)) : List (Nat × AV) := [(1, .d (I a10)), (2, .ptr 0 0 0 0 0), (5, .own 4 0), (6, .d (I sa.1))]
noncomputable def H_ref04_Facets_L3 (a0 : ByteArray) (a1 : Int) (a2 : Int) (a3 : Int) (a4 : Int) (a5 : Int) (a6 : Int) (a7 : Int) (a8 : Int) (a9 : Int) (a10 : Int) (sa : (Int × List D)) : List (Nat × Blk) := [(0, .box (.d (.agg [.v (.string a0), I a1, I a2, I a3, I a4, I a5, I a6, I a7, I a8, I a9]))), (4, .row 0 3 sa.2)]
noncomputable def X_ref04_Facets_L3 (a0 : ByteArray) (a1 : Int) (a2 : Int) (a3 : Int) (a4 : Int) (a5 : Int) (a6 : Int) (a7 : Int) (a8 : Int) (a9 : Int) (a10 : Int) (e : (List D)) : Ex := (.exit 0)
noncomputable def XT_ref04_Facets_L3 (a0 : ByteArray) (a1 : Int) (a2 : Int) (a3 : Int) (a4 : Int) (a5 : Int) (a6 : Int) (a7 : Int) (a8 : Int) (a9 : Int) (a10 : Int) (e : (List D)) : List (Nat × AV) := [(5, .own 4 0)]
noncomputable def XH_ref04_Facets_L3 (a0 : ByteArray) (a1 : Int) (a2 : Int) (a3 : Int) (a4 : Int) (a5 : Int) (a6 : Int) (a7 : Int) (a8 : Int) (a9 : Int) (a10 : Int) (e : (List D)) : List (Nat × Blk) := [(4, .row 0 3 e)]
theorem R_ref04_Facets_L3 {n : Nat} {a0 : ByteArray} {a1 : Int} {a2 : Int} {a3 : Int} {a4 : Int} {a5 : Int} {a6 : Int} {a7 : Int} {a8 : Int} {a9 : Int} {a10 : Int} (sa : (Int × List D)) (r) (h : F_ref04_Facets_L3 n a0 a1 a2 a3 a4 a5 a6 a7 a8 a9 a10 sa = some r) : Rd cx (loopAt cx.P 36 0) 44 0 false (T_ref04_Facets_L3 a0 a1 a2 a3 a4 a5 a6 a7 a8 a9 a10) (H_ref04_Facets_L3 a0 a1 a2 a3 a4 a5 a6 a7 a8 a9 a10) (X_ref04_Facets_L3 a0 a1 a2 a3 a4 a5 a6 a7 a8 a9 a10) (XT_ref04_Facets_L3 a0 a1 a2 a3 a4 a5 a6 a7 a8 a9 a10) (XH_ref04_Facets_L3 a0 a1 a2 a3 a4 a5 a6 a7 a8 a9 a10) sa r := by
  unfold F_ref04_Facets_L3 at h
  by_cases ha1 : sa.1 < a10
  · replace h := ite_t h ha1
    obtain ⟨ta2, ha2, h⟩ := bnd_of h
    obtain ⟨ha3, h⟩ := grd_of h
    replace h := Option.some.inj h
    subst h
    exact ⟨100, 5, [.br true, .lp [] [1, 2, 5, 6, 7] [0, 4] (.exit 2) [(1, .d (I a10)), (2, .ptr 0 0 0 0 0), (5, .own 4 0), (6, .d (I sa.1))] [(0, .box (.d (.agg [.v (.string a0), I a1, I a2, I a3, I a4, I a5, I a6, I a7, I a8, I a9]))), (4, .row 0 3 ta2)] 52], [], [1, 2, 5, 6], [0, 4], round_of (ob := [inI64 (sa.1 + 1), LoopN cx (loopAt cx.P 36 1) 44 0 false [(1, .d (I a10)), (2, .ptr 0 0 0 0 0), (5, .own 4 0), (6, .d (I sa.1)), (7, .d (I 0))] [(0, .box (.d (.agg [.v (.string a0), I a1, I a2, I a3, I a4, I a5, I a6, I a7, I a8, I a9]))), (4, .row 0 3 sa.2)] (.exit 2) [(1, .d (I a10)), (2, .ptr 0 0 0 0 0), (5, .own 4 0), (6, .d (I sa.1))] [(0, .box (.d (.agg [.v (.string a0), I a1, I a2, I a3, I a4, I a5, I a6, I a7, I a8, I a9]))), (4, .row 0 3 ta2)], (decide (sa.1 < a10)) = true]) (by kernel_rfl) ⟨ha3, (loopF_to R_ref04_Facets_L2 ha2), (decide_eq_true ha1), trivial⟩⟩
  · replace h := ite_f h ha1
    replace h := Option.some.inj h
    subst h
    exact ⟨⟨100, 5, [.br false], [], [5], [4], round_of (ob := [(decide (sa.1 < a10)) = false]) (by kernel_rfl) ⟨(decide_eq_false ha1), trivial⟩⟩, nofun⟩
/- spillage/spillageref04.Facets: .agg [.v (.string a0), I a1, I a2, I a3, I a4, I a5, I a6, I a7, I a8, I a9], I a10 -/
def F_ref04_Facets (n : Nat) (a0 : ByteArray) (a1 : Int) (a2 : Int) (a3 : Int) (a4 : Int) (a5 : Int) (a6 : Int) (a7 : Int) (a8 : Int) (a9 : Int) (a10 : Int) : Option (List D) :=
  (loopF (F_ref04_Facets_L3 n a0 a1 a2 a3 a4 a5 a6 a7 a8 a9 a10) n (0, [])).bind fun t1 =>
  some t1
theorem c_ref04_Facets {n : Nat} {a0 : ByteArray} {a1 : Int} {a2 : Int} {a3 : Int} {a4 : Int} {a5 : Int} {a6 : Int} {a7 : Int} {a8 : Int} {a9 : Int} {a10 : Int} {r : List D} (h : F_ref04_Facets n a0 a1 a2 a3 a4 a5 a6 a7 a8 a9 a10 = some r) : Computes cx 36 [.agg [.v (.string a0), I a1, I a2, I a3, I a4, I a5, I a6, I a7, I a8, I a9], I a10] (.lst false 3 r) := by
  unfold F_ref04_Facets at h
  obtain ⟨t1, h1, h⟩ := bnd_of h
  replace h := Option.some.inj h
  subst h
  exact run (n := 100) (f := 36) (args := [.agg [.v (.string a0), I a1, I a2, I a3, I a4, I a5, I a6, I a7, I a8, I a9], I a10]) (orc := [.lp [5, 3] [1, 2, 5, 6] [0, 4] (.exit 0) [(5, .own 4 0)] [(4, .row 0 3 t1)] 66]) (r := .lst false 3 t1) (ob := [LoopN cx (loopAt cx.P 36 0) 44 0 false [(1, .d (I a10)), (2, .ptr 0 0 0 0 0), (5, .own 4 0), (6, .d (I 0))] [(0, .box (.d (.agg [.v (.string a0), I a1, I a2, I a3, I a4, I a5, I a6, I a7, I a8, I a9]))), (4, .row 0 3 [])] (.exit 0) [(5, .own 4 0)] [(4, .row 0 3 t1)]]) (by kernel_rfl) ⟨(loopF_to R_ref04_Facets_L3 h1), trivial⟩
def F_law04_own_L1 (n : Nat) (a0 : List D) (sa : (Int × List D)) : Option (((Int × List D)) ⊕ ((List D))) :=
  if sa.1 < ((a0).length : Int) then
    (el un_Asi9Z a0 sa.1).bind fun ta2 =>
    if roomP 88 ((sa.2).length + 1) then
    if inI64 (sa.1 + 1) then
    some (.inl ((sa.1 + 1), (sa.2 ++ ([.agg [.v (.string ta2.1), I ta2.2.1, I ta2.2.2.1, I ta2.2.2.2.1, I ta2.2.2.2.2.1, I ta2.2.2.2.2.2.1, I ta2.2.2.2.2.2.2.1, I ta2.2.2.2.2.2.2.2.1, I ta2.2.2.2.2.2.2.2.2.1, I ta2.2.2.2.2.2.2.2.2.2]] : List D))))
    else none
    else none
  else
  some (.inr sa.2)
noncomputable def T_law04_own_L1 (a0 : List D) (sa : (Int × List D)) : List (Nat × AV) := [(3, .own 5 0), (6, .d (.lst false 10 a0)), (7, .d (I ((a0).length : Int))), (8, .d (I sa.1))]
noncomputable def H_law04_own_L1 (a0 : List D) (sa : (Int × List D)) : List (Nat × Blk) := [(5, .row 0 10 sa.2)]
noncomputable def X_law04_own_L1 (a0 : List D) (e : (List D)) : Ex := (.exit 0)
noncomputable def XT_law04_own_L1 (a0 : List D) (e : (List D)) : List (Nat × AV) := [(3, .own 5 0)]
noncomputable def XH_law04_own_L1 (a0 : List D) (e : (List D)) : List (Nat × Blk) := [(5, .row 0 10 e)]
theorem R_law04_own_L1 {n : Nat} {a0 : List D} (sa : (Int × List D)) (r) (h : F_law04_own_L1 n a0 sa = some r) : Rd cx (loopAt cx.P 39 0) 18 0 false (T_law04_own_L1 a0) (H_law04_own_L1 a0) (X_law04_own_L1 a0) (XT_law04_own_L1 a0) (XH_law04_own_L1 a0) sa r := by
  unfold F_law04_own_L1 at h
  by_cases ha1 : sa.1 < ((a0).length : Int)
  · replace h := ite_t h ha1
    obtain ⟨ta2, ha2, h⟩ := bnd_of h
    obtain ⟨ha3, h⟩ := grd_of h
    obtain ⟨ha4, h⟩ := grd_of h
    replace h := Option.some.inj h
    subst h
    exact ⟨100, 6, [.br true, .el (.agg [.v (.string ta2.1), I ta2.2.1, I ta2.2.2.1, I ta2.2.2.2.1, I ta2.2.2.2.2.1, I ta2.2.2.2.2.2.1, I ta2.2.2.2.2.2.2.1, I ta2.2.2.2.2.2.2.2.1, I ta2.2.2.2.2.2.2.2.2.1, I ta2.2.2.2.2.2.2.2.2.2]), .br true], [], [3, 6, 7, 8], [5], round_of (ob := [inI64 (sa.1 + 1), room cx 33 ((sa.2).length + 1), (0 : Int) ≤ sa.1, nth (a0) (Int.toNat sa.1) = some (.agg [.v (.string ta2.1), I ta2.2.1, I ta2.2.2.1, I ta2.2.2.2.1, I ta2.2.2.2.2.1, I ta2.2.2.2.2.2.1, I ta2.2.2.2.2.2.2.1, I ta2.2.2.2.2.2.2.2.1, I ta2.2.2.2.2.2.2.2.2.1, I ta2.2.2.2.2.2.2.2.2.2]), (decide (sa.1 < ((a0).length : Int))) = true]) (by kernel_rfl) ⟨ha4, (room_of (b := 88) (by kernel_rfl) (by decide) ha3), (el_ok un_Asi9Z_ok ha2).1, (el_ok un_Asi9Z_ok ha2).2, (decide_eq_true ha1), trivial⟩⟩
  · replace h := ite_f h ha1
    replace h := Option.some.inj h
    subst h
    exact ⟨⟨100, 6, [.br false], [], [3], [5], round_of (ob := [(decide (sa.1 < ((a0).length : Int))) = false]) (by kernel_rfl) ⟨(decide_eq_false ha1), trivial⟩⟩, nofun⟩
/- spillage/spillagelaw04.own: .lst false 10 a0 -/
def F_law04_own (n : Nat) (a0 : List D) : Option (List D) :=
  (loopF (F_law04_own_L1 n a0) n (0, [])).bind fun t1 =>
  some t1
theorem c_law04_own {n : Nat} {a0 : List D} {r : List D} (h : F_law04_own n a0 = some r) : Computes cx 39 [.lst false 10 a0] (.lst false 10 r) := by
  unfold F_law04_own at h
  obtain ⟨t1, h1, h⟩ := bnd_of h
  replace h := Option.some.inj h
  subst h
  exact run (n := 100) (f := 39) (args := [.lst false 10 a0]) (orc := [.lp [3, 10] [3, 6, 7, 8] [5] (.exit 0) [(3, .own 5 0)] [(5, .row 0 10 t1)] 29]) (r := .lst false 10 t1) (ob := [LoopN cx (loopAt cx.P 39 0) 18 0 false [(3, .own 5 0), (6, .d (.lst false 10 a0)), (7, .d (I ((a0).length : Int))), (8, .d (I 0))] [(5, .row 0 10 [])] (.exit 0) [(3, .own 5 0)] [(5, .row 0 10 t1)]]) (by kernel_rfl) ⟨(loopF_to R_law04_own_L1 h1), trivial⟩
def enc_b (x : Bool) : D := B x
def un_b (d : D) : Option (Bool) := un_bool d
theorem un_b_ok {d : D} {x : Bool} (h : un_b d = some x) : d = enc_b x := un_bool_ok h
/- spillage/field.when: B false, I 9 -/
def F_field_when_3 (n : Nat)  : Option (Int) :=
  some 0
theorem c_field_when_3 {n : Nat}  {r : Int} (h : F_field_when_3 n  = some r) : Computes cx 69 [B false, I 9] (I r) := by
  unfold F_field_when_3 at h
  replace h := Option.some.inj h
  subst h
  exact run (n := 100) (f := 69) (args := [B false, I 9]) (orc := [.no]) (r := I 0) (ob := []) (by kernel_rfl) trivial
def F_field_CheckMirrors_L1 (n : Nat) (a0 : List D) (sa : (Int × List D)) : Option (((Int × List D)) ⊕ ((Int) ⊕ (Unit))) :=
  if sa.1 < ((a0).length : Int) then
    (el un_Asi9Z a0 sa.1).bind fun ta2 =>
    (F_field_Mirror_check n ta2.1 ta2.2.1 ta2.2.2.1 ta2.2.2.2.1 ta2.2.2.2.2.1 ta2.2.2.2.2.2.1 ta2.2.2.2.2.2.2.1 ta2.2.2.2.2.2.2.2.1 ta2.2.2.2.2.2.2.2.2.1 ta2.2.2.2.2.2.2.2.2.2).bind fun ta3 =>
    if mok (.string ta2.1) (sa.2 : List D) = true then
    if (mfind (.string ta2.1) (sa.2 : List D)).isSome = true then
      ((mfind (.string ta2.1) (sa.2 : List D)).bind un_b).bind fun ta6 =>
      (F_field_when n ta6 9).bind fun ta7 =>
      (F_field_first n ([I ta3, I ta7])).bind fun ta8 =>
      if ta8 = 0 then
        if inI64 (sa.1 + 1) then
        some (.inl ((sa.1 + 1), (mput (.string ta2.1) (B true) (sa.2 : List D))))
        else none
      else
      some (.inr (.inl ta8))
    else
    (F_field_when_3 n).bind fun ta6 =>
    (F_field_first n ([I ta3, I ta6])).bind fun ta7 =>
    if ta7 = 0 then
      if inI64 (sa.1 + 1) then
      some (.inl ((sa.1 + 1), (mput (.string ta2.1) (B true) (sa.2 : List D))))
      else none
    else
    some (.inr (.inl ta7))
    else none
  else
  some (.inr (.inr ()))
noncomputable def T_field_CheckMirrors_L1 (a0 : List D) (sa : (Int × List D)) : List (Nat × AV) := [(3, .own 4 0), (11, .d (.lst false 10 a0)), (12, .d (I ((a0).length : Int))), (13, .d (I sa.1))]
noncomputable def H_field_CheckMirrors_L1 (a0 : List D) (sa : (Int × List D)) : List (Nat × Blk) := [(4, .mp sa.2)]
noncomputable def X_field_CheckMirrors_L1 (a0 : List D) (e : (Int) ⊕ (Unit)) : Ex := match e with
  | (.inl e) => .ret
  | (.inr e) => (.exit 0)
noncomputable def XT_field_CheckMirrors_L1 (a0 : List D) (e : (Int) ⊕ (Unit)) : List (Nat × AV) := match e with
  | (.inl e) => [(2, .d (I e))]
  | (.inr e) => []
noncomputable def XH_field_CheckMirrors_L1 (a0 : List D) (e : (Int) ⊕ (Unit)) : List (Nat × Blk) := match e with
  | (.inl e) => []
  | (.inr e) => []
theorem R_field_CheckMirrors_L1 {n : Nat} {a0 : List D} (sa : (Int × List D)) (r) (h : F_field_CheckMirrors_L1 n a0 sa = some r) : Rd cx (loopAt cx.P 38 0) 33 0 false (T_field_CheckMirrors_L1 a0) (H_field_CheckMirrors_L1 a0) (X_field_CheckMirrors_L1 a0) (XT_field_CheckMirrors_L1 a0) (XH_field_CheckMirrors_L1 a0) sa r := by
  unfold F_field_CheckMirrors_L1 at h
  by_cases ha1 : sa.1 < ((a0).length : Int)
  · replace h := ite_t h ha1
    obtain ⟨ta2, ha2, h⟩ := bnd_of h
    obtain ⟨ta3, ha3, h⟩ := bnd_of h
    obtain ⟨ha4, h⟩ := grd_of h
    by_cases ha5 : (mfind (.string ta2.1) (sa.2 : List D)).isSome = true
    · replace h := ite_t h ha5
      obtain ⟨ta6, ha6, h⟩ := bnd_of h
      obtain ⟨ta7, ha7, h⟩ := bnd_of h
      obtain ⟨ta8, ha8, h⟩ := bnd_of h
      by_cases ha9 : ta8 = 0
      · replace h := ite_t h ha9
        obtain ⟨ha10, h⟩ := grd_of h
        replace h := Option.some.inj h
        subst h
        exact ⟨100, 9, [.br true, .el (.agg [.v (.string ta2.1), I ta2.2.1, I ta2.2.2.1, I ta2.2.2.2.1, I ta2.2.2.2.2.1, I ta2.2.2.2.2.2.1, I ta2.2.2.2.2.2.2.1, I ta2.2.2.2.2.2.2.2.1, I ta2.2.2.2.2.2.2.2.2.1, I ta2.2.2.2.2.2.2.2.2.2]), .ret (I ta3), .el (B ta6), .ret (I ta7), .ret (I ta8), .br false, .br true], [], [3, 11, 12, 13], [4], round_of (ob := [inI64 (sa.1 + 1), mok (.string ta2.1) (sa.2 : List D) = true, (ta8 != 0) = false, Computes cx 62 [.lst true 1 [I ta3, I ta7]] (I ta8), Computes cx 69 [B ta6, I 9] (I ta7), mlook false (.string ta2.1) (B false) (sa.2 : List D) = some (B ta6), Computes cx 63 [.agg [.v (.string ta2.1), I ta2.2.1, I ta2.2.2.1, I ta2.2.2.2.1, I ta2.2.2.2.2.1, I ta2.2.2.2.2.2.1, I ta2.2.2.2.2.2.2.1, I ta2.2.2.2.2.2.2.2.1, I ta2.2.2.2.2.2.2.2.2.1, I ta2.2.2.2.2.2.2.2.2.2]] (I ta3), (0 : Int) ≤ sa.1, nth (a0) (Int.toNat sa.1) = some (.agg [.v (.string ta2.1), I ta2.2.1, I ta2.2.2.1, I ta2.2.2.2.1, I ta2.2.2.2.2.1, I ta2.2.2.2.2.2.1, I ta2.2.2.2.2.2.2.1, I ta2.2.2.2.2.2.2.2.1, I ta2.2.2.2.2.2.2.2.2.1, I ta2.2.2.2.2.2.2.2.2.2]), (decide (sa.1 < ((a0).length : Int))) = true]) (by kernel_rfl) ⟨ha10, ha4, (nef ha9), ((c_field_first ha8).le (.cons (.full _ _ _) (.nil)) (.refl _)), (c_field_when ha7), (mlook_hit1 ha4 (mel_ok un_b_ok ha6)), (c_field_Mirror_check ha3), (el_ok un_Asi9Z_ok ha2).1, (el_ok un_Asi9Z_ok ha2).2, (decide_eq_true ha1), trivial⟩⟩
      · replace h := ite_f h ha9
        replace h := Option.some.inj h
        subst h
        exact ⟨⟨100, 9, [.br true, .el (.agg [.v (.string ta2.1), I ta2.2.1, I ta2.2.2.1, I ta2.2.2.2.1, I ta2.2.2.2.2.1, I ta2.2.2.2.2.2.1, I ta2.2.2.2.2.2.2.1, I ta2.2.2.2.2.2.2.2.1, I ta2.2.2.2.2.2.2.2.2.1, I ta2.2.2.2.2.2.2.2.2.2]), .ret (I ta3), .el (B ta6), .ret (I ta7), .ret (I ta8), .br true], [], [2], [], round_of (ob := [(ta8 != 0) = true, Computes cx 62 [.lst true 1 [I ta3, I ta7]] (I ta8), Computes cx 69 [B ta6, I 9] (I ta7), mlook false (.string ta2.1) (B false) (sa.2 : List D) = some (B ta6), Computes cx 63 [.agg [.v (.string ta2.1), I ta2.2.1, I ta2.2.2.1, I ta2.2.2.2.1, I ta2.2.2.2.2.1, I ta2.2.2.2.2.2.1, I ta2.2.2.2.2.2.2.1, I ta2.2.2.2.2.2.2.2.1, I ta2.2.2.2.2.2.2.2.2.1, I ta2.2.2.2.2.2.2.2.2.2]] (I ta3), (0 : Int) ≤ sa.1, nth (a0) (Int.toNat sa.1) = some (.agg [.v (.string ta2.1), I ta2.2.1, I ta2.2.2.1, I ta2.2.2.2.1, I ta2.2.2.2.2.1, I ta2.2.2.2.2.2.1, I ta2.2.2.2.2.2.2.1, I ta2.2.2.2.2.2.2.2.1, I ta2.2.2.2.2.2.2.2.2.1, I ta2.2.2.2.2.2.2.2.2.2]), (decide (sa.1 < ((a0).length : Int))) = true]) (by kernel_rfl) ⟨(net ha9), ((c_field_first ha8).le (.cons (.full _ _ _) (.nil)) (.refl _)), (c_field_when ha7), (mlook_hit1 ha4 (mel_ok un_b_ok ha6)), (c_field_Mirror_check ha3), (el_ok un_Asi9Z_ok ha2).1, (el_ok un_Asi9Z_ok ha2).2, (decide_eq_true ha1), trivial⟩⟩, nofun⟩
    · replace h := ite_f h ha5
      obtain ⟨ta6, ha6, h⟩ := bnd_of h
      obtain ⟨ta7, ha7, h⟩ := bnd_of h
      by_cases ha8 : ta7 = 0
      · replace h := ite_t h ha8
        obtain ⟨ha9, h⟩ := grd_of h
        replace h := Option.some.inj h
        subst h
        exact ⟨100, 9, [.br true, .el (.agg [.v (.string ta2.1), I ta2.2.1, I ta2.2.2.1, I ta2.2.2.2.1, I ta2.2.2.2.2.1, I ta2.2.2.2.2.2.1, I ta2.2.2.2.2.2.2.1, I ta2.2.2.2.2.2.2.2.1, I ta2.2.2.2.2.2.2.2.2.1, I ta2.2.2.2.2.2.2.2.2.2]), .ret (I ta3), .el (B false), .ret (I ta6), .ret (I ta7), .br false, .br true], [], [3, 11, 12, 13], [4], round_of (ob := [inI64 (sa.1 + 1), mok (.string ta2.1) (sa.2 : List D) = true, (ta7 != 0) = false, Computes cx 62 [.lst true 1 [I ta3, I ta6]] (I ta7), Computes cx 69 [B false, I 9] (I ta6), mlook false (.string ta2.1) (B false) (sa.2 : List D) = some (B false), Computes cx 63 [.agg [.v (.string ta2.1), I ta2.2.1, I ta2.2.2.1, I ta2.2.2.2.1, I ta2.2.2.2.2.1, I ta2.2.2.2.2.2.1, I ta2.2.2.2.2.2.2.1, I ta2.2.2.2.2.2.2.2.1, I ta2.2.2.2.2.2.2.2.2.1, I ta2.2.2.2.2.2.2.2.2.2]] (I ta3), (0 : Int) ≤ sa.1, nth (a0) (Int.toNat sa.1) = some (.agg [.v (.string ta2.1), I ta2.2.1, I ta2.2.2.1, I ta2.2.2.2.1, I ta2.2.2.2.2.1, I ta2.2.2.2.2.2.1, I ta2.2.2.2.2.2.2.1, I ta2.2.2.2.2.2.2.2.1, I ta2.2.2.2.2.2.2.2.2.1, I ta2.2.2.2.2.2.2.2.2.2]), (decide (sa.1 < ((a0).length : Int))) = true]) (by kernel_rfl) ⟨ha9, ha4, (nef ha8), ((c_field_first ha7).le (.cons (.full _ _ _) (.nil)) (.refl _)), (c_field_when_3 ha6), (mlook_miss1 ha4 (mno ha5)), (c_field_Mirror_check ha3), (el_ok un_Asi9Z_ok ha2).1, (el_ok un_Asi9Z_ok ha2).2, (decide_eq_true ha1), trivial⟩⟩
      · replace h := ite_f h ha8
        replace h := Option.some.inj h
        subst h
        exact ⟨⟨100, 9, [.br true, .el (.agg [.v (.string ta2.1), I ta2.2.1, I ta2.2.2.1, I ta2.2.2.2.1, I ta2.2.2.2.2.1, I ta2.2.2.2.2.2.1, I ta2.2.2.2.2.2.2.1, I ta2.2.2.2.2.2.2.2.1, I ta2.2.2.2.2.2.2.2.2.1, I ta2.2.2.2.2.2.2.2.2.2]), .ret (I ta3), .el (B false), .ret (I ta6), .ret (I ta7), .br true], [], [2], [], round_of (ob := [(ta7 != 0) = true, Computes cx 62 [.lst true 1 [I ta3, I ta6]] (I ta7), Computes cx 69 [B false, I 9] (I ta6), mlook false (.string ta2.1) (B false) (sa.2 : List D) = some (B false), Computes cx 63 [.agg [.v (.string ta2.1), I ta2.2.1, I ta2.2.2.1, I ta2.2.2.2.1, I ta2.2.2.2.2.1, I ta2.2.2.2.2.2.1, I ta2.2.2.2.2.2.2.1, I ta2.2.2.2.2.2.2.2.1, I ta2.2.2.2.2.2.2.2.2.1, I ta2.2.2.2.2.2.2.2.2.2]] (I ta3), (0 : Int) ≤ sa.1, nth (a0) (Int.toNat sa.1) = some (.agg [.v (.string ta2.1), I ta2.2.1, I ta2.2.2.1, I ta2.2.2.2.1, I ta2.2.2.2.2.1, I ta2.2.2.2.2.2.1, I ta2.2.2.2.2.2.2.1, I ta2.2.2.2.2.2.2.2.1, I ta2.2.2.2.2.2.2.2.2.1, I ta2.2.2.2.2.2.2.2.2.2]), (decide (sa.1 < ((a0).length : Int))) = true]) (by kernel_rfl) ⟨(net ha8), ((c_field_first ha7).le (.cons (.full _ _ _) (.nil)) (.refl _)), (c_field_when_3 ha6), (mlook_miss1 ha4 (mno ha5)), (c_field_Mirror_check ha3), (el_ok un_Asi9Z_ok ha2).1, (el_ok un_Asi9Z_ok ha2).2, (decide_eq_true ha1), trivial⟩⟩, nofun⟩
  · replace h := ite_f h ha1
    replace h := Option.some.inj h
    subst h
    exact ⟨⟨100, 9, [.br false], [], [], [], round_of (ob := [(decide (sa.1 < ((a0).length : Int))) = false]) (by kernel_rfl) ⟨(decide_eq_false ha1), trivial⟩⟩, nofun⟩
/- spillage/field.CheckMirrors: .lst false 10 a0 -/
def F_field_CheckMirrors (n : Nat) (a0 : List D) : Option (Int) :=
  if ((a0).length : Int) > 64 then
    some 5
  else
  (loopF (F_field_CheckMirrors_L1 n a0) n (0, [])).bind fun t2 => match t2 with
    | (.inl t2) => (
      some t2)
    | (.inr t2) => (
      some 0)
theorem c_field_CheckMirrors {n : Nat} {a0 : List D} {r : Int} (h : F_field_CheckMirrors n a0 = some r) : Computes cx 38 [.lst false 10 a0] (I r) := by
  unfold F_field_CheckMirrors at h
  by_cases h1 : ((a0).length : Int) > 64
  · replace h := ite_t h h1
    replace h := Option.some.inj h
    subst h
    exact run (n := 100) (f := 38) (args := [.lst false 10 a0]) (orc := [.br true]) (r := I 5) (ob := [(decide (((a0).length : Int) > 64)) = true]) (by kernel_rfl) ⟨(decide_eq_true h1), trivial⟩
  · replace h := ite_f h h1
    obtain ⟨t2, h2, h⟩ := bnd_of h
    rcases t2 with t2 | t2
    · replace h := Option.some.inj h
      subst h
      exact run (n := 100) (f := 38) (args := [.lst false 10 a0]) (orc := [.br false, .lp [] [3, 11, 12, 13] [4] .ret [(2, .d (I t2))] [] 43]) (r := I t2) (ob := [LoopN cx (loopAt cx.P 38 0) 33 0 false [(3, .own 4 0), (11, .d (.lst false 10 a0)), (12, .d (I ((a0).length : Int))), (13, .d (I 0))] [(4, .mp [])] .ret [(2, .d (I t2))] [], (decide (((a0).length : Int) > 64)) = false]) (by kernel_rfl) ⟨(loopF_to R_field_CheckMirrors_L1 h2), (decide_eq_false h1), trivial⟩
    · replace h := Option.some.inj h
      subst h
      exact run (n := 100) (f := 38) (args := [.lst false 10 a0]) (orc := [.br false, .lp [] [3, 11, 12, 13] [4] (.exit 0) [] [] 43]) (r := I 0) (ob := [LoopN cx (loopAt cx.P 38 0) 33 0 false [(3, .own 4 0), (11, .d (.lst false 10 a0)), (12, .d (I ((a0).length : Int))), (13, .d (I 0))] [(4, .mp [])] (.exit 0) [] [], (decide (((a0).length : Int) > 64)) = false]) (by kernel_rfl) ⟨(loopF_to R_field_CheckMirrors_L1 h2), (decide_eq_false h1), trivial⟩
def F_ref04_CheckMirrors_L1 (n : Nat) (a0 : List D) (sa : Int) (sb : (Int)) : Option (((Int)) ⊕ ((Unit) ⊕ (Unit))) :=
  if sb < sa then
    (el un_Asi9Z a0 sb).bind fun tb2 =>
    (el un_Asi9Z a0 sa).bind fun tb3 =>
    if (tb2.1.toList == tb3.1.toList) = true then
      some (.inr (.inl ()))
    else
    if inI64 (sb + 1) then
    some (.inl (sb + 1))
    else none
  else
  some (.inr (.inr ()))
noncomputable def T_ref04_CheckMirrors_L1 (a0 : List D) (sa : Int) (sb : (Int)) : List (Nat × AV) := [(0, .d (.lst false 10 a0)), (3, .d (I sa)), (5, .d (I sb))]
noncomputable def H_ref04_CheckMirrors_L1 (a0 : List D) (sa : Int) (sb : (Int)) : List (Nat × Blk) := []
noncomputable def X_ref04_CheckMirrors_L1 (a0 : List D) (sa : Int) (e : (Unit) ⊕ (Unit)) : Ex := match e with
  | (.inl e) => .ret
  | (.inr e) => (.exit 2)
noncomputable def XT_ref04_CheckMirrors_L1 (a0 : List D) (sa : Int) (e : (Unit) ⊕ (Unit)) : List (Nat × AV) := match e with
  | (.inl e) => [(2, .d (I 9))]
  | (.inr e) => [(0, .d (.lst false 10 a0)), (3, .d (I sa))]
noncomputable def XH_ref04_CheckMirrors_L1 (a0 : List D) (sa : Int) (e : (Unit) ⊕ (Unit)) : List (Nat × Blk) := match e with
  | (.inl e) => []
  | (.inr e) => []
theorem R_ref04_CheckMirrors_L1 {n : Nat} {a0 : List D} {sa : Int} (sb : (Int)) (r) (h : F_ref04_CheckMirrors_L1 n a0 sa sb = some r) : Rd cx (loopAt cx.P 40 1) 39 0 false (T_ref04_CheckMirrors_L1 a0 sa) (H_ref04_CheckMirrors_L1 a0 sa) (X_ref04_CheckMirrors_L1 a0 sa) (XT_ref04_CheckMirrors_L1 a0 sa) (XH_ref04_CheckMirrors_L1 a0 sa) sb r := by
  unfold F_ref04_CheckMirrors_L1 at h
  by_cases hb1 : sb < sa
  · replace h := ite_t h hb1
    obtain ⟨tb2, hb2, h⟩ := bnd_of h
    obtain ⟨tb3, hb3, h⟩ := bnd_of h
    by_cases hb4 : (tb2.1.toList == tb3.1.toList) = true
    · replace h := ite_t h hb4
      replace h := Option.some.inj h
      subst h
      exact ⟨⟨100, 18, [.br true, .el (.agg [.v (.string tb2.1), I tb2.2.1, I tb2.2.2.1, I tb2.2.2.2.1, I tb2.2.2.2.2.1, I tb2.2.2.2.2.2.1, I tb2.2.2.2.2.2.2.1, I tb2.2.2.2.2.2.2.2.1, I tb2.2.2.2.2.2.2.2.2.1, I tb2.2.2.2.2.2.2.2.2.2]), .el (.agg [.v (.string tb3.1), I tb3.2.1, I tb3.2.2.1, I tb3.2.2.2.1, I tb3.2.2.2.2.1, I tb3.2.2.2.2.2.1, I tb3.2.2.2.2.2.2.1, I tb3.2.2.2.2.2.2.2.1, I tb3.2.2.2.2.2.2.2.2.1, I tb3.2.2.2.2.2.2.2.2.2]), .br true], [], [2], [], round_of (ob := [(tb2.1.toList == tb3.1.toList) = true, (0 : Int) ≤ sa, nth (a0) (Int.toNat sa) = some (.agg [.v (.string tb3.1), I tb3.2.1, I tb3.2.2.1, I tb3.2.2.2.1, I tb3.2.2.2.2.1, I tb3.2.2.2.2.2.1, I tb3.2.2.2.2.2.2.1, I tb3.2.2.2.2.2.2.2.1, I tb3.2.2.2.2.2.2.2.2.1, I tb3.2.2.2.2.2.2.2.2.2]), (0 : Int) ≤ sb, nth (a0) (Int.toNat sb) = some (.agg [.v (.string tb2.1), I tb2.2.1, I tb2.2.2.1, I tb2.2.2.2.1, I tb2.2.2.2.2.1, I tb2.2.2.2.2.2.1, I tb2.2.2.2.2.2.2.1, I tb2.2.2.2.2.2.2.2.1, I tb2.2.2.2.2.2.2.2.2.1, I tb2.2.2.2.2.2.2.2.2.2]), (decide (sb < sa)) = true]) (by kernel_rfl) ⟨hb4, (el_ok un_Asi9Z_ok hb3).1, (el_ok un_Asi9Z_ok hb3).2, (el_ok un_Asi9Z_ok hb2).1, (el_ok un_Asi9Z_ok hb2).2, (decide_eq_true hb1), trivial⟩⟩, nofun⟩
    · replace h := ite_f h hb4
      obtain ⟨hb5, h⟩ := grd_of h
      replace h := Option.some.inj h
      subst h
      exact ⟨100, 18, [.br true, .el (.agg [.v (.string tb2.1), I tb2.2.1, I tb2.2.2.1, I tb2.2.2.2.1, I tb2.2.2.2.2.1, I tb2.2.2.2.2.2.1, I tb2.2.2.2.2.2.2.1, I tb2.2.2.2.2.2.2.2.1, I tb2.2.2.2.2.2.2.2.2.1, I tb2.2.2.2.2.2.2.2.2.2]), .el (.agg [.v (.string tb3.1), I tb3.2.1, I tb3.2.2.1, I tb3.2.2.2.1, I tb3.2.2.2.2.1, I tb3.2.2.2.2.2.1, I tb3.2.2.2.2.2.2.1, I tb3.2.2.2.2.2.2.2.1, I tb3.2.2.2.2.2.2.2.2.1, I tb3.2.2.2.2.2.2.2.2.2]), .br false], [], [0, 3, 5], [], round_of (ob := [inI64 (sb + 1), (tb2.1.toList == tb3.1.toList) = false, (0 : Int) ≤ sa, nth (a0) (Int.toNat sa) = some (.agg [.v (.string tb3.1), I tb3.2.1, I tb3.2.2.1, I tb3.2.2.2.1, I tb3.2.2.2.2.1, I tb3.2.2.2.2.2.1, I tb3.2.2.2.2.2.2.1, I tb3.2.2.2.2.2.2.2.1, I tb3.2.2.2.2.2.2.2.2.1, I tb3.2.2.2.2.2.2.2.2.2]), (0 : Int) ≤ sb, nth (a0) (Int.toNat sb) = some (.agg [.v (.string tb2.1), I tb2.2.1, I tb2.2.2.1, I tb2.2.2.2.1, I tb2.2.2.2.2.1, I tb2.2.2.2.2.2.1, I tb2.2.2.2.2.2.2.1, I tb2.2.2.2.2.2.2.2.1, I tb2.2.2.2.2.2.2.2.2.1, I tb2.2.2.2.2.2.2.2.2.2]), (decide (sb < sa)) = true]) (by kernel_rfl) ⟨hb5, (bfalse hb4), (el_ok un_Asi9Z_ok hb3).1, (el_ok un_Asi9Z_ok hb3).2, (el_ok un_Asi9Z_ok hb2).1, (el_ok un_Asi9Z_ok hb2).2, (decide_eq_true hb1), trivial⟩⟩
  · replace h := ite_f h hb1
    replace h := Option.some.inj h
    subst h
    exact ⟨⟨100, 18, [.br false], [], [0, 3], [], round_of (ob := [(decide (sb < sa)) = false]) (by kernel_rfl) ⟨(decide_eq_false hb1), trivial⟩⟩, nofun⟩
def F_ref04_CheckMirrors_L2 (n : Nat) (a0 : List D) (sa : (Int)) : Option (((Int)) ⊕ ((Int) ⊕ (Unit))) :=
  if sa < ((a0).length : Int) then
    (el un_Asi9Z a0 sa).bind fun ta2 =>
    (F_ref04_CheckMirror n ta2.1 ta2.2.1 ta2.2.2.1 ta2.2.2.2.1 ta2.2.2.2.2.1 ta2.2.2.2.2.2.1 ta2.2.2.2.2.2.2.1 ta2.2.2.2.2.2.2.2.1 ta2.2.2.2.2.2.2.2.2.1 ta2.2.2.2.2.2.2.2.2.2).bind fun ta3 =>
    if ta3 = 0 then
      (loopF (F_ref04_CheckMirrors_L1 n a0 sa) n 0).bind fun ta5 => match ta5 with
        | (.inl ta5) => (
          some (.inr (.inl 9)))
        | (.inr ta5) => (
          if inI64 (sa + 1) then
          some (.inl (sa + 1))
          else none)
    else
    some (.inr (.inl ta3))
  else
  some (.inr (.inr ()))
noncomputable def T_ref04_CheckMirrors_L2 (a0 : List D) (sa : (Int)) : List (Nat × AV) := [(0, .d (.lst false 10 a0)), (3, .d (I sa))]
noncomputable def H_ref04_CheckMirrors_L2 (a0 : List D) (sa : (Int)) : List (Nat × Blk) := []
noncomputable def X_ref04_CheckMirrors_L2 (a0 : List D) (e : (Int) ⊕ (Unit)) : Ex := match e with
  | (.inl e) => .ret
  | (.inr e) => (.exit 0)
noncomputable def XT_ref04_CheckMirrors_L2 (a0 : List D) (e : (Int) ⊕ (Unit)) : List (Nat × AV) := match e with
  | (.inl e) => [(2, .d (I e))]
  | (.inr e) => []
noncomputable def XH_ref04_CheckMirrors_L2 (a0 : List D) (e : (Int) ⊕ (Unit)) : List (Nat × Blk) := match e with
  | (.inl e) => []
  | (.inr e) => []
theorem R_ref04_CheckMirrors_L2 {n : Nat} {a0 : List D} (sa : (Int)) (r) (h : F_ref04_CheckMirrors_L2 n a0 sa = some r) : Rd cx (loopAt cx.P 40 0) 39 0 false (T_ref04_CheckMirrors_L2 a0) (H_ref04_CheckMirrors_L2 a0) (X_ref04_CheckMirrors_L2 a0) (XT_ref04_CheckMirrors_L2 a0) (XH_ref04_CheckMirrors_L2 a0) sa r := by
  unfold F_ref04_CheckMirrors_L2 at h
  by_cases ha1 : sa < ((a0).length : Int)
  · replace h := ite_t h ha1
    obtain ⟨ta2, ha2, h⟩ := bnd_of h
    obtain ⟨ta3, ha3, h⟩ := bnd_of h
    by_cases ha4 : ta3 = 0
    · replace h := ite_t h ha4
      obtain ⟨ta5, ha5, h⟩ := bnd_of h
      rcases ta5 with ta5 | ta5
      · replace h := Option.some.inj h
        subst h
        exact ⟨⟨100, 5, [.br true, .el (.agg [.v (.string ta2.1), I ta2.2.1, I ta2.2.2.1, I ta2.2.2.2.1, I ta2.2.2.2.2.1, I ta2.2.2.2.2.2.1, I ta2.2.2.2.2.2.2.1, I ta2.2.2.2.2.2.2.2.1, I ta2.2.2.2.2.2.2.2.2.1, I ta2.2.2.2.2.2.2.2.2.2]), .ret (I ta3), .br false, .lp [] [0, 3, 5] [] .ret [(2, .d (I 9))] [] 46], [], [2], [], round_of (ob := [LoopN cx (loopAt cx.P 40 1) 39 0 false [(0, .d (.lst false 10 a0)), (3, .d (I sa)), (5, .d (I 0))] [] .ret [(2, .d (I 9))] [], (ta3 != 0) = false, Computes cx 13 [.agg [.v (.string ta2.1), I ta2.2.1, I ta2.2.2.1, I ta2.2.2.2.1, I ta2.2.2.2.2.1, I ta2.2.2.2.2.2.1, I ta2.2.2.2.2.2.2.1, I ta2.2.2.2.2.2.2.2.1, I ta2.2.2.2.2.2.2.2.2.1, I ta2.2.2.2.2.2.2.2.2.2]] (I ta3), (0 : Int) ≤ sa, nth (a0) (Int.toNat sa) = some (.agg [.v (.string ta2.1), I ta2.2.1, I ta2.2.2.1, I ta2.2.2.2.1, I ta2.2.2.2.2.1, I ta2.2.2.2.2.2.1, I ta2.2.2.2.2.2.2.1, I ta2.2.2.2.2.2.2.2.1, I ta2.2.2.2.2.2.2.2.2.1, I ta2.2.2.2.2.2.2.2.2.2]), (decide (sa < ((a0).length : Int))) = true]) (by kernel_rfl) ⟨(loopF_to R_ref04_CheckMirrors_L1 ha5), (nef ha4), (c_ref04_CheckMirror ha3), (el_ok un_Asi9Z_ok ha2).1, (el_ok un_Asi9Z_ok ha2).2, (decide_eq_true ha1), trivial⟩⟩, nofun⟩
      · obtain ⟨ha6, h⟩ := grd_of h
        replace h := Option.some.inj h
        subst h
        exact ⟨100, 5, [.br true, .el (.agg [.v (.string ta2.1), I ta2.2.1, I ta2.2.2.1, I ta2.2.2.2.1, I ta2.2.2.2.2.1, I ta2.2.2.2.2.2.1, I ta2.2.2.2.2.2.2.1, I ta2.2.2.2.2.2.2.2.1, I ta2.2.2.2.2.2.2.2.2.1, I ta2.2.2.2.2.2.2.2.2.2]), .ret (I ta3), .br false, .lp [] [0, 3, 5] [] (.exit 2) [(0, .d (.lst false 10 a0)), (3, .d (I sa))] [] 46], [], [0, 3], [], round_of (ob := [inI64 (sa + 1), LoopN cx (loopAt cx.P 40 1) 39 0 false [(0, .d (.lst false 10 a0)), (3, .d (I sa)), (5, .d (I 0))] [] (.exit 2) [(0, .d (.lst false 10 a0)), (3, .d (I sa))] [], (ta3 != 0) = false, Computes cx 13 [.agg [.v (.string ta2.1), I ta2.2.1, I ta2.2.2.1, I ta2.2.2.2.1, I ta2.2.2.2.2.1, I ta2.2.2.2.2.2.1, I ta2.2.2.2.2.2.2.1, I ta2.2.2.2.2.2.2.2.1, I ta2.2.2.2.2.2.2.2.2.1, I ta2.2.2.2.2.2.2.2.2.2]] (I ta3), (0 : Int) ≤ sa, nth (a0) (Int.toNat sa) = some (.agg [.v (.string ta2.1), I ta2.2.1, I ta2.2.2.1, I ta2.2.2.2.1, I ta2.2.2.2.2.1, I ta2.2.2.2.2.2.1, I ta2.2.2.2.2.2.2.1, I ta2.2.2.2.2.2.2.2.1, I ta2.2.2.2.2.2.2.2.2.1, I ta2.2.2.2.2.2.2.2.2.2]), (decide (sa < ((a0).length : Int))) = true]) (by kernel_rfl) ⟨ha6, (loopF_to R_ref04_CheckMirrors_L1 ha5), (nef ha4), (c_ref04_CheckMirror ha3), (el_ok un_Asi9Z_ok ha2).1, (el_ok un_Asi9Z_ok ha2).2, (decide_eq_true ha1), trivial⟩⟩
    · replace h := ite_f h ha4
      replace h := Option.some.inj h
      subst h
      exact ⟨⟨100, 5, [.br true, .el (.agg [.v (.string ta2.1), I ta2.2.1, I ta2.2.2.1, I ta2.2.2.2.1, I ta2.2.2.2.2.1, I ta2.2.2.2.2.2.1, I ta2.2.2.2.2.2.2.1, I ta2.2.2.2.2.2.2.2.1, I ta2.2.2.2.2.2.2.2.2.1, I ta2.2.2.2.2.2.2.2.2.2]), .ret (I ta3), .br true], [], [2], [], round_of (ob := [(ta3 != 0) = true, Computes cx 13 [.agg [.v (.string ta2.1), I ta2.2.1, I ta2.2.2.1, I ta2.2.2.2.1, I ta2.2.2.2.2.1, I ta2.2.2.2.2.2.1, I ta2.2.2.2.2.2.2.1, I ta2.2.2.2.2.2.2.2.1, I ta2.2.2.2.2.2.2.2.2.1, I ta2.2.2.2.2.2.2.2.2.2]] (I ta3), (0 : Int) ≤ sa, nth (a0) (Int.toNat sa) = some (.agg [.v (.string ta2.1), I ta2.2.1, I ta2.2.2.1, I ta2.2.2.2.1, I ta2.2.2.2.2.1, I ta2.2.2.2.2.2.1, I ta2.2.2.2.2.2.2.1, I ta2.2.2.2.2.2.2.2.1, I ta2.2.2.2.2.2.2.2.2.1, I ta2.2.2.2.2.2.2.2.2.2]), (decide (sa < ((a0).length : Int))) = true]) (by kernel_rfl) ⟨(net ha4), (c_ref04_CheckMirror ha3), (el_ok un_Asi9Z_ok ha2).1, (el_ok un_Asi9Z_ok ha2).2, (decide_eq_true ha1), trivial⟩⟩, nofun⟩
  · replace h := ite_f h ha1
    replace h := Option.some.inj h
    subst h
    exact ⟨⟨100, 5, [.br false], [], [], [], round_of (ob := [(decide (sa < ((a0).length : Int))) = false]) (by kernel_rfl) ⟨(decide_eq_false ha1), trivial⟩⟩, nofun⟩
/- spillage/spillageref04.CheckMirrors: .lst false 10 a0 -/
def F_ref04_CheckMirrors (n : Nat) (a0 : List D) : Option (Int) :=
  if ((a0).length : Int) > 64 then
    some 5
  else
  (loopF (F_ref04_CheckMirrors_L2 n a0) n 0).bind fun t2 => match t2 with
    | (.inl t2) => (
      some t2)
    | (.inr t2) => (
      some 0)
theorem c_ref04_CheckMirrors {n : Nat} {a0 : List D} {r : Int} (h : F_ref04_CheckMirrors n a0 = some r) : Computes cx 40 [.lst false 10 a0] (I r) := by
  unfold F_ref04_CheckMirrors at h
  by_cases h1 : ((a0).length : Int) > 64
  · replace h := ite_t h h1
    replace h := Option.some.inj h
    subst h
    exact run (n := 100) (f := 40) (args := [.lst false 10 a0]) (orc := [.br true]) (r := I 5) (ob := [(decide (((a0).length : Int) > 64)) = true]) (by kernel_rfl) ⟨(decide_eq_true h1), trivial⟩
  · replace h := ite_f h h1
    obtain ⟨t2, h2, h⟩ := bnd_of h
    rcases t2 with t2 | t2
    · replace h := Option.some.inj h
      subst h
      exact run (n := 100) (f := 40) (args := [.lst false 10 a0]) (orc := [.br false, .lp [] [0, 3] [] .ret [(2, .d (I t2))] [] 60]) (r := I t2) (ob := [LoopN cx (loopAt cx.P 40 0) 39 0 false [(0, .d (.lst false 10 a0)), (3, .d (I 0))] [] .ret [(2, .d (I t2))] [], (decide (((a0).length : Int) > 64)) = false]) (by kernel_rfl) ⟨(loopF_to R_ref04_CheckMirrors_L2 h2), (decide_eq_false h1), trivial⟩
    · replace h := Option.some.inj h
      subst h
      exact run (n := 100) (f := 40) (args := [.lst false 10 a0]) (orc := [.br false, .lp [] [0, 3] [] (.exit 0) [] [] 60]) (r := I 0) (ob := [LoopN cx (loopAt cx.P 40 0) 39 0 false [(0, .d (.lst false 10 a0)), (3, .d (I 0))] [] (.exit 0) [] [], (decide (((a0).length : Int) > 64)) = false]) (by kernel_rfl) ⟨(loopF_to R_ref04_CheckMirrors_L2 h2), (decide_eq_false h1), trivial⟩
end Go.Proofs.YtbjibgaknkaifaaGreatDoor
