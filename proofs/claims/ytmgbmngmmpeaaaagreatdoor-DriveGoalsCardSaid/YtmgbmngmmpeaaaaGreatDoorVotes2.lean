/-
  Printed by gsx.py: functions of the program as Lean functions, and that the code computes them.
-/
import Derived.Test.YtmgbmngmmpeaaaaGreatDoorVotes1
set_option linter.unusedVariables false
set_option linter.unusedSimpArgs false
set_option linter.unnecessarySimpa false
set_option maxRecDepth 10000
namespace Go.Proofs.YtmgbmngmmpeaaaaGreatDoor
open Go.SX
/- spillage/spillageref03.Voted: .agg [I a0, I a1, I a2], I a3 -/
def F_ref03_Voted (n : Nat) (a0 : Int) (a1 : Int) (a2 : Int) (a3 : Int) : Option (Int × Int × Int) :=
  (F_ref01_CheckRange n a0 (-1000) 1000).bind fun t1 =>
  if t1 = 0 then
    (F_ref01_CheckRange n a1 (-1000) 1000).bind fun t3 =>
    if t3 = 0 then
      (F_ref01_CheckRange n a2 (-1000) 1000).bind fun t5 =>
      if t5 = 0 then
        (F_ref01_CheckRange n a3 0 1000).bind fun t7 =>
        if t7 = 0 then
          if inI64 (a0 + a1) then
          if inI64 ((a0 + a1) + a2) then
          if inI64 (((a0 + a1) + a2) - (minI (minI a0 a1) a2)) then
          if inI64 ((((a0 + a1) + a2) - (minI (minI a0 a1) a2)) - (maxI (maxI a0 a1) a2)) then
          if inI64 (((((a0 + a1) + a2) - (minI (minI a0 a1) a2)) - (maxI (maxI a0 a1) a2)) - (minI (minI a0 a1) a2)) then
          if inI64 ((maxI (maxI a0 a1) a2) - ((((a0 + a1) + a2) - (minI (minI a0 a1) a2)) - (maxI (maxI a0 a1) a2))) then
          if (((((a0 + a1) + a2) - (minI (minI a0 a1) a2)) - (maxI (maxI a0 a1) a2)) - (minI (minI a0 a1) a2)) ≤ a3 then
            if ((maxI (maxI a0 a1) a2) - ((((a0 + a1) + a2) - (minI (minI a0 a1) a2)) - (maxI (maxI a0 a1) a2))) ≤ a3 then
              some (((((a0 + a1) + a2) - (minI (minI a0 a1) a2)) - (maxI (maxI a0 a1) a2)), (-1), 0)
            else
            if a0 = (maxI (maxI a0 a1) a2) then
              some (((((a0 + a1) + a2) - (minI (minI a0 a1) a2)) - (maxI (maxI a0 a1) a2)), 0, 0)
            else
            if a1 = (maxI (maxI a0 a1) a2) then
              some (((((a0 + a1) + a2) - (minI (minI a0 a1) a2)) - (maxI (maxI a0 a1) a2)), 1, 0)
            else
            if a2 = (maxI (maxI a0 a1) a2) then
              some (((((a0 + a1) + a2) - (minI (minI a0 a1) a2)) - (maxI (maxI a0 a1) a2)), 2, 0)
            else
            some (((((a0 + a1) + a2) - (minI (minI a0 a1) a2)) - (maxI (maxI a0 a1) a2)), (-1), 0)
          else
          if ((maxI (maxI a0 a1) a2) - ((((a0 + a1) + a2) - (minI (minI a0 a1) a2)) - (maxI (maxI a0 a1) a2))) ≤ a3 then
            if a0 = (minI (minI a0 a1) a2) then
              some (((((a0 + a1) + a2) - (minI (minI a0 a1) a2)) - (maxI (maxI a0 a1) a2)), 0, 0)
            else
            if a1 = (minI (minI a0 a1) a2) then
              some (((((a0 + a1) + a2) - (minI (minI a0 a1) a2)) - (maxI (maxI a0 a1) a2)), 1, 0)
            else
            if a2 = (minI (minI a0 a1) a2) then
              some (((((a0 + a1) + a2) - (minI (minI a0 a1) a2)) - (maxI (maxI a0 a1) a2)), 2, 0)
            else
            some (((((a0 + a1) + a2) - (minI (minI a0 a1) a2)) - (maxI (maxI a0 a1) a2)), (-1), 0)
          else
          some (0, 0, 7)
          else none
          else none
          else none
          else none
          else none
          else none
        else
        some (0, 0, t7)
      else
      some (0, 0, t5)
    else
    some (0, 0, t3)
  else
  some (0, 0, t1)
theorem c_ref03_Voted {n : Nat} {a0 : Int} {a1 : Int} {a2 : Int} {a3 : Int} {r : Int × Int × Int} (h : F_ref03_Voted n a0 a1 a2 a3 = some r) : Computes cx 64 [.agg [I a0, I a1, I a2], I a3] (.tup [I r.1, I r.2.1, I r.2.2]) := by
  unfold F_ref03_Voted at h
  obtain ⟨t1, h1, h⟩ := bnd_of h
  by_cases h2 : t1 = 0
  · replace h := ite_t h h2
    obtain ⟨t3, h3, h⟩ := bnd_of h
    by_cases h4 : t3 = 0
    · replace h := ite_t h h4
      obtain ⟨t5, h5, h⟩ := bnd_of h
      by_cases h6 : t5 = 0
      · replace h := ite_t h h6
        obtain ⟨t7, h7, h⟩ := bnd_of h
        by_cases h8 : t7 = 0
        · replace h := ite_t h h8
          obtain ⟨h9, h⟩ := grd_of h
          obtain ⟨h10, h⟩ := grd_of h
          obtain ⟨h11, h⟩ := grd_of h
          obtain ⟨h12, h⟩ := grd_of h
          obtain ⟨h13, h⟩ := grd_of h
          obtain ⟨h14, h⟩ := grd_of h
          by_cases h15 : (((((a0 + a1) + a2) - (minI (minI a0 a1) a2)) - (maxI (maxI a0 a1) a2)) - (minI (minI a0 a1) a2)) ≤ a3
          · replace h := ite_t h h15
            by_cases h16 : ((maxI (maxI a0 a1) a2) - ((((a0 + a1) + a2) - (minI (minI a0 a1) a2)) - (maxI (maxI a0 a1) a2))) ≤ a3
            · replace h := ite_t h h16
              replace h := Option.some.inj h
              subst h
              exact run (n := 100) (f := 64) (args := [.agg [I a0, I a1, I a2], I a3]) (orc := [.no, .no, .ret (I t1), .br false, .no, .no, .ret (I t3), .br false, .no, .no, .ret (I t5), .br false, .no, .no, .ret (I t7), .br false, .br false, .no, .no, .no, .br true, .br false, .no, .br true, .br false, .no, .no, .no, .br true, .br false, .no, .br true, .br false, .no, .no, .no, .br true, .br false, .no, .br true, .br false, .no, .no, .no]) (r := .tup [I ((((a0 + a1) + a2) - (minI (minI a0 a1) a2)) - (maxI (maxI a0 a1) a2)), I (-1), I 0]) (ob := [inI64 3, (!(decide ((((((a0 + a1) + a2) - (minI (minI a0 a1) a2)) - (maxI (maxI a0 a1) a2)) - (minI (minI a0 a1) a2)) ≤ a3))) = false, (decide (((maxI (maxI a0 a1) a2) - ((((a0 + a1) + a2) - (minI (minI a0 a1) a2)) - (maxI (maxI a0 a1) a2))) ≤ a3)) = true, (!(decide (((maxI (maxI a0 a1) a2) - ((((a0 + a1) + a2) - (minI (minI a0 a1) a2)) - (maxI (maxI a0 a1) a2))) ≤ a3))) = false, (decide ((((((a0 + a1) + a2) - (minI (minI a0 a1) a2)) - (maxI (maxI a0 a1) a2)) - (minI (minI a0 a1) a2)) ≤ a3)) = true, inI64 2, (!(decide ((((((a0 + a1) + a2) - (minI (minI a0 a1) a2)) - (maxI (maxI a0 a1) a2)) - (minI (minI a0 a1) a2)) ≤ a3))) = false, (decide (((maxI (maxI a0 a1) a2) - ((((a0 + a1) + a2) - (minI (minI a0 a1) a2)) - (maxI (maxI a0 a1) a2))) ≤ a3)) = true, (!(decide (((maxI (maxI a0 a1) a2) - ((((a0 + a1) + a2) - (minI (minI a0 a1) a2)) - (maxI (maxI a0 a1) a2))) ≤ a3))) = false, (decide ((((((a0 + a1) + a2) - (minI (minI a0 a1) a2)) - (maxI (maxI a0 a1) a2)) - (minI (minI a0 a1) a2)) ≤ a3)) = true, inI64 1, (!(decide ((((((a0 + a1) + a2) - (minI (minI a0 a1) a2)) - (maxI (maxI a0 a1) a2)) - (minI (minI a0 a1) a2)) ≤ a3))) = false, (decide (((maxI (maxI a0 a1) a2) - ((((a0 + a1) + a2) - (minI (minI a0 a1) a2)) - (maxI (maxI a0 a1) a2))) ≤ a3)) = true, (!(decide (((maxI (maxI a0 a1) a2) - ((((a0 + a1) + a2) - (minI (minI a0 a1) a2)) - (maxI (maxI a0 a1) a2))) ≤ a3))) = false, (decide ((((((a0 + a1) + a2) - (minI (minI a0 a1) a2)) - (maxI (maxI a0 a1) a2)) - (minI (minI a0 a1) a2)) ≤ a3)) = true, (!(decide ((((((a0 + a1) + a2) - (minI (minI a0 a1) a2)) - (maxI (maxI a0 a1) a2)) - (minI (minI a0 a1) a2)) ≤ a3))) = false, inI64 ((maxI (maxI a0 a1) a2) - ((((a0 + a1) + a2) - (minI (minI a0 a1) a2)) - (maxI (maxI a0 a1) a2))), inI64 (((((a0 + a1) + a2) - (minI (minI a0 a1) a2)) - (maxI (maxI a0 a1) a2)) - (minI (minI a0 a1) a2)), inI64 ((((a0 + a1) + a2) - (minI (minI a0 a1) a2)) - (maxI (maxI a0 a1) a2)), inI64 (((a0 + a1) + a2) - (minI (minI a0 a1) a2)), inI64 ((a0 + a1) + a2), inI64 (a0 + a1), (t7 != 0) = false, Computes cx 59 [I a3, I 0, I 1000] (I t7), inI64 3, (t5 != 0) = false, Computes cx 59 [I a2, I (-1000), I 1000] (I t5), inI64 2, (t3 != 0) = false, Computes cx 59 [I a1, I (-1000), I 1000] (I t3), inI64 1, (t1 != 0) = false, Computes cx 59 [I a0, I (-1000), I 1000] (I t1)]) (e_ref03_Voted_0 a0 a1 a2 a3 t1 t3 t5 t7) ⟨(by unfold inI64; omega), (notf (decide_eq_true h15)), (decide_eq_true h16), (notf (decide_eq_true h16)), (decide_eq_true h15), (by unfold inI64; omega), (notf (decide_eq_true h15)), (decide_eq_true h16), (notf (decide_eq_true h16)), (decide_eq_true h15), (by unfold inI64; omega), (notf (decide_eq_true h15)), (decide_eq_true h16), (notf (decide_eq_true h16)), (decide_eq_true h15), (notf (decide_eq_true h15)), h14, h13, h12, h11, h10, h9, (nef h8), (c_ref01_CheckRange h7), (by unfold inI64; omega), (nef h6), (c_ref01_CheckRange h5), (by unfold inI64; omega), (nef h4), (c_ref01_CheckRange h3), (by unfold inI64; omega), (nef h2), (c_ref01_CheckRange h1), trivial⟩
            · replace h := ite_f h h16
              by_cases h17 : a0 = (maxI (maxI a0 a1) a2)
              · replace h := ite_t h h17
                replace h := Option.some.inj h
                subst h
                exact run (n := 100) (f := 64) (args := [.agg [I a0, I a1, I a2], I a3]) (orc := [.no, .no, .ret (I t1), .br false, .no, .no, .ret (I t3), .br false, .no, .no, .ret (I t5), .br false, .no, .no, .ret (I t7), .br false, .br false, .no, .no, .no, .br true, .br true, .br true, .no]) (r := .tup [I ((((a0 + a1) + a2) - (minI (minI a0 a1) a2)) - (maxI (maxI a0 a1) a2)), I 0, I 0]) (ob := [(a0 == (maxI (maxI a0 a1) a2)) = true, (!(decide (((maxI (maxI a0 a1) a2) - ((((a0 + a1) + a2) - (minI (minI a0 a1) a2)) - (maxI (maxI a0 a1) a2))) ≤ a3))) = true, (decide ((((((a0 + a1) + a2) - (minI (minI a0 a1) a2)) - (maxI (maxI a0 a1) a2)) - (minI (minI a0 a1) a2)) ≤ a3)) = true, (!(decide ((((((a0 + a1) + a2) - (minI (minI a0 a1) a2)) - (maxI (maxI a0 a1) a2)) - (minI (minI a0 a1) a2)) ≤ a3))) = false, inI64 ((maxI (maxI a0 a1) a2) - ((((a0 + a1) + a2) - (minI (minI a0 a1) a2)) - (maxI (maxI a0 a1) a2))), inI64 (((((a0 + a1) + a2) - (minI (minI a0 a1) a2)) - (maxI (maxI a0 a1) a2)) - (minI (minI a0 a1) a2)), inI64 ((((a0 + a1) + a2) - (minI (minI a0 a1) a2)) - (maxI (maxI a0 a1) a2)), inI64 (((a0 + a1) + a2) - (minI (minI a0 a1) a2)), inI64 ((a0 + a1) + a2), inI64 (a0 + a1), (t7 != 0) = false, Computes cx 59 [I a3, I 0, I 1000] (I t7), inI64 3, (t5 != 0) = false, Computes cx 59 [I a2, I (-1000), I 1000] (I t5), inI64 2, (t3 != 0) = false, Computes cx 59 [I a1, I (-1000), I 1000] (I t3), inI64 1, (t1 != 0) = false, Computes cx 59 [I a0, I (-1000), I 1000] (I t1)]) (e_ref03_Voted_1 a0 a1 a2 a3 t1 t3 t5 t7) ⟨(eqt h17), (nott (decide_eq_false h16)), (decide_eq_true h15), (notf (decide_eq_true h15)), h14, h13, h12, h11, h10, h9, (nef h8), (c_ref01_CheckRange h7), (by unfold inI64; omega), (nef h6), (c_ref01_CheckRange h5), (by unfold inI64; omega), (nef h4), (c_ref01_CheckRange h3), (by unfold inI64; omega), (nef h2), (c_ref01_CheckRange h1), trivial⟩
              · replace h := ite_f h h17
                by_cases h18 : a1 = (maxI (maxI a0 a1) a2)
                · replace h := ite_t h h18
                  replace h := Option.some.inj h
                  subst h
                  exact run (n := 100) (f := 64) (args := [.agg [I a0, I a1, I a2], I a3]) (orc := [.no, .no, .ret (I t1), .br false, .no, .no, .ret (I t3), .br false, .no, .no, .ret (I t5), .br false, .no, .no, .ret (I t7), .br false, .br false, .no, .no, .no, .br true, .br true, .br false, .br false, .no, .no, .no, .no, .br true, .br true, .br true, .no]) (r := .tup [I ((((a0 + a1) + a2) - (minI (minI a0 a1) a2)) - (maxI (maxI a0 a1) a2)), I 1, I 0]) (ob := [(a1 == (maxI (maxI a0 a1) a2)) = true, (!(decide (((maxI (maxI a0 a1) a2) - ((((a0 + a1) + a2) - (minI (minI a0 a1) a2)) - (maxI (maxI a0 a1) a2))) ≤ a3))) = true, (decide ((((((a0 + a1) + a2) - (minI (minI a0 a1) a2)) - (maxI (maxI a0 a1) a2)) - (minI (minI a0 a1) a2)) ≤ a3)) = true, inI64 1, (decide (((maxI (maxI a0 a1) a2) - ((((a0 + a1) + a2) - (minI (minI a0 a1) a2)) - (maxI (maxI a0 a1) a2))) ≤ a3)) = false, (a0 == (maxI (maxI a0 a1) a2)) = false, (!(decide (((maxI (maxI a0 a1) a2) - ((((a0 + a1) + a2) - (minI (minI a0 a1) a2)) - (maxI (maxI a0 a1) a2))) ≤ a3))) = true, (decide ((((((a0 + a1) + a2) - (minI (minI a0 a1) a2)) - (maxI (maxI a0 a1) a2)) - (minI (minI a0 a1) a2)) ≤ a3)) = true, (!(decide ((((((a0 + a1) + a2) - (minI (minI a0 a1) a2)) - (maxI (maxI a0 a1) a2)) - (minI (minI a0 a1) a2)) ≤ a3))) = false, inI64 ((maxI (maxI a0 a1) a2) - ((((a0 + a1) + a2) - (minI (minI a0 a1) a2)) - (maxI (maxI a0 a1) a2))), inI64 (((((a0 + a1) + a2) - (minI (minI a0 a1) a2)) - (maxI (maxI a0 a1) a2)) - (minI (minI a0 a1) a2)), inI64 ((((a0 + a1) + a2) - (minI (minI a0 a1) a2)) - (maxI (maxI a0 a1) a2)), inI64 (((a0 + a1) + a2) - (minI (minI a0 a1) a2)), inI64 ((a0 + a1) + a2), inI64 (a0 + a1), (t7 != 0) = false, Computes cx 59 [I a3, I 0, I 1000] (I t7), inI64 3, (t5 != 0) = false, Computes cx 59 [I a2, I (-1000), I 1000] (I t5), inI64 2, (t3 != 0) = false, Computes cx 59 [I a1, I (-1000), I 1000] (I t3), inI64 1, (t1 != 0) = false, Computes cx 59 [I a0, I (-1000), I 1000] (I t1)]) (e_ref03_Voted_2 a0 a1 a2 a3 t1 t3 t5 t7) ⟨(eqt h18), (nott (decide_eq_false h16)), (decide_eq_true h15), (by unfold inI64; omega), (decide_eq_false h16), (eqf h17), (nott (decide_eq_false h16)), (decide_eq_true h15), (notf (decide_eq_true h15)), h14, h13, h12, h11, h10, h9, (nef h8), (c_ref01_CheckRange h7), (by unfold inI64; omega), (nef h6), (c_ref01_CheckRange h5), (by unfold inI64; omega), (nef h4), (c_ref01_CheckRange h3), (by unfold inI64; omega), (nef h2), (c_ref01_CheckRange h1), trivial⟩
                · replace h := ite_f h h18
                  by_cases h19 : a2 = (maxI (maxI a0 a1) a2)
                  · replace h := ite_t h h19
                    replace h := Option.some.inj h
                    subst h
                    exact run (n := 100) (f := 64) (args := [.agg [I a0, I a1, I a2], I a3]) (orc := [.no, .no, .ret (I t1), .br false, .no, .no, .ret (I t3), .br false, .no, .no, .ret (I t5), .br false, .no, .no, .ret (I t7), .br false, .br false, .no, .no, .no, .br true, .br true, .br false, .br false, .no, .no, .no, .no, .br true, .br true, .br false, .br false, .no, .no, .no, .no, .br true, .br true, .br true, .no]) (r := .tup [I ((((a0 + a1) + a2) - (minI (minI a0 a1) a2)) - (maxI (maxI a0 a1) a2)), I 2, I 0]) (ob := [(a2 == (maxI (maxI a0 a1) a2)) = true, (!(decide (((maxI (maxI a0 a1) a2) - ((((a0 + a1) + a2) - (minI (minI a0 a1) a2)) - (maxI (maxI a0 a1) a2))) ≤ a3))) = true, (decide ((((((a0 + a1) + a2) - (minI (minI a0 a1) a2)) - (maxI (maxI a0 a1) a2)) - (minI (minI a0 a1) a2)) ≤ a3)) = true, inI64 2, (decide (((maxI (maxI a0 a1) a2) - ((((a0 + a1) + a2) - (minI (minI a0 a1) a2)) - (maxI (maxI a0 a1) a2))) ≤ a3)) = false, (a1 == (maxI (maxI a0 a1) a2)) = false, (!(decide (((maxI (maxI a0 a1) a2) - ((((a0 + a1) + a2) - (minI (minI a0 a1) a2)) - (maxI (maxI a0 a1) a2))) ≤ a3))) = true, (decide ((((((a0 + a1) + a2) - (minI (minI a0 a1) a2)) - (maxI (maxI a0 a1) a2)) - (minI (minI a0 a1) a2)) ≤ a3)) = true, inI64 1, (decide (((maxI (maxI a0 a1) a2) - ((((a0 + a1) + a2) - (minI (minI a0 a1) a2)) - (maxI (maxI a0 a1) a2))) ≤ a3)) = false, (a0 == (maxI (maxI a0 a1) a2)) = false, (!(decide (((maxI (maxI a0 a1) a2) - ((((a0 + a1) + a2) - (minI (minI a0 a1) a2)) - (maxI (maxI a0 a1) a2))) ≤ a3))) = true, (decide ((((((a0 + a1) + a2) - (minI (minI a0 a1) a2)) - (maxI (maxI a0 a1) a2)) - (minI (minI a0 a1) a2)) ≤ a3)) = true, (!(decide ((((((a0 + a1) + a2) - (minI (minI a0 a1) a2)) - (maxI (maxI a0 a1) a2)) - (minI (minI a0 a1) a2)) ≤ a3))) = false, inI64 ((maxI (maxI a0 a1) a2) - ((((a0 + a1) + a2) - (minI (minI a0 a1) a2)) - (maxI (maxI a0 a1) a2))), inI64 (((((a0 + a1) + a2) - (minI (minI a0 a1) a2)) - (maxI (maxI a0 a1) a2)) - (minI (minI a0 a1) a2)), inI64 ((((a0 + a1) + a2) - (minI (minI a0 a1) a2)) - (maxI (maxI a0 a1) a2)), inI64 (((a0 + a1) + a2) - (minI (minI a0 a1) a2)), inI64 ((a0 + a1) + a2), inI64 (a0 + a1), (t7 != 0) = false, Computes cx 59 [I a3, I 0, I 1000] (I t7), inI64 3, (t5 != 0) = false, Computes cx 59 [I a2, I (-1000), I 1000] (I t5), inI64 2, (t3 != 0) = false, Computes cx 59 [I a1, I (-1000), I 1000] (I t3), inI64 1, (t1 != 0) = false, Computes cx 59 [I a0, I (-1000), I 1000] (I t1)]) (e_ref03_Voted_3 a0 a1 a2 a3 t1 t3 t5 t7) ⟨(eqt h19), (nott (decide_eq_false h16)), (decide_eq_true h15), (by unfold inI64; omega), (decide_eq_false h16), (eqf h18), (nott (decide_eq_false h16)), (decide_eq_true h15), (by unfold inI64; omega), (decide_eq_false h16), (eqf h17), (nott (decide_eq_false h16)), (decide_eq_true h15), (notf (decide_eq_true h15)), h14, h13, h12, h11, h10, h9, (nef h8), (c_ref01_CheckRange h7), (by unfold inI64; omega), (nef h6), (c_ref01_CheckRange h5), (by unfold inI64; omega), (nef h4), (c_ref01_CheckRange h3), (by unfold inI64; omega), (nef h2), (c_ref01_CheckRange h1), trivial⟩
                  · replace h := ite_f h h19
                    replace h := Option.some.inj h
                    subst h
                    exact run (n := 100) (f := 64) (args := [.agg [I a0, I a1, I a2], I a3]) (orc := [.no, .no, .ret (I t1), .br false, .no, .no, .ret (I t3), .br false, .no, .no, .ret (I t5), .br false, .no, .no, .ret (I t7), .br false, .br false, .no, .no, .no, .br true, .br true, .br false, .br false, .no, .no, .no, .no, .br true, .br true, .br false, .br false, .no, .no, .no, .no, .br true, .br true, .br false, .br false, .no, .no, .no, .no]) (r := .tup [I ((((a0 + a1) + a2) - (minI (minI a0 a1) a2)) - (maxI (maxI a0 a1) a2)), I (-1), I 0]) (ob := [inI64 3, (decide (((maxI (maxI a0 a1) a2) - ((((a0 + a1) + a2) - (minI (minI a0 a1) a2)) - (maxI (maxI a0 a1) a2))) ≤ a3)) = false, (a2 == (maxI (maxI a0 a1) a2)) = false, (!(decide (((maxI (maxI a0 a1) a2) - ((((a0 + a1) + a2) - (minI (minI a0 a1) a2)) - (maxI (maxI a0 a1) a2))) ≤ a3))) = true, (decide ((((((a0 + a1) + a2) - (minI (minI a0 a1) a2)) - (maxI (maxI a0 a1) a2)) - (minI (minI a0 a1) a2)) ≤ a3)) = true, inI64 2, (decide (((maxI (maxI a0 a1) a2) - ((((a0 + a1) + a2) - (minI (minI a0 a1) a2)) - (maxI (maxI a0 a1) a2))) ≤ a3)) = false, (a1 == (maxI (maxI a0 a1) a2)) = false, (!(decide (((maxI (maxI a0 a1) a2) - ((((a0 + a1) + a2) - (minI (minI a0 a1) a2)) - (maxI (maxI a0 a1) a2))) ≤ a3))) = true, (decide ((((((a0 + a1) + a2) - (minI (minI a0 a1) a2)) - (maxI (maxI a0 a1) a2)) - (minI (minI a0 a1) a2)) ≤ a3)) = true, inI64 1, (decide (((maxI (maxI a0 a1) a2) - ((((a0 + a1) + a2) - (minI (minI a0 a1) a2)) - (maxI (maxI a0 a1) a2))) ≤ a3)) = false, (a0 == (maxI (maxI a0 a1) a2)) = false, (!(decide (((maxI (maxI a0 a1) a2) - ((((a0 + a1) + a2) - (minI (minI a0 a1) a2)) - (maxI (maxI a0 a1) a2))) ≤ a3))) = true, (decide ((((((a0 + a1) + a2) - (minI (minI a0 a1) a2)) - (maxI (maxI a0 a1) a2)) - (minI (minI a0 a1) a2)) ≤ a3)) = true, (!(decide ((((((a0 + a1) + a2) - (minI (minI a0 a1) a2)) - (maxI (maxI a0 a1) a2)) - (minI (minI a0 a1) a2)) ≤ a3))) = false, inI64 ((maxI (maxI a0 a1) a2) - ((((a0 + a1) + a2) - (minI (minI a0 a1) a2)) - (maxI (maxI a0 a1) a2))), inI64 (((((a0 + a1) + a2) - (minI (minI a0 a1) a2)) - (maxI (maxI a0 a1) a2)) - (minI (minI a0 a1) a2)), inI64 ((((a0 + a1) + a2) - (minI (minI a0 a1) a2)) - (maxI (maxI a0 a1) a2)), inI64 (((a0 + a1) + a2) - (minI (minI a0 a1) a2)), inI64 ((a0 + a1) + a2), inI64 (a0 + a1), (t7 != 0) = false, Computes cx 59 [I a3, I 0, I 1000] (I t7), inI64 3, (t5 != 0) = false, Computes cx 59 [I a2, I (-1000), I 1000] (I t5), inI64 2, (t3 != 0) = false, Computes cx 59 [I a1, I (-1000), I 1000] (I t3), inI64 1, (t1 != 0) = false, Computes cx 59 [I a0, I (-1000), I 1000] (I t1)]) (e_ref03_Voted_4 a0 a1 a2 a3 t1 t3 t5 t7) ⟨(by unfold inI64; omega), (decide_eq_false h16), (eqf h19), (nott (decide_eq_false h16)), (decide_eq_true h15), (by unfold inI64; omega), (decide_eq_false h16), (eqf h18), (nott (decide_eq_false h16)), (decide_eq_true h15), (by unfold inI64; omega), (decide_eq_false h16), (eqf h17), (nott (decide_eq_false h16)), (decide_eq_true h15), (notf (decide_eq_true h15)), h14, h13, h12, h11, h10, h9, (nef h8), (c_ref01_CheckRange h7), (by unfold inI64; omega), (nef h6), (c_ref01_CheckRange h5), (by unfold inI64; omega), (nef h4), (c_ref01_CheckRange h3), (by unfold inI64; omega), (nef h2), (c_ref01_CheckRange h1), trivial⟩
          · replace h := ite_f h h15
            by_cases h16 : ((maxI (maxI a0 a1) a2) - ((((a0 + a1) + a2) - (minI (minI a0 a1) a2)) - (maxI (maxI a0 a1) a2))) ≤ a3
            · replace h := ite_t h h16
              by_cases h17 : a0 = (minI (minI a0 a1) a2)
              · replace h := ite_t h h17
                replace h := Option.some.inj h
                subst h
                exact run (n := 100) (f := 64) (args := [.agg [I a0, I a1, I a2], I a3]) (orc := [.no, .no, .ret (I t1), .br false, .no, .no, .ret (I t3), .br false, .no, .no, .ret (I t5), .br false, .no, .no, .ret (I t7), .br false, .br true, .br false, .no, .no, .br false, .no, .no, .br true, .br true, .br true]) (r := .tup [I ((((a0 + a1) + a2) - (minI (minI a0 a1) a2)) - (maxI (maxI a0 a1) a2)), I 0, I 0]) (ob := [(a0 == (minI (minI a0 a1) a2)) = true, (!(decide ((((((a0 + a1) + a2) - (minI (minI a0 a1) a2)) - (maxI (maxI a0 a1) a2)) - (minI (minI a0 a1) a2)) ≤ a3))) = true, (decide (((maxI (maxI a0 a1) a2) - ((((a0 + a1) + a2) - (minI (minI a0 a1) a2)) - (maxI (maxI a0 a1) a2))) ≤ a3)) = true, (decide ((((((a0 + a1) + a2) - (minI (minI a0 a1) a2)) - (maxI (maxI a0 a1) a2)) - (minI (minI a0 a1) a2)) ≤ a3)) = false, (!(decide (((maxI (maxI a0 a1) a2) - ((((a0 + a1) + a2) - (minI (minI a0 a1) a2)) - (maxI (maxI a0 a1) a2))) ≤ a3))) = false, (!(decide ((((((a0 + a1) + a2) - (minI (minI a0 a1) a2)) - (maxI (maxI a0 a1) a2)) - (minI (minI a0 a1) a2)) ≤ a3))) = true, inI64 ((maxI (maxI a0 a1) a2) - ((((a0 + a1) + a2) - (minI (minI a0 a1) a2)) - (maxI (maxI a0 a1) a2))), inI64 (((((a0 + a1) + a2) - (minI (minI a0 a1) a2)) - (maxI (maxI a0 a1) a2)) - (minI (minI a0 a1) a2)), inI64 ((((a0 + a1) + a2) - (minI (minI a0 a1) a2)) - (maxI (maxI a0 a1) a2)), inI64 (((a0 + a1) + a2) - (minI (minI a0 a1) a2)), inI64 ((a0 + a1) + a2), inI64 (a0 + a1), (t7 != 0) = false, Computes cx 59 [I a3, I 0, I 1000] (I t7), inI64 3, (t5 != 0) = false, Computes cx 59 [I a2, I (-1000), I 1000] (I t5), inI64 2, (t3 != 0) = false, Computes cx 59 [I a1, I (-1000), I 1000] (I t3), inI64 1, (t1 != 0) = false, Computes cx 59 [I a0, I (-1000), I 1000] (I t1)]) (e_ref03_Voted_5 a0 a1 a2 a3 t1 t3 t5 t7) ⟨(eqt h17), (nott (decide_eq_false h15)), (decide_eq_true h16), (decide_eq_false h15), (notf (decide_eq_true h16)), (nott (decide_eq_false h15)), h14, h13, h12, h11, h10, h9, (nef h8), (c_ref01_CheckRange h7), (by unfold inI64; omega), (nef h6), (c_ref01_CheckRange h5), (by unfold inI64; omega), (nef h4), (c_ref01_CheckRange h3), (by unfold inI64; omega), (nef h2), (c_ref01_CheckRange h1), trivial⟩
              · replace h := ite_f h h17
                by_cases h18 : a1 = (minI (minI a0 a1) a2)
                · replace h := ite_t h h18
                  replace h := Option.some.inj h
                  subst h
                  exact run (n := 100) (f := 64) (args := [.agg [I a0, I a1, I a2], I a3]) (orc := [.no, .no, .ret (I t1), .br false, .no, .no, .ret (I t3), .br false, .no, .no, .ret (I t5), .br false, .no, .no, .ret (I t7), .br false, .br true, .br false, .no, .no, .br false, .no, .no, .br true, .br true, .br false, .no, .no, .br false, .no, .no, .br true, .br true, .br true]) (r := .tup [I ((((a0 + a1) + a2) - (minI (minI a0 a1) a2)) - (maxI (maxI a0 a1) a2)), I 1, I 0]) (ob := [(a1 == (minI (minI a0 a1) a2)) = true, (!(decide ((((((a0 + a1) + a2) - (minI (minI a0 a1) a2)) - (maxI (maxI a0 a1) a2)) - (minI (minI a0 a1) a2)) ≤ a3))) = true, (decide (((maxI (maxI a0 a1) a2) - ((((a0 + a1) + a2) - (minI (minI a0 a1) a2)) - (maxI (maxI a0 a1) a2))) ≤ a3)) = true, (decide ((((((a0 + a1) + a2) - (minI (minI a0 a1) a2)) - (maxI (maxI a0 a1) a2)) - (minI (minI a0 a1) a2)) ≤ a3)) = false, inI64 1, (a0 == (minI (minI a0 a1) a2)) = false, (!(decide ((((((a0 + a1) + a2) - (minI (minI a0 a1) a2)) - (maxI (maxI a0 a1) a2)) - (minI (minI a0 a1) a2)) ≤ a3))) = true, (decide (((maxI (maxI a0 a1) a2) - ((((a0 + a1) + a2) - (minI (minI a0 a1) a2)) - (maxI (maxI a0 a1) a2))) ≤ a3)) = true, (decide ((((((a0 + a1) + a2) - (minI (minI a0 a1) a2)) - (maxI (maxI a0 a1) a2)) - (minI (minI a0 a1) a2)) ≤ a3)) = false, (!(decide (((maxI (maxI a0 a1) a2) - ((((a0 + a1) + a2) - (minI (minI a0 a1) a2)) - (maxI (maxI a0 a1) a2))) ≤ a3))) = false, (!(decide ((((((a0 + a1) + a2) - (minI (minI a0 a1) a2)) - (maxI (maxI a0 a1) a2)) - (minI (minI a0 a1) a2)) ≤ a3))) = true, inI64 ((maxI (maxI a0 a1) a2) - ((((a0 + a1) + a2) - (minI (minI a0 a1) a2)) - (maxI (maxI a0 a1) a2))), inI64 (((((a0 + a1) + a2) - (minI (minI a0 a1) a2)) - (maxI (maxI a0 a1) a2)) - (minI (minI a0 a1) a2)), inI64 ((((a0 + a1) + a2) - (minI (minI a0 a1) a2)) - (maxI (maxI a0 a1) a2)), inI64 (((a0 + a1) + a2) - (minI (minI a0 a1) a2)), inI64 ((a0 + a1) + a2), inI64 (a0 + a1), (t7 != 0) = false, Computes cx 59 [I a3, I 0, I 1000] (I t7), inI64 3, (t5 != 0) = false, Computes cx 59 [I a2, I (-1000), I 1000] (I t5), inI64 2, (t3 != 0) = false, Computes cx 59 [I a1, I (-1000), I 1000] (I t3), inI64 1, (t1 != 0) = false, Computes cx 59 [I a0, I (-1000), I 1000] (I t1)]) (e_ref03_Voted_6 a0 a1 a2 a3 t1 t3 t5 t7) ⟨(eqt h18), (nott (decide_eq_false h15)), (decide_eq_true h16), (decide_eq_false h15), (by unfold inI64; omega), (eqf h17), (nott (decide_eq_false h15)), (decide_eq_true h16), (decide_eq_false h15), (notf (decide_eq_true h16)), (nott (decide_eq_false h15)), h14, h13, h12, h11, h10, h9, (nef h8), (c_ref01_CheckRange h7), (by unfold inI64; omega), (nef h6), (c_ref01_CheckRange h5), (by unfold inI64; omega), (nef h4), (c_ref01_CheckRange h3), (by unfold inI64; omega), (nef h2), (c_ref01_CheckRange h1), trivial⟩
                · replace h := ite_f h h18
                  by_cases h19 : a2 = (minI (minI a0 a1) a2)
                  · replace h := ite_t h h19
                    replace h := Option.some.inj h
                    subst h
                    exact run (n := 100) (f := 64) (args := [.agg [I a0, I a1, I a2], I a3]) (orc := [.no, .no, .ret (I t1), .br false, .no, .no, .ret (I t3), .br false, .no, .no, .ret (I t5), .br false, .no, .no, .ret (I t7), .br false, .br true, .br false, .no, .no, .br false, .no, .no, .br true, .br true, .br false, .no, .no, .br false, .no, .no, .br true, .br true, .br false, .no, .no, .br false, .no, .no, .br true, .br true, .br true]) (r := .tup [I ((((a0 + a1) + a2) - (minI (minI a0 a1) a2)) - (maxI (maxI a0 a1) a2)), I 2, I 0]) (ob := [(a2 == (minI (minI a0 a1) a2)) = true, (!(decide ((((((a0 + a1) + a2) - (minI (minI a0 a1) a2)) - (maxI (maxI a0 a1) a2)) - (minI (minI a0 a1) a2)) ≤ a3))) = true, (decide (((maxI (maxI a0 a1) a2) - ((((a0 + a1) + a2) - (minI (minI a0 a1) a2)) - (maxI (maxI a0 a1) a2))) ≤ a3)) = true, (decide ((((((a0 + a1) + a2) - (minI (minI a0 a1) a2)) - (maxI (maxI a0 a1) a2)) - (minI (minI a0 a1) a2)) ≤ a3)) = false, inI64 2, (a1 == (minI (minI a0 a1) a2)) = false, (!(decide ((((((a0 + a1) + a2) - (minI (minI a0 a1) a2)) - (maxI (maxI a0 a1) a2)) - (minI (minI a0 a1) a2)) ≤ a3))) = true, (decide (((maxI (maxI a0 a1) a2) - ((((a0 + a1) + a2) - (minI (minI a0 a1) a2)) - (maxI (maxI a0 a1) a2))) ≤ a3)) = true, (decide ((((((a0 + a1) + a2) - (minI (minI a0 a1) a2)) - (maxI (maxI a0 a1) a2)) - (minI (minI a0 a1) a2)) ≤ a3)) = false, inI64 1, (a0 == (minI (minI a0 a1) a2)) = false, (!(decide ((((((a0 + a1) + a2) - (minI (minI a0 a1) a2)) - (maxI (maxI a0 a1) a2)) - (minI (minI a0 a1) a2)) ≤ a3))) = true, (decide (((maxI (maxI a0 a1) a2) - ((((a0 + a1) + a2) - (minI (minI a0 a1) a2)) - (maxI (maxI a0 a1) a2))) ≤ a3)) = true, (decide ((((((a0 + a1) + a2) - (minI (minI a0 a1) a2)) - (maxI (maxI a0 a1) a2)) - (minI (minI a0 a1) a2)) ≤ a3)) = false, (!(decide (((maxI (maxI a0 a1) a2) - ((((a0 + a1) + a2) - (minI (minI a0 a1) a2)) - (maxI (maxI a0 a1) a2))) ≤ a3))) = false, (!(decide ((((((a0 + a1) + a2) - (minI (minI a0 a1) a2)) - (maxI (maxI a0 a1) a2)) - (minI (minI a0 a1) a2)) ≤ a3))) = true, inI64 ((maxI (maxI a0 a1) a2) - ((((a0 + a1) + a2) - (minI (minI a0 a1) a2)) - (maxI (maxI a0 a1) a2))), inI64 (((((a0 + a1) + a2) - (minI (minI a0 a1) a2)) - (maxI (maxI a0 a1) a2)) - (minI (minI a0 a1) a2)), inI64 ((((a0 + a1) + a2) - (minI (minI a0 a1) a2)) - (maxI (maxI a0 a1) a2)), inI64 (((a0 + a1) + a2) - (minI (minI a0 a1) a2)), inI64 ((a0 + a1) + a2), inI64 (a0 + a1), (t7 != 0) = false, Computes cx 59 [I a3, I 0, I 1000] (I t7), inI64 3, (t5 != 0) = false, Computes cx 59 [I a2, I (-1000), I 1000] (I t5), inI64 2, (t3 != 0) = false, Computes cx 59 [I a1, I (-1000), I 1000] (I t3), inI64 1, (t1 != 0) = false, Computes cx 59 [I a0, I (-1000), I 1000] (I t1)]) (e_ref03_Voted_7 a0 a1 a2 a3 t1 t3 t5 t7) ⟨(eqt h19), (nott (decide_eq_false h15)), (decide_eq_true h16), (decide_eq_false h15), (by unfold inI64; omega), (eqf h18), (nott (decide_eq_false h15)), (decide_eq_true h16), (decide_eq_false h15), (by unfold inI64; omega), (eqf h17), (nott (decide_eq_false h15)), (decide_eq_true h16), (decide_eq_false h15), (notf (decide_eq_true h16)), (nott (decide_eq_false h15)), h14, h13, h12, h11, h10, h9, (nef h8), (c_ref01_CheckRange h7), (by unfold inI64; omega), (nef h6), (c_ref01_CheckRange h5), (by unfold inI64; omega), (nef h4), (c_ref01_CheckRange h3), (by unfold inI64; omega), (nef h2), (c_ref01_CheckRange h1), trivial⟩
                  · replace h := ite_f h h19
                    replace h := Option.some.inj h
                    subst h
                    exact run (n := 100) (f := 64) (args := [.agg [I a0, I a1, I a2], I a3]) (orc := [.no, .no, .ret (I t1), .br false, .no, .no, .ret (I t3), .br false, .no, .no, .ret (I t5), .br false, .no, .no, .ret (I t7), .br false, .br true, .br false, .no, .no, .br false, .no, .no, .br true, .br true, .br false, .no, .no, .br false, .no, .no, .br true, .br true, .br false, .no, .no, .br false, .no, .no, .br true, .br true, .br false, .no, .no]) (r := .tup [I ((((a0 + a1) + a2) - (minI (minI a0 a1) a2)) - (maxI (maxI a0 a1) a2)), I (-1), I 0]) (ob := [inI64 3, (a2 == (minI (minI a0 a1) a2)) = false, (!(decide ((((((a0 + a1) + a2) - (minI (minI a0 a1) a2)) - (maxI (maxI a0 a1) a2)) - (minI (minI a0 a1) a2)) ≤ a3))) = true, (decide (((maxI (maxI a0 a1) a2) - ((((a0 + a1) + a2) - (minI (minI a0 a1) a2)) - (maxI (maxI a0 a1) a2))) ≤ a3)) = true, (decide ((((((a0 + a1) + a2) - (minI (minI a0 a1) a2)) - (maxI (maxI a0 a1) a2)) - (minI (minI a0 a1) a2)) ≤ a3)) = false, inI64 2, (a1 == (minI (minI a0 a1) a2)) = false, (!(decide ((((((a0 + a1) + a2) - (minI (minI a0 a1) a2)) - (maxI (maxI a0 a1) a2)) - (minI (minI a0 a1) a2)) ≤ a3))) = true, (decide (((maxI (maxI a0 a1) a2) - ((((a0 + a1) + a2) - (minI (minI a0 a1) a2)) - (maxI (maxI a0 a1) a2))) ≤ a3)) = true, (decide ((((((a0 + a1) + a2) - (minI (minI a0 a1) a2)) - (maxI (maxI a0 a1) a2)) - (minI (minI a0 a1) a2)) ≤ a3)) = false, inI64 1, (a0 == (minI (minI a0 a1) a2)) = false, (!(decide ((((((a0 + a1) + a2) - (minI (minI a0 a1) a2)) - (maxI (maxI a0 a1) a2)) - (minI (minI a0 a1) a2)) ≤ a3))) = true, (decide (((maxI (maxI a0 a1) a2) - ((((a0 + a1) + a2) - (minI (minI a0 a1) a2)) - (maxI (maxI a0 a1) a2))) ≤ a3)) = true, (decide ((((((a0 + a1) + a2) - (minI (minI a0 a1) a2)) - (maxI (maxI a0 a1) a2)) - (minI (minI a0 a1) a2)) ≤ a3)) = false, (!(decide (((maxI (maxI a0 a1) a2) - ((((a0 + a1) + a2) - (minI (minI a0 a1) a2)) - (maxI (maxI a0 a1) a2))) ≤ a3))) = false, (!(decide ((((((a0 + a1) + a2) - (minI (minI a0 a1) a2)) - (maxI (maxI a0 a1) a2)) - (minI (minI a0 a1) a2)) ≤ a3))) = true, inI64 ((maxI (maxI a0 a1) a2) - ((((a0 + a1) + a2) - (minI (minI a0 a1) a2)) - (maxI (maxI a0 a1) a2))), inI64 (((((a0 + a1) + a2) - (minI (minI a0 a1) a2)) - (maxI (maxI a0 a1) a2)) - (minI (minI a0 a1) a2)), inI64 ((((a0 + a1) + a2) - (minI (minI a0 a1) a2)) - (maxI (maxI a0 a1) a2)), inI64 (((a0 + a1) + a2) - (minI (minI a0 a1) a2)), inI64 ((a0 + a1) + a2), inI64 (a0 + a1), (t7 != 0) = false, Computes cx 59 [I a3, I 0, I 1000] (I t7), inI64 3, (t5 != 0) = false, Computes cx 59 [I a2, I (-1000), I 1000] (I t5), inI64 2, (t3 != 0) = false, Computes cx 59 [I a1, I (-1000), I 1000] (I t3), inI64 1, (t1 != 0) = false, Computes cx 59 [I a0, I (-1000), I 1000] (I t1)]) (e_ref03_Voted_8 a0 a1 a2 a3 t1 t3 t5 t7) ⟨(by unfold inI64; omega), (eqf h19), (nott (decide_eq_false h15)), (decide_eq_true h16), (decide_eq_false h15), (by unfold inI64; omega), (eqf h18), (nott (decide_eq_false h15)), (decide_eq_true h16), (decide_eq_false h15), (by unfold inI64; omega), (eqf h17), (nott (decide_eq_false h15)), (decide_eq_true h16), (decide_eq_false h15), (notf (decide_eq_true h16)), (nott (decide_eq_false h15)), h14, h13, h12, h11, h10, h9, (nef h8), (c_ref01_CheckRange h7), (by unfold inI64; omega), (nef h6), (c_ref01_CheckRange h5), (by unfold inI64; omega), (nef h4), (c_ref01_CheckRange h3), (by unfold inI64; omega), (nef h2), (c_ref01_CheckRange h1), trivial⟩
            · replace h := ite_f h h16
              replace h := Option.some.inj h
              subst h
              exact run (n := 100) (f := 64) (args := [.agg [I a0, I a1, I a2], I a3]) (orc := [.no, .no, .ret (I t1), .br false, .no, .no, .ret (I t3), .br false, .no, .no, .ret (I t5), .br false, .no, .no, .ret (I t7), .br false, .br true, .br true]) (r := .tup [I 0, I 0, I 7]) (ob := [(!(decide (((maxI (maxI a0 a1) a2) - ((((a0 + a1) + a2) - (minI (minI a0 a1) a2)) - (maxI (maxI a0 a1) a2))) ≤ a3))) = true, (!(decide ((((((a0 + a1) + a2) - (minI (minI a0 a1) a2)) - (maxI (maxI a0 a1) a2)) - (minI (minI a0 a1) a2)) ≤ a3))) = true, inI64 ((maxI (maxI a0 a1) a2) - ((((a0 + a1) + a2) - (minI (minI a0 a1) a2)) - (maxI (maxI a0 a1) a2))), inI64 (((((a0 + a1) + a2) - (minI (minI a0 a1) a2)) - (maxI (maxI a0 a1) a2)) - (minI (minI a0 a1) a2)), inI64 ((((a0 + a1) + a2) - (minI (minI a0 a1) a2)) - (maxI (maxI a0 a1) a2)), inI64 (((a0 + a1) + a2) - (minI (minI a0 a1) a2)), inI64 ((a0 + a1) + a2), inI64 (a0 + a1), (t7 != 0) = false, Computes cx 59 [I a3, I 0, I 1000] (I t7), inI64 3, (t5 != 0) = false, Computes cx 59 [I a2, I (-1000), I 1000] (I t5), inI64 2, (t3 != 0) = false, Computes cx 59 [I a1, I (-1000), I 1000] (I t3), inI64 1, (t1 != 0) = false, Computes cx 59 [I a0, I (-1000), I 1000] (I t1)]) (e_ref03_Voted_9 a0 a1 a2 a3 t1 t3 t5 t7) ⟨(nott (decide_eq_false h16)), (nott (decide_eq_false h15)), h14, h13, h12, h11, h10, h9, (nef h8), (c_ref01_CheckRange h7), (by unfold inI64; omega), (nef h6), (c_ref01_CheckRange h5), (by unfold inI64; omega), (nef h4), (c_ref01_CheckRange h3), (by unfold inI64; omega), (nef h2), (c_ref01_CheckRange h1), trivial⟩
        · replace h := ite_f h h8
          replace h := Option.some.inj h
          subst h
          exact run (n := 100) (f := 64) (args := [.agg [I a0, I a1, I a2], I a3]) (orc := [.no, .no, .ret (I t1), .br false, .no, .no, .ret (I t3), .br false, .no, .no, .ret (I t5), .br false, .no, .no, .ret (I t7), .br true]) (r := .tup [I 0, I 0, I t7]) (ob := [(t7 != 0) = true, Computes cx 59 [I a3, I 0, I 1000] (I t7), inI64 3, (t5 != 0) = false, Computes cx 59 [I a2, I (-1000), I 1000] (I t5), inI64 2, (t3 != 0) = false, Computes cx 59 [I a1, I (-1000), I 1000] (I t3), inI64 1, (t1 != 0) = false, Computes cx 59 [I a0, I (-1000), I 1000] (I t1)]) (e_ref03_Voted_10 a0 a1 a2 a3 t1 t3 t5 t7) ⟨(net h8), (c_ref01_CheckRange h7), (by unfold inI64; omega), (nef h6), (c_ref01_CheckRange h5), (by unfold inI64; omega), (nef h4), (c_ref01_CheckRange h3), (by unfold inI64; omega), (nef h2), (c_ref01_CheckRange h1), trivial⟩
      · replace h := ite_f h h6
        replace h := Option.some.inj h
        subst h
        exact run (n := 100) (f := 64) (args := [.agg [I a0, I a1, I a2], I a3]) (orc := [.no, .no, .ret (I t1), .br false, .no, .no, .ret (I t3), .br false, .no, .no, .ret (I t5), .br true]) (r := .tup [I 0, I 0, I t5]) (ob := [(t5 != 0) = true, Computes cx 59 [I a2, I (-1000), I 1000] (I t5), inI64 2, (t3 != 0) = false, Computes cx 59 [I a1, I (-1000), I 1000] (I t3), inI64 1, (t1 != 0) = false, Computes cx 59 [I a0, I (-1000), I 1000] (I t1)]) (e_ref03_Voted_11 a0 a1 a2 a3 t1 t3 t5) ⟨(net h6), (c_ref01_CheckRange h5), (by unfold inI64; omega), (nef h4), (c_ref01_CheckRange h3), (by unfold inI64; omega), (nef h2), (c_ref01_CheckRange h1), trivial⟩
    · replace h := ite_f h h4
      replace h := Option.some.inj h
      subst h
      exact run (n := 100) (f := 64) (args := [.agg [I a0, I a1, I a2], I a3]) (orc := [.no, .no, .ret (I t1), .br false, .no, .no, .ret (I t3), .br true]) (r := .tup [I 0, I 0, I t3]) (ob := [(t3 != 0) = true, Computes cx 59 [I a1, I (-1000), I 1000] (I t3), inI64 1, (t1 != 0) = false, Computes cx 59 [I a0, I (-1000), I 1000] (I t1)]) (e_ref03_Voted_12 a0 a1 a2 a3 t1 t3) ⟨(net h4), (c_ref01_CheckRange h3), (by unfold inI64; omega), (nef h2), (c_ref01_CheckRange h1), trivial⟩
  · replace h := ite_f h h2
    replace h := Option.some.inj h
    subst h
    exact run (n := 100) (f := 64) (args := [.agg [I a0, I a1, I a2], I a3]) (orc := [.no, .no, .ret (I t1), .br true]) (r := .tup [I 0, I 0, I t1]) (ob := [(t1 != 0) = true, Computes cx 59 [I a0, I (-1000), I 1000] (I t1)]) (e_ref03_Voted_13 a0 a1 a2 a3 t1) ⟨(net h2), (c_ref01_CheckRange h1), trivial⟩
/- spillage/spillagelaw03.DriveVotes: .agg [I a0, I a1, I a2], I a3 -/
def F_law03_DriveVotes (n : Nat) (a0 : Int) (a1 : Int) (a2 : Int) (a3 : Int) : Option (Bool) :=
  (F_drive_Voted_2 n a0 a1 a2 a3).bind fun t1 =>
  (F_ref03_Voted n a0 a1 a2 a3).bind fun t2 =>
  if t1.1 = t2.1 then
    if t1.2.1 = t2.2.1 then
      if t1.2.2 = t2.2.2 then
        (F_law03_awake n).bind fun t6 =>
        some t6
      else
      none /- false -/
    else
    none /- false -/
  else
  none /- false -/
theorem c_law03_DriveVotes {n : Nat} {a0 : Int} {a1 : Int} {a2 : Int} {a3 : Int} {r : Bool} (h : F_law03_DriveVotes n a0 a1 a2 a3 = some r) : Computes cx 8 [.agg [I a0, I a1, I a2], I a3] (B r) := by
  unfold F_law03_DriveVotes at h
  obtain ⟨t1, h1, h⟩ := bnd_of h
  obtain ⟨t2, h2, h⟩ := bnd_of h
  by_cases h3 : t1.1 = t2.1
  · replace h := ite_t h h3
    by_cases h4 : t1.2.1 = t2.2.1
    · replace h := ite_t h h4
      by_cases h5 : t1.2.2 = t2.2.2
      · replace h := ite_t h h5
        obtain ⟨t6, h6, h⟩ := bnd_of h
        replace h := Option.some.inj h
        subst h
        exact run (n := 100) (f := 8) (args := [.agg [I a0, I a1, I a2], I a3]) (orc := [.ret (.tup [I t1.1, I t1.2.1, I t1.2.2]), .ret (.tup [I t2.1, I t2.2.1, I t2.2.2]), .br true, .br true, .br true, .ret (B t6)]) (r := B t6) (ob := [Computes cx 19 [] (B t6), (t1.2.2 == t2.2.2) = true, (t1.2.1 == t2.2.1) = true, (t1.1 == t2.1) = true, Computes cx 64 [.agg [I a0, I a1, I a2], I a3] (.tup [I t2.1, I t2.2.1, I t2.2.2]), Computes cx 63 [.agg [I a0, I a1, I a2], I a3] (.tup [I t1.1, I t1.2.1, I t1.2.2])]) (by kernel_rfl) ⟨(c_law03_awake h6), (eqt h5), (eqt h4), (eqt h3), (c_ref03_Voted h2), (c_drive_Voted_2 h1), trivial⟩
      · replace h := ite_f h h5
        cases h
    · replace h := ite_f h h4
      cases h
  · replace h := ite_f h h3
    cases h
end Go.Proofs.YtmgbmngmmpeaaaaGreatDoor
