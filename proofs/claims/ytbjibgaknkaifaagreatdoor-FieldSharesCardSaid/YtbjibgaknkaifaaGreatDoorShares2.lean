/-
  Printed by gsx.py: functions of the program as Lean functions, and that the code computes them.
-/
import Derived.Test.YtbjibgaknkaifaaGreatDoorShares1
set_option linter.unusedVariables false
set_option linter.unusedSimpArgs false
set_option linter.unnecessarySimpa false
set_option maxRecDepth 10000
namespace Go.Proofs.YtbjibgaknkaifaaGreatDoor
open Go.SX
/- spillage/spillagelaw04.FieldShares: .lst false 2 a0, .lst false 3 a1 -/
def F_law04_FieldShares (n : Nat) (a0 : List D) (a1 : List D) : Option (Bool) :=
  (F_law04_awake n).bind fun t1 =>
  if t1 = true then
    if ((a0).length : Int) > 8 then
      some t1
    else
    if ((a1).length : Int) > 12 then
      if ((a1).length : Int) = 257 then
        (loopF (F_law04_FieldShares_L1 n a0 a1) n (0, [])).bind fun t6 =>
        if roomP 16 (0 + (a0).length) then
        if isNilL a0 = true then
          (F_field_Efficiency n).bind fun t9 =>
          (F_field_Summed n t6).bind fun t10 =>
          (F_ref04_CheckShares n a0).bind fun t11 =>
          (F_ref04_CheckReadings n a1).bind fun t12 =>
          if t11 = 0 then
            (F_ref04_Efficiency n a0).bind fun t14 =>
            if t12 = 0 then
              (F_ref04_Summed n a1).bind fun t16 =>
              if ((t9.1 == t14.1) && ((t9.2.1 == t14.2) && true)) = true then
                if t9.2.2 = t11 then
                  if ((t10.1 == t16.1) && ((t10.2.1 == t16.2.1) && true)) = true then
                    some (t10.2.2 == t16.2.2)
                  else
                  none /- false -/
                else
                none /- false -/
              else
              none /- false -/
            else
            if ((t9.1 == t14.1) && ((t9.2.1 == t14.2) && true)) = true then
              if t9.2.2 = t11 then
                if ((t10.1 == 0) && ((t10.2.1 == 0) && true)) = true then
                  some (t10.2.2 == t12)
                else
                none /- false -/
              else
              none /- false -/
            else
            none /- false -/
          else
          if t12 = 0 then
            (F_ref04_Summed n a1).bind fun t15 =>
            if ((t9.1 == 0) && ((t9.2.1 == 0) && true)) = true then
              if t9.2.2 = t11 then
                if ((t10.1 == t15.1) && ((t10.2.1 == t15.2.1) && true)) = true then
                  some (t10.2.2 == t15.2.2)
                else
                none /- false -/
              else
              none /- false -/
            else
            none /- false -/
          else
          if ((t9.1 == 0) && ((t9.2.1 == 0) && true)) = true then
            if t9.2.2 = t11 then
              if ((t10.1 == 0) && ((t10.2.1 == 0) && true)) = true then
                some (t10.2.2 == t12)
              else
              none /- false -/
            else
            none /- false -/
          else
          none /- false -/
        else
        (F_field_Efficiency_2 n a0).bind fun t9 =>
        (F_field_Summed n t6).bind fun t10 =>
        (F_ref04_CheckShares n a0).bind fun t11 =>
        (F_ref04_CheckReadings n a1).bind fun t12 =>
        if t11 = 0 then
          (F_ref04_Efficiency n a0).bind fun t14 =>
          if t12 = 0 then
            (F_ref04_Summed n a1).bind fun t16 =>
            if ((t9.1 == t14.1) && ((t9.2.1 == t14.2) && true)) = true then
              if t9.2.2 = t11 then
                if ((t10.1 == t16.1) && ((t10.2.1 == t16.2.1) && true)) = true then
                  some (t10.2.2 == t16.2.2)
                else
                none /- false -/
              else
              none /- false -/
            else
            none /- false -/
          else
          if ((t9.1 == t14.1) && ((t9.2.1 == t14.2) && true)) = true then
            if t9.2.2 = t11 then
              if ((t10.1 == 0) && ((t10.2.1 == 0) && true)) = true then
                some (t10.2.2 == t12)
              else
              none /- false -/
            else
            none /- false -/
          else
          none /- false -/
        else
        if t12 = 0 then
          (F_ref04_Summed n a1).bind fun t15 =>
          if ((t9.1 == 0) && ((t9.2.1 == 0) && true)) = true then
            if t9.2.2 = t11 then
              if ((t10.1 == t15.1) && ((t10.2.1 == t15.2.1) && true)) = true then
                some (t10.2.2 == t15.2.2)
              else
              none /- false -/
            else
            none /- false -/
          else
          none /- false -/
        else
        if ((t9.1 == 0) && ((t9.2.1 == 0) && true)) = true then
          if t9.2.2 = t11 then
            if ((t10.1 == 0) && ((t10.2.1 == 0) && true)) = true then
              some (t10.2.2 == t12)
            else
            none /- false -/
          else
          none /- false -/
        else
        none /- false -/
        else none
      else
      some t1
    else
    (loopF (F_law04_FieldShares_L1 n a0 a1) n (0, [])).bind fun t5 =>
    if roomP 16 (0 + (a0).length) then
    if isNilL a0 = true then
      (F_field_Efficiency n).bind fun t8 =>
      (F_field_Summed n t5).bind fun t9 =>
      (F_ref04_CheckShares n a0).bind fun t10 =>
      (F_ref04_CheckReadings n a1).bind fun t11 =>
      if t10 = 0 then
        (F_ref04_Efficiency n a0).bind fun t13 =>
        if t11 = 0 then
          (F_ref04_Summed n a1).bind fun t15 =>
          if ((t8.1 == t13.1) && ((t8.2.1 == t13.2) && true)) = true then
            if t8.2.2 = t10 then
              if ((t9.1 == t15.1) && ((t9.2.1 == t15.2.1) && true)) = true then
                some (t9.2.2 == t15.2.2)
              else
              none /- false -/
            else
            none /- false -/
          else
          none /- false -/
        else
        if ((t8.1 == t13.1) && ((t8.2.1 == t13.2) && true)) = true then
          if t8.2.2 = t10 then
            if ((t9.1 == 0) && ((t9.2.1 == 0) && true)) = true then
              some (t9.2.2 == t11)
            else
            none /- false -/
          else
          none /- false -/
        else
        none /- false -/
      else
      if t11 = 0 then
        (F_ref04_Summed n a1).bind fun t14 =>
        if ((t8.1 == 0) && ((t8.2.1 == 0) && true)) = true then
          if t8.2.2 = t10 then
            if ((t9.1 == t14.1) && ((t9.2.1 == t14.2.1) && true)) = true then
              some (t9.2.2 == t14.2.2)
            else
            none /- false -/
          else
          none /- false -/
        else
        none /- false -/
      else
      if ((t8.1 == 0) && ((t8.2.1 == 0) && true)) = true then
        if t8.2.2 = t10 then
          if ((t9.1 == 0) && ((t9.2.1 == 0) && true)) = true then
            some (t9.2.2 == t11)
          else
          none /- false -/
        else
        none /- false -/
      else
      none /- false -/
    else
    (F_field_Efficiency_2 n a0).bind fun t8 =>
    (F_field_Summed n t5).bind fun t9 =>
    (F_ref04_CheckShares n a0).bind fun t10 =>
    (F_ref04_CheckReadings n a1).bind fun t11 =>
    if t10 = 0 then
      (F_ref04_Efficiency n a0).bind fun t13 =>
      if t11 = 0 then
        (F_ref04_Summed n a1).bind fun t15 =>
        if ((t8.1 == t13.1) && ((t8.2.1 == t13.2) && true)) = true then
          if t8.2.2 = t10 then
            if ((t9.1 == t15.1) && ((t9.2.1 == t15.2.1) && true)) = true then
              some (t9.2.2 == t15.2.2)
            else
            none /- false -/
          else
          none /- false -/
        else
        none /- false -/
      else
      if ((t8.1 == t13.1) && ((t8.2.1 == t13.2) && true)) = true then
        if t8.2.2 = t10 then
          if ((t9.1 == 0) && ((t9.2.1 == 0) && true)) = true then
            some (t9.2.2 == t11)
          else
          none /- false -/
        else
        none /- false -/
      else
      none /- false -/
    else
    if t11 = 0 then
      (F_ref04_Summed n a1).bind fun t14 =>
      if ((t8.1 == 0) && ((t8.2.1 == 0) && true)) = true then
        if t8.2.2 = t10 then
          if ((t9.1 == t14.1) && ((t9.2.1 == t14.2.1) && true)) = true then
            some (t9.2.2 == t14.2.2)
          else
          none /- false -/
        else
        none /- false -/
      else
      none /- false -/
    else
    if ((t8.1 == 0) && ((t8.2.1 == 0) && true)) = true then
      if t8.2.2 = t10 then
        if ((t9.1 == 0) && ((t9.2.1 == 0) && true)) = true then
          some (t9.2.2 == t11)
        else
        none /- false -/
      else
      none /- false -/
    else
    none /- false -/
    else none
  else
  some t1
theorem c_law04_FieldShares {n : Nat} {a0 : List D} {a1 : List D} {r : Bool} (h : F_law04_FieldShares n a0 a1 = some r) : Computes cx 5 [.lst false 2 a0, .lst false 3 a1] (B r) := by
  unfold F_law04_FieldShares at h
  obtain ⟨t1, h1, h⟩ := bnd_of h
  by_cases h2 : t1 = true
  · replace h := ite_t h h2
    by_cases h3 : ((a0).length : Int) > 8
    · replace h := ite_t h h3
      replace h := Option.some.inj h
      subst h
      exact run (n := 100) (f := 5) (args := [.lst false 2 a0, .lst false 3 a1]) (orc := [.ret (B t1), .br false, .br true, .no, .ret (B t1)]) (r := B t1) (ob := [Computes cx 8 [] (B t1), (decide (((a0).length : Int) > 8)) = true, (!t1) = false, Computes cx 8 [] (B t1)]) (e_law04_FieldShares_0 a0 a1 t1) ⟨(c_law04_awake h1), (decide_eq_true h3), (notf h2), (c_law04_awake h1), trivial⟩
    · replace h := ite_f h h3
      by_cases h4 : ((a1).length : Int) > 12
      · replace h := ite_t h h4
        by_cases h5 : ((a1).length : Int) = 257
        · replace h := ite_t h h5
          obtain ⟨t6, h6, h⟩ := bnd_of h
          obtain ⟨h7, h⟩ := grd_of h
          by_cases h8 : isNilL a0 = true
          · replace h := ite_t h h8
            obtain ⟨t9, h9, h⟩ := bnd_of h
            obtain ⟨t10, h10, h⟩ := bnd_of h
            obtain ⟨t11, h11, h⟩ := bnd_of h
            obtain ⟨t12, h12, h⟩ := bnd_of h
            by_cases h13 : t11 = 0
            · replace h := ite_t h h13
              obtain ⟨t14, h14, h⟩ := bnd_of h
              by_cases h15 : t12 = 0
              · replace h := ite_t h h15
                obtain ⟨t16, h16, h⟩ := bnd_of h
                by_cases h17 : ((t9.1 == t14.1) && ((t9.2.1 == t14.2) && true)) = true
                · replace h := ite_t h h17
                  by_cases h18 : t9.2.2 = t11
                  · replace h := ite_t h h18
                    by_cases h19 : ((t10.1 == t16.1) && ((t10.2.1 == t16.2.1) && true)) = true
                    · replace h := ite_t h h19
                      replace h := Option.some.inj h
                      subst h
                      exact run (n := 100) (f := 5) (args := [.lst false 2 a0, .lst false 3 a1]) (orc := [.ret (B t1), .br false, .br false, .br true, .br false, .lp [5, 3] [0, 1, 5, 34, 35, 36] [22] (.exit 0) [(0, .d (.lst false 2 a0)), (1, .d (.lst false 3 a1)), (5, .own 22 0)] [(22, .row 0 3 t6)] 46, .br true, .br true, .ret (.tup [.agg [I t9.1, I t9.2.1], I t9.2.2]), .ret (.tup [.agg [I t10.1, I t10.2.1], I t10.2.2]), .ret (I t11), .ret (I t12), .br true, .ret (.agg [I t14.1, I t14.2]), .br true, .ret (.tup [.agg [I t16.1, I t16.2.1], I t16.2.2]), .br true, .br true, .br true]) (r := B (t10.2.2 == t16.2.2)) (ob := [((t10.1 == t16.1) && ((t10.2.1 == t16.2.1) && true)) = true, (t9.2.2 == t11) = true, ((t9.1 == t14.1) && ((t9.2.1 == t14.2) && true)) = true, Computes cx 29 [.lst false 3 a1] (.tup [.agg [I t16.1, I t16.2.1], I t16.2.2]), (t12 == 0) = true, Computes cx 28 [.lst false 2 a0] (.agg [I t14.1, I t14.2]), (t11 == 0) = true, Computes cx 27 [.lst false 3 a1] (I t12), Computes cx 26 [.lst false 2 a0] (I t11), Computes cx 25 [.lst false 3 t6] (.tup [.agg [I t10.1, I t10.2.1], I t10.2.2]), Computes cx 24 [.lst false 2 []] (.tup [.agg [I t9.1, I t9.2.1], I t9.2.2]), isNilL a0 = true, room cx 29 (0 + (a0).length), LoopN cx (loopAt cx.P 5 0) 90 0 false [(0, .d (.lst false 2 a0)), (1, .d (.lst false 3 a1)), (5, .own 22 0), (34, .d (.lst false 3 a1)), (35, .d (I ((a1).length : Int))), (36, .d (I 0))] [(22, .row 0 3 [])] (.exit 0) [(0, .d (.lst false 2 a0)), (1, .d (.lst false 3 a1)), (5, .own 22 0)] [(22, .row 0 3 t6)], (((a1).length : Int) != 257) = false, (decide (((a1).length : Int) > 12)) = true, (decide (((a0).length : Int) > 8)) = false, (!t1) = false, Computes cx 8 [] (B t1)]) (e_law04_FieldShares_1 a0 a1 t1 t6 t9 t10 t11 t12 t14 t16) ⟨h19, (eqt h18), h17, (c_ref04_Summed h16), (eqt h15), (c_ref04_Efficiency h14), (eqt h13), (c_ref04_CheckReadings h12), (c_ref04_CheckShares h11), (c_field_Summed h10), (c_field_Efficiency h9), h8, (room_of (b := 16) (by kernel_rfl) (by decide) h7), (loopF_to R_law04_FieldShares_L1 h6), (nef h5), (decide_eq_true h4), (decide_eq_false h3), (notf h2), (c_law04_awake h1), trivial⟩
                    · replace h := ite_f h h19
                      cases h
                  · replace h := ite_f h h18
                    cases h
                · replace h := ite_f h h17
                  cases h
              · replace h := ite_f h h15
                by_cases h16 : ((t9.1 == t14.1) && ((t9.2.1 == t14.2) && true)) = true
                · replace h := ite_t h h16
                  by_cases h17 : t9.2.2 = t11
                  · replace h := ite_t h h17
                    by_cases h18 : ((t10.1 == 0) && ((t10.2.1 == 0) && true)) = true
                    · replace h := ite_t h h18
                      replace h := Option.some.inj h
                      subst h
                      exact run (n := 100) (f := 5) (args := [.lst false 2 a0, .lst false 3 a1]) (orc := [.ret (B t1), .br false, .br false, .br true, .br false, .lp [5, 3] [0, 1, 5, 34, 35, 36] [22] (.exit 0) [(0, .d (.lst false 2 a0)), (1, .d (.lst false 3 a1)), (5, .own 22 0)] [(22, .row 0 3 t6)] 46, .br true, .br true, .ret (.tup [.agg [I t9.1, I t9.2.1], I t9.2.2]), .ret (.tup [.agg [I t10.1, I t10.2.1], I t10.2.2]), .ret (I t11), .ret (I t12), .br true, .ret (.agg [I t14.1, I t14.2]), .br false, .br true, .br true, .br true]) (r := B (t10.2.2 == t12)) (ob := [((t10.1 == 0) && ((t10.2.1 == 0) && true)) = true, (t9.2.2 == t11) = true, ((t9.1 == t14.1) && ((t9.2.1 == t14.2) && true)) = true, (t12 == 0) = false, Computes cx 28 [.lst false 2 a0] (.agg [I t14.1, I t14.2]), (t11 == 0) = true, Computes cx 27 [.lst false 3 a1] (I t12), Computes cx 26 [.lst false 2 a0] (I t11), Computes cx 25 [.lst false 3 t6] (.tup [.agg [I t10.1, I t10.2.1], I t10.2.2]), Computes cx 24 [.lst false 2 []] (.tup [.agg [I t9.1, I t9.2.1], I t9.2.2]), isNilL a0 = true, room cx 29 (0 + (a0).length), LoopN cx (loopAt cx.P 5 0) 90 0 false [(0, .d (.lst false 2 a0)), (1, .d (.lst false 3 a1)), (5, .own 22 0), (34, .d (.lst false 3 a1)), (35, .d (I ((a1).length : Int))), (36, .d (I 0))] [(22, .row 0 3 [])] (.exit 0) [(0, .d (.lst false 2 a0)), (1, .d (.lst false 3 a1)), (5, .own 22 0)] [(22, .row 0 3 t6)], (((a1).length : Int) != 257) = false, (decide (((a1).length : Int) > 12)) = true, (decide (((a0).length : Int) > 8)) = false, (!t1) = false, Computes cx 8 [] (B t1)]) (e_law04_FieldShares_5 a0 a1 t1 t6 t9 t10 t11 t12 t14) ⟨h18, (eqt h17), h16, (eqf h15), (c_ref04_Efficiency h14), (eqt h13), (c_ref04_CheckReadings h12), (c_ref04_CheckShares h11), (c_field_Summed h10), (c_field_Efficiency h9), h8, (room_of (b := 16) (by kernel_rfl) (by decide) h7), (loopF_to R_law04_FieldShares_L1 h6), (nef h5), (decide_eq_true h4), (decide_eq_false h3), (notf h2), (c_law04_awake h1), trivial⟩
                    · replace h := ite_f h h18
                      cases h
                  · replace h := ite_f h h17
                    cases h
                · replace h := ite_f h h16
                  cases h
            · replace h := ite_f h h13
              by_cases h14 : t12 = 0
              · replace h := ite_t h h14
                obtain ⟨t15, h15, h⟩ := bnd_of h
                by_cases h16 : ((t9.1 == 0) && ((t9.2.1 == 0) && true)) = true
                · replace h := ite_t h h16
                  by_cases h17 : t9.2.2 = t11
                  · replace h := ite_t h h17
                    by_cases h18 : ((t10.1 == t15.1) && ((t10.2.1 == t15.2.1) && true)) = true
                    · replace h := ite_t h h18
                      replace h := Option.some.inj h
                      subst h
                      exact run (n := 100) (f := 5) (args := [.lst false 2 a0, .lst false 3 a1]) (orc := [.ret (B t1), .br false, .br false, .br true, .br false, .lp [5, 3] [0, 1, 5, 34, 35, 36] [22] (.exit 0) [(0, .d (.lst false 2 a0)), (1, .d (.lst false 3 a1)), (5, .own 22 0)] [(22, .row 0 3 t6)] 46, .br true, .br true, .ret (.tup [.agg [I t9.1, I t9.2.1], I t9.2.2]), .ret (.tup [.agg [I t10.1, I t10.2.1], I t10.2.2]), .ret (I t11), .ret (I t12), .br false, .br true, .ret (.tup [.agg [I t15.1, I t15.2.1], I t15.2.2]), .br true, .br true, .br true]) (r := B (t10.2.2 == t15.2.2)) (ob := [((t10.1 == t15.1) && ((t10.2.1 == t15.2.1) && true)) = true, (t9.2.2 == t11) = true, ((t9.1 == 0) && ((t9.2.1 == 0) && true)) = true, Computes cx 29 [.lst false 3 a1] (.tup [.agg [I t15.1, I t15.2.1], I t15.2.2]), (t12 == 0) = true, (t11 == 0) = false, Computes cx 27 [.lst false 3 a1] (I t12), Computes cx 26 [.lst false 2 a0] (I t11), Computes cx 25 [.lst false 3 t6] (.tup [.agg [I t10.1, I t10.2.1], I t10.2.2]), Computes cx 24 [.lst false 2 []] (.tup [.agg [I t9.1, I t9.2.1], I t9.2.2]), isNilL a0 = true, room cx 29 (0 + (a0).length), LoopN cx (loopAt cx.P 5 0) 90 0 false [(0, .d (.lst false 2 a0)), (1, .d (.lst false 3 a1)), (5, .own 22 0), (34, .d (.lst false 3 a1)), (35, .d (I ((a1).length : Int))), (36, .d (I 0))] [(22, .row 0 3 [])] (.exit 0) [(0, .d (.lst false 2 a0)), (1, .d (.lst false 3 a1)), (5, .own 22 0)] [(22, .row 0 3 t6)], (((a1).length : Int) != 257) = false, (decide (((a1).length : Int) > 12)) = true, (decide (((a0).length : Int) > 8)) = false, (!t1) = false, Computes cx 8 [] (B t1)]) (e_law04_FieldShares_9 a0 a1 t1 t6 t9 t10 t11 t12 t15) ⟨h18, (eqt h17), h16, (c_ref04_Summed h15), (eqt h14), (eqf h13), (c_ref04_CheckReadings h12), (c_ref04_CheckShares h11), (c_field_Summed h10), (c_field_Efficiency h9), h8, (room_of (b := 16) (by kernel_rfl) (by decide) h7), (loopF_to R_law04_FieldShares_L1 h6), (nef h5), (decide_eq_true h4), (decide_eq_false h3), (notf h2), (c_law04_awake h1), trivial⟩
                    · replace h := ite_f h h18
                      cases h
                  · replace h := ite_f h h17
                    cases h
                · replace h := ite_f h h16
                  cases h
              · replace h := ite_f h h14
                by_cases h15 : ((t9.1 == 0) && ((t9.2.1 == 0) && true)) = true
                · replace h := ite_t h h15
                  by_cases h16 : t9.2.2 = t11
                  · replace h := ite_t h h16
                    by_cases h17 : ((t10.1 == 0) && ((t10.2.1 == 0) && true)) = true
                    · replace h := ite_t h h17
                      replace h := Option.some.inj h
                      subst h
                      exact run (n := 100) (f := 5) (args := [.lst false 2 a0, .lst false 3 a1]) (orc := [.ret (B t1), .br false, .br false, .br true, .br false, .lp [5, 3] [0, 1, 5, 34, 35, 36] [22] (.exit 0) [(0, .d (.lst false 2 a0)), (1, .d (.lst false 3 a1)), (5, .own 22 0)] [(22, .row 0 3 t6)] 46, .br true, .br true, .ret (.tup [.agg [I t9.1, I t9.2.1], I t9.2.2]), .ret (.tup [.agg [I t10.1, I t10.2.1], I t10.2.2]), .ret (I t11), .ret (I t12), .br false, .br false, .br true, .br true, .br true]) (r := B (t10.2.2 == t12)) (ob := [((t10.1 == 0) && ((t10.2.1 == 0) && true)) = true, (t9.2.2 == t11) = true, ((t9.1 == 0) && ((t9.2.1 == 0) && true)) = true, (t12 == 0) = false, (t11 == 0) = false, Computes cx 27 [.lst false 3 a1] (I t12), Computes cx 26 [.lst false 2 a0] (I t11), Computes cx 25 [.lst false 3 t6] (.tup [.agg [I t10.1, I t10.2.1], I t10.2.2]), Computes cx 24 [.lst false 2 []] (.tup [.agg [I t9.1, I t9.2.1], I t9.2.2]), isNilL a0 = true, room cx 29 (0 + (a0).length), LoopN cx (loopAt cx.P 5 0) 90 0 false [(0, .d (.lst false 2 a0)), (1, .d (.lst false 3 a1)), (5, .own 22 0), (34, .d (.lst false 3 a1)), (35, .d (I ((a1).length : Int))), (36, .d (I 0))] [(22, .row 0 3 [])] (.exit 0) [(0, .d (.lst false 2 a0)), (1, .d (.lst false 3 a1)), (5, .own 22 0)] [(22, .row 0 3 t6)], (((a1).length : Int) != 257) = false, (decide (((a1).length : Int) > 12)) = true, (decide (((a0).length : Int) > 8)) = false, (!t1) = false, Computes cx 8 [] (B t1)]) (e_law04_FieldShares_13 a0 a1 t1 t6 t9 t10 t11 t12) ⟨h17, (eqt h16), h15, (eqf h14), (eqf h13), (c_ref04_CheckReadings h12), (c_ref04_CheckShares h11), (c_field_Summed h10), (c_field_Efficiency h9), h8, (room_of (b := 16) (by kernel_rfl) (by decide) h7), (loopF_to R_law04_FieldShares_L1 h6), (nef h5), (decide_eq_true h4), (decide_eq_false h3), (notf h2), (c_law04_awake h1), trivial⟩
                    · replace h := ite_f h h17
                      cases h
                  · replace h := ite_f h h16
                    cases h
                · replace h := ite_f h h15
                  cases h
          · replace h := ite_f h h8
            obtain ⟨t9, h9, h⟩ := bnd_of h
            obtain ⟨t10, h10, h⟩ := bnd_of h
            obtain ⟨t11, h11, h⟩ := bnd_of h
            obtain ⟨t12, h12, h⟩ := bnd_of h
            by_cases h13 : t11 = 0
            · replace h := ite_t h h13
              obtain ⟨t14, h14, h⟩ := bnd_of h
              by_cases h15 : t12 = 0
              · replace h := ite_t h h15
                obtain ⟨t16, h16, h⟩ := bnd_of h
                by_cases h17 : ((t9.1 == t14.1) && ((t9.2.1 == t14.2) && true)) = true
                · replace h := ite_t h h17
                  by_cases h18 : t9.2.2 = t11
                  · replace h := ite_t h h18
                    by_cases h19 : ((t10.1 == t16.1) && ((t10.2.1 == t16.2.1) && true)) = true
                    · replace h := ite_t h h19
                      replace h := Option.some.inj h
                      subst h
                      exact run (n := 100) (f := 5) (args := [.lst false 2 a0, .lst false 3 a1]) (orc := [.ret (B t1), .br false, .br false, .br true, .br false, .lp [5, 3] [0, 1, 5, 34, 35, 36] [22] (.exit 0) [(0, .d (.lst false 2 a0)), (1, .d (.lst false 3 a1)), (5, .own 22 0)] [(22, .row 0 3 t6)] 46, .br true, .br false, .ret (.tup [.agg [I t9.1, I t9.2.1], I t9.2.2]), .ret (.tup [.agg [I t10.1, I t10.2.1], I t10.2.2]), .ret (I t11), .ret (I t12), .br true, .ret (.agg [I t14.1, I t14.2]), .br true, .ret (.tup [.agg [I t16.1, I t16.2.1], I t16.2.2]), .br true, .br true, .br true]) (r := B (t10.2.2 == t16.2.2)) (ob := [((t10.1 == t16.1) && ((t10.2.1 == t16.2.1) && true)) = true, (t9.2.2 == t11) = true, ((t9.1 == t14.1) && ((t9.2.1 == t14.2) && true)) = true, Computes cx 29 [.lst false 3 a1] (.tup [.agg [I t16.1, I t16.2.1], I t16.2.2]), (t12 == 0) = true, Computes cx 28 [.lst false 2 a0] (.agg [I t14.1, I t14.2]), (t11 == 0) = true, Computes cx 27 [.lst false 3 a1] (I t12), Computes cx 26 [.lst false 2 a0] (I t11), Computes cx 25 [.lst false 3 t6] (.tup [.agg [I t10.1, I t10.2.1], I t10.2.2]), Computes cx 24 [.lst false 2 a0] (.tup [.agg [I t9.1, I t9.2.1], I t9.2.2]), isNilL a0 = false, room cx 29 (0 + (a0).length), LoopN cx (loopAt cx.P 5 0) 90 0 false [(0, .d (.lst false 2 a0)), (1, .d (.lst false 3 a1)), (5, .own 22 0), (34, .d (.lst false 3 a1)), (35, .d (I ((a1).length : Int))), (36, .d (I 0))] [(22, .row 0 3 [])] (.exit 0) [(0, .d (.lst false 2 a0)), (1, .d (.lst false 3 a1)), (5, .own 22 0)] [(22, .row 0 3 t6)], (((a1).length : Int) != 257) = false, (decide (((a1).length : Int) > 12)) = true, (decide (((a0).length : Int) > 8)) = false, (!t1) = false, Computes cx 8 [] (B t1)]) (e_law04_FieldShares_17 a0 a1 t1 t6 t9 t10 t11 t12 t14 t16) ⟨h19, (eqt h18), h17, (c_ref04_Summed h16), (eqt h15), (c_ref04_Efficiency h14), (eqt h13), (c_ref04_CheckReadings h12), (c_ref04_CheckShares h11), (c_field_Summed h10), (c_field_Efficiency_2 h9), (bfalse h8), (room_of (b := 16) (by kernel_rfl) (by decide) h7), (loopF_to R_law04_FieldShares_L1 h6), (nef h5), (decide_eq_true h4), (decide_eq_false h3), (notf h2), (c_law04_awake h1), trivial⟩
                    · replace h := ite_f h h19
                      cases h
                  · replace h := ite_f h h18
                    cases h
                · replace h := ite_f h h17
                  cases h
              · replace h := ite_f h h15
                by_cases h16 : ((t9.1 == t14.1) && ((t9.2.1 == t14.2) && true)) = true
                · replace h := ite_t h h16
                  by_cases h17 : t9.2.2 = t11
                  · replace h := ite_t h h17
                    by_cases h18 : ((t10.1 == 0) && ((t10.2.1 == 0) && true)) = true
                    · replace h := ite_t h h18
                      replace h := Option.some.inj h
                      subst h
                      exact run (n := 100) (f := 5) (args := [.lst false 2 a0, .lst false 3 a1]) (orc := [.ret (B t1), .br false, .br false, .br true, .br false, .lp [5, 3] [0, 1, 5, 34, 35, 36] [22] (.exit 0) [(0, .d (.lst false 2 a0)), (1, .d (.lst false 3 a1)), (5, .own 22 0)] [(22, .row 0 3 t6)] 46, .br true, .br false, .ret (.tup [.agg [I t9.1, I t9.2.1], I t9.2.2]), .ret (.tup [.agg [I t10.1, I t10.2.1], I t10.2.2]), .ret (I t11), .ret (I t12), .br true, .ret (.agg [I t14.1, I t14.2]), .br false, .br true, .br true, .br true]) (r := B (t10.2.2 == t12)) (ob := [((t10.1 == 0) && ((t10.2.1 == 0) && true)) = true, (t9.2.2 == t11) = true, ((t9.1 == t14.1) && ((t9.2.1 == t14.2) && true)) = true, (t12 == 0) = false, Computes cx 28 [.lst false 2 a0] (.agg [I t14.1, I t14.2]), (t11 == 0) = true, Computes cx 27 [.lst false 3 a1] (I t12), Computes cx 26 [.lst false 2 a0] (I t11), Computes cx 25 [.lst false 3 t6] (.tup [.agg [I t10.1, I t10.2.1], I t10.2.2]), Computes cx 24 [.lst false 2 a0] (.tup [.agg [I t9.1, I t9.2.1], I t9.2.2]), isNilL a0 = false, room cx 29 (0 + (a0).length), LoopN cx (loopAt cx.P 5 0) 90 0 false [(0, .d (.lst false 2 a0)), (1, .d (.lst false 3 a1)), (5, .own 22 0), (34, .d (.lst false 3 a1)), (35, .d (I ((a1).length : Int))), (36, .d (I 0))] [(22, .row 0 3 [])] (.exit 0) [(0, .d (.lst false 2 a0)), (1, .d (.lst false 3 a1)), (5, .own 22 0)] [(22, .row 0 3 t6)], (((a1).length : Int) != 257) = false, (decide (((a1).length : Int) > 12)) = true, (decide (((a0).length : Int) > 8)) = false, (!t1) = false, Computes cx 8 [] (B t1)]) (e_law04_FieldShares_21 a0 a1 t1 t6 t9 t10 t11 t12 t14) ⟨h18, (eqt h17), h16, (eqf h15), (c_ref04_Efficiency h14), (eqt h13), (c_ref04_CheckReadings h12), (c_ref04_CheckShares h11), (c_field_Summed h10), (c_field_Efficiency_2 h9), (bfalse h8), (room_of (b := 16) (by kernel_rfl) (by decide) h7), (loopF_to R_law04_FieldShares_L1 h6), (nef h5), (decide_eq_true h4), (decide_eq_false h3), (notf h2), (c_law04_awake h1), trivial⟩
                    · replace h := ite_f h h18
                      cases h
                  · replace h := ite_f h h17
                    cases h
                · replace h := ite_f h h16
                  cases h
            · replace h := ite_f h h13
              by_cases h14 : t12 = 0
              · replace h := ite_t h h14
                obtain ⟨t15, h15, h⟩ := bnd_of h
                by_cases h16 : ((t9.1 == 0) && ((t9.2.1 == 0) && true)) = true
                · replace h := ite_t h h16
                  by_cases h17 : t9.2.2 = t11
                  · replace h := ite_t h h17
                    by_cases h18 : ((t10.1 == t15.1) && ((t10.2.1 == t15.2.1) && true)) = true
                    · replace h := ite_t h h18
                      replace h := Option.some.inj h
                      subst h
                      exact run (n := 100) (f := 5) (args := [.lst false 2 a0, .lst false 3 a1]) (orc := [.ret (B t1), .br false, .br false, .br true, .br false, .lp [5, 3] [0, 1, 5, 34, 35, 36] [22] (.exit 0) [(0, .d (.lst false 2 a0)), (1, .d (.lst false 3 a1)), (5, .own 22 0)] [(22, .row 0 3 t6)] 46, .br true, .br false, .ret (.tup [.agg [I t9.1, I t9.2.1], I t9.2.2]), .ret (.tup [.agg [I t10.1, I t10.2.1], I t10.2.2]), .ret (I t11), .ret (I t12), .br false, .br true, .ret (.tup [.agg [I t15.1, I t15.2.1], I t15.2.2]), .br true, .br true, .br true]) (r := B (t10.2.2 == t15.2.2)) (ob := [((t10.1 == t15.1) && ((t10.2.1 == t15.2.1) && true)) = true, (t9.2.2 == t11) = true, ((t9.1 == 0) && ((t9.2.1 == 0) && true)) = true, Computes cx 29 [.lst false 3 a1] (.tup [.agg [I t15.1, I t15.2.1], I t15.2.2]), (t12 == 0) = true, (t11 == 0) = false, Computes cx 27 [.lst false 3 a1] (I t12), Computes cx 26 [.lst false 2 a0] (I t11), Computes cx 25 [.lst false 3 t6] (.tup [.agg [I t10.1, I t10.2.1], I t10.2.2]), Computes cx 24 [.lst false 2 a0] (.tup [.agg [I t9.1, I t9.2.1], I t9.2.2]), isNilL a0 = false, room cx 29 (0 + (a0).length), LoopN cx (loopAt cx.P 5 0) 90 0 false [(0, .d (.lst false 2 a0)), (1, .d (.lst false 3 a1)), (5, .own 22 0), (34, .d (.lst false 3 a1)), (35, .d (I ((a1).length : Int))), (36, .d (I 0))] [(22, .row 0 3 [])] (.exit 0) [(0, .d (.lst false 2 a0)), (1, .d (.lst false 3 a1)), (5, .own 22 0)] [(22, .row 0 3 t6)], (((a1).length : Int) != 257) = false, (decide (((a1).length : Int) > 12)) = true, (decide (((a0).length : Int) > 8)) = false, (!t1) = false, Computes cx 8 [] (B t1)]) (e_law04_FieldShares_25 a0 a1 t1 t6 t9 t10 t11 t12 t15) ⟨h18, (eqt h17), h16, (c_ref04_Summed h15), (eqt h14), (eqf h13), (c_ref04_CheckReadings h12), (c_ref04_CheckShares h11), (c_field_Summed h10), (c_field_Efficiency_2 h9), (bfalse h8), (room_of (b := 16) (by kernel_rfl) (by decide) h7), (loopF_to R_law04_FieldShares_L1 h6), (nef h5), (decide_eq_true h4), (decide_eq_false h3), (notf h2), (c_law04_awake h1), trivial⟩
                    · replace h := ite_f h h18
                      cases h
                  · replace h := ite_f h h17
                    cases h
                · replace h := ite_f h h16
                  cases h
              · replace h := ite_f h h14
                by_cases h15 : ((t9.1 == 0) && ((t9.2.1 == 0) && true)) = true
                · replace h := ite_t h h15
                  by_cases h16 : t9.2.2 = t11
                  · replace h := ite_t h h16
                    by_cases h17 : ((t10.1 == 0) && ((t10.2.1 == 0) && true)) = true
                    · replace h := ite_t h h17
                      replace h := Option.some.inj h
                      subst h
                      exact run (n := 100) (f := 5) (args := [.lst false 2 a0, .lst false 3 a1]) (orc := [.ret (B t1), .br false, .br false, .br true, .br false, .lp [5, 3] [0, 1, 5, 34, 35, 36] [22] (.exit 0) [(0, .d (.lst false 2 a0)), (1, .d (.lst false 3 a1)), (5, .own 22 0)] [(22, .row 0 3 t6)] 46, .br true, .br false, .ret (.tup [.agg [I t9.1, I t9.2.1], I t9.2.2]), .ret (.tup [.agg [I t10.1, I t10.2.1], I t10.2.2]), .ret (I t11), .ret (I t12), .br false, .br false, .br true, .br true, .br true]) (r := B (t10.2.2 == t12)) (ob := [((t10.1 == 0) && ((t10.2.1 == 0) && true)) = true, (t9.2.2 == t11) = true, ((t9.1 == 0) && ((t9.2.1 == 0) && true)) = true, (t12 == 0) = false, (t11 == 0) = false, Computes cx 27 [.lst false 3 a1] (I t12), Computes cx 26 [.lst false 2 a0] (I t11), Computes cx 25 [.lst false 3 t6] (.tup [.agg [I t10.1, I t10.2.1], I t10.2.2]), Computes cx 24 [.lst false 2 a0] (.tup [.agg [I t9.1, I t9.2.1], I t9.2.2]), isNilL a0 = false, room cx 29 (0 + (a0).length), LoopN cx (loopAt cx.P 5 0) 90 0 false [(0, .d (.lst false 2 a0)), (1, .d (.lst false 3 a1)), (5, .own 22 0), (34, .d (.lst false 3 a1)), (35, .d (I ((a1).length : Int))), (36, .d (I 0))] [(22, .row 0 3 [])] (.exit 0) [(0, .d (.lst false 2 a0)), (1, .d (.lst false 3 a1)), (5, .own 22 0)] [(22, .row 0 3 t6)], (((a1).length : Int) != 257) = false, (decide (((a1).length : Int) > 12)) = true, (decide (((a0).length : Int) > 8)) = false, (!t1) = false, Computes cx 8 [] (B t1)]) (e_law04_FieldShares_29 a0 a1 t1 t6 t9 t10 t11 t12) ⟨h17, (eqt h16), h15, (eqf h14), (eqf h13), (c_ref04_CheckReadings h12), (c_ref04_CheckShares h11), (c_field_Summed h10), (c_field_Efficiency_2 h9), (bfalse h8), (room_of (b := 16) (by kernel_rfl) (by decide) h7), (loopF_to R_law04_FieldShares_L1 h6), (nef h5), (decide_eq_true h4), (decide_eq_false h3), (notf h2), (c_law04_awake h1), trivial⟩
                    · replace h := ite_f h h17
                      cases h
                  · replace h := ite_f h h16
                    cases h
                · replace h := ite_f h h15
                  cases h
        · replace h := ite_f h h5
          replace h := Option.some.inj h
          subst h
          exact run (n := 100) (f := 5) (args := [.lst false 2 a0, .lst false 3 a1]) (orc := [.ret (B t1), .br false, .br false, .br true, .br true, .ret (B t1)]) (r := B t1) (ob := [Computes cx 8 [] (B t1), (((a1).length : Int) != 257) = true, (decide (((a1).length : Int) > 12)) = true, (decide (((a0).length : Int) > 8)) = false, (!t1) = false, Computes cx 8 [] (B t1)]) (e_law04_FieldShares_33 a0 a1 t1) ⟨(c_law04_awake h1), (net h5), (decide_eq_true h4), (decide_eq_false h3), (notf h2), (c_law04_awake h1), trivial⟩
      · replace h := ite_f h h4
        obtain ⟨t5, h5, h⟩ := bnd_of h
        obtain ⟨h6, h⟩ := grd_of h
        by_cases h7 : isNilL a0 = true
        · replace h := ite_t h h7
          obtain ⟨t8, h8, h⟩ := bnd_of h
          obtain ⟨t9, h9, h⟩ := bnd_of h
          obtain ⟨t10, h10, h⟩ := bnd_of h
          obtain ⟨t11, h11, h⟩ := bnd_of h
          by_cases h12 : t10 = 0
          · replace h := ite_t h h12
            obtain ⟨t13, h13, h⟩ := bnd_of h
            by_cases h14 : t11 = 0
            · replace h := ite_t h h14
              obtain ⟨t15, h15, h⟩ := bnd_of h
              by_cases h16 : ((t8.1 == t13.1) && ((t8.2.1 == t13.2) && true)) = true
              · replace h := ite_t h h16
                by_cases h17 : t8.2.2 = t10
                · replace h := ite_t h h17
                  by_cases h18 : ((t9.1 == t15.1) && ((t9.2.1 == t15.2.1) && true)) = true
                  · replace h := ite_t h h18
                    replace h := Option.some.inj h
                    subst h
                    exact run (n := 100) (f := 5) (args := [.lst false 2 a0, .lst false 3 a1]) (orc := [.ret (B t1), .br false, .br false, .br false, .no, .lp [5, 3] [0, 1, 5, 34, 35, 36] [22] (.exit 0) [(0, .d (.lst false 2 a0)), (1, .d (.lst false 3 a1)), (5, .own 22 0)] [(22, .row 0 3 t5)] 46, .br true, .br true, .ret (.tup [.agg [I t8.1, I t8.2.1], I t8.2.2]), .ret (.tup [.agg [I t9.1, I t9.2.1], I t9.2.2]), .ret (I t10), .ret (I t11), .br true, .ret (.agg [I t13.1, I t13.2]), .br true, .ret (.tup [.agg [I t15.1, I t15.2.1], I t15.2.2]), .br true, .br true, .br true]) (r := B (t9.2.2 == t15.2.2)) (ob := [((t9.1 == t15.1) && ((t9.2.1 == t15.2.1) && true)) = true, (t8.2.2 == t10) = true, ((t8.1 == t13.1) && ((t8.2.1 == t13.2) && true)) = true, Computes cx 29 [.lst false 3 a1] (.tup [.agg [I t15.1, I t15.2.1], I t15.2.2]), (t11 == 0) = true, Computes cx 28 [.lst false 2 a0] (.agg [I t13.1, I t13.2]), (t10 == 0) = true, Computes cx 27 [.lst false 3 a1] (I t11), Computes cx 26 [.lst false 2 a0] (I t10), Computes cx 25 [.lst false 3 t5] (.tup [.agg [I t9.1, I t9.2.1], I t9.2.2]), Computes cx 24 [.lst false 2 []] (.tup [.agg [I t8.1, I t8.2.1], I t8.2.2]), isNilL a0 = true, room cx 29 (0 + (a0).length), LoopN cx (loopAt cx.P 5 0) 90 0 false [(0, .d (.lst false 2 a0)), (1, .d (.lst false 3 a1)), (5, .own 22 0), (34, .d (.lst false 3 a1)), (35, .d (I ((a1).length : Int))), (36, .d (I 0))] [(22, .row 0 3 [])] (.exit 0) [(0, .d (.lst false 2 a0)), (1, .d (.lst false 3 a1)), (5, .own 22 0)] [(22, .row 0 3 t5)], (decide (((a1).length : Int) > 12)) = false, (decide (((a0).length : Int) > 8)) = false, (!t1) = false, Computes cx 8 [] (B t1)]) (e_law04_FieldShares_34 a0 a1 t1 t5 t8 t9 t10 t11 t13 t15) ⟨h18, (eqt h17), h16, (c_ref04_Summed h15), (eqt h14), (c_ref04_Efficiency h13), (eqt h12), (c_ref04_CheckReadings h11), (c_ref04_CheckShares h10), (c_field_Summed h9), (c_field_Efficiency h8), h7, (room_of (b := 16) (by kernel_rfl) (by decide) h6), (loopF_to R_law04_FieldShares_L1 h5), (decide_eq_false h4), (decide_eq_false h3), (notf h2), (c_law04_awake h1), trivial⟩
                  · replace h := ite_f h h18
                    cases h
                · replace h := ite_f h h17
                  cases h
              · replace h := ite_f h h16
                cases h
            · replace h := ite_f h h14
              by_cases h15 : ((t8.1 == t13.1) && ((t8.2.1 == t13.2) && true)) = true
              · replace h := ite_t h h15
                by_cases h16 : t8.2.2 = t10
                · replace h := ite_t h h16
                  by_cases h17 : ((t9.1 == 0) && ((t9.2.1 == 0) && true)) = true
                  · replace h := ite_t h h17
                    replace h := Option.some.inj h
                    subst h
                    exact run (n := 100) (f := 5) (args := [.lst false 2 a0, .lst false 3 a1]) (orc := [.ret (B t1), .br false, .br false, .br false, .no, .lp [5, 3] [0, 1, 5, 34, 35, 36] [22] (.exit 0) [(0, .d (.lst false 2 a0)), (1, .d (.lst false 3 a1)), (5, .own 22 0)] [(22, .row 0 3 t5)] 46, .br true, .br true, .ret (.tup [.agg [I t8.1, I t8.2.1], I t8.2.2]), .ret (.tup [.agg [I t9.1, I t9.2.1], I t9.2.2]), .ret (I t10), .ret (I t11), .br true, .ret (.agg [I t13.1, I t13.2]), .br false, .br true, .br true, .br true]) (r := B (t9.2.2 == t11)) (ob := [((t9.1 == 0) && ((t9.2.1 == 0) && true)) = true, (t8.2.2 == t10) = true, ((t8.1 == t13.1) && ((t8.2.1 == t13.2) && true)) = true, (t11 == 0) = false, Computes cx 28 [.lst false 2 a0] (.agg [I t13.1, I t13.2]), (t10 == 0) = true, Computes cx 27 [.lst false 3 a1] (I t11), Computes cx 26 [.lst false 2 a0] (I t10), Computes cx 25 [.lst false 3 t5] (.tup [.agg [I t9.1, I t9.2.1], I t9.2.2]), Computes cx 24 [.lst false 2 []] (.tup [.agg [I t8.1, I t8.2.1], I t8.2.2]), isNilL a0 = true, room cx 29 (0 + (a0).length), LoopN cx (loopAt cx.P 5 0) 90 0 false [(0, .d (.lst false 2 a0)), (1, .d (.lst false 3 a1)), (5, .own 22 0), (34, .d (.lst false 3 a1)), (35, .d (I ((a1).length : Int))), (36, .d (I 0))] [(22, .row 0 3 [])] (.exit 0) [(0, .d (.lst false 2 a0)), (1, .d (.lst false 3 a1)), (5, .own 22 0)] [(22, .row 0 3 t5)], (decide (((a1).length : Int) > 12)) = false, (decide (((a0).length : Int) > 8)) = false, (!t1) = false, Computes cx 8 [] (B t1)]) (e_law04_FieldShares_38 a0 a1 t1 t5 t8 t9 t10 t11 t13) ⟨h17, (eqt h16), h15, (eqf h14), (c_ref04_Efficiency h13), (eqt h12), (c_ref04_CheckReadings h11), (c_ref04_CheckShares h10), (c_field_Summed h9), (c_field_Efficiency h8), h7, (room_of (b := 16) (by kernel_rfl) (by decide) h6), (loopF_to R_law04_FieldShares_L1 h5), (decide_eq_false h4), (decide_eq_false h3), (notf h2), (c_law04_awake h1), trivial⟩
                  · replace h := ite_f h h17
                    cases h
                · replace h := ite_f h h16
                  cases h
              · replace h := ite_f h h15
                cases h
          · replace h := ite_f h h12
            by_cases h13 : t11 = 0
            · replace h := ite_t h h13
              obtain ⟨t14, h14, h⟩ := bnd_of h
              by_cases h15 : ((t8.1 == 0) && ((t8.2.1 == 0) && true)) = true
              · replace h := ite_t h h15
                by_cases h16 : t8.2.2 = t10
                · replace h := ite_t h h16
                  by_cases h17 : ((t9.1 == t14.1) && ((t9.2.1 == t14.2.1) && true)) = true
                  · replace h := ite_t h h17
                    replace h := Option.some.inj h
                    subst h
                    exact run (n := 100) (f := 5) (args := [.lst false 2 a0, .lst false 3 a1]) (orc := [.ret (B t1), .br false, .br false, .br false, .no, .lp [5, 3] [0, 1, 5, 34, 35, 36] [22] (.exit 0) [(0, .d (.lst false 2 a0)), (1, .d (.lst false 3 a1)), (5, .own 22 0)] [(22, .row 0 3 t5)] 46, .br true, .br true, .ret (.tup [.agg [I t8.1, I t8.2.1], I t8.2.2]), .ret (.tup [.agg [I t9.1, I t9.2.1], I t9.2.2]), .ret (I t10), .ret (I t11), .br false, .br true, .ret (.tup [.agg [I t14.1, I t14.2.1], I t14.2.2]), .br true, .br true, .br true]) (r := B (t9.2.2 == t14.2.2)) (ob := [((t9.1 == t14.1) && ((t9.2.1 == t14.2.1) && true)) = true, (t8.2.2 == t10) = true, ((t8.1 == 0) && ((t8.2.1 == 0) && true)) = true, Computes cx 29 [.lst false 3 a1] (.tup [.agg [I t14.1, I t14.2.1], I t14.2.2]), (t11 == 0) = true, (t10 == 0) = false, Computes cx 27 [.lst false 3 a1] (I t11), Computes cx 26 [.lst false 2 a0] (I t10), Computes cx 25 [.lst false 3 t5] (.tup [.agg [I t9.1, I t9.2.1], I t9.2.2]), Computes cx 24 [.lst false 2 []] (.tup [.agg [I t8.1, I t8.2.1], I t8.2.2]), isNilL a0 = true, room cx 29 (0 + (a0).length), LoopN cx (loopAt cx.P 5 0) 90 0 false [(0, .d (.lst false 2 a0)), (1, .d (.lst false 3 a1)), (5, .own 22 0), (34, .d (.lst false 3 a1)), (35, .d (I ((a1).length : Int))), (36, .d (I 0))] [(22, .row 0 3 [])] (.exit 0) [(0, .d (.lst false 2 a0)), (1, .d (.lst false 3 a1)), (5, .own 22 0)] [(22, .row 0 3 t5)], (decide (((a1).length : Int) > 12)) = false, (decide (((a0).length : Int) > 8)) = false, (!t1) = false, Computes cx 8 [] (B t1)]) (e_law04_FieldShares_42 a0 a1 t1 t5 t8 t9 t10 t11 t14) ⟨h17, (eqt h16), h15, (c_ref04_Summed h14), (eqt h13), (eqf h12), (c_ref04_CheckReadings h11), (c_ref04_CheckShares h10), (c_field_Summed h9), (c_field_Efficiency h8), h7, (room_of (b := 16) (by kernel_rfl) (by decide) h6), (loopF_to R_law04_FieldShares_L1 h5), (decide_eq_false h4), (decide_eq_false h3), (notf h2), (c_law04_awake h1), trivial⟩
                  · replace h := ite_f h h17
                    cases h
                · replace h := ite_f h h16
                  cases h
              · replace h := ite_f h h15
                cases h
            · replace h := ite_f h h13
              by_cases h14 : ((t8.1 == 0) && ((t8.2.1 == 0) && true)) = true
              · replace h := ite_t h h14
                by_cases h15 : t8.2.2 = t10
                · replace h := ite_t h h15
                  by_cases h16 : ((t9.1 == 0) && ((t9.2.1 == 0) && true)) = true
                  · replace h := ite_t h h16
                    replace h := Option.some.inj h
                    subst h
                    exact run (n := 100) (f := 5) (args := [.lst false 2 a0, .lst false 3 a1]) (orc := [.ret (B t1), .br false, .br false, .br false, .no, .lp [5, 3] [0, 1, 5, 34, 35, 36] [22] (.exit 0) [(0, .d (.lst false 2 a0)), (1, .d (.lst false 3 a1)), (5, .own 22 0)] [(22, .row 0 3 t5)] 46, .br true, .br true, .ret (.tup [.agg [I t8.1, I t8.2.1], I t8.2.2]), .ret (.tup [.agg [I t9.1, I t9.2.1], I t9.2.2]), .ret (I t10), .ret (I t11), .br false, .br false, .br true, .br true, .br true]) (r := B (t9.2.2 == t11)) (ob := [((t9.1 == 0) && ((t9.2.1 == 0) && true)) = true, (t8.2.2 == t10) = true, ((t8.1 == 0) && ((t8.2.1 == 0) && true)) = true, (t11 == 0) = false, (t10 == 0) = false, Computes cx 27 [.lst false 3 a1] (I t11), Computes cx 26 [.lst false 2 a0] (I t10), Computes cx 25 [.lst false 3 t5] (.tup [.agg [I t9.1, I t9.2.1], I t9.2.2]), Computes cx 24 [.lst false 2 []] (.tup [.agg [I t8.1, I t8.2.1], I t8.2.2]), isNilL a0 = true, room cx 29 (0 + (a0).length), LoopN cx (loopAt cx.P 5 0) 90 0 false [(0, .d (.lst false 2 a0)), (1, .d (.lst false 3 a1)), (5, .own 22 0), (34, .d (.lst false 3 a1)), (35, .d (I ((a1).length : Int))), (36, .d (I 0))] [(22, .row 0 3 [])] (.exit 0) [(0, .d (.lst false 2 a0)), (1, .d (.lst false 3 a1)), (5, .own 22 0)] [(22, .row 0 3 t5)], (decide (((a1).length : Int) > 12)) = false, (decide (((a0).length : Int) > 8)) = false, (!t1) = false, Computes cx 8 [] (B t1)]) (e_law04_FieldShares_46 a0 a1 t1 t5 t8 t9 t10 t11) ⟨h16, (eqt h15), h14, (eqf h13), (eqf h12), (c_ref04_CheckReadings h11), (c_ref04_CheckShares h10), (c_field_Summed h9), (c_field_Efficiency h8), h7, (room_of (b := 16) (by kernel_rfl) (by decide) h6), (loopF_to R_law04_FieldShares_L1 h5), (decide_eq_false h4), (decide_eq_false h3), (notf h2), (c_law04_awake h1), trivial⟩
                  · replace h := ite_f h h16
                    cases h
                · replace h := ite_f h h15
                  cases h
              · replace h := ite_f h h14
                cases h
        · replace h := ite_f h h7
          obtain ⟨t8, h8, h⟩ := bnd_of h
          obtain ⟨t9, h9, h⟩ := bnd_of h
          obtain ⟨t10, h10, h⟩ := bnd_of h
          obtain ⟨t11, h11, h⟩ := bnd_of h
          by_cases h12 : t10 = 0
          · replace h := ite_t h h12
            obtain ⟨t13, h13, h⟩ := bnd_of h
            by_cases h14 : t11 = 0
            · replace h := ite_t h h14
              obtain ⟨t15, h15, h⟩ := bnd_of h
              by_cases h16 : ((t8.1 == t13.1) && ((t8.2.1 == t13.2) && true)) = true
              · replace h := ite_t h h16
                by_cases h17 : t8.2.2 = t10
                · replace h := ite_t h h17
                  by_cases h18 : ((t9.1 == t15.1) && ((t9.2.1 == t15.2.1) && true)) = true
                  · replace h := ite_t h h18
                    replace h := Option.some.inj h
                    subst h
                    exact run (n := 100) (f := 5) (args := [.lst false 2 a0, .lst false 3 a1]) (orc := [.ret (B t1), .br false, .br false, .br false, .no, .lp [5, 3] [0, 1, 5, 34, 35, 36] [22] (.exit 0) [(0, .d (.lst false 2 a0)), (1, .d (.lst false 3 a1)), (5, .own 22 0)] [(22, .row 0 3 t5)] 46, .br true, .br false, .ret (.tup [.agg [I t8.1, I t8.2.1], I t8.2.2]), .ret (.tup [.agg [I t9.1, I t9.2.1], I t9.2.2]), .ret (I t10), .ret (I t11), .br true, .ret (.agg [I t13.1, I t13.2]), .br true, .ret (.tup [.agg [I t15.1, I t15.2.1], I t15.2.2]), .br true, .br true, .br true]) (r := B (t9.2.2 == t15.2.2)) (ob := [((t9.1 == t15.1) && ((t9.2.1 == t15.2.1) && true)) = true, (t8.2.2 == t10) = true, ((t8.1 == t13.1) && ((t8.2.1 == t13.2) && true)) = true, Computes cx 29 [.lst false 3 a1] (.tup [.agg [I t15.1, I t15.2.1], I t15.2.2]), (t11 == 0) = true, Computes cx 28 [.lst false 2 a0] (.agg [I t13.1, I t13.2]), (t10 == 0) = true, Computes cx 27 [.lst false 3 a1] (I t11), Computes cx 26 [.lst false 2 a0] (I t10), Computes cx 25 [.lst false 3 t5] (.tup [.agg [I t9.1, I t9.2.1], I t9.2.2]), Computes cx 24 [.lst false 2 a0] (.tup [.agg [I t8.1, I t8.2.1], I t8.2.2]), isNilL a0 = false, room cx 29 (0 + (a0).length), LoopN cx (loopAt cx.P 5 0) 90 0 false [(0, .d (.lst false 2 a0)), (1, .d (.lst false 3 a1)), (5, .own 22 0), (34, .d (.lst false 3 a1)), (35, .d (I ((a1).length : Int))), (36, .d (I 0))] [(22, .row 0 3 [])] (.exit 0) [(0, .d (.lst false 2 a0)), (1, .d (.lst false 3 a1)), (5, .own 22 0)] [(22, .row 0 3 t5)], (decide (((a1).length : Int) > 12)) = false, (decide (((a0).length : Int) > 8)) = false, (!t1) = false, Computes cx 8 [] (B t1)]) (e_law04_FieldShares_50 a0 a1 t1 t5 t8 t9 t10 t11 t13 t15) ⟨h18, (eqt h17), h16, (c_ref04_Summed h15), (eqt h14), (c_ref04_Efficiency h13), (eqt h12), (c_ref04_CheckReadings h11), (c_ref04_CheckShares h10), (c_field_Summed h9), (c_field_Efficiency_2 h8), (bfalse h7), (room_of (b := 16) (by kernel_rfl) (by decide) h6), (loopF_to R_law04_FieldShares_L1 h5), (decide_eq_false h4), (decide_eq_false h3), (notf h2), (c_law04_awake h1), trivial⟩
                  · replace h := ite_f h h18
                    cases h
                · replace h := ite_f h h17
                  cases h
              · replace h := ite_f h h16
                cases h
            · replace h := ite_f h h14
              by_cases h15 : ((t8.1 == t13.1) && ((t8.2.1 == t13.2) && true)) = true
              · replace h := ite_t h h15
                by_cases h16 : t8.2.2 = t10
                · replace h := ite_t h h16
                  by_cases h17 : ((t9.1 == 0) && ((t9.2.1 == 0) && true)) = true
                  · replace h := ite_t h h17
                    replace h := Option.some.inj h
                    subst h
                    exact run (n := 100) (f := 5) (args := [.lst false 2 a0, .lst false 3 a1]) (orc := [.ret (B t1), .br false, .br false, .br false, .no, .lp [5, 3] [0, 1, 5, 34, 35, 36] [22] (.exit 0) [(0, .d (.lst false 2 a0)), (1, .d (.lst false 3 a1)), (5, .own 22 0)] [(22, .row 0 3 t5)] 46, .br true, .br false, .ret (.tup [.agg [I t8.1, I t8.2.1], I t8.2.2]), .ret (.tup [.agg [I t9.1, I t9.2.1], I t9.2.2]), .ret (I t10), .ret (I t11), .br true, .ret (.agg [I t13.1, I t13.2]), .br false, .br true, .br true, .br true]) (r := B (t9.2.2 == t11)) (ob := [((t9.1 == 0) && ((t9.2.1 == 0) && true)) = true, (t8.2.2 == t10) = true, ((t8.1 == t13.1) && ((t8.2.1 == t13.2) && true)) = true, (t11 == 0) = false, Computes cx 28 [.lst false 2 a0] (.agg [I t13.1, I t13.2]), (t10 == 0) = true, Computes cx 27 [.lst false 3 a1] (I t11), Computes cx 26 [.lst false 2 a0] (I t10), Computes cx 25 [.lst false 3 t5] (.tup [.agg [I t9.1, I t9.2.1], I t9.2.2]), Computes cx 24 [.lst false 2 a0] (.tup [.agg [I t8.1, I t8.2.1], I t8.2.2]), isNilL a0 = false, room cx 29 (0 + (a0).length), LoopN cx (loopAt cx.P 5 0) 90 0 false [(0, .d (.lst false 2 a0)), (1, .d (.lst false 3 a1)), (5, .own 22 0), (34, .d (.lst false 3 a1)), (35, .d (I ((a1).length : Int))), (36, .d (I 0))] [(22, .row 0 3 [])] (.exit 0) [(0, .d (.lst false 2 a0)), (1, .d (.lst false 3 a1)), (5, .own 22 0)] [(22, .row 0 3 t5)], (decide (((a1).length : Int) > 12)) = false, (decide (((a0).length : Int) > 8)) = false, (!t1) = false, Computes cx 8 [] (B t1)]) (e_law04_FieldShares_54 a0 a1 t1 t5 t8 t9 t10 t11 t13) ⟨h17, (eqt h16), h15, (eqf h14), (c_ref04_Efficiency h13), (eqt h12), (c_ref04_CheckReadings h11), (c_ref04_CheckShares h10), (c_field_Summed h9), (c_field_Efficiency_2 h8), (bfalse h7), (room_of (b := 16) (by kernel_rfl) (by decide) h6), (loopF_to R_law04_FieldShares_L1 h5), (decide_eq_false h4), (decide_eq_false h3), (notf h2), (c_law04_awake h1), trivial⟩
                  · replace h := ite_f h h17
                    cases h
                · replace h := ite_f h h16
                  cases h
              · replace h := ite_f h h15
                cases h
          · replace h := ite_f h h12
            by_cases h13 : t11 = 0
            · replace h := ite_t h h13
              obtain ⟨t14, h14, h⟩ := bnd_of h
              by_cases h15 : ((t8.1 == 0) && ((t8.2.1 == 0) && true)) = true
              · replace h := ite_t h h15
                by_cases h16 : t8.2.2 = t10
                · replace h := ite_t h h16
                  by_cases h17 : ((t9.1 == t14.1) && ((t9.2.1 == t14.2.1) && true)) = true
                  · replace h := ite_t h h17
                    replace h := Option.some.inj h
                    subst h
                    exact run (n := 100) (f := 5) (args := [.lst false 2 a0, .lst false 3 a1]) (orc := [.ret (B t1), .br false, .br false, .br false, .no, .lp [5, 3] [0, 1, 5, 34, 35, 36] [22] (.exit 0) [(0, .d (.lst false 2 a0)), (1, .d (.lst false 3 a1)), (5, .own 22 0)] [(22, .row 0 3 t5)] 46, .br true, .br false, .ret (.tup [.agg [I t8.1, I t8.2.1], I t8.2.2]), .ret (.tup [.agg [I t9.1, I t9.2.1], I t9.2.2]), .ret (I t10), .ret (I t11), .br false, .br true, .ret (.tup [.agg [I t14.1, I t14.2.1], I t14.2.2]), .br true, .br true, .br true]) (r := B (t9.2.2 == t14.2.2)) (ob := [((t9.1 == t14.1) && ((t9.2.1 == t14.2.1) && true)) = true, (t8.2.2 == t10) = true, ((t8.1 == 0) && ((t8.2.1 == 0) && true)) = true, Computes cx 29 [.lst false 3 a1] (.tup [.agg [I t14.1, I t14.2.1], I t14.2.2]), (t11 == 0) = true, (t10 == 0) = false, Computes cx 27 [.lst false 3 a1] (I t11), Computes cx 26 [.lst false 2 a0] (I t10), Computes cx 25 [.lst false 3 t5] (.tup [.agg [I t9.1, I t9.2.1], I t9.2.2]), Computes cx 24 [.lst false 2 a0] (.tup [.agg [I t8.1, I t8.2.1], I t8.2.2]), isNilL a0 = false, room cx 29 (0 + (a0).length), LoopN cx (loopAt cx.P 5 0) 90 0 false [(0, .d (.lst false 2 a0)), (1, .d (.lst false 3 a1)), (5, .own 22 0), (34, .d (.lst false 3 a1)), (35, .d (I ((a1).length : Int))), (36, .d (I 0))] [(22, .row 0 3 [])] (.exit 0) [(0, .d (.lst false 2 a0)), (1, .d (.lst false 3 a1)), (5, .own 22 0)] [(22, .row 0 3 t5)], (decide (((a1).length : Int) > 12)) = false, (decide (((a0).length : Int) > 8)) = false, (!t1) = false, Computes cx 8 [] (B t1)]) (e_law04_FieldShares_58 a0 a1 t1 t5 t8 t9 t10 t11 t14) ⟨h17, (eqt h16), h15, (c_ref04_Summed h14), (eqt h13), (eqf h12), (c_ref04_CheckReadings h11), (c_ref04_CheckShares h10), (c_field_Summed h9), (c_field_Efficiency_2 h8), (bfalse h7), (room_of (b := 16) (by kernel_rfl) (by decide) h6), (loopF_to R_law04_FieldShares_L1 h5), (decide_eq_false h4), (decide_eq_false h3), (notf h2), (c_law04_awake h1), trivial⟩
                  · replace h := ite_f h h17
                    cases h
                · replace h := ite_f h h16
                  cases h
              · replace h := ite_f h h15
                cases h
            · replace h := ite_f h h13
              by_cases h14 : ((t8.1 == 0) && ((t8.2.1 == 0) && true)) = true
              · replace h := ite_t h h14
                by_cases h15 : t8.2.2 = t10
                · replace h := ite_t h h15
                  by_cases h16 : ((t9.1 == 0) && ((t9.2.1 == 0) && true)) = true
                  · replace h := ite_t h h16
                    replace h := Option.some.inj h
                    subst h
                    exact run (n := 100) (f := 5) (args := [.lst false 2 a0, .lst false 3 a1]) (orc := [.ret (B t1), .br false, .br false, .br false, .no, .lp [5, 3] [0, 1, 5, 34, 35, 36] [22] (.exit 0) [(0, .d (.lst false 2 a0)), (1, .d (.lst false 3 a1)), (5, .own 22 0)] [(22, .row 0 3 t5)] 46, .br true, .br false, .ret (.tup [.agg [I t8.1, I t8.2.1], I t8.2.2]), .ret (.tup [.agg [I t9.1, I t9.2.1], I t9.2.2]), .ret (I t10), .ret (I t11), .br false, .br false, .br true, .br true, .br true]) (r := B (t9.2.2 == t11)) (ob := [((t9.1 == 0) && ((t9.2.1 == 0) && true)) = true, (t8.2.2 == t10) = true, ((t8.1 == 0) && ((t8.2.1 == 0) && true)) = true, (t11 == 0) = false, (t10 == 0) = false, Computes cx 27 [.lst false 3 a1] (I t11), Computes cx 26 [.lst false 2 a0] (I t10), Computes cx 25 [.lst false 3 t5] (.tup [.agg [I t9.1, I t9.2.1], I t9.2.2]), Computes cx 24 [.lst false 2 a0] (.tup [.agg [I t8.1, I t8.2.1], I t8.2.2]), isNilL a0 = false, room cx 29 (0 + (a0).length), LoopN cx (loopAt cx.P 5 0) 90 0 false [(0, .d (.lst false 2 a0)), (1, .d (.lst false 3 a1)), (5, .own 22 0), (34, .d (.lst false 3 a1)), (35, .d (I ((a1).length : Int))), (36, .d (I 0))] [(22, .row 0 3 [])] (.exit 0) [(0, .d (.lst false 2 a0)), (1, .d (.lst false 3 a1)), (5, .own 22 0)] [(22, .row 0 3 t5)], (decide (((a1).length : Int) > 12)) = false, (decide (((a0).length : Int) > 8)) = false, (!t1) = false, Computes cx 8 [] (B t1)]) (e_law04_FieldShares_62 a0 a1 t1 t5 t8 t9 t10 t11) ⟨h16, (eqt h15), h14, (eqf h13), (eqf h12), (c_ref04_CheckReadings h11), (c_ref04_CheckShares h10), (c_field_Summed h9), (c_field_Efficiency_2 h8), (bfalse h7), (room_of (b := 16) (by kernel_rfl) (by decide) h6), (loopF_to R_law04_FieldShares_L1 h5), (decide_eq_false h4), (decide_eq_false h3), (notf h2), (c_law04_awake h1), trivial⟩
                  · replace h := ite_f h h16
                    cases h
                · replace h := ite_f h h15
                  cases h
              · replace h := ite_f h h14
                cases h
  · replace h := ite_f h h2
    replace h := Option.some.inj h
    subst h
    exact run (n := 100) (f := 5) (args := [.lst false 2 a0, .lst false 3 a1]) (orc := [.ret (B t1), .br true, .no, .no, .ret (B t1)]) (r := B t1) (ob := [Computes cx 8 [] (B t1), (!t1) = true, Computes cx 8 [] (B t1)]) (e_law04_FieldShares_66 a0 a1 t1) ⟨(c_law04_awake h1), (nott (bfalse h2)), (c_law04_awake h1), trivial⟩
end Go.Proofs.YtbjibgaknkaifaaGreatDoor
