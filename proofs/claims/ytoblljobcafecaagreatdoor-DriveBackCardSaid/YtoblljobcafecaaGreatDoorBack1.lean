/-
  Printed by gsx.py: functions of the program as Lean functions, and that the code computes them.
-/
import Derived.Test.YtoblljobcafecaaGreatDoorGen5
set_option linter.unusedVariables false
set_option linter.unusedSimpArgs false
set_option linter.unnecessarySimpa false
set_option maxRecDepth 10000
set_option maxHeartbeats 4000000
namespace Go.Proofs.YtoblljobcafecaaGreatDoor
open Go.SX
theorem e_law03_DriveBack_0 (a0 : List D) (a1 : ByteArray) (t1 : Bool) (t4 : Bool) : runFn true 100 cx 4 [.lst false 3 a0, .v (.string a1)] [.ret (B t1), .br false, .br true, .no, .no, .ret (B t4)] = some (B t4, [Computes cx 6 [] (B t4), (decide (((a0).length : Int) > 8)) = true, (!t1) = false, Computes cx 5 [.lst false 3 a0] (B t1)]) := by kernel_rfl
theorem e_law03_DriveBack_1 (a0 : List D) (a1 : ByteArray) (t1 : Bool) (t4 : Int) (t7 : Bool) : runFn true 100 cx 4 [.lst false 3 a0, .v (.string a1)] [.ret (B t1), .br false, .br false, .ret (I t4), .br false, .br true, .ret (B t7)] = some (B t7, [Computes cx 6 [] (B t7), (decide ((a1.size : Int) > 300)) = true, (t4 != 0) = false, Computes cx 10 [.lst false 3 a0] (I t4), (decide (((a0).length : Int) > 8)) = false, (!t1) = false, Computes cx 5 [.lst false 3 a0] (B t1)]) := by kernel_rfl
theorem e_law03_DriveBack_3 (a0 : List D) (a1 : ByteArray) (t1 : Bool) (t4 : Int) (t7 : List D) (t8 : ByteArray × Int) (t9 : List D × Int × Int) (t13 : List D) (t14 : Bool) (t16 : List D) (t19 : List D × Int × Int) (t21 : ByteArray × Int) (t25 : ByteArray) (t26 : List D × Int × Int) (t30 : Bool) : runFn true 100 cx 4 [.lst false 3 a0, .v (.string a1)] [.ret (B t1), .br false, .br false, .ret (I t4), .br false, .br false, .ret (.lst false 3 t7), .ret (.tup [.v (.string t8.1), I t8.2]), .ret (.tup [.lst false 3 t9.1, I t9.2.1, I t9.2.2]), .br false, .br false, .br false, .ret (.lst false 3 t13), .ret (B t14), .br false, .ret (.lst false 1 t16), .br false, .ret (.tup [.lst false 3 t19.1, I t19.2.1, I t19.2.2]), .br true, .ret (.tup [.v (.string t21.1), I t21.2]), .br false, .br false, .el (.v (.string t25)), .ret (.tup [.lst false 3 t26.1, I t26.2.1, I t26.2.2]), .br true, .br true, .ret (B t30)] = some (B t30, [Computes cx 6 [] (B t30), (t26.2.1 == (((a0).length : Int) - 1)) = true, inI64 (((a0).length : Int) - 1), (t26.2.2 == 25) = true, Computes cx 9 [.v (.string t25)] (.tup [.lst false 3 t26.1, I t26.2.1, I t26.2.2]), pureRun cx.P (Instr.sliceAt 9 (.string t8.1) none (some (.int .i64 ((t8.1.size : Int) - 1))) none) = some (.string t25), inI64 ((t8.1.size : Int) - 1), (!(t21.1.toList == a1.toList)) = false, (t21.2 != 0) = false, Computes cx 7 [.lst false 3 t19.1] (.tup [.v (.string t21.1), I t21.2]), (t19.2.2 == 0) = true, Computes cx 9 [.v (.string a1)] (.tup [.lst false 3 t19.1, I t19.2.1, I t19.2.2]), (((t16).length : Int) != (((a0).length : Int) + 1)) = false, inI64 (((a0).length : Int) + 1), Computes cx 15 [.v (.string t8.1), .v (.int .u8 10)] (.lst false 1 t16), (!t14) = false, Computes cx 13 [.lst false 3 t13, .lst false 3 a0] (B t14), Computes cx 14 [.lst false 3 t9.1] (.lst false 3 t13), (t9.2.1 != 0) = false, (t9.2.2 != 0) = false, (t8.2 != 0) = false, Computes cx 9 [.v (.string t8.1)] (.tup [.lst false 3 t9.1, I t9.2.1, I t9.2.2]), Computes cx 7 [.lst false 3 t7] (.tup [.v (.string t8.1), I t8.2]), Computes cx 8 [.lst false 3 a0] (.lst false 3 t7), (decide ((a1.size : Int) > 300)) = false, (t4 != 0) = false, Computes cx 10 [.lst false 3 a0] (I t4), (decide (((a0).length : Int) > 8)) = false, (!t1) = false, Computes cx 5 [.lst false 3 a0] (B t1)]) := by kernel_rfl
theorem e_law03_DriveBack_7 (a0 : List D) (a1 : ByteArray) (t1 : Bool) (t4 : Int) (t7 : List D) (t8 : ByteArray × Int) (t9 : List D × Int × Int) (t13 : List D) (t14 : Bool) (t16 : List D) (t19 : List D × Int × Int) (t22 : ByteArray) (t23 : List D × Int × Int) (t27 : Bool) : runFn true 100 cx 4 [.lst false 3 a0, .v (.string a1)] [.ret (B t1), .br false, .br false, .ret (I t4), .br false, .br false, .ret (.lst false 3 t7), .ret (.tup [.v (.string t8.1), I t8.2]), .ret (.tup [.lst false 3 t9.1, I t9.2.1, I t9.2.2]), .br false, .br false, .br false, .ret (.lst false 3 t13), .ret (B t14), .br false, .ret (.lst false 1 t16), .br false, .ret (.tup [.lst false 3 t19.1, I t19.2.1, I t19.2.2]), .br false, .el (.v (.string t22)), .ret (.tup [.lst false 3 t23.1, I t23.2.1, I t23.2.2]), .br true, .br true, .ret (B t27)] = some (B t27, [Computes cx 6 [] (B t27), (t23.2.1 == (((a0).length : Int) - 1)) = true, inI64 (((a0).length : Int) - 1), (t23.2.2 == 25) = true, Computes cx 9 [.v (.string t22)] (.tup [.lst false 3 t23.1, I t23.2.1, I t23.2.2]), pureRun cx.P (Instr.sliceAt 9 (.string t8.1) none (some (.int .i64 ((t8.1.size : Int) - 1))) none) = some (.string t22), inI64 ((t8.1.size : Int) - 1), (t19.2.2 == 0) = false, Computes cx 9 [.v (.string a1)] (.tup [.lst false 3 t19.1, I t19.2.1, I t19.2.2]), (((t16).length : Int) != (((a0).length : Int) + 1)) = false, inI64 (((a0).length : Int) + 1), Computes cx 15 [.v (.string t8.1), .v (.int .u8 10)] (.lst false 1 t16), (!t14) = false, Computes cx 13 [.lst false 3 t13, .lst false 3 a0] (B t14), Computes cx 14 [.lst false 3 t9.1] (.lst false 3 t13), (t9.2.1 != 0) = false, (t9.2.2 != 0) = false, (t8.2 != 0) = false, Computes cx 9 [.v (.string t8.1)] (.tup [.lst false 3 t9.1, I t9.2.1, I t9.2.2]), Computes cx 7 [.lst false 3 t7] (.tup [.v (.string t8.1), I t8.2]), Computes cx 8 [.lst false 3 a0] (.lst false 3 t7), (decide ((a1.size : Int) > 300)) = false, (t4 != 0) = false, Computes cx 10 [.lst false 3 a0] (I t4), (decide (((a0).length : Int) > 8)) = false, (!t1) = false, Computes cx 5 [.lst false 3 a0] (B t1)]) := by kernel_rfl
theorem e_law03_DriveBack_15 (a0 : List D) (a1 : ByteArray) (t1 : Bool) (t4 : Int) (t6 : Bool) : runFn true 100 cx 4 [.lst false 3 a0, .v (.string a1)] [.ret (B t1), .br false, .br false, .ret (I t4), .br true, .no, .ret (B t6)] = some (B t6, [Computes cx 6 [] (B t6), (t4 != 0) = true, Computes cx 10 [.lst false 3 a0] (I t4), (decide (((a0).length : Int) > 8)) = false, (!t1) = false, Computes cx 5 [.lst false 3 a0] (B t1)]) := by kernel_rfl
theorem e_law03_DriveBack_16 (a0 : List D) (a1 : ByteArray) (t1 : Bool) (t3 : Bool) : runFn true 100 cx 4 [.lst false 3 a0, .v (.string a1)] [.ret (B t1), .br true, .no, .no, .no, .ret (B t3)] = some (B t3, [Computes cx 6 [] (B t3), (!t1) = true, Computes cx 5 [.lst false 3 a0] (B t1)]) := by kernel_rfl
/- spillage/spillagelaw03.DriveBack: .lst false 3 a0, .v (.string a1) -/
def F_law03_DriveBack (n : Nat) (a0 : List D) (a1 : ByteArray) : Option (Bool) :=
  (F_ref03_ShortModel n a0).bind fun t1 =>
  if t1 = true then
    if ((a0).length : Int) > 8 then
      (F_law03_awake n).bind fun t4 =>
      some t4
    else
    (F_ref03_CheckModel n a0).bind fun t4 =>
    if t4 = 0 then
      if (a1.size : Int) > 300 then
        (F_law03_awake n).bind fun t7 =>
        some t7
      else
      (F_law03_given n a0).bind fun t7 =>
      (F_drive_Print n t7).bind fun t8 =>
      (F_drive_Parse n t8.1).bind fun t9 =>
      if t8.2 = 0 then
        if t9.2.2 = 0 then
          if t9.2.1 = 0 then
            (F_law03_bands n t9.1).bind fun t13 =>
            (F_ref03_SameModel n t13 a0).bind fun t14 =>
            if t14 = true then
              (F_ref01_Split n t8.1 10).bind fun t16 =>
              if inI64 (((a0).length : Int) + 1) then
              if ((t16).length : Int) = (((a0).length : Int) + 1) then
                (F_drive_Parse n a1).bind fun t19 =>
                if t19.2.2 = 0 then
                  (F_drive_Print n t19.1).bind fun t21 =>
                  if t21.2 = 0 then
                    if (!(t21.1.toList == a1.toList)) = true then
                      none /- false -/
                    else
                    if inI64 ((t8.1.size : Int) - 1) then
                    (strSub t8.1 none (some ((t8.1.size : Int) - 1))).bind fun t25 =>
                    (F_drive_Parse n t25).bind fun t26 =>
                    if t26.2.2 = 25 then
                      if inI64 (((a0).length : Int) - 1) then
                      if t26.2.1 = (((a0).length : Int) - 1) then
                        (F_law03_awake n).bind fun t30 =>
                        some t30
                      else
                      none /- false -/
                      else none
                    else
                    none /- false -/
                    else none
                  else
                  none /- false -/
                else
                if inI64 ((t8.1.size : Int) - 1) then
                (strSub t8.1 none (some ((t8.1.size : Int) - 1))).bind fun t22 =>
                (F_drive_Parse n t22).bind fun t23 =>
                if t23.2.2 = 25 then
                  if inI64 (((a0).length : Int) - 1) then
                  if t23.2.1 = (((a0).length : Int) - 1) then
                    (F_law03_awake n).bind fun t27 =>
                    some t27
                  else
                  none /- false -/
                  else none
                else
                none /- false -/
                else none
              else
              none /- false -/
              else none
            else
            none /- false -/
          else
          none /- false -/
        else
        none /- false -/
      else
      none /- false -/
    else
    (F_law03_awake n).bind fun t6 =>
    some t6
  else
  (F_law03_awake n).bind fun t3 =>
  some t3
theorem c_law03_DriveBack {n : Nat} {a0 : List D} {a1 : ByteArray} {r : Bool} (h : F_law03_DriveBack n a0 a1 = some r) : Computes cx 4 [.lst false 3 a0, .v (.string a1)] (B r) := by
  unfold F_law03_DriveBack at h
  obtain ⟨t1, h1, h⟩ := bnd_of h
  by_cases h2 : t1 = true
  · replace h := ite_t h h2
    by_cases h3 : ((a0).length : Int) > 8
    · replace h := ite_t h h3
      obtain ⟨t4, h4, h⟩ := bnd_of h
      replace h := Option.some.inj h
      subst h
      exact run (e_law03_DriveBack_0 a0 a1 t1 t4) ⟨(c_law03_awake h4), (decide_eq_true h3), (notf h2), (c_ref03_ShortModel h1), trivial⟩
    · replace h := ite_f h h3
      obtain ⟨t4, h4, h⟩ := bnd_of h
      by_cases h5 : t4 = 0
      · replace h := ite_t h h5
        by_cases h6 : (a1.size : Int) > 300
        · replace h := ite_t h h6
          obtain ⟨t7, h7, h⟩ := bnd_of h
          replace h := Option.some.inj h
          subst h
          exact run (e_law03_DriveBack_1 a0 a1 t1 t4 t7) ⟨(c_law03_awake h7), (decide_eq_true h6), (nef h5), (c_ref03_CheckModel h4), (decide_eq_false h3), (notf h2), (c_ref03_ShortModel h1), trivial⟩
        · replace h := ite_f h h6
          obtain ⟨t7, h7, h⟩ := bnd_of h
          obtain ⟨t8, h8, h⟩ := bnd_of h
          obtain ⟨t9, h9, h⟩ := bnd_of h
          by_cases h10 : t8.2 = 0
          · replace h := ite_t h h10
            by_cases h11 : t9.2.2 = 0
            · replace h := ite_t h h11
              by_cases h12 : t9.2.1 = 0
              · replace h := ite_t h h12
                obtain ⟨t13, h13, h⟩ := bnd_of h
                obtain ⟨t14, h14, h⟩ := bnd_of h
                by_cases h15 : t14 = true
                · replace h := ite_t h h15
                  obtain ⟨t16, h16, h⟩ := bnd_of h
                  obtain ⟨h17, h⟩ := grd_of h
                  by_cases h18 : ((t16).length : Int) = (((a0).length : Int) + 1)
                  · replace h := ite_t h h18
                    obtain ⟨t19, h19, h⟩ := bnd_of h
                    by_cases h20 : t19.2.2 = 0
                    · replace h := ite_t h h20
                      obtain ⟨t21, h21, h⟩ := bnd_of h
                      by_cases h22 : t21.2 = 0
                      · replace h := ite_t h h22
                        by_cases h23 : (!(t21.1.toList == a1.toList)) = true
                        · replace h := ite_t h h23
                          cases h
                        · replace h := ite_f h h23
                          obtain ⟨h24, h⟩ := grd_of h
                          obtain ⟨t25, h25, h⟩ := bnd_of h
                          obtain ⟨t26, h26, h⟩ := bnd_of h
                          by_cases h27 : t26.2.2 = 25
                          · replace h := ite_t h h27
                            obtain ⟨h28, h⟩ := grd_of h
                            by_cases h29 : t26.2.1 = (((a0).length : Int) - 1)
                            · replace h := ite_t h h29
                              obtain ⟨t30, h30, h⟩ := bnd_of h
                              replace h := Option.some.inj h
                              subst h
                              exact run (e_law03_DriveBack_3 a0 a1 t1 t4 t7 t8 t9 t13 t14 t16 t19 t21 t25 t26 t30) ⟨(c_law03_awake h30), (eqt h29), h28, (eqt h27), (c_drive_Parse h26), strSub_ok h25, h24, (bfalse h23), (nef h22), (c_drive_Print h21), (eqt h20), (c_drive_Parse h19), (nef h18), h17, (c_ref01_Split h16), (notf h15), (c_ref03_SameModel h14), (c_law03_bands h13), (nef h12), (nef h11), (nef h10), (c_drive_Parse h9), (c_drive_Print h8), (c_law03_given h7), (decide_eq_false h6), (nef h5), (c_ref03_CheckModel h4), (decide_eq_false h3), (notf h2), (c_ref03_ShortModel h1), trivial⟩
                            · replace h := ite_f h h29
                              cases h
                          · replace h := ite_f h h27
                            cases h
                      · replace h := ite_f h h22
                        cases h
                    · replace h := ite_f h h20
                      obtain ⟨h21, h⟩ := grd_of h
                      obtain ⟨t22, h22, h⟩ := bnd_of h
                      obtain ⟨t23, h23, h⟩ := bnd_of h
                      by_cases h24 : t23.2.2 = 25
                      · replace h := ite_t h h24
                        obtain ⟨h25, h⟩ := grd_of h
                        by_cases h26 : t23.2.1 = (((a0).length : Int) - 1)
                        · replace h := ite_t h h26
                          obtain ⟨t27, h27, h⟩ := bnd_of h
                          replace h := Option.some.inj h
                          subst h
                          exact run (e_law03_DriveBack_7 a0 a1 t1 t4 t7 t8 t9 t13 t14 t16 t19 t22 t23 t27) ⟨(c_law03_awake h27), (eqt h26), h25, (eqt h24), (c_drive_Parse h23), strSub_ok h22, h21, (eqf h20), (c_drive_Parse h19), (nef h18), h17, (c_ref01_Split h16), (notf h15), (c_ref03_SameModel h14), (c_law03_bands h13), (nef h12), (nef h11), (nef h10), (c_drive_Parse h9), (c_drive_Print h8), (c_law03_given h7), (decide_eq_false h6), (nef h5), (c_ref03_CheckModel h4), (decide_eq_false h3), (notf h2), (c_ref03_ShortModel h1), trivial⟩
                        · replace h := ite_f h h26
                          cases h
                      · replace h := ite_f h h24
                        cases h
                  · replace h := ite_f h h18
                    cases h
                · replace h := ite_f h h15
                  cases h
              · replace h := ite_f h h12
                cases h
            · replace h := ite_f h h11
              cases h
          · replace h := ite_f h h10
            cases h
      · replace h := ite_f h h5
        obtain ⟨t6, h6, h⟩ := bnd_of h
        replace h := Option.some.inj h
        subst h
        exact run (e_law03_DriveBack_15 a0 a1 t1 t4 t6) ⟨(c_law03_awake h6), (net h5), (c_ref03_CheckModel h4), (decide_eq_false h3), (notf h2), (c_ref03_ShortModel h1), trivial⟩
  · replace h := ite_f h h2
    obtain ⟨t3, h3, h⟩ := bnd_of h
    replace h := Option.some.inj h
    subst h
    exact run (e_law03_DriveBack_16 a0 a1 t1 t3) ⟨(c_law03_awake h3), (nott (bfalse h2)), (c_ref03_ShortModel h1), trivial⟩
end Go.Proofs.YtoblljobcafecaaGreatDoor
