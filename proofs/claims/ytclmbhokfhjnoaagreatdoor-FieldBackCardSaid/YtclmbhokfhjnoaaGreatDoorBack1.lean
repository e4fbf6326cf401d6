/-
  Printed by gsx.py: functions of the program as Lean functions, and that the code computes them.
-/
import Derived.Test.YtclmbhokfhjnoaaGreatDoorWake
set_option linter.unusedVariables false
set_option linter.unusedSimpArgs false
set_option linter.unnecessarySimpa false
set_option maxRecDepth 10000
set_option maxHeartbeats 4000000
namespace Go.Proofs.YtclmbhokfhjnoaaGreatDoor
open Go.SX
theorem e_law04_FieldBack_0 (a0 : List D) (a1 : ByteArray) (t1 : Bool) (t3 : Bool) (t5 : Int) : runFn true 100 cx 4 [.lst false 10 a0, .v (.string a1)] [.ret (B t1), .br false, .ret (B t3), .br false, .ret (I t5), .br false, .br true, .ret (B t1)] = some (B t1, [Computes cx 5 [] (B t1), (decide ((a1.size : Int) > 400)) = true, (t5 != 0) = false, Computes cx 10 [.lst false 10 a0] (I t5), (!t3) = false, Computes cx 6 [.lst false 10 a0] (B t3), (!t1) = false, Computes cx 5 [] (B t1)]) := by kernel_rfl
theorem e_law04_FieldBack_2 (a0 : List D) (a1 : ByteArray) (t1 : Bool) (t3 : Bool) (t5 : Int) (t8 : List D) (t9 : ByteArray × Int) (t10 : List D × Int × Int) (t14 : List D) (t15 : Bool) (t17 : List D) (t20 : List D × Int × Int) (t22 : ByteArray × Int) : runFn true 100 cx 4 [.lst false 10 a0, .v (.string a1)] [.ret (B t1), .br false, .ret (B t3), .br false, .ret (I t5), .br false, .br false, .ret (.lst false 10 t8), .ret (.tup [.v (.string t9.1), I t9.2]), .ret (.tup [.lst false 10 t10.1, I t10.2.1, I t10.2.2]), .br false, .br false, .br false, .ret (.lst false 10 t14), .ret (B t15), .br false, .ret (.lst false 1 t17), .br false, .ret (.tup [.lst false 10 t20.1, I t20.2.1, I t20.2.2]), .br true, .ret (.tup [.v (.string t22.1), I t22.2]), .br false, .br false, .br true] = some (B true, [(((a0).length : Int) == 0) = true, (!(t22.1.toList == a1.toList)) = false, (t22.2 != 0) = false, Computes cx 7 [.lst false 10 t20.1] (.tup [.v (.string t22.1), I t22.2]), (t20.2.2 == 0) = true, Computes cx 9 [.v (.string a1)] (.tup [.lst false 10 t20.1, I t20.2.1, I t20.2.2]), (((t17).length : Int) != (((a0).length : Int) + 1)) = false, inI64 (((a0).length : Int) + 1), Computes cx 15 [.v (.string t9.1), .v (.int .u8 10)] (.lst false 1 t17), (!t15) = false, Computes cx 13 [.lst false 10 t14, .lst false 10 a0] (B t15), Computes cx 14 [.lst false 10 t10.1] (.lst false 10 t14), (t10.2.1 != 0) = false, (t10.2.2 != 0) = false, (t9.2 != 0) = false, Computes cx 9 [.v (.string t9.1)] (.tup [.lst false 10 t10.1, I t10.2.1, I t10.2.2]), Computes cx 7 [.lst false 10 t8] (.tup [.v (.string t9.1), I t9.2]), Computes cx 8 [.lst false 10 a0] (.lst false 10 t8), (decide ((a1.size : Int) > 400)) = false, (t5 != 0) = false, Computes cx 10 [.lst false 10 a0] (I t5), (!t3) = false, Computes cx 6 [.lst false 10 a0] (B t3), (!t1) = false, Computes cx 5 [] (B t1)]) := by kernel_rfl
theorem e_law04_FieldBack_3 (a0 : List D) (a1 : ByteArray) (t1 : Bool) (t3 : Bool) (t5 : Int) (t8 : List D) (t9 : ByteArray × Int) (t10 : List D × Int × Int) (t14 : List D) (t15 : Bool) (t17 : List D) (t20 : List D × Int × Int) (t22 : ByteArray × Int) (t27 : ByteArray) (t28 : List D × Int × Int) : runFn true 100 cx 4 [.lst false 10 a0, .v (.string a1)] [.ret (B t1), .br false, .ret (B t3), .br false, .ret (I t5), .br false, .br false, .ret (.lst false 10 t8), .ret (.tup [.v (.string t9.1), I t9.2]), .ret (.tup [.lst false 10 t10.1, I t10.2.1, I t10.2.2]), .br false, .br false, .br false, .ret (.lst false 10 t14), .ret (B t15), .br false, .ret (.lst false 1 t17), .br false, .ret (.tup [.lst false 10 t20.1, I t20.2.1, I t20.2.2]), .br true, .ret (.tup [.v (.string t22.1), I t22.2]), .br false, .br false, .br false, .el (.v (.string t27)), .ret (.tup [.lst false 10 t28.1, I t28.2.1, I t28.2.2]), .br true] = some (B (t28.2.1 == (((a0).length : Int) - 1)), [inI64 (((a0).length : Int) - 1), (t28.2.2 == 25) = true, Computes cx 9 [.v (.string t27)] (.tup [.lst false 10 t28.1, I t28.2.1, I t28.2.2]), pureRun cx.P (Instr.sliceAt 9 (.string t9.1) none (some (.int .i64 ((t9.1.size : Int) - 1))) none) = some (.string t27), inI64 ((t9.1.size : Int) - 1), (((a0).length : Int) == 0) = false, (!(t22.1.toList == a1.toList)) = false, (t22.2 != 0) = false, Computes cx 7 [.lst false 10 t20.1] (.tup [.v (.string t22.1), I t22.2]), (t20.2.2 == 0) = true, Computes cx 9 [.v (.string a1)] (.tup [.lst false 10 t20.1, I t20.2.1, I t20.2.2]), (((t17).length : Int) != (((a0).length : Int) + 1)) = false, inI64 (((a0).length : Int) + 1), Computes cx 15 [.v (.string t9.1), .v (.int .u8 10)] (.lst false 1 t17), (!t15) = false, Computes cx 13 [.lst false 10 t14, .lst false 10 a0] (B t15), Computes cx 14 [.lst false 10 t10.1] (.lst false 10 t14), (t10.2.1 != 0) = false, (t10.2.2 != 0) = false, (t9.2 != 0) = false, Computes cx 9 [.v (.string t9.1)] (.tup [.lst false 10 t10.1, I t10.2.1, I t10.2.2]), Computes cx 7 [.lst false 10 t8] (.tup [.v (.string t9.1), I t9.2]), Computes cx 8 [.lst false 10 a0] (.lst false 10 t8), (decide ((a1.size : Int) > 400)) = false, (t5 != 0) = false, Computes cx 10 [.lst false 10 a0] (I t5), (!t3) = false, Computes cx 6 [.lst false 10 a0] (B t3), (!t1) = false, Computes cx 5 [] (B t1)]) := by kernel_rfl
theorem e_law04_FieldBack_6 (a0 : List D) (a1 : ByteArray) (t1 : Bool) (t3 : Bool) (t5 : Int) (t8 : List D) (t9 : ByteArray × Int) (t10 : List D × Int × Int) (t14 : List D) (t15 : Bool) (t17 : List D) (t20 : List D × Int × Int) : runFn true 100 cx 4 [.lst false 10 a0, .v (.string a1)] [.ret (B t1), .br false, .ret (B t3), .br false, .ret (I t5), .br false, .br false, .ret (.lst false 10 t8), .ret (.tup [.v (.string t9.1), I t9.2]), .ret (.tup [.lst false 10 t10.1, I t10.2.1, I t10.2.2]), .br false, .br false, .br false, .ret (.lst false 10 t14), .ret (B t15), .br false, .ret (.lst false 1 t17), .br false, .ret (.tup [.lst false 10 t20.1, I t20.2.1, I t20.2.2]), .br false, .br true] = some (B true, [(((a0).length : Int) == 0) = true, (t20.2.2 == 0) = false, Computes cx 9 [.v (.string a1)] (.tup [.lst false 10 t20.1, I t20.2.1, I t20.2.2]), (((t17).length : Int) != (((a0).length : Int) + 1)) = false, inI64 (((a0).length : Int) + 1), Computes cx 15 [.v (.string t9.1), .v (.int .u8 10)] (.lst false 1 t17), (!t15) = false, Computes cx 13 [.lst false 10 t14, .lst false 10 a0] (B t15), Computes cx 14 [.lst false 10 t10.1] (.lst false 10 t14), (t10.2.1 != 0) = false, (t10.2.2 != 0) = false, (t9.2 != 0) = false, Computes cx 9 [.v (.string t9.1)] (.tup [.lst false 10 t10.1, I t10.2.1, I t10.2.2]), Computes cx 7 [.lst false 10 t8] (.tup [.v (.string t9.1), I t9.2]), Computes cx 8 [.lst false 10 a0] (.lst false 10 t8), (decide ((a1.size : Int) > 400)) = false, (t5 != 0) = false, Computes cx 10 [.lst false 10 a0] (I t5), (!t3) = false, Computes cx 6 [.lst false 10 a0] (B t3), (!t1) = false, Computes cx 5 [] (B t1)]) := by kernel_rfl
theorem e_law04_FieldBack_7 (a0 : List D) (a1 : ByteArray) (t1 : Bool) (t3 : Bool) (t5 : Int) (t8 : List D) (t9 : ByteArray × Int) (t10 : List D × Int × Int) (t14 : List D) (t15 : Bool) (t17 : List D) (t20 : List D × Int × Int) (t24 : ByteArray) (t25 : List D × Int × Int) : runFn true 100 cx 4 [.lst false 10 a0, .v (.string a1)] [.ret (B t1), .br false, .ret (B t3), .br false, .ret (I t5), .br false, .br false, .ret (.lst false 10 t8), .ret (.tup [.v (.string t9.1), I t9.2]), .ret (.tup [.lst false 10 t10.1, I t10.2.1, I t10.2.2]), .br false, .br false, .br false, .ret (.lst false 10 t14), .ret (B t15), .br false, .ret (.lst false 1 t17), .br false, .ret (.tup [.lst false 10 t20.1, I t20.2.1, I t20.2.2]), .br false, .br false, .el (.v (.string t24)), .ret (.tup [.lst false 10 t25.1, I t25.2.1, I t25.2.2]), .br true] = some (B (t25.2.1 == (((a0).length : Int) - 1)), [inI64 (((a0).length : Int) - 1), (t25.2.2 == 25) = true, Computes cx 9 [.v (.string t24)] (.tup [.lst false 10 t25.1, I t25.2.1, I t25.2.2]), pureRun cx.P (Instr.sliceAt 9 (.string t9.1) none (some (.int .i64 ((t9.1.size : Int) - 1))) none) = some (.string t24), inI64 ((t9.1.size : Int) - 1), (((a0).length : Int) == 0) = false, (t20.2.2 == 0) = false, Computes cx 9 [.v (.string a1)] (.tup [.lst false 10 t20.1, I t20.2.1, I t20.2.2]), (((t17).length : Int) != (((a0).length : Int) + 1)) = false, inI64 (((a0).length : Int) + 1), Computes cx 15 [.v (.string t9.1), .v (.int .u8 10)] (.lst false 1 t17), (!t15) = false, Computes cx 13 [.lst false 10 t14, .lst false 10 a0] (B t15), Computes cx 14 [.lst false 10 t10.1] (.lst false 10 t14), (t10.2.1 != 0) = false, (t10.2.2 != 0) = false, (t9.2 != 0) = false, Computes cx 9 [.v (.string t9.1)] (.tup [.lst false 10 t10.1, I t10.2.1, I t10.2.2]), Computes cx 7 [.lst false 10 t8] (.tup [.v (.string t9.1), I t9.2]), Computes cx 8 [.lst false 10 a0] (.lst false 10 t8), (decide ((a1.size : Int) > 400)) = false, (t5 != 0) = false, Computes cx 10 [.lst false 10 a0] (I t5), (!t3) = false, Computes cx 6 [.lst false 10 a0] (B t3), (!t1) = false, Computes cx 5 [] (B t1)]) := by kernel_rfl
theorem e_law04_FieldBack_14 (a0 : List D) (a1 : ByteArray) (t1 : Bool) (t3 : Bool) (t5 : Int) : runFn true 100 cx 4 [.lst false 10 a0, .v (.string a1)] [.ret (B t1), .br false, .ret (B t3), .br false, .ret (I t5), .br true, .no, .ret (B t1)] = some (B t1, [Computes cx 5 [] (B t1), (t5 != 0) = true, Computes cx 10 [.lst false 10 a0] (I t5), (!t3) = false, Computes cx 6 [.lst false 10 a0] (B t3), (!t1) = false, Computes cx 5 [] (B t1)]) := by kernel_rfl
theorem e_law04_FieldBack_15 (a0 : List D) (a1 : ByteArray) (t1 : Bool) (t3 : Bool) : runFn true 100 cx 4 [.lst false 10 a0, .v (.string a1)] [.ret (B t1), .br false, .ret (B t3), .br true, .no, .no, .ret (B t1)] = some (B t1, [Computes cx 5 [] (B t1), (!t3) = true, Computes cx 6 [.lst false 10 a0] (B t3), (!t1) = false, Computes cx 5 [] (B t1)]) := by kernel_rfl
theorem e_law04_FieldBack_16 (a0 : List D) (a1 : ByteArray) (t1 : Bool) : runFn true 100 cx 4 [.lst false 10 a0, .v (.string a1)] [.ret (B t1), .br true, .no, .no, .no, .ret (B t1)] = some (B t1, [Computes cx 5 [] (B t1), (!t1) = true, Computes cx 5 [] (B t1)]) := by kernel_rfl
/- spillage/spillagelaw04.FieldBack: .lst false 10 a0, .v (.string a1) -/
def F_law04_FieldBack (n : Nat) (a0 : List D) (a1 : ByteArray) : Option (Bool) :=
  (F_law04_awake n).bind fun t1 =>
  if t1 = true then
    (F_ref04_Short n a0).bind fun t3 =>
    if t3 = true then
      (F_ref04_CheckMirrors n a0).bind fun t5 =>
      if t5 = 0 then
        if (a1.size : Int) > 400 then
          some t1
        else
        (F_law04_own n a0).bind fun t8 =>
        (F_field_Print n t8).bind fun t9 =>
        (F_field_Parse n t9.1).bind fun t10 =>
        if t9.2 = 0 then
          if t10.2.2 = 0 then
            if t10.2.1 = 0 then
              (F_law04_told n t10.1).bind fun t14 =>
              (F_ref04_SameMirrors n t14 a0).bind fun t15 =>
              if t15 = true then
                (F_ref01_Split n t9.1 10).bind fun t17 =>
                if inI64 (((a0).length : Int) + 1) then
                if ((t17).length : Int) = (((a0).length : Int) + 1) then
                  (F_field_Parse n a1).bind fun t20 =>
                  if t20.2.2 = 0 then
                    (F_field_Print n t20.1).bind fun t22 =>
                    if t22.2 = 0 then
                      if (!(t22.1.toList == a1.toList)) = true then
                        none /- false -/
                      else
                      if ((a0).length : Int) = 0 then
                        some true
                      else
                      if inI64 ((t9.1.size : Int) - 1) then
                      (strSub t9.1 none (some ((t9.1.size : Int) - 1))).bind fun t27 =>
                      (F_field_Parse n t27).bind fun t28 =>
                      if t28.2.2 = 25 then
                        if inI64 (((a0).length : Int) - 1) then
                        some (t28.2.1 == (((a0).length : Int) - 1))
                        else none
                      else
                      none /- false -/
                      else none
                    else
                    none /- false -/
                  else
                  if ((a0).length : Int) = 0 then
                    some true
                  else
                  if inI64 ((t9.1.size : Int) - 1) then
                  (strSub t9.1 none (some ((t9.1.size : Int) - 1))).bind fun t24 =>
                  (F_field_Parse n t24).bind fun t25 =>
                  if t25.2.2 = 25 then
                    if inI64 (((a0).length : Int) - 1) then
                    some (t25.2.1 == (((a0).length : Int) - 1))
                    else none
                  else
                  none /- false -/
                  else none
                else
                none /- false -/
                else none
              else
              none /- false -/
            else
            none /- false -/
          else
          none /- false -/
        else
        none /- false -/
      else
      some t1
    else
    some t1
  else
  some t1
theorem c_law04_FieldBack {n : Nat} {a0 : List D} {a1 : ByteArray} {r : Bool} (h : F_law04_FieldBack n a0 a1 = some r) : Computes cx 4 [.lst false 10 a0, .v (.string a1)] (B r) := by
  unfold F_law04_FieldBack at h
  obtain ⟨t1, h1, h⟩ := bnd_of h
  by_cases h2 : t1 = true
  · replace h := ite_t h h2
    obtain ⟨t3, h3, h⟩ := bnd_of h
    by_cases h4 : t3 = true
    · replace h := ite_t h h4
      obtain ⟨t5, h5, h⟩ := bnd_of h
      by_cases h6 : t5 = 0
      · replace h := ite_t h h6
        by_cases h7 : (a1.size : Int) > 400
        · replace h := ite_t h h7
          replace h := Option.some.inj h
          subst h
          exact run (e_law04_FieldBack_0 a0 a1 t1 t3 t5) ⟨(c_law04_awake h1), (decide_eq_true h7), (nef h6), (c_ref04_CheckMirrors h5), (notf h4), (c_ref04_Short h3), (notf h2), (c_law04_awake h1), trivial⟩
        · replace h := ite_f h h7
          obtain ⟨t8, h8, h⟩ := bnd_of h
          obtain ⟨t9, h9, h⟩ := bnd_of h
          obtain ⟨t10, h10, h⟩ := bnd_of h
          by_cases h11 : t9.2 = 0
          · replace h := ite_t h h11
            by_cases h12 : t10.2.2 = 0
            · replace h := ite_t h h12
              by_cases h13 : t10.2.1 = 0
              · replace h := ite_t h h13
                obtain ⟨t14, h14, h⟩ := bnd_of h
                obtain ⟨t15, h15, h⟩ := bnd_of h
                by_cases h16 : t15 = true
                · replace h := ite_t h h16
                  obtain ⟨t17, h17, h⟩ := bnd_of h
                  obtain ⟨h18, h⟩ := grd_of h
                  by_cases h19 : ((t17).length : Int) = (((a0).length : Int) + 1)
                  · replace h := ite_t h h19
                    obtain ⟨t20, h20, h⟩ := bnd_of h
                    by_cases h21 : t20.2.2 = 0
                    · replace h := ite_t h h21
                      obtain ⟨t22, h22, h⟩ := bnd_of h
                      by_cases h23 : t22.2 = 0
                      · replace h := ite_t h h23
                        by_cases h24 : (!(t22.1.toList == a1.toList)) = true
                        · replace h := ite_t h h24
                          cases h
                        · replace h := ite_f h h24
                          by_cases h25 : ((a0).length : Int) = 0
                          · replace h := ite_t h h25
                            replace h := Option.some.inj h
                            subst h
                            exact run (e_law04_FieldBack_2 a0 a1 t1 t3 t5 t8 t9 t10 t14 t15 t17 t20 t22) ⟨(eqt h25), (bfalse h24), (nef h23), (c_field_Print h22), (eqt h21), (c_field_Parse h20), (nef h19), h18, (c_ref01_Split h17), (notf h16), (c_ref04_SameMirrors h15), (c_law04_told h14), (nef h13), (nef h12), (nef h11), (c_field_Parse h10), (c_field_Print h9), (c_law04_own h8), (decide_eq_false h7), (nef h6), (c_ref04_CheckMirrors h5), (notf h4), (c_ref04_Short h3), (notf h2), (c_law04_awake h1), trivial⟩
                          · replace h := ite_f h h25
                            obtain ⟨h26, h⟩ := grd_of h
                            obtain ⟨t27, h27, h⟩ := bnd_of h
                            obtain ⟨t28, h28, h⟩ := bnd_of h
                            by_cases h29 : t28.2.2 = 25
                            · replace h := ite_t h h29
                              obtain ⟨h30, h⟩ := grd_of h
                              replace h := Option.some.inj h
                              subst h
                              exact run (e_law04_FieldBack_3 a0 a1 t1 t3 t5 t8 t9 t10 t14 t15 t17 t20 t22 t27 t28) ⟨h30, (eqt h29), (c_field_Parse h28), strSub_ok h27, h26, (eqf h25), (bfalse h24), (nef h23), (c_field_Print h22), (eqt h21), (c_field_Parse h20), (nef h19), h18, (c_ref01_Split h17), (notf h16), (c_ref04_SameMirrors h15), (c_law04_told h14), (nef h13), (nef h12), (nef h11), (c_field_Parse h10), (c_field_Print h9), (c_law04_own h8), (decide_eq_false h7), (nef h6), (c_ref04_CheckMirrors h5), (notf h4), (c_ref04_Short h3), (notf h2), (c_law04_awake h1), trivial⟩
                            · replace h := ite_f h h29
                              cases h
                      · replace h := ite_f h h23
                        cases h
                    · replace h := ite_f h h21
                      by_cases h22 : ((a0).length : Int) = 0
                      · replace h := ite_t h h22
                        replace h := Option.some.inj h
                        subst h
                        exact run (e_law04_FieldBack_6 a0 a1 t1 t3 t5 t8 t9 t10 t14 t15 t17 t20) ⟨(eqt h22), (eqf h21), (c_field_Parse h20), (nef h19), h18, (c_ref01_Split h17), (notf h16), (c_ref04_SameMirrors h15), (c_law04_told h14), (nef h13), (nef h12), (nef h11), (c_field_Parse h10), (c_field_Print h9), (c_law04_own h8), (decide_eq_false h7), (nef h6), (c_ref04_CheckMirrors h5), (notf h4), (c_ref04_Short h3), (notf h2), (c_law04_awake h1), trivial⟩
                      · replace h := ite_f h h22
                        obtain ⟨h23, h⟩ := grd_of h
                        obtain ⟨t24, h24, h⟩ := bnd_of h
                        obtain ⟨t25, h25, h⟩ := bnd_of h
                        by_cases h26 : t25.2.2 = 25
                        · replace h := ite_t h h26
                          obtain ⟨h27, h⟩ := grd_of h
                          replace h := Option.some.inj h
                          subst h
                          exact run (e_law04_FieldBack_7 a0 a1 t1 t3 t5 t8 t9 t10 t14 t15 t17 t20 t24 t25) ⟨h27, (eqt h26), (c_field_Parse h25), strSub_ok h24, h23, (eqf h22), (eqf h21), (c_field_Parse h20), (nef h19), h18, (c_ref01_Split h17), (notf h16), (c_ref04_SameMirrors h15), (c_law04_told h14), (nef h13), (nef h12), (nef h11), (c_field_Parse h10), (c_field_Print h9), (c_law04_own h8), (decide_eq_false h7), (nef h6), (c_ref04_CheckMirrors h5), (notf h4), (c_ref04_Short h3), (notf h2), (c_law04_awake h1), trivial⟩
                        · replace h := ite_f h h26
                          cases h
                  · replace h := ite_f h h19
                    cases h
                · replace h := ite_f h h16
                  cases h
              · replace h := ite_f h h13
                cases h
            · replace h := ite_f h h12
              cases h
          · replace h := ite_f h h11
            cases h
      · replace h := ite_f h h6
        replace h := Option.some.inj h
        subst h
        exact run (e_law04_FieldBack_14 a0 a1 t1 t3 t5) ⟨(c_law04_awake h1), (net h6), (c_ref04_CheckMirrors h5), (notf h4), (c_ref04_Short h3), (notf h2), (c_law04_awake h1), trivial⟩
    · replace h := ite_f h h4
      replace h := Option.some.inj h
      subst h
      exact run (e_law04_FieldBack_15 a0 a1 t1 t3) ⟨(c_law04_awake h1), (nott (bfalse h4)), (c_ref04_Short h3), (notf h2), (c_law04_awake h1), trivial⟩
  · replace h := ite_f h h2
    replace h := Option.some.inj h
    subst h
    exact run (e_law04_FieldBack_16 a0 a1 t1) ⟨(c_law04_awake h1), (nott (bfalse h2)), (c_law04_awake h1), trivial⟩
end Go.Proofs.YtclmbhokfhjnoaaGreatDoor
