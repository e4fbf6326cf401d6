/-
  Printed by gsx.py: functions of the program as Lean functions, and that the code computes them.
-/
import Derived.Test.YtmgbmngmmpeaaaaGreatDoorSeen1
set_option linter.unusedVariables false
set_option linter.unusedSimpArgs false
set_option linter.unnecessarySimpa false
set_option maxRecDepth 10000
namespace Go.Proofs.YtmgbmngmmpeaaaaGreatDoor
open Go.SX
/- spillage/spillagelaw03.DriveSeen: .v (.int .i8 a0), .v (.int .i16 a1), .lst false 3 a2 -/
def F_law03_DriveSeen (n : Nat) (a0 : Int) (a1 : Int) (a2 : List D) : Option (Bool) :=
  if ((a2).length : Int) < 1 then
    (F_law03_awake n).bind fun t2 =>
    some t2
  else
  if ((a2).length : Int) > 7 then
    (F_law03_awake n).bind fun t3 =>
    some t3
  else
  (loopF (F_law03_DriveSeen_L1 n a0 a1 a2) n (0, [])).bind fun t3 =>
  if inI64 ((Int.tmod (IntKind.wrap .i64 a0) 101) - 20) then
  if inI64 ((Int.tmod (IntKind.wrap .i64 a0) 101) + 20) then
  if inI64 (((t3).length : Int) - 1) then
  if (0 : Int) ≤ 0 ∧ 0 ≤ (maxI 1 (((t3).length : Int) - 1)) ∧ (maxI 1 (((t3).length : Int) - 1)) ≤ ((t3).length : Int) ∧ (t3 = [] ∨ 3 = 3) then
  (F_law03_spots n ((t3.take (Int.toNat (maxI 1 (((t3).length : Int) - 1)))).drop (Int.toNat 0))).bind fun t8 =>
  (F_drive_Fitted_2 n t8 ((Int.tmod (IntKind.wrap .i64 a0) 101) - 20) ((Int.tmod (IntKind.wrap .i64 a0) 101) + 20)).bind fun t9 =>
  if t9.2 = 0 then
    (el un_Ai3Z t3 (((t3).length : Int) - 1)).bind fun t11 =>
    (F_law03_bands n t9.1).bind fun t12 =>
    (F_law03_given n t12).bind fun t13 =>
    (F_drive_Refined n t13 t11.1 t11.2.1 t11.2.2).bind fun t14 =>
    if t14.2 = 0 then
      (F_ref03_CheckModel n t12).bind fun t16 =>
      if t16 = 0 then
        (F_law03_bands n t14.1).bind fun t18 =>
        (F_ref03_CheckModel n t18).bind fun t19 =>
        if t19 = 0 then
          (F_law03_spots n t3).bind fun t21 =>
          (F_drive_Fitted_2 n t21 ((Int.tmod (IntKind.wrap .i64 a0) 101) - 20) ((Int.tmod (IntKind.wrap .i64 a0) 101) + 20)).bind fun t22 =>
          (F_drive_Has n t13 (Int.tmod (IntKind.wrap .i64 a0) 101) (Int.tmod (IntKind.wrap .i64 a1) 10001)).bind fun t23 =>
          (F_law03_given n t18).bind fun t24 =>
          (F_drive_Has n t24 (Int.tmod (IntKind.wrap .i64 a0) 101) (Int.tmod (IntKind.wrap .i64 a1) 10001)).bind fun t25 =>
          (F_drive_Pairs n t13).bind fun t26 =>
          (F_drive_Pairs n t24).bind fun t27 =>
          if inI64 (t22.2 + t23.2) then
          if inI64 ((t22.2 + t23.2) + t25.2) then
          if inI64 (((t22.2 + t23.2) + t25.2) + t26.2) then
          if inI64 ((((t22.2 + t23.2) + t25.2) + t26.2) + t27.2) then
          if ((((t22.2 + t23.2) + t25.2) + t26.2) + t27.2) = 0 then
            if t23.1 = true then
              if t25.1 = true then
                if t27.1 > t26.1 then
                  none /- false -/
                else
                (F_law03_bands n t22.1).bind fun t36 =>
                (F_ref03_SameModel n t36 t18).bind fun t37 =>
                if t37 = true then
                  (loopF (F_law03_DriveSeen_L10 n t3 t14) n 0).bind fun t39 => match t39 with
                    | (.inl t39) => (
                      none /- false -/)
                    | (.inr t39) => (
                      (F_drive_Drifted n t24 0 0).bind fun t40 =>
                      if t40.2 = 0 then
                        (F_law03_bands n t40.1).bind fun t42 =>
                        (F_ref03_SameModel n t42 t18).bind fun t43 =>
                        if t43 = true then
                          (F_law03_awake n).bind fun t45 =>
                          some t45
                        else
                        none /- false -/
                      else
                      none /- false -/)
                else
                none /- false -/
              else
              none /- false -/
            else
            none /- false -/
          else
          none /- false -/
          else none
          else none
          else none
          else none
        else
        none /- false -/
      else
      none /- false -/
    else
    none /- false -/
  else
  none /- false -/
  else none
  else none
  else none
  else none
theorem c_law03_DriveSeen {n : Nat} {a0 : Int} {a1 : Int} {a2 : List D} {r : Bool} (h : F_law03_DriveSeen n a0 a1 a2 = some r) : Computes cx 14 [.v (.int .i8 a0), .v (.int .i16 a1), .lst false 3 a2] (B r) := by
  unfold F_law03_DriveSeen at h
  by_cases h1 : ((a2).length : Int) < 1
  · replace h := ite_t h h1
    obtain ⟨t2, h2, h⟩ := bnd_of h
    replace h := Option.some.inj h
    subst h
    exact run (n := 100) (f := 14) (args := [.v (.int .i8 a0), .v (.int .i16 a1), .lst false 3 a2]) (orc := [.br true, .no, .ret (B t2)]) (r := B t2) (ob := [Computes cx 19 [] (B t2), (decide (((a2).length : Int) < 1)) = true]) (by kernel_rfl) ⟨(c_law03_awake h2), (decide_eq_true h1), trivial⟩
  · replace h := ite_f h h1
    by_cases h2 : ((a2).length : Int) > 7
    · replace h := ite_t h h2
      obtain ⟨t3, h3, h⟩ := bnd_of h
      replace h := Option.some.inj h
      subst h
      exact run (n := 100) (f := 14) (args := [.v (.int .i8 a0), .v (.int .i16 a1), .lst false 3 a2]) (orc := [.br false, .br true, .ret (B t3)]) (r := B t3) (ob := [Computes cx 19 [] (B t3), (decide (((a2).length : Int) > 7)) = true, (decide (((a2).length : Int) < 1)) = false]) (by kernel_rfl) ⟨(c_law03_awake h3), (decide_eq_true h2), (decide_eq_false h1), trivial⟩
    · replace h := ite_f h h2
      obtain ⟨t3, h3, h⟩ := bnd_of h
      obtain ⟨h4, h⟩ := grd_of h
      obtain ⟨h5, h⟩ := grd_of h
      obtain ⟨h6, h⟩ := grd_of h
      obtain ⟨h7, h⟩ := grd_of h
      obtain ⟨t8, h8, h⟩ := bnd_of h
      obtain ⟨t9, h9, h⟩ := bnd_of h
      by_cases h10 : t9.2 = 0
      · replace h := ite_t h h10
        obtain ⟨t11, h11, h⟩ := bnd_of h
        obtain ⟨t12, h12, h⟩ := bnd_of h
        obtain ⟨t13, h13, h⟩ := bnd_of h
        obtain ⟨t14, h14, h⟩ := bnd_of h
        by_cases h15 : t14.2 = 0
        · replace h := ite_t h h15
          obtain ⟨t16, h16, h⟩ := bnd_of h
          by_cases h17 : t16 = 0
          · replace h := ite_t h h17
            obtain ⟨t18, h18, h⟩ := bnd_of h
            obtain ⟨t19, h19, h⟩ := bnd_of h
            by_cases h20 : t19 = 0
            · replace h := ite_t h h20
              obtain ⟨t21, h21, h⟩ := bnd_of h
              obtain ⟨t22, h22, h⟩ := bnd_of h
              obtain ⟨t23, h23, h⟩ := bnd_of h
              obtain ⟨t24, h24, h⟩ := bnd_of h
              obtain ⟨t25, h25, h⟩ := bnd_of h
              obtain ⟨t26, h26, h⟩ := bnd_of h
              obtain ⟨t27, h27, h⟩ := bnd_of h
              obtain ⟨h28, h⟩ := grd_of h
              obtain ⟨h29, h⟩ := grd_of h
              obtain ⟨h30, h⟩ := grd_of h
              obtain ⟨h31, h⟩ := grd_of h
              by_cases h32 : ((((t22.2 + t23.2) + t25.2) + t26.2) + t27.2) = 0
              · replace h := ite_t h h32
                by_cases h33 : t23.1 = true
                · replace h := ite_t h h33
                  by_cases h34 : t25.1 = true
                  · replace h := ite_t h h34
                    by_cases h35 : t27.1 > t26.1
                    · replace h := ite_t h h35
                      cases h
                    · replace h := ite_f h h35
                      obtain ⟨t36, h36, h⟩ := bnd_of h
                      obtain ⟨t37, h37, h⟩ := bnd_of h
                      by_cases h38 : t37 = true
                      · replace h := ite_t h h38
                        obtain ⟨t39, h39, h⟩ := bnd_of h
                        rcases t39 with t39 | t39
                        · cases h
                        · obtain ⟨t40, h40, h⟩ := bnd_of h
                          by_cases h41 : t40.2 = 0
                          · replace h := ite_t h h41
                            obtain ⟨t42, h42, h⟩ := bnd_of h
                            obtain ⟨t43, h43, h⟩ := bnd_of h
                            by_cases h44 : t43 = true
                            · replace h := ite_t h h44
                              obtain ⟨t45, h45, h⟩ := bnd_of h
                              replace h := Option.some.inj h
                              subst h
                              exact run (n := 100) (f := 14) (args := [.v (.int .i8 a0), .v (.int .i16 a1), .lst false 3 a2]) (orc := [.br false, .br false, .lp [9, 3] [7, 8, 9, 55, 56, 57] [21] (.exit 0) [(7, .d (I (Int.tmod (IntKind.wrap .i64 a0) 101))), (8, .d (I (Int.tmod (IntKind.wrap .i64 a1) 10001))), (9, .own 21 0)] [(21, .row 0 3 t3)] 70, .lp [] [] [21] .ret [] [] 0, .br true, .ret (.lst false 3 t8), .ret (.tup [.lst false 3 t9.1, I t9.2]), .br false, .el (.agg [I t11.1, I t11.2.1, I t11.2.2]), .ret (.lst false 3 t12), .ret (.lst false 3 t13), .ret (.tup [.lst false 3 t14.1, I t14.2]), .br false, .ret (.lst false 3 t12), .ret (I t16), .br false, .ret (.lst false 3 t18), .ret (I t19), .br false, .ret (.lst false 3 t21), .ret (.tup [.lst false 3 t22.1, I t22.2]), .ret (.lst false 3 t12), .ret (.lst false 3 t13), .ret (.tup [B t23.1, I t23.2]), .ret (.lst false 3 t18), .ret (.lst false 3 t24), .ret (.tup [B t25.1, I t25.2]), .ret (.lst false 3 t12), .ret (.lst false 3 t13), .ret (.tup [I t26.1, I t26.2]), .ret (.lst false 3 t18), .ret (.lst false 3 t24), .ret (.tup [I t27.1, I t27.2]), .br false, .br false, .br false, .br false, .ret (.lst false 3 t36), .ret (.lst false 3 t18), .ret (B t37), .br false, .lp [] [9, 18, 206, 207, 208] [21] (.exit 2) [(18, .d (.lst false 3 t14.1))] [] 487, .ret (.lst false 3 t18), .ret (.lst false 3 t24), .ret (.tup [.lst false 3 t40.1, I t40.2]), .br true, .ret (.lst false 3 t42), .ret (.lst false 3 t18), .ret (B t43), .br true, .ret (B t45)]) (r := B t45) (ob := [Computes cx 19 [] (B t45), t43 = true, Computes cx 43 [.lst false 3 t42, .lst false 3 t18] (B t43), Computes cx 44 [.lst false 3 t14.1] (.lst false 3 t18), Computes cx 44 [.lst false 3 t40.1] (.lst false 3 t42), (t40.2 == 0) = true, Computes cx 48 [.lst false 3 t24, .agg [I 0, I 0]] (.tup [.lst false 3 t40.1, I t40.2]), Computes cx 47 [.lst false 3 t18] (.lst false 3 t24), Computes cx 44 [.lst false 3 t14.1] (.lst false 3 t18), LoopN cx (loopAt cx.P 14 1) 290 0 false [(9, .own 21 0), (18, .d (.lst false 3 t14.1)), (206, .d (.lst false 3 t14.1)), (207, .d (I ((t14.1).length : Int))), (208, .d (I 0))] [(21, .frozen 0 3 t3)] (.exit 2) [(18, .d (.lst false 3 t14.1))] [], (!t37) = false, Computes cx 43 [.lst false 3 t36, .lst false 3 t18] (B t37), Computes cx 44 [.lst false 3 t14.1] (.lst false 3 t18), Computes cx 44 [.lst false 3 t22.1] (.lst false 3 t36), (decide (t27.1 > t26.1)) = false, (!t25.1) = false, (!t23.1) = false, (((((t22.2 + t23.2) + t25.2) + t26.2) + t27.2) != 0) = false, inI64 ((((t22.2 + t23.2) + t25.2) + t26.2) + t27.2), inI64 (((t22.2 + t23.2) + t25.2) + t26.2), inI64 ((t22.2 + t23.2) + t25.2), inI64 (t22.2 + t23.2), Computes cx 72 [.lst false 3 t24] (.tup [I t27.1, I t27.2]), Computes cx 47 [.lst false 3 t18] (.lst false 3 t24), Computes cx 44 [.lst false 3 t14.1] (.lst false 3 t18), Computes cx 72 [.lst false 3 t13] (.tup [I t26.1, I t26.2]), Computes cx 47 [.lst false 3 t12] (.lst false 3 t13), Computes cx 44 [.lst false 3 t9.1] (.lst false 3 t12), Computes cx 73 [.lst false 3 t24, I (Int.tmod (IntKind.wrap .i64 a0) 101), I (Int.tmod (IntKind.wrap .i64 a1) 10001)] (.tup [B t25.1, I t25.2]), Computes cx 47 [.lst false 3 t18] (.lst false 3 t24), Computes cx 44 [.lst false 3 t14.1] (.lst false 3 t18), Computes cx 73 [.lst false 3 t13, I (Int.tmod (IntKind.wrap .i64 a0) 101), I (Int.tmod (IntKind.wrap .i64 a1) 10001)] (.tup [B t23.1, I t23.2]), Computes cx 47 [.lst false 3 t12] (.lst false 3 t13), Computes cx 44 [.lst false 3 t9.1] (.lst false 3 t12), Computes cx 37 [.lst false 3 t21, .agg [I ((Int.tmod (IntKind.wrap .i64 a0) 101) - 20), I ((Int.tmod (IntKind.wrap .i64 a0) 101) + 20)]] (.tup [.lst false 3 t22.1, I t22.2]), Computes cx 38 [.lst false 3 t3] (.lst false 3 t21), (t19 != 0) = false, Computes cx 49 [.lst false 3 t18] (I t19), Computes cx 44 [.lst false 3 t14.1] (.lst false 3 t18), (t16 != 0) = false, Computes cx 49 [.lst false 3 t12] (I t16), Computes cx 44 [.lst false 3 t9.1] (.lst false 3 t12), (t14.2 != 0) = false, Computes cx 46 [.lst false 3 t13, .agg [I t11.1, I t11.2.1, I t11.2.2]] (.tup [.lst false 3 t14.1, I t14.2]), Computes cx 47 [.lst false 3 t12] (.lst false 3 t13), Computes cx 44 [.lst false 3 t9.1] (.lst false 3 t12), (0 : Int) ≤ (((t3).length : Int) - 1), nth (t3) (Int.toNat (((t3).length : Int) - 1)) = some (.agg [I t11.1, I t11.2.1, I t11.2.2]), inI64 (((t3).length : Int) - 1), (t9.2 != 0) = false, Computes cx 37 [.lst false 3 t8, .agg [I ((Int.tmod (IntKind.wrap .i64 a0) 101) - 20), I ((Int.tmod (IntKind.wrap .i64 a0) 101) + 20)]] (.tup [.lst false 3 t9.1, I t9.2]), Computes cx 38 [.lst false 3 ((t3.take (Int.toNat (maxI 1 (((t3).length : Int) - 1)))).drop (Int.toNat 0))] (.lst false 3 t8), (0 : Int) ≤ 0 ∧ 0 ≤ (maxI 1 (((t3).length : Int) - 1)) ∧ (maxI 1 (((t3).length : Int) - 1)) ≤ ((t3).length : Int) ∧ (t3 = [] ∨ 3 = 3), inI64 (((t3).length : Int) - 1), inI64 ((Int.tmod (IntKind.wrap .i64 a0) 101) + 20), inI64 ((Int.tmod (IntKind.wrap .i64 a0) 101) - 20), LoopN cx (loopAt cx.P 14 0) 290 0 false [(7, .d (I (Int.tmod (IntKind.wrap .i64 a0) 101))), (8, .d (I (Int.tmod (IntKind.wrap .i64 a1) 10001))), (9, .own 21 0), (55, .d (.lst false 3 a2)), (56, .d (I ((a2).length : Int))), (57, .d (I 0))] [(21, .row 0 3 [])] (.exit 0) [(7, .d (I (Int.tmod (IntKind.wrap .i64 a0) 101))), (8, .d (I (Int.tmod (IntKind.wrap .i64 a1) 10001))), (9, .own 21 0)] [(21, .row 0 3 t3)], (10001 : Int) ≠ 0, (101 : Int) ≠ 0, (decide (((a2).length : Int) > 7)) = false, (decide (((a2).length : Int) < 1)) = false]) (by kernel_rfl) ⟨(c_law03_awake h45), h44, (c_ref03_SameModel h43), (c_law03_bands h18), (c_law03_bands h42), (eqt h41), (c_drive_Drifted h40), (c_law03_given h24), (c_law03_bands h18), (loopF_to R_law03_DriveSeen_L10 h39), (notf h38), (c_ref03_SameModel h37), (c_law03_bands h18), (c_law03_bands h36), (decide_eq_false h35), (notf h34), (notf h33), (nef h32), h31, h30, h29, h28, (c_drive_Pairs h27), (c_law03_given h24), (c_law03_bands h18), (c_drive_Pairs h26), (c_law03_given h13), (c_law03_bands h12), (c_drive_Has h25), (c_law03_given h24), (c_law03_bands h18), (c_drive_Has h23), (c_law03_given h13), (c_law03_bands h12), (c_drive_Fitted_2 h22), (c_law03_spots h21), (nef h20), (c_ref03_CheckModel h19), (c_law03_bands h18), (nef h17), (c_ref03_CheckModel h16), (c_law03_bands h12), (nef h15), (c_drive_Refined h14), (c_law03_given h13), (c_law03_bands h12), (el_ok un_Ai3Z_ok h11).1, (el_ok un_Ai3Z_ok h11).2, h6, (nef h10), (c_drive_Fitted_2 h9), (c_law03_spots h8), h7, h6, h5, h4, (loopF_to R_law03_DriveSeen_L1 h3), (by decide), (by decide), (decide_eq_false h2), (decide_eq_false h1), trivial⟩
                            · replace h := ite_f h h44
                              cases h
                          · replace h := ite_f h h41
                            cases h
                      · replace h := ite_f h h38
                        cases h
                  · replace h := ite_f h h34
                    cases h
                · replace h := ite_f h h33
                  cases h
              · replace h := ite_f h h32
                cases h
            · replace h := ite_f h h20
              cases h
          · replace h := ite_f h h17
            cases h
        · replace h := ite_f h h15
          cases h
      · replace h := ite_f h h10
        cases h
end Go.Proofs.YtmgbmngmmpeaaaaGreatDoor
