/-
  Printed by gsx.py: functions of the program as Lean functions, and that the code computes them.
-/
import Derived.Test.YtmgbmngmmpeaaaaGreatDoorGen8
set_option linter.unusedVariables false
set_option linter.unusedSimpArgs false
set_option linter.unnecessarySimpa false
set_option maxRecDepth 10000
namespace Go.Proofs.YtmgbmngmmpeaaaaGreatDoor
open Go.SX
/- spillage/spillagelaw03.DriveTargets: .agg [I a0, I a1, I a2, I a3, I a4, I a5, I a6, I a7], .lst false 3 a8, .agg [I a9, I a10, I a11] -/
def F_law03_DriveTargets (n : Nat) (a0 : Int) (a1 : Int) (a2 : Int) (a3 : Int) (a4 : Int) (a5 : Int) (a6 : Int) (a7 : Int) (a8 : List D) (a9 : Int) (a10 : Int) (a11 : Int) : Option (Bool) :=
  (F_ref03_ShortModel n a8).bind fun t1 =>
  if t1 = true then
    (F_law03_given n a8).bind fun t3 =>
    (F_drive_Within n t3 a9 a10).bind fun t4 =>
    (F_drive_CheckInverted n a0 a1 a2 a3 a4 a5 t3 a6 a7 a11).bind fun t5 =>
    (F_drive_Inverted n a0 a1 a2 a3 a4 a5 t3 a6 a7).bind fun t6 =>
    (F_ref03_CheckModel n a8).bind fun t7 =>
    (F_ref03_CheckInterval n a9 a10 (-1000) 1000).bind fun t8 =>
    (F_ref01_First n ([I t7, I t8])).bind fun t9 =>
    (F_ref03_CheckAll n a0 a1 a2 a3 a4 a5 a8 a6 a7).bind fun t10 =>
    if t9 = 0 then
      (F_ref03_Within n a8 a9 a10).bind fun t12 =>
      if t10 = 0 then
        (F_ref01_CheckRange n a11 a0 a1).bind fun t14 =>
        if t14 = 0 then
          (F_ref03_Reached n a0 a1 a2 a3 a4 a5 a8 a11).bind fun t16 =>
          (F_ref03_Inside n t16.1 t16.2 a6 a7).bind fun t17 =>
          if t17 = true then
            (F_ref03_Inverted n a0 a1 a2 a3 a4 a5 a8 a6 a7).bind fun t19 =>
            if ((t4.1 == t12.1) && ((t4.2.1 == t12.2) && true)) = true then
              if t4.2.2 = t9 then
                if ((t5.1 == t16.1) && ((t5.2.1 == t16.2) && true)) = true then
                  if t5.2.2 = t14 then
                    if t6.1 = t19.1 then
                      if t6.2 = t19.2 then
                        (F_law03_awake n).bind fun t26 =>
                        some t26
                      else
                      none /- false -/
                    else
                    none /- false -/
                  else
                  none /- false -/
                else
                none /- false -/
              else
              none /- false -/
            else
            none /- false -/
          else
          (F_ref03_Inverted n a0 a1 a2 a3 a4 a5 a8 a6 a7).bind fun t19 =>
          if ((t4.1 == t12.1) && ((t4.2.1 == t12.2) && true)) = true then
            if t4.2.2 = t9 then
              if ((t5.1 == 0) && ((t5.2.1 == 0) && true)) = true then
                if t5.2.2 = 19 then
                  if t6.1 = t19.1 then
                    if t6.2 = t19.2 then
                      (F_law03_awake n).bind fun t26 =>
                      some t26
                    else
                    none /- false -/
                  else
                  none /- false -/
                else
                none /- false -/
              else
              none /- false -/
            else
            none /- false -/
          else
          none /- false -/
        else
        (F_ref03_Inverted n a0 a1 a2 a3 a4 a5 a8 a6 a7).bind fun t16 =>
        if ((t4.1 == t12.1) && ((t4.2.1 == t12.2) && true)) = true then
          if t4.2.2 = t9 then
            if ((t5.1 == 0) && ((t5.2.1 == 0) && true)) = true then
              if t5.2.2 = t14 then
                if t6.1 = t16.1 then
                  if t6.2 = t16.2 then
                    (F_law03_awake n).bind fun t23 =>
                    some t23
                  else
                  none /- false -/
                else
                none /- false -/
              else
              none /- false -/
            else
            none /- false -/
          else
          none /- false -/
        else
        none /- false -/
      else
      if ((t4.1 == t12.1) && ((t4.2.1 == t12.2) && true)) = true then
        if t4.2.2 = t9 then
          if ((t5.1 == 0) && ((t5.2.1 == 0) && true)) = true then
            if t5.2.2 = t10 then
              if t6.1 = 0 then
                if t6.2 = t10 then
                  (F_law03_awake n).bind fun t20 =>
                  some t20
                else
                none /- false -/
              else
              none /- false -/
            else
            none /- false -/
          else
          none /- false -/
        else
        none /- false -/
      else
      none /- false -/
    else
    if t10 = 0 then
      (F_ref01_CheckRange n a11 a0 a1).bind fun t13 =>
      if t13 = 0 then
        (F_ref03_Reached n a0 a1 a2 a3 a4 a5 a8 a11).bind fun t15 =>
        (F_ref03_Inside n t15.1 t15.2 a6 a7).bind fun t16 =>
        if t16 = true then
          (F_ref03_Inverted n a0 a1 a2 a3 a4 a5 a8 a6 a7).bind fun t18 =>
          if ((t4.1 == 0) && ((t4.2.1 == 0) && true)) = true then
            if t4.2.2 = t9 then
              if ((t5.1 == t15.1) && ((t5.2.1 == t15.2) && true)) = true then
                if t5.2.2 = t13 then
                  if t6.1 = t18.1 then
                    if t6.2 = t18.2 then
                      (F_law03_awake n).bind fun t25 =>
                      some t25
                    else
                    none /- false -/
                  else
                  none /- false -/
                else
                none /- false -/
              else
              none /- false -/
            else
            none /- false -/
          else
          none /- false -/
        else
        (F_ref03_Inverted n a0 a1 a2 a3 a4 a5 a8 a6 a7).bind fun t18 =>
        if ((t4.1 == 0) && ((t4.2.1 == 0) && true)) = true then
          if t4.2.2 = t9 then
            if ((t5.1 == 0) && ((t5.2.1 == 0) && true)) = true then
              if t5.2.2 = 19 then
                if t6.1 = t18.1 then
                  if t6.2 = t18.2 then
                    (F_law03_awake n).bind fun t25 =>
                    some t25
                  else
                  none /- false -/
                else
                none /- false -/
              else
              none /- false -/
            else
            none /- false -/
          else
          none /- false -/
        else
        none /- false -/
      else
      (F_ref03_Inverted n a0 a1 a2 a3 a4 a5 a8 a6 a7).bind fun t15 =>
      if ((t4.1 == 0) && ((t4.2.1 == 0) && true)) = true then
        if t4.2.2 = t9 then
          if ((t5.1 == 0) && ((t5.2.1 == 0) && true)) = true then
            if t5.2.2 = t13 then
              if t6.1 = t15.1 then
                if t6.2 = t15.2 then
                  (F_law03_awake n).bind fun t22 =>
                  some t22
                else
                none /- false -/
              else
              none /- false -/
            else
            none /- false -/
          else
          none /- false -/
        else
        none /- false -/
      else
      none /- false -/
    else
    if ((t4.1 == 0) && ((t4.2.1 == 0) && true)) = true then
      if t4.2.2 = t9 then
        if ((t5.1 == 0) && ((t5.2.1 == 0) && true)) = true then
          if t5.2.2 = t10 then
            if t6.1 = 0 then
              if t6.2 = t10 then
                (F_law03_awake n).bind fun t19 =>
                some t19
              else
              none /- false -/
            else
            none /- false -/
          else
          none /- false -/
        else
        none /- false -/
      else
      none /- false -/
    else
    none /- false -/
  else
  (F_law03_awake n).bind fun t3 =>
  some t3
theorem c_law03_DriveTargets {n : Nat} {a0 : Int} {a1 : Int} {a2 : Int} {a3 : Int} {a4 : Int} {a5 : Int} {a6 : Int} {a7 : Int} {a8 : List D} {a9 : Int} {a10 : Int} {a11 : Int} {r : Bool} (h : F_law03_DriveTargets n a0 a1 a2 a3 a4 a5 a6 a7 a8 a9 a10 a11 = some r) : Computes cx 7 [.agg [I a0, I a1, I a2, I a3, I a4, I a5, I a6, I a7], .lst false 3 a8, .agg [I a9, I a10, I a11]] (B r) := by
  unfold F_law03_DriveTargets at h
  obtain ⟨t1, h1, h⟩ := bnd_of h
  by_cases h2 : t1 = true
  · replace h := ite_t h h2
    obtain ⟨t3, h3, h⟩ := bnd_of h
    obtain ⟨t4, h4, h⟩ := bnd_of h
    obtain ⟨t5, h5, h⟩ := bnd_of h
    obtain ⟨t6, h6, h⟩ := bnd_of h
    obtain ⟨t7, h7, h⟩ := bnd_of h
    obtain ⟨t8, h8, h⟩ := bnd_of h
    obtain ⟨t9, h9, h⟩ := bnd_of h
    obtain ⟨t10, h10, h⟩ := bnd_of h
    by_cases h11 : t9 = 0
    · replace h := ite_t h h11
      obtain ⟨t12, h12, h⟩ := bnd_of h
      by_cases h13 : t10 = 0
      · replace h := ite_t h h13
        obtain ⟨t14, h14, h⟩ := bnd_of h
        by_cases h15 : t14 = 0
        · replace h := ite_t h h15
          obtain ⟨t16, h16, h⟩ := bnd_of h
          obtain ⟨t17, h17, h⟩ := bnd_of h
          by_cases h18 : t17 = true
          · replace h := ite_t h h18
            obtain ⟨t19, h19, h⟩ := bnd_of h
            by_cases h20 : ((t4.1 == t12.1) && ((t4.2.1 == t12.2) && true)) = true
            · replace h := ite_t h h20
              by_cases h21 : t4.2.2 = t9
              · replace h := ite_t h h21
                by_cases h22 : ((t5.1 == t16.1) && ((t5.2.1 == t16.2) && true)) = true
                · replace h := ite_t h h22
                  by_cases h23 : t5.2.2 = t14
                  · replace h := ite_t h h23
                    by_cases h24 : t6.1 = t19.1
                    · replace h := ite_t h h24
                      by_cases h25 : t6.2 = t19.2
                      · replace h := ite_t h h25
                        obtain ⟨t26, h26, h⟩ := bnd_of h
                        replace h := Option.some.inj h
                        subst h
                        exact run (n := 100) (f := 7) (args := [.agg [I a0, I a1, I a2, I a3, I a4, I a5, I a6, I a7], .lst false 3 a8, .agg [I a9, I a10, I a11]]) (orc := [.ret (B t1), .br false, .ret (.lst false 3 t3), .ret (.tup [.agg [I t4.1, I t4.2.1], I t4.2.2]), .ret (.lst false 3 t3), .ret (.tup [.agg [I t5.1, I t5.2.1], I t5.2.2]), .ret (.lst false 3 t3), .ret (.tup [I t6.1, I t6.2]), .ret (I t7), .ret (I t8), .ret (I t9), .ret (I t10), .br true, .ret (.agg [I t12.1, I t12.2]), .br true, .ret (I t14), .br true, .ret (.agg [I t16.1, I t16.2]), .ret (B t17), .br false, .br true, .ret (.tup [I t19.1, I t19.2]), .br true, .br true, .br true, .br true, .br true, .br true, .ret (B t26)]) (r := B t26) (ob := [Computes cx 19 [] (B t26), (t6.2 == t19.2) = true, (t6.1 == t19.1) = true, (t5.2.2 == t14) = true, ((t5.1 == t16.1) && ((t5.2.1 == t16.2) && true)) = true, (t4.2.2 == t9) = true, ((t4.1 == t12.1) && ((t4.2.1 == t12.2) && true)) = true, Computes cx 62 [.agg [I a0, I a1, I a2], .agg [I a3, I a4, I a5], .lst false 3 a8, .agg [I a6, I a7]] (.tup [I t19.1, I t19.2]), (t10 == 0) = true, (!t17) = false, Computes cx 61 [.agg [I t16.1, I t16.2], .agg [I a6, I a7]] (B t17), Computes cx 60 [.agg [I a0, I a1, I a2], .agg [I a3, I a4, I a5], .lst false 3 a8, I a11] (.agg [I t16.1, I t16.2]), (t14 == 0) = true, Computes cx 59 [I a11, I a0, I a1] (I t14), (t10 == 0) = true, Computes cx 58 [.lst false 3 a8, .agg [I a9, I a10]] (.agg [I t12.1, I t12.2]), (t9 == 0) = true, Computes cx 57 [.agg [I a0, I a1, I a2], .agg [I a3, I a4, I a5], .lst false 3 a8, .agg [I a6, I a7]] (I t10), Computes cx 24 [.lst true 1 [I t7, I t8]] (I t9), Computes cx 40 [.agg [I a9, I a10], I (-1000), I 1000] (I t8), Computes cx 49 [.lst false 3 a8] (I t7), Computes cx 56 [.agg [I a0, I a1, I a2], .agg [I a3, I a4, I a5], .lst false 3 t3, .agg [I a6, I a7]] (.tup [I t6.1, I t6.2]), Computes cx 47 [.lst false 3 a8] (.lst false 3 t3), Computes cx 55 [.agg [I a0, I a1, I a2], .agg [I a3, I a4, I a5], .lst false 3 t3, .agg [I a6, I a7], I a11] (.tup [.agg [I t5.1, I t5.2.1], I t5.2.2]), Computes cx 47 [.lst false 3 a8] (.lst false 3 t3), Computes cx 54 [.lst false 3 t3, .agg [I a9, I a10]] (.tup [.agg [I t4.1, I t4.2.1], I t4.2.2]), Computes cx 47 [.lst false 3 a8] (.lst false 3 t3), (!t1) = false, Computes cx 45 [.lst false 3 a8] (B t1)]) (by kernel_rfl) ⟨(c_law03_awake h26), (eqt h25), (eqt h24), (eqt h23), h22, (eqt h21), h20, (c_ref03_Inverted h19), (eqt h13), (notf h18), (c_ref03_Inside h17), (c_ref03_Reached h16), (eqt h15), (c_ref01_CheckRange h14), (eqt h13), (c_ref03_Within h12), (eqt h11), (c_ref03_CheckAll h10), ((c_ref01_First h9).le (.cons (.full _ _ _) (.nil)) (.refl _)), (c_ref03_CheckInterval h8), (c_ref03_CheckModel h7), (c_drive_Inverted h6), (c_law03_given h3), (c_drive_CheckInverted h5), (c_law03_given h3), (c_drive_Within h4), (c_law03_given h3), (notf h2), (c_ref03_ShortModel h1), trivial⟩
                      · replace h := ite_f h h25
                        cases h
                    · replace h := ite_f h h24
                      cases h
                  · replace h := ite_f h h23
                    cases h
                · replace h := ite_f h h22
                  cases h
              · replace h := ite_f h h21
                cases h
            · replace h := ite_f h h20
              cases h
          · replace h := ite_f h h18
            obtain ⟨t19, h19, h⟩ := bnd_of h
            by_cases h20 : ((t4.1 == t12.1) && ((t4.2.1 == t12.2) && true)) = true
            · replace h := ite_t h h20
              by_cases h21 : t4.2.2 = t9
              · replace h := ite_t h h21
                by_cases h22 : ((t5.1 == 0) && ((t5.2.1 == 0) && true)) = true
                · replace h := ite_t h h22
                  by_cases h23 : t5.2.2 = 19
                  · replace h := ite_t h h23
                    by_cases h24 : t6.1 = t19.1
                    · replace h := ite_t h h24
                      by_cases h25 : t6.2 = t19.2
                      · replace h := ite_t h h25
                        obtain ⟨t26, h26, h⟩ := bnd_of h
                        replace h := Option.some.inj h
                        subst h
                        exact run (n := 100) (f := 7) (args := [.agg [I a0, I a1, I a2, I a3, I a4, I a5, I a6, I a7], .lst false 3 a8, .agg [I a9, I a10, I a11]]) (orc := [.ret (B t1), .br false, .ret (.lst false 3 t3), .ret (.tup [.agg [I t4.1, I t4.2.1], I t4.2.2]), .ret (.lst false 3 t3), .ret (.tup [.agg [I t5.1, I t5.2.1], I t5.2.2]), .ret (.lst false 3 t3), .ret (.tup [I t6.1, I t6.2]), .ret (I t7), .ret (I t8), .ret (I t9), .ret (I t10), .br true, .ret (.agg [I t12.1, I t12.2]), .br true, .ret (I t14), .br true, .ret (.agg [I t16.1, I t16.2]), .ret (B t17), .br true, .br true, .ret (.tup [I t19.1, I t19.2]), .br true, .br true, .br true, .br true, .br true, .br true, .ret (B t26)]) (r := B t26) (ob := [Computes cx 19 [] (B t26), (t6.2 == t19.2) = true, (t6.1 == t19.1) = true, (t5.2.2 == 19) = true, ((t5.1 == 0) && ((t5.2.1 == 0) && true)) = true, (t4.2.2 == t9) = true, ((t4.1 == t12.1) && ((t4.2.1 == t12.2) && true)) = true, Computes cx 62 [.agg [I a0, I a1, I a2], .agg [I a3, I a4, I a5], .lst false 3 a8, .agg [I a6, I a7]] (.tup [I t19.1, I t19.2]), (t10 == 0) = true, (!t17) = true, Computes cx 61 [.agg [I t16.1, I t16.2], .agg [I a6, I a7]] (B t17), Computes cx 60 [.agg [I a0, I a1, I a2], .agg [I a3, I a4, I a5], .lst false 3 a8, I a11] (.agg [I t16.1, I t16.2]), (t14 == 0) = true, Computes cx 59 [I a11, I a0, I a1] (I t14), (t10 == 0) = true, Computes cx 58 [.lst false 3 a8, .agg [I a9, I a10]] (.agg [I t12.1, I t12.2]), (t9 == 0) = true, Computes cx 57 [.agg [I a0, I a1, I a2], .agg [I a3, I a4, I a5], .lst false 3 a8, .agg [I a6, I a7]] (I t10), Computes cx 24 [.lst true 1 [I t7, I t8]] (I t9), Computes cx 40 [.agg [I a9, I a10], I (-1000), I 1000] (I t8), Computes cx 49 [.lst false 3 a8] (I t7), Computes cx 56 [.agg [I a0, I a1, I a2], .agg [I a3, I a4, I a5], .lst false 3 t3, .agg [I a6, I a7]] (.tup [I t6.1, I t6.2]), Computes cx 47 [.lst false 3 a8] (.lst false 3 t3), Computes cx 55 [.agg [I a0, I a1, I a2], .agg [I a3, I a4, I a5], .lst false 3 t3, .agg [I a6, I a7], I a11] (.tup [.agg [I t5.1, I t5.2.1], I t5.2.2]), Computes cx 47 [.lst false 3 a8] (.lst false 3 t3), Computes cx 54 [.lst false 3 t3, .agg [I a9, I a10]] (.tup [.agg [I t4.1, I t4.2.1], I t4.2.2]), Computes cx 47 [.lst false 3 a8] (.lst false 3 t3), (!t1) = false, Computes cx 45 [.lst false 3 a8] (B t1)]) (by kernel_rfl) ⟨(c_law03_awake h26), (eqt h25), (eqt h24), (eqt h23), h22, (eqt h21), h20, (c_ref03_Inverted h19), (eqt h13), (nott (bfalse h18)), (c_ref03_Inside h17), (c_ref03_Reached h16), (eqt h15), (c_ref01_CheckRange h14), (eqt h13), (c_ref03_Within h12), (eqt h11), (c_ref03_CheckAll h10), ((c_ref01_First h9).le (.cons (.full _ _ _) (.nil)) (.refl _)), (c_ref03_CheckInterval h8), (c_ref03_CheckModel h7), (c_drive_Inverted h6), (c_law03_given h3), (c_drive_CheckInverted h5), (c_law03_given h3), (c_drive_Within h4), (c_law03_given h3), (notf h2), (c_ref03_ShortModel h1), trivial⟩
                      · replace h := ite_f h h25
                        cases h
                    · replace h := ite_f h h24
                      cases h
                  · replace h := ite_f h h23
                    cases h
                · replace h := ite_f h h22
                  cases h
              · replace h := ite_f h h21
                cases h
            · replace h := ite_f h h20
              cases h
        · replace h := ite_f h h15
          obtain ⟨t16, h16, h⟩ := bnd_of h
          by_cases h17 : ((t4.1 == t12.1) && ((t4.2.1 == t12.2) && true)) = true
          · replace h := ite_t h h17
            by_cases h18 : t4.2.2 = t9
            · replace h := ite_t h h18
              by_cases h19 : ((t5.1 == 0) && ((t5.2.1 == 0) && true)) = true
              · replace h := ite_t h h19
                by_cases h20 : t5.2.2 = t14
                · replace h := ite_t h h20
                  by_cases h21 : t6.1 = t16.1
                  · replace h := ite_t h h21
                    by_cases h22 : t6.2 = t16.2
                    · replace h := ite_t h h22
                      obtain ⟨t23, h23, h⟩ := bnd_of h
                      replace h := Option.some.inj h
                      subst h
                      exact run (n := 100) (f := 7) (args := [.agg [I a0, I a1, I a2, I a3, I a4, I a5, I a6, I a7], .lst false 3 a8, .agg [I a9, I a10, I a11]]) (orc := [.ret (B t1), .br false, .ret (.lst false 3 t3), .ret (.tup [.agg [I t4.1, I t4.2.1], I t4.2.2]), .ret (.lst false 3 t3), .ret (.tup [.agg [I t5.1, I t5.2.1], I t5.2.2]), .ret (.lst false 3 t3), .ret (.tup [I t6.1, I t6.2]), .ret (I t7), .ret (I t8), .ret (I t9), .ret (I t10), .br true, .ret (.agg [I t12.1, I t12.2]), .br true, .ret (I t14), .br false, .br true, .ret (.tup [I t16.1, I t16.2]), .br true, .br true, .br true, .br true, .br true, .br true, .ret (B t23)]) (r := B t23) (ob := [Computes cx 19 [] (B t23), (t6.2 == t16.2) = true, (t6.1 == t16.1) = true, (t5.2.2 == t14) = true, ((t5.1 == 0) && ((t5.2.1 == 0) && true)) = true, (t4.2.2 == t9) = true, ((t4.1 == t12.1) && ((t4.2.1 == t12.2) && true)) = true, Computes cx 62 [.agg [I a0, I a1, I a2], .agg [I a3, I a4, I a5], .lst false 3 a8, .agg [I a6, I a7]] (.tup [I t16.1, I t16.2]), (t10 == 0) = true, (t14 == 0) = false, Computes cx 59 [I a11, I a0, I a1] (I t14), (t10 == 0) = true, Computes cx 58 [.lst false 3 a8, .agg [I a9, I a10]] (.agg [I t12.1, I t12.2]), (t9 == 0) = true, Computes cx 57 [.agg [I a0, I a1, I a2], .agg [I a3, I a4, I a5], .lst false 3 a8, .agg [I a6, I a7]] (I t10), Computes cx 24 [.lst true 1 [I t7, I t8]] (I t9), Computes cx 40 [.agg [I a9, I a10], I (-1000), I 1000] (I t8), Computes cx 49 [.lst false 3 a8] (I t7), Computes cx 56 [.agg [I a0, I a1, I a2], .agg [I a3, I a4, I a5], .lst false 3 t3, .agg [I a6, I a7]] (.tup [I t6.1, I t6.2]), Computes cx 47 [.lst false 3 a8] (.lst false 3 t3), Computes cx 55 [.agg [I a0, I a1, I a2], .agg [I a3, I a4, I a5], .lst false 3 t3, .agg [I a6, I a7], I a11] (.tup [.agg [I t5.1, I t5.2.1], I t5.2.2]), Computes cx 47 [.lst false 3 a8] (.lst false 3 t3), Computes cx 54 [.lst false 3 t3, .agg [I a9, I a10]] (.tup [.agg [I t4.1, I t4.2.1], I t4.2.2]), Computes cx 47 [.lst false 3 a8] (.lst false 3 t3), (!t1) = false, Computes cx 45 [.lst false 3 a8] (B t1)]) (by kernel_rfl) ⟨(c_law03_awake h23), (eqt h22), (eqt h21), (eqt h20), h19, (eqt h18), h17, (c_ref03_Inverted h16), (eqt h13), (eqf h15), (c_ref01_CheckRange h14), (eqt h13), (c_ref03_Within h12), (eqt h11), (c_ref03_CheckAll h10), ((c_ref01_First h9).le (.cons (.full _ _ _) (.nil)) (.refl _)), (c_ref03_CheckInterval h8), (c_ref03_CheckModel h7), (c_drive_Inverted h6), (c_law03_given h3), (c_drive_CheckInverted h5), (c_law03_given h3), (c_drive_Within h4), (c_law03_given h3), (notf h2), (c_ref03_ShortModel h1), trivial⟩
                    · replace h := ite_f h h22
                      cases h
                  · replace h := ite_f h h21
                    cases h
                · replace h := ite_f h h20
                  cases h
              · replace h := ite_f h h19
                cases h
            · replace h := ite_f h h18
              cases h
          · replace h := ite_f h h17
            cases h
      · replace h := ite_f h h13
        by_cases h14 : ((t4.1 == t12.1) && ((t4.2.1 == t12.2) && true)) = true
        · replace h := ite_t h h14
          by_cases h15 : t4.2.2 = t9
          · replace h := ite_t h h15
            by_cases h16 : ((t5.1 == 0) && ((t5.2.1 == 0) && true)) = true
            · replace h := ite_t h h16
              by_cases h17 : t5.2.2 = t10
              · replace h := ite_t h h17
                by_cases h18 : t6.1 = 0
                · replace h := ite_t h h18
                  by_cases h19 : t6.2 = t10
                  · replace h := ite_t h h19
                    obtain ⟨t20, h20, h⟩ := bnd_of h
                    replace h := Option.some.inj h
                    subst h
                    exact run (n := 100) (f := 7) (args := [.agg [I a0, I a1, I a2, I a3, I a4, I a5, I a6, I a7], .lst false 3 a8, .agg [I a9, I a10, I a11]]) (orc := [.ret (B t1), .br false, .ret (.lst false 3 t3), .ret (.tup [.agg [I t4.1, I t4.2.1], I t4.2.2]), .ret (.lst false 3 t3), .ret (.tup [.agg [I t5.1, I t5.2.1], I t5.2.2]), .ret (.lst false 3 t3), .ret (.tup [I t6.1, I t6.2]), .ret (I t7), .ret (I t8), .ret (I t9), .ret (I t10), .br true, .ret (.agg [I t12.1, I t12.2]), .br false, .br false, .br false, .br true, .br true, .br true, .br true, .br true, .br true, .ret (B t20)]) (r := B t20) (ob := [Computes cx 19 [] (B t20), (t6.2 == t10) = true, (t6.1 == 0) = true, (t5.2.2 == t10) = true, ((t5.1 == 0) && ((t5.2.1 == 0) && true)) = true, (t4.2.2 == t9) = true, ((t4.1 == t12.1) && ((t4.2.1 == t12.2) && true)) = true, (t10 == 0) = false, (t10 == 0) = false, (t10 == 0) = false, Computes cx 58 [.lst false 3 a8, .agg [I a9, I a10]] (.agg [I t12.1, I t12.2]), (t9 == 0) = true, Computes cx 57 [.agg [I a0, I a1, I a2], .agg [I a3, I a4, I a5], .lst false 3 a8, .agg [I a6, I a7]] (I t10), Computes cx 24 [.lst true 1 [I t7, I t8]] (I t9), Computes cx 40 [.agg [I a9, I a10], I (-1000), I 1000] (I t8), Computes cx 49 [.lst false 3 a8] (I t7), Computes cx 56 [.agg [I a0, I a1, I a2], .agg [I a3, I a4, I a5], .lst false 3 t3, .agg [I a6, I a7]] (.tup [I t6.1, I t6.2]), Computes cx 47 [.lst false 3 a8] (.lst false 3 t3), Computes cx 55 [.agg [I a0, I a1, I a2], .agg [I a3, I a4, I a5], .lst false 3 t3, .agg [I a6, I a7], I a11] (.tup [.agg [I t5.1, I t5.2.1], I t5.2.2]), Computes cx 47 [.lst false 3 a8] (.lst false 3 t3), Computes cx 54 [.lst false 3 t3, .agg [I a9, I a10]] (.tup [.agg [I t4.1, I t4.2.1], I t4.2.2]), Computes cx 47 [.lst false 3 a8] (.lst false 3 t3), (!t1) = false, Computes cx 45 [.lst false 3 a8] (B t1)]) (by kernel_rfl) ⟨(c_law03_awake h20), (eqt h19), (eqt h18), (eqt h17), h16, (eqt h15), h14, (eqf h13), (eqf h13), (eqf h13), (c_ref03_Within h12), (eqt h11), (c_ref03_CheckAll h10), ((c_ref01_First h9).le (.cons (.full _ _ _) (.nil)) (.refl _)), (c_ref03_CheckInterval h8), (c_ref03_CheckModel h7), (c_drive_Inverted h6), (c_law03_given h3), (c_drive_CheckInverted h5), (c_law03_given h3), (c_drive_Within h4), (c_law03_given h3), (notf h2), (c_ref03_ShortModel h1), trivial⟩
                  · replace h := ite_f h h19
                    cases h
                · replace h := ite_f h h18
                  cases h
              · replace h := ite_f h h17
                cases h
            · replace h := ite_f h h16
              cases h
          · replace h := ite_f h h15
            cases h
        · replace h := ite_f h h14
          cases h
    · replace h := ite_f h h11
      by_cases h12 : t10 = 0
      · replace h := ite_t h h12
        obtain ⟨t13, h13, h⟩ := bnd_of h
        by_cases h14 : t13 = 0
        · replace h := ite_t h h14
          obtain ⟨t15, h15, h⟩ := bnd_of h
          obtain ⟨t16, h16, h⟩ := bnd_of h
          by_cases h17 : t16 = true
          · replace h := ite_t h h17
            obtain ⟨t18, h18, h⟩ := bnd_of h
            by_cases h19 : ((t4.1 == 0) && ((t4.2.1 == 0) && true)) = true
            · replace h := ite_t h h19
              by_cases h20 : t4.2.2 = t9
              · replace h := ite_t h h20
                by_cases h21 : ((t5.1 == t15.1) && ((t5.2.1 == t15.2) && true)) = true
                · replace h := ite_t h h21
                  by_cases h22 : t5.2.2 = t13
                  · replace h := ite_t h h22
                    by_cases h23 : t6.1 = t18.1
                    · replace h := ite_t h h23
                      by_cases h24 : t6.2 = t18.2
                      · replace h := ite_t h h24
                        obtain ⟨t25, h25, h⟩ := bnd_of h
                        replace h := Option.some.inj h
                        subst h
                        exact run (n := 100) (f := 7) (args := [.agg [I a0, I a1, I a2, I a3, I a4, I a5, I a6, I a7], .lst false 3 a8, .agg [I a9, I a10, I a11]]) (orc := [.ret (B t1), .br false, .ret (.lst false 3 t3), .ret (.tup [.agg [I t4.1, I t4.2.1], I t4.2.2]), .ret (.lst false 3 t3), .ret (.tup [.agg [I t5.1, I t5.2.1], I t5.2.2]), .ret (.lst false 3 t3), .ret (.tup [I t6.1, I t6.2]), .ret (I t7), .ret (I t8), .ret (I t9), .ret (I t10), .br false, .br true, .ret (I t13), .br true, .ret (.agg [I t15.1, I t15.2]), .ret (B t16), .br false, .br true, .ret (.tup [I t18.1, I t18.2]), .br true, .br true, .br true, .br true, .br true, .br true, .ret (B t25)]) (r := B t25) (ob := [Computes cx 19 [] (B t25), (t6.2 == t18.2) = true, (t6.1 == t18.1) = true, (t5.2.2 == t13) = true, ((t5.1 == t15.1) && ((t5.2.1 == t15.2) && true)) = true, (t4.2.2 == t9) = true, ((t4.1 == 0) && ((t4.2.1 == 0) && true)) = true, Computes cx 62 [.agg [I a0, I a1, I a2], .agg [I a3, I a4, I a5], .lst false 3 a8, .agg [I a6, I a7]] (.tup [I t18.1, I t18.2]), (t10 == 0) = true, (!t16) = false, Computes cx 61 [.agg [I t15.1, I t15.2], .agg [I a6, I a7]] (B t16), Computes cx 60 [.agg [I a0, I a1, I a2], .agg [I a3, I a4, I a5], .lst false 3 a8, I a11] (.agg [I t15.1, I t15.2]), (t13 == 0) = true, Computes cx 59 [I a11, I a0, I a1] (I t13), (t10 == 0) = true, (t9 == 0) = false, Computes cx 57 [.agg [I a0, I a1, I a2], .agg [I a3, I a4, I a5], .lst false 3 a8, .agg [I a6, I a7]] (I t10), Computes cx 24 [.lst true 1 [I t7, I t8]] (I t9), Computes cx 40 [.agg [I a9, I a10], I (-1000), I 1000] (I t8), Computes cx 49 [.lst false 3 a8] (I t7), Computes cx 56 [.agg [I a0, I a1, I a2], .agg [I a3, I a4, I a5], .lst false 3 t3, .agg [I a6, I a7]] (.tup [I t6.1, I t6.2]), Computes cx 47 [.lst false 3 a8] (.lst false 3 t3), Computes cx 55 [.agg [I a0, I a1, I a2], .agg [I a3, I a4, I a5], .lst false 3 t3, .agg [I a6, I a7], I a11] (.tup [.agg [I t5.1, I t5.2.1], I t5.2.2]), Computes cx 47 [.lst false 3 a8] (.lst false 3 t3), Computes cx 54 [.lst false 3 t3, .agg [I a9, I a10]] (.tup [.agg [I t4.1, I t4.2.1], I t4.2.2]), Computes cx 47 [.lst false 3 a8] (.lst false 3 t3), (!t1) = false, Computes cx 45 [.lst false 3 a8] (B t1)]) (by kernel_rfl) ⟨(c_law03_awake h25), (eqt h24), (eqt h23), (eqt h22), h21, (eqt h20), h19, (c_ref03_Inverted h18), (eqt h12), (notf h17), (c_ref03_Inside h16), (c_ref03_Reached h15), (eqt h14), (c_ref01_CheckRange h13), (eqt h12), (eqf h11), (c_ref03_CheckAll h10), ((c_ref01_First h9).le (.cons (.full _ _ _) (.nil)) (.refl _)), (c_ref03_CheckInterval h8), (c_ref03_CheckModel h7), (c_drive_Inverted h6), (c_law03_given h3), (c_drive_CheckInverted h5), (c_law03_given h3), (c_drive_Within h4), (c_law03_given h3), (notf h2), (c_ref03_ShortModel h1), trivial⟩
                      · replace h := ite_f h h24
                        cases h
                    · replace h := ite_f h h23
                      cases h
                  · replace h := ite_f h h22
                    cases h
                · replace h := ite_f h h21
                  cases h
              · replace h := ite_f h h20
                cases h
            · replace h := ite_f h h19
              cases h
          · replace h := ite_f h h17
            obtain ⟨t18, h18, h⟩ := bnd_of h
            by_cases h19 : ((t4.1 == 0) && ((t4.2.1 == 0) && true)) = true
            · replace h := ite_t h h19
              by_cases h20 : t4.2.2 = t9
              · replace h := ite_t h h20
                by_cases h21 : ((t5.1 == 0) && ((t5.2.1 == 0) && true)) = true
                · replace h := ite_t h h21
                  by_cases h22 : t5.2.2 = 19
                  · replace h := ite_t h h22
                    by_cases h23 : t6.1 = t18.1
                    · replace h := ite_t h h23
                      by_cases h24 : t6.2 = t18.2
                      · replace h := ite_t h h24
                        obtain ⟨t25, h25, h⟩ := bnd_of h
                        replace h := Option.some.inj h
                        subst h
                        exact run (n := 100) (f := 7) (args := [.agg [I a0, I a1, I a2, I a3, I a4, I a5, I a6, I a7], .lst false 3 a8, .agg [I a9, I a10, I a11]]) (orc := [.ret (B t1), .br false, .ret (.lst false 3 t3), .ret (.tup [.agg [I t4.1, I t4.2.1], I t4.2.2]), .ret (.lst false 3 t3), .ret (.tup [.agg [I t5.1, I t5.2.1], I t5.2.2]), .ret (.lst false 3 t3), .ret (.tup [I t6.1, I t6.2]), .ret (I t7), .ret (I t8), .ret (I t9), .ret (I t10), .br false, .br true, .ret (I t13), .br true, .ret (.agg [I t15.1, I t15.2]), .ret (B t16), .br true, .br true, .ret (.tup [I t18.1, I t18.2]), .br true, .br true, .br true, .br true, .br true, .br true, .ret (B t25)]) (r := B t25) (ob := [Computes cx 19 [] (B t25), (t6.2 == t18.2) = true, (t6.1 == t18.1) = true, (t5.2.2 == 19) = true, ((t5.1 == 0) && ((t5.2.1 == 0) && true)) = true, (t4.2.2 == t9) = true, ((t4.1 == 0) && ((t4.2.1 == 0) && true)) = true, Computes cx 62 [.agg [I a0, I a1, I a2], .agg [I a3, I a4, I a5], .lst false 3 a8, .agg [I a6, I a7]] (.tup [I t18.1, I t18.2]), (t10 == 0) = true, (!t16) = true, Computes cx 61 [.agg [I t15.1, I t15.2], .agg [I a6, I a7]] (B t16), Computes cx 60 [.agg [I a0, I a1, I a2], .agg [I a3, I a4, I a5], .lst false 3 a8, I a11] (.agg [I t15.1, I t15.2]), (t13 == 0) = true, Computes cx 59 [I a11, I a0, I a1] (I t13), (t10 == 0) = true, (t9 == 0) = false, Computes cx 57 [.agg [I a0, I a1, I a2], .agg [I a3, I a4, I a5], .lst false 3 a8, .agg [I a6, I a7]] (I t10), Computes cx 24 [.lst true 1 [I t7, I t8]] (I t9), Computes cx 40 [.agg [I a9, I a10], I (-1000), I 1000] (I t8), Computes cx 49 [.lst false 3 a8] (I t7), Computes cx 56 [.agg [I a0, I a1, I a2], .agg [I a3, I a4, I a5], .lst false 3 t3, .agg [I a6, I a7]] (.tup [I t6.1, I t6.2]), Computes cx 47 [.lst false 3 a8] (.lst false 3 t3), Computes cx 55 [.agg [I a0, I a1, I a2], .agg [I a3, I a4, I a5], .lst false 3 t3, .agg [I a6, I a7], I a11] (.tup [.agg [I t5.1, I t5.2.1], I t5.2.2]), Computes cx 47 [.lst false 3 a8] (.lst false 3 t3), Computes cx 54 [.lst false 3 t3, .agg [I a9, I a10]] (.tup [.agg [I t4.1, I t4.2.1], I t4.2.2]), Computes cx 47 [.lst false 3 a8] (.lst false 3 t3), (!t1) = false, Computes cx 45 [.lst false 3 a8] (B t1)]) (by kernel_rfl) ⟨(c_law03_awake h25), (eqt h24), (eqt h23), (eqt h22), h21, (eqt h20), h19, (c_ref03_Inverted h18), (eqt h12), (nott (bfalse h17)), (c_ref03_Inside h16), (c_ref03_Reached h15), (eqt h14), (c_ref01_CheckRange h13), (eqt h12), (eqf h11), (c_ref03_CheckAll h10), ((c_ref01_First h9).le (.cons (.full _ _ _) (.nil)) (.refl _)), (c_ref03_CheckInterval h8), (c_ref03_CheckModel h7), (c_drive_Inverted h6), (c_law03_given h3), (c_drive_CheckInverted h5), (c_law03_given h3), (c_drive_Within h4), (c_law03_given h3), (notf h2), (c_ref03_ShortModel h1), trivial⟩
                      · replace h := ite_f h h24
                        cases h
                    · replace h := ite_f h h23
                      cases h
                  · replace h := ite_f h h22
                    cases h
                · replace h := ite_f h h21
                  cases h
              · replace h := ite_f h h20
                cases h
            · replace h := ite_f h h19
              cases h
        · replace h := ite_f h h14
          obtain ⟨t15, h15, h⟩ := bnd_of h
          by_cases h16 : ((t4.1 == 0) && ((t4.2.1 == 0) && true)) = true
          · replace h := ite_t h h16
            by_cases h17 : t4.2.2 = t9
            · replace h := ite_t h h17
              by_cases h18 : ((t5.1 == 0) && ((t5.2.1 == 0) && true)) = true
              · replace h := ite_t h h18
                by_cases h19 : t5.2.2 = t13
                · replace h := ite_t h h19
                  by_cases h20 : t6.1 = t15.1
                  · replace h := ite_t h h20
                    by_cases h21 : t6.2 = t15.2
                    · replace h := ite_t h h21
                      obtain ⟨t22, h22, h⟩ := bnd_of h
                      replace h := Option.some.inj h
                      subst h
                      exact run (n := 100) (f := 7) (args := [.agg [I a0, I a1, I a2, I a3, I a4, I a5, I a6, I a7], .lst false 3 a8, .agg [I a9, I a10, I a11]]) (orc := [.ret (B t1), .br false, .ret (.lst false 3 t3), .ret (.tup [.agg [I t4.1, I t4.2.1], I t4.2.2]), .ret (.lst false 3 t3), .ret (.tup [.agg [I t5.1, I t5.2.1], I t5.2.2]), .ret (.lst false 3 t3), .ret (.tup [I t6.1, I t6.2]), .ret (I t7), .ret (I t8), .ret (I t9), .ret (I t10), .br false, .br true, .ret (I t13), .br false, .br true, .ret (.tup [I t15.1, I t15.2]), .br true, .br true, .br true, .br true, .br true, .br true, .ret (B t22)]) (r := B t22) (ob := [Computes cx 19 [] (B t22), (t6.2 == t15.2) = true, (t6.1 == t15.1) = true, (t5.2.2 == t13) = true, ((t5.1 == 0) && ((t5.2.1 == 0) && true)) = true, (t4.2.2 == t9) = true, ((t4.1 == 0) && ((t4.2.1 == 0) && true)) = true, Computes cx 62 [.agg [I a0, I a1, I a2], .agg [I a3, I a4, I a5], .lst false 3 a8, .agg [I a6, I a7]] (.tup [I t15.1, I t15.2]), (t10 == 0) = true, (t13 == 0) = false, Computes cx 59 [I a11, I a0, I a1] (I t13), (t10 == 0) = true, (t9 == 0) = false, Computes cx 57 [.agg [I a0, I a1, I a2], .agg [I a3, I a4, I a5], .lst false 3 a8, .agg [I a6, I a7]] (I t10), Computes cx 24 [.lst true 1 [I t7, I t8]] (I t9), Computes cx 40 [.agg [I a9, I a10], I (-1000), I 1000] (I t8), Computes cx 49 [.lst false 3 a8] (I t7), Computes cx 56 [.agg [I a0, I a1, I a2], .agg [I a3, I a4, I a5], .lst false 3 t3, .agg [I a6, I a7]] (.tup [I t6.1, I t6.2]), Computes cx 47 [.lst false 3 a8] (.lst false 3 t3), Computes cx 55 [.agg [I a0, I a1, I a2], .agg [I a3, I a4, I a5], .lst false 3 t3, .agg [I a6, I a7], I a11] (.tup [.agg [I t5.1, I t5.2.1], I t5.2.2]), Computes cx 47 [.lst false 3 a8] (.lst false 3 t3), Computes cx 54 [.lst false 3 t3, .agg [I a9, I a10]] (.tup [.agg [I t4.1, I t4.2.1], I t4.2.2]), Computes cx 47 [.lst false 3 a8] (.lst false 3 t3), (!t1) = false, Computes cx 45 [.lst false 3 a8] (B t1)]) (by kernel_rfl) ⟨(c_law03_awake h22), (eqt h21), (eqt h20), (eqt h19), h18, (eqt h17), h16, (c_ref03_Inverted h15), (eqt h12), (eqf h14), (c_ref01_CheckRange h13), (eqt h12), (eqf h11), (c_ref03_CheckAll h10), ((c_ref01_First h9).le (.cons (.full _ _ _) (.nil)) (.refl _)), (c_ref03_CheckInterval h8), (c_ref03_CheckModel h7), (c_drive_Inverted h6), (c_law03_given h3), (c_drive_CheckInverted h5), (c_law03_given h3), (c_drive_Within h4), (c_law03_given h3), (notf h2), (c_ref03_ShortModel h1), trivial⟩
                    · replace h := ite_f h h21
                      cases h
                  · replace h := ite_f h h20
                    cases h
                · replace h := ite_f h h19
                  cases h
              · replace h := ite_f h h18
                cases h
            · replace h := ite_f h h17
              cases h
          · replace h := ite_f h h16
            cases h
      · replace h := ite_f h h12
        by_cases h13 : ((t4.1 == 0) && ((t4.2.1 == 0) && true)) = true
        · replace h := ite_t h h13
          by_cases h14 : t4.2.2 = t9
          · replace h := ite_t h h14
            by_cases h15 : ((t5.1 == 0) && ((t5.2.1 == 0) && true)) = true
            · replace h := ite_t h h15
              by_cases h16 : t5.2.2 = t10
              · replace h := ite_t h h16
                by_cases h17 : t6.1 = 0
                · replace h := ite_t h h17
                  by_cases h18 : t6.2 = t10
                  · replace h := ite_t h h18
                    obtain ⟨t19, h19, h⟩ := bnd_of h
                    replace h := Option.some.inj h
                    subst h
                    exact run (n := 100) (f := 7) (args := [.agg [I a0, I a1, I a2, I a3, I a4, I a5, I a6, I a7], .lst false 3 a8, .agg [I a9, I a10, I a11]]) (orc := [.ret (B t1), .br false, .ret (.lst false 3 t3), .ret (.tup [.agg [I t4.1, I t4.2.1], I t4.2.2]), .ret (.lst false 3 t3), .ret (.tup [.agg [I t5.1, I t5.2.1], I t5.2.2]), .ret (.lst false 3 t3), .ret (.tup [I t6.1, I t6.2]), .ret (I t7), .ret (I t8), .ret (I t9), .ret (I t10), .br false, .br false, .br false, .br false, .br true, .br true, .br true, .br true, .br true, .br true, .ret (B t19)]) (r := B t19) (ob := [Computes cx 19 [] (B t19), (t6.2 == t10) = true, (t6.1 == 0) = true, (t5.2.2 == t10) = true, ((t5.1 == 0) && ((t5.2.1 == 0) && true)) = true, (t4.2.2 == t9) = true, ((t4.1 == 0) && ((t4.2.1 == 0) && true)) = true, (t10 == 0) = false, (t10 == 0) = false, (t10 == 0) = false, (t9 == 0) = false, Computes cx 57 [.agg [I a0, I a1, I a2], .agg [I a3, I a4, I a5], .lst false 3 a8, .agg [I a6, I a7]] (I t10), Computes cx 24 [.lst true 1 [I t7, I t8]] (I t9), Computes cx 40 [.agg [I a9, I a10], I (-1000), I 1000] (I t8), Computes cx 49 [.lst false 3 a8] (I t7), Computes cx 56 [.agg [I a0, I a1, I a2], .agg [I a3, I a4, I a5], .lst false 3 t3, .agg [I a6, I a7]] (.tup [I t6.1, I t6.2]), Computes cx 47 [.lst false 3 a8] (.lst false 3 t3), Computes cx 55 [.agg [I a0, I a1, I a2], .agg [I a3, I a4, I a5], .lst false 3 t3, .agg [I a6, I a7], I a11] (.tup [.agg [I t5.1, I t5.2.1], I t5.2.2]), Computes cx 47 [.lst false 3 a8] (.lst false 3 t3), Computes cx 54 [.lst false 3 t3, .agg [I a9, I a10]] (.tup [.agg [I t4.1, I t4.2.1], I t4.2.2]), Computes cx 47 [.lst false 3 a8] (.lst false 3 t3), (!t1) = false, Computes cx 45 [.lst false 3 a8] (B t1)]) (by kernel_rfl) ⟨(c_law03_awake h19), (eqt h18), (eqt h17), (eqt h16), h15, (eqt h14), h13, (eqf h12), (eqf h12), (eqf h12), (eqf h11), (c_ref03_CheckAll h10), ((c_ref01_First h9).le (.cons (.full _ _ _) (.nil)) (.refl _)), (c_ref03_CheckInterval h8), (c_ref03_CheckModel h7), (c_drive_Inverted h6), (c_law03_given h3), (c_drive_CheckInverted h5), (c_law03_given h3), (c_drive_Within h4), (c_law03_given h3), (notf h2), (c_ref03_ShortModel h1), trivial⟩
                  · replace h := ite_f h h18
                    cases h
                · replace h := ite_f h h17
                  cases h
              · replace h := ite_f h h16
                cases h
            · replace h := ite_f h h15
              cases h
          · replace h := ite_f h h14
            cases h
        · replace h := ite_f h h13
          cases h
  · replace h := ite_f h h2
    obtain ⟨t3, h3, h⟩ := bnd_of h
    replace h := Option.some.inj h
    subst h
    exact run (n := 100) (f := 7) (args := [.agg [I a0, I a1, I a2, I a3, I a4, I a5, I a6, I a7], .lst false 3 a8, .agg [I a9, I a10, I a11]]) (orc := [.ret (B t1), .br true, .ret (B t3)]) (r := B t3) (ob := [Computes cx 19 [] (B t3), (!t1) = true, Computes cx 45 [.lst false 3 a8] (B t1)]) (by kernel_rfl) ⟨(c_law03_awake h3), (nott (bfalse h2)), (c_ref03_ShortModel h1), trivial⟩
end Go.Proofs.YtmgbmngmmpeaaaaGreatDoor
