/-
  Printed by gsx.py: functions of the program as Lean functions, and that the code computes them.
-/
import Derived.Test.YtmgbmngmmpeaaaaGreatDoorGen6
set_option linter.unusedVariables false
set_option linter.unusedSimpArgs false
set_option linter.unnecessarySimpa false
set_option maxRecDepth 10000
namespace Go.Proofs.YtmgbmngmmpeaaaaGreatDoor
open Go.SX
/- spillage/spillagelaw03.awake:  -/
def F_law03_awake (n : Nat)  : Option (Bool) :=
  (F_law03_axis n).bind fun t1 =>
  (F_drive_Moved n t1.1 t1.2.1 t1.2.2 5 2 5 ([I 2, I (-1), I (-4)])).bind fun t2 =>
  (F_drive_Referenced n t1.1 t1.2.1 t1.2.2 5 2 5).bind fun t3 =>
  (F_drive_Fitted_2 n ([.agg [I 0, I 100, I 104], .agg [I 10, I 150, I 152]]) 4 6).bind fun t4 =>
  (F_law03_model n).bind fun t5 =>
  (F_drive_Refined n t5 4 121 130).bind fun t6 =>
  (F_drive_Drifted n t5 (-1) 2).bind fun t7 =>
  (F_drive_Pairs n t5).bind fun t8 =>
  (F_drive_Within n t5 4 5).bind fun t9 =>
  if inI64 (t2.2.2.2 + t3.2.2.2.2) then
  if inI64 ((t2.2.2.2 + t3.2.2.2.2) + t4.2) then
  if inI64 (((t2.2.2.2 + t3.2.2.2.2) + t4.2) + t6.2) then
  if inI64 ((((t2.2.2.2 + t3.2.2.2.2) + t4.2) + t6.2) + t7.2) then
  if inI64 (((((t2.2.2.2 + t3.2.2.2.2) + t4.2) + t6.2) + t7.2) + t8.2) then
  if inI64 ((((((t2.2.2.2 + t3.2.2.2.2) + t4.2) + t6.2) + t7.2) + t8.2) + t9.2.2) then
  if ((((((t2.2.2.2 + t3.2.2.2.2) + t4.2) + t6.2) + t7.2) + t8.2) + t9.2.2) = 0 then
    if ((t2.1 == 2) && (((t2.2.1 == 2) && ((t2.2.2.1 == 2) && true)) && true)) = true then
      if ((t3.1 == (-17)) && (((t3.2.1 == (-20)) && ((t3.2.2.1 == (-20)) && true)) && true)) = true then
        (F_ref01_SameInts n t3.2.2.2.1 ([I (-25), I 3])).bind fun t19 =>
        if t19 = true then
          (F_law03_bands n t4.1).bind fun t21 =>
          (F_law03_bands n t5).bind fun t22 =>
          (F_ref03_SameModel n t21 t22).bind fun t23 =>
          if t23 = true then
            (F_law03_bands n t6.1).bind fun t25 =>
            (F_ref03_SameModel n t25 ([.agg [I 5, I 101, I 102]])).bind fun t26 =>
            if t26 = true then
              (F_law03_bands n t7.1).bind fun t28 =>
              (F_ref03_SameModel n t28 ([.agg [I 5, I 99, I 104]])).bind fun t29 =>
              if t29 = true then
                if t8.1 = 3 then
                  if ((t9.1 == 120) && ((t9.2.1 == 127) && true)) = true then
                    (F_drive_Inverted n t1.1 t1.2.1 t1.2.2 5 5 5 t5 140 143).bind fun t33 =>
                    (F_drive_Inverted n t1.1 t1.2.1 t1.2.2 5 5 5 t5 115 118).bind fun t34 =>
                    (F_drive_CheckInverted n t1.1 t1.2.1 t1.2.2 5 5 5 t5 110 130 5).bind fun t35 =>
                    (F_drive_Track_2 n 0 0 5 (-2) 2 2).bind fun t36 =>
                    (F_drive_Voted_2 n 10 50 12 5).bind fun t37 =>
                    (F_drive_Voted_2 n 10 13 16 5).bind fun t38 =>
                    (F_drive_Voted_2 n 10 50 12 1).bind fun t39 =>
                    (F_drive_Overloads_2 n ([.v (.float .f32 1065353216), .v (.float .f32 1084227584), .v (.float .f32 1086324736), .v (.float .f32 1073741824), .v (.float .f32 1088421888)]) 1082130432 2).bind fun t40 =>
                    (F_drive_Print n t5).bind fun t41 =>
                    if inI64 (t33.2 + t34.2) then
                    if inI64 ((t33.2 + t34.2) + t35.2.2) then
                    if inI64 (((t33.2 + t34.2) + t35.2.2) + t36.2) then
                    if inI64 ((((t33.2 + t34.2) + t35.2.2) + t36.2) + t37.2.2) then
                    if inI64 (((((t33.2 + t34.2) + t35.2.2) + t36.2) + t37.2.2) + t38.2.2) then
                    if inI64 ((((((t33.2 + t34.2) + t35.2.2) + t36.2) + t37.2.2) + t38.2.2) + t40.2) then
                    if inI64 (((((((t33.2 + t34.2) + t35.2.2) + t36.2) + t37.2.2) + t38.2.2) + t40.2) + t41.2) then
                    if (((((((t33.2 + t34.2) + t35.2.2) + t36.2) + t37.2.2) + t38.2.2) + t40.2) + t41.2) = 0 then
                      if t39.2.2 = 7 then
                        if t33.1 = 11 then
                          if t34.1 = 3 then
                            if ((t35.1 == 125) && ((t35.2.1 == 127) && true)) = true then
                              (F_ref03_SamePoses n t36.1 ([.agg [I 0, I 0], .agg [I 2, I (-2)], .agg [I 4, I (-2)], .agg [I 5, I (-2)]])).bind fun t54 =>
                              if t54 = true then
                                if t37.1 = 12 then
                                  if t37.2.1 = 1 then
                                    if t38.1 = 13 then
                                      if t38.2.1 = (-1) then
                                        (F_ref01_SameSpans n t40.1 ([.agg [I 1, I 3]])).bind fun t60 =>
                                        if t60 = true then
                                          some (t41.1.toList == (⟨#[98, 97, 110, 100, 32, 53, 32, 49, 48, 48, 32, 49, 48, 50, 10]⟩ : ByteArray).toList)
                                        else
                                        none /- false -/
                                      else
                                      none /- false -/
                                    else
                                    none /- false -/
                                  else
                                  none /- false -/
                                else
                                none /- false -/
                              else
                              none /- false -/
                            else
                            none /- false -/
                          else
                          none /- false -/
                        else
                        none /- false -/
                      else
                      none /- false -/
                    else
                    none /- false -/
                    else none
                    else none
                    else none
                    else none
                    else none
                    else none
                    else none
                  else
                  none /- false -/
                else
                none /- false -/
              else
              none /- false -/
            else
            none /- false -/
          else
          none /- false -/
        else
        none /- false -/
      else
      none /- false -/
    else
    none /- false -/
  else
  none /- false -/
  else none
  else none
  else none
  else none
  else none
  else none
theorem c_law03_awake {n : Nat}  {r : Bool} (h : F_law03_awake n  = some r) : Computes cx 19 [] (B r) := by
  unfold F_law03_awake at h
  obtain ⟨t1, h1, h⟩ := bnd_of h
  obtain ⟨t2, h2, h⟩ := bnd_of h
  obtain ⟨t3, h3, h⟩ := bnd_of h
  obtain ⟨t4, h4, h⟩ := bnd_of h
  obtain ⟨t5, h5, h⟩ := bnd_of h
  obtain ⟨t6, h6, h⟩ := bnd_of h
  obtain ⟨t7, h7, h⟩ := bnd_of h
  obtain ⟨t8, h8, h⟩ := bnd_of h
  obtain ⟨t9, h9, h⟩ := bnd_of h
  obtain ⟨h10, h⟩ := grd_of h
  obtain ⟨h11, h⟩ := grd_of h
  obtain ⟨h12, h⟩ := grd_of h
  obtain ⟨h13, h⟩ := grd_of h
  obtain ⟨h14, h⟩ := grd_of h
  obtain ⟨h15, h⟩ := grd_of h
  by_cases h16 : ((((((t2.2.2.2 + t3.2.2.2.2) + t4.2) + t6.2) + t7.2) + t8.2) + t9.2.2) = 0
  · replace h := ite_t h h16
    by_cases h17 : ((t2.1 == 2) && (((t2.2.1 == 2) && ((t2.2.2.1 == 2) && true)) && true)) = true
    · replace h := ite_t h h17
      by_cases h18 : ((t3.1 == (-17)) && (((t3.2.1 == (-20)) && ((t3.2.2.1 == (-20)) && true)) && true)) = true
      · replace h := ite_t h h18
        obtain ⟨t19, h19, h⟩ := bnd_of h
        by_cases h20 : t19 = true
        · replace h := ite_t h h20
          obtain ⟨t21, h21, h⟩ := bnd_of h
          obtain ⟨t22, h22, h⟩ := bnd_of h
          obtain ⟨t23, h23, h⟩ := bnd_of h
          by_cases h24 : t23 = true
          · replace h := ite_t h h24
            obtain ⟨t25, h25, h⟩ := bnd_of h
            obtain ⟨t26, h26, h⟩ := bnd_of h
            by_cases h27 : t26 = true
            · replace h := ite_t h h27
              obtain ⟨t28, h28, h⟩ := bnd_of h
              obtain ⟨t29, h29, h⟩ := bnd_of h
              by_cases h30 : t29 = true
              · replace h := ite_t h h30
                by_cases h31 : t8.1 = 3
                · replace h := ite_t h h31
                  by_cases h32 : ((t9.1 == 120) && ((t9.2.1 == 127) && true)) = true
                  · replace h := ite_t h h32
                    obtain ⟨t33, h33, h⟩ := bnd_of h
                    obtain ⟨t34, h34, h⟩ := bnd_of h
                    obtain ⟨t35, h35, h⟩ := bnd_of h
                    obtain ⟨t36, h36, h⟩ := bnd_of h
                    obtain ⟨t37, h37, h⟩ := bnd_of h
                    obtain ⟨t38, h38, h⟩ := bnd_of h
                    obtain ⟨t39, h39, h⟩ := bnd_of h
                    obtain ⟨t40, h40, h⟩ := bnd_of h
                    obtain ⟨t41, h41, h⟩ := bnd_of h
                    obtain ⟨h42, h⟩ := grd_of h
                    obtain ⟨h43, h⟩ := grd_of h
                    obtain ⟨h44, h⟩ := grd_of h
                    obtain ⟨h45, h⟩ := grd_of h
                    obtain ⟨h46, h⟩ := grd_of h
                    obtain ⟨h47, h⟩ := grd_of h
                    obtain ⟨h48, h⟩ := grd_of h
                    by_cases h49 : (((((((t33.2 + t34.2) + t35.2.2) + t36.2) + t37.2.2) + t38.2.2) + t40.2) + t41.2) = 0
                    · replace h := ite_t h h49
                      by_cases h50 : t39.2.2 = 7
                      · replace h := ite_t h h50
                        by_cases h51 : t33.1 = 11
                        · replace h := ite_t h h51
                          by_cases h52 : t34.1 = 3
                          · replace h := ite_t h h52
                            by_cases h53 : ((t35.1 == 125) && ((t35.2.1 == 127) && true)) = true
                            · replace h := ite_t h h53
                              obtain ⟨t54, h54, h⟩ := bnd_of h
                              by_cases h55 : t54 = true
                              · replace h := ite_t h h55
                                by_cases h56 : t37.1 = 12
                                · replace h := ite_t h h56
                                  by_cases h57 : t37.2.1 = 1
                                  · replace h := ite_t h h57
                                    by_cases h58 : t38.1 = 13
                                    · replace h := ite_t h h58
                                      by_cases h59 : t38.2.1 = (-1)
                                      · replace h := ite_t h h59
                                        obtain ⟨t60, h60, h⟩ := bnd_of h
                                        by_cases h61 : t60 = true
                                        · replace h := ite_t h h61
                                          replace h := Option.some.inj h
                                          subst h
                                          exact run (n := 100) (f := 19) (args := []) (orc := [.ret (.agg [I t1.1, I t1.2.1, I t1.2.2]), .ret (.tup [.agg [I t2.1, I t2.2.1, I t2.2.2.1], I t2.2.2.2]), .ret (.agg [I t1.1, I t1.2.1, I t1.2.2]), .ret (.tup [.agg [I t3.1, I t3.2.1, I t3.2.2.1], .lst false 1 t3.2.2.2.1, I t3.2.2.2.2]), .ret (.tup [.lst false 3 t4.1, I t4.2]), .ret (.lst false 3 t5), .ret (.tup [.lst false 3 t6.1, I t6.2]), .ret (.lst false 3 t5), .ret (.tup [.lst false 3 t7.1, I t7.2]), .ret (.lst false 3 t5), .ret (.tup [I t8.1, I t8.2]), .ret (.lst false 3 t5), .ret (.tup [.agg [I t9.1, I t9.2.1], I t9.2.2]), .br false, .br false, .br false, .ret (B t19), .br false, .ret (.lst false 3 t21), .ret (.lst false 3 t5), .ret (.lst false 3 t22), .ret (B t23), .br false, .ret (.lst false 3 t25), .ret (B t26), .br false, .ret (.lst false 3 t28), .ret (B t29), .br false, .br false, .br false, .ret (.agg [I t1.1, I t1.2.1, I t1.2.2]), .ret (.lst false 3 t5), .ret (.tup [I t33.1, I t33.2]), .ret (.agg [I t1.1, I t1.2.1, I t1.2.2]), .ret (.lst false 3 t5), .ret (.tup [I t34.1, I t34.2]), .ret (.agg [I t1.1, I t1.2.1, I t1.2.2]), .ret (.lst false 3 t5), .ret (.tup [.agg [I t35.1, I t35.2.1], I t35.2.2]), .ret (.tup [.lst false 2 t36.1, I t36.2]), .ret (.tup [I t37.1, I t37.2.1, I t37.2.2]), .ret (.tup [I t38.1, I t38.2.1, I t38.2.2]), .ret (.tup [I t39.1, I t39.2.1, I t39.2.2]), .ret (.tup [.lst false 2 t40.1, I t40.2]), .ret (.lst false 3 t5), .ret (.tup [.v (.string t41.1), I t41.2]), .br true, .br true, .br true, .br true, .br true, .ret (B t54), .br true, .br true, .br true, .br true, .br true, .ret (B t60), .br true]) (r := B (t41.1.toList == (⟨#[98, 97, 110, 100, 32, 53, 32, 49, 48, 48, 32, 49, 48, 50, 10]⟩ : ByteArray).toList)) (ob := [t60 = true, Computes cx 70 [.lst false 2 t40.1, .lst true 2 [.agg [I 1, I 3]]] (B t60), (t38.2.1 == (-1)) = true, (t38.1 == 13) = true, (t37.2.1 == 1) = true, (t37.1 == 12) = true, t54 = true, Computes cx 35 [.lst false 2 t36.1, .lst true 2 [.agg [I 0, I 0], .agg [I 2, I (-2)], .agg [I 4, I (-2)], .agg [I 5, I (-2)]]] (B t54), ((t35.1 == 125) && ((t35.2.1 == 127) && true)) = true, (t34.1 == 3) = true, (t33.1 == 11) = true, (t39.2.2 == 7) = true, ((((((((t33.2 + t34.2) + t35.2.2) + t36.2) + t37.2.2) + t38.2.2) + t40.2) + t41.2) == 0) = true, inI64 (((((((t33.2 + t34.2) + t35.2.2) + t36.2) + t37.2.2) + t38.2.2) + t40.2) + t41.2), inI64 ((((((t33.2 + t34.2) + t35.2.2) + t36.2) + t37.2.2) + t38.2.2) + t40.2), inI64 (((((t33.2 + t34.2) + t35.2.2) + t36.2) + t37.2.2) + t38.2.2), inI64 ((((t33.2 + t34.2) + t35.2.2) + t36.2) + t37.2.2), inI64 (((t33.2 + t34.2) + t35.2.2) + t36.2), inI64 ((t33.2 + t34.2) + t35.2.2), inI64 (t33.2 + t34.2), Computes cx 77 [.lst false 3 t5] (.tup [.v (.string t41.1), I t41.2]), Computes cx 83 [] (.lst false 3 t5), Computes cx 66 [.lst true 1 [.v (.float .f32 1065353216), .v (.float .f32 1084227584), .v (.float .f32 1086324736), .v (.float .f32 1073741824), .v (.float .f32 1088421888)], .v (.float .f32 1082130432), I 2] (.tup [.lst false 2 t40.1, I t40.2]), Computes cx 63 [.agg [I 10, I 50, I 12], I 1] (.tup [I t39.1, I t39.2.1, I t39.2.2]), Computes cx 63 [.agg [I 10, I 13, I 16], I 5] (.tup [I t38.1, I t38.2.1, I t38.2.2]), Computes cx 63 [.agg [I 10, I 50, I 12], I 5] (.tup [I t37.1, I t37.2.1, I t37.2.2]), Computes cx 32 [.agg [I 0, I 0], .agg [I 5, I (-2)], .agg [I 2, I 2]] (.tup [.lst false 2 t36.1, I t36.2]), Computes cx 55 [.agg [I t1.1, I t1.2.1, I t1.2.2], .agg [I 5, I 5, I 5], .lst false 3 t5, .agg [I 110, I 130], I 5] (.tup [.agg [I t35.1, I t35.2.1], I t35.2.2]), Computes cx 83 [] (.lst false 3 t5), Computes cx 82 [] (.agg [I t1.1, I t1.2.1, I t1.2.2]), Computes cx 56 [.agg [I t1.1, I t1.2.1, I t1.2.2], .agg [I 5, I 5, I 5], .lst false 3 t5, .agg [I 115, I 118]] (.tup [I t34.1, I t34.2]), Computes cx 83 [] (.lst false 3 t5), Computes cx 82 [] (.agg [I t1.1, I t1.2.1, I t1.2.2]), Computes cx 56 [.agg [I t1.1, I t1.2.1, I t1.2.2], .agg [I 5, I 5, I 5], .lst false 3 t5, .agg [I 140, I 143]] (.tup [I t33.1, I t33.2]), Computes cx 83 [] (.lst false 3 t5), Computes cx 82 [] (.agg [I t1.1, I t1.2.1, I t1.2.2]), (!((t9.1 == 120) && ((t9.2.1 == 127) && true))) = false, (t8.1 != 3) = false, (!t29) = false, Computes cx 43 [.lst false 3 t28, .lst true 3 [.agg [I 5, I 99, I 104]]] (B t29), Computes cx 44 [.lst false 3 t7.1] (.lst false 3 t28), (!t26) = false, Computes cx 43 [.lst false 3 t25, .lst true 3 [.agg [I 5, I 101, I 102]]] (B t26), Computes cx 44 [.lst false 3 t6.1] (.lst false 3 t25), (!t23) = false, Computes cx 43 [.lst false 3 t21, .lst false 3 t22] (B t23), Computes cx 44 [.lst false 3 t5] (.lst false 3 t22), Computes cx 83 [] (.lst false 3 t5), Computes cx 44 [.lst false 3 t4.1] (.lst false 3 t21), (!t19) = false, Computes cx 31 [.lst false 1 t3.2.2.2.1, .lst true 1 [I (-25), I 3]] (B t19), (!((t3.1 == (-17)) && (((t3.2.1 == (-20)) && ((t3.2.2.1 == (-20)) && true)) && true))) = false, (!((t2.1 == 2) && (((t2.2.1 == 2) && ((t2.2.2.1 == 2) && true)) && true))) = false, (((((((t2.2.2.2 + t3.2.2.2.2) + t4.2) + t6.2) + t7.2) + t8.2) + t9.2.2) != 0) = false, inI64 ((((((t2.2.2.2 + t3.2.2.2.2) + t4.2) + t6.2) + t7.2) + t8.2) + t9.2.2), inI64 (((((t2.2.2.2 + t3.2.2.2.2) + t4.2) + t6.2) + t7.2) + t8.2), inI64 ((((t2.2.2.2 + t3.2.2.2.2) + t4.2) + t6.2) + t7.2), inI64 (((t2.2.2.2 + t3.2.2.2.2) + t4.2) + t6.2), inI64 ((t2.2.2.2 + t3.2.2.2.2) + t4.2), inI64 (t2.2.2.2 + t3.2.2.2.2), Computes cx 54 [.lst false 3 t5, .agg [I 4, I 5]] (.tup [.agg [I t9.1, I t9.2.1], I t9.2.2]), Computes cx 83 [] (.lst false 3 t5), Computes cx 72 [.lst false 3 t5] (.tup [I t8.1, I t8.2]), Computes cx 83 [] (.lst false 3 t5), Computes cx 48 [.lst false 3 t5, .agg [I (-1), I 2]] (.tup [.lst false 3 t7.1, I t7.2]), Computes cx 83 [] (.lst false 3 t5), Computes cx 46 [.lst false 3 t5, .agg [I 4, I 121, I 130]] (.tup [.lst false 3 t6.1, I t6.2]), Computes cx 83 [] (.lst false 3 t5), Computes cx 37 [.lst true 3 [.agg [I 0, I 100, I 104], .agg [I 10, I 150, I 152]], .agg [I 4, I 6]] (.tup [.lst false 3 t4.1, I t4.2]), Computes cx 22 [.agg [I t1.1, I t1.2.1, I t1.2.2], .agg [I 5, I 2, I 5]] (.tup [.agg [I t3.1, I t3.2.1, I t3.2.2.1], .lst false 1 t3.2.2.2.1, I t3.2.2.2.2]), Computes cx 82 [] (.agg [I t1.1, I t1.2.1, I t1.2.2]), Computes cx 20 [.agg [I t1.1, I t1.2.1, I t1.2.2], .agg [I 5, I 2, I 5], .lst true 1 [I 2, I (-1), I (-4)]] (.tup [.agg [I t2.1, I t2.2.1, I t2.2.2.1], I t2.2.2.2]), Computes cx 82 [] (.agg [I t1.1, I t1.2.1, I t1.2.2])]) (by kernel_rfl) ⟨h61, ((c_ref01_SameSpans h60).le (.cons (.refl _) (.cons (.full _ _ _) (.nil))) (.refl _)), (eqt h59), (eqt h58), (eqt h57), (eqt h56), h55, ((c_ref03_SamePoses h54).le (.cons (.refl _) (.cons (.full _ _ _) (.nil))) (.refl _)), h53, (eqt h52), (eqt h51), (eqt h50), (eqt h49), h48, h47, h46, h45, h44, h43, h42, (c_drive_Print h41), (c_law03_model h5), ((c_drive_Overloads_2 h40).le (.cons (.full _ _ _) (.cons (.refl _) (.cons (.refl _) (.nil)))) (.refl _)), (c_drive_Voted_2 h39), (c_drive_Voted_2 h38), (c_drive_Voted_2 h37), (c_drive_Track_2 h36), (c_drive_CheckInverted h35), (c_law03_model h5), (c_law03_axis h1), (c_drive_Inverted h34), (c_law03_model h5), (c_law03_axis h1), (c_drive_Inverted h33), (c_law03_model h5), (c_law03_axis h1), (notf h32), (nef h31), (notf h30), ((c_ref03_SameModel h29).le (.cons (.refl _) (.cons (.full _ _ _) (.nil))) (.refl _)), (c_law03_bands h28), (notf h27), ((c_ref03_SameModel h26).le (.cons (.refl _) (.cons (.full _ _ _) (.nil))) (.refl _)), (c_law03_bands h25), (notf h24), (c_ref03_SameModel h23), (c_law03_bands h22), (c_law03_model h5), (c_law03_bands h21), (notf h20), ((c_ref01_SameInts h19).le (.cons (.refl _) (.cons (.full _ _ _) (.nil))) (.refl _)), (notf h18), (notf h17), (nef h16), h15, h14, h13, h12, h11, h10, (c_drive_Within h9), (c_law03_model h5), (c_drive_Pairs h8), (c_law03_model h5), (c_drive_Drifted h7), (c_law03_model h5), (c_drive_Refined h6), (c_law03_model h5), ((c_drive_Fitted_2 h4).le (.cons (.full _ _ _) (.cons (.refl _) (.nil))) (.refl _)), (c_drive_Referenced h3), (c_law03_axis h1), ((c_drive_Moved h2).le (.cons (.refl _) (.cons (.refl _) (.cons (.full _ _ _) (.nil)))) (.refl _)), (c_law03_axis h1), trivial⟩
                                        · replace h := ite_f h h61
                                          cases h
                                      · replace h := ite_f h h59
                                        cases h
                                    · replace h := ite_f h h58
                                      cases h
                                  · replace h := ite_f h h57
                                    cases h
                                · replace h := ite_f h h56
                                  cases h
                              · replace h := ite_f h h55
                                cases h
                            · replace h := ite_f h h53
                              cases h
                          · replace h := ite_f h h52
                            cases h
                        · replace h := ite_f h h51
                          cases h
                      · replace h := ite_f h h50
                        cases h
                    · replace h := ite_f h h49
                      cases h
                  · replace h := ite_f h h32
                    cases h
                · replace h := ite_f h h31
                  cases h
              · replace h := ite_f h h30
                cases h
            · replace h := ite_f h h27
              cases h
          · replace h := ite_f h h24
            cases h
        · replace h := ite_f h h20
          cases h
      · replace h := ite_f h h18
        cases h
    · replace h := ite_f h h17
      cases h
  · replace h := ite_f h h16
    cases h
/- spillage/spillagelaw03.ints: .lst false 1 a0 -/
def F_law03_ints (n : Nat) (a0 : List D) : Option (List D) :=
  if roomP 8 (0 + (a0).length) then
  if isNilL a0 = true then
    some []
  else
  some a0
  else none
theorem c_law03_ints {n : Nat} {a0 : List D} {r : List D} (h : F_law03_ints n a0 = some r) : Computes cx 21 [.lst false 1 a0] (.lst false 1 r) := by
  unfold F_law03_ints at h
  obtain ⟨h1, h⟩ := grd_of h
  by_cases h2 : isNilL a0 = true
  · replace h := ite_t h h2
    replace h := Option.some.inj h
    subst h
    exact run (n := 100) (f := 21) (args := [.lst false 1 a0]) (orc := [.br true, .br true]) (r := .lst false 1 []) (ob := [isNilL a0 = true, room cx 3 (0 + (a0).length)]) (by kernel_rfl) ⟨h2, (room_of (b := 8) (by kernel_rfl) (by decide) h1), trivial⟩
  · replace h := ite_f h h2
    replace h := Option.some.inj h
    subst h
    exact run (n := 100) (f := 21) (args := [.lst false 1 a0]) (orc := [.br true, .br false]) (r := .lst false 1 a0) (ob := [isNilL a0 = false, room cx 3 (0 + (a0).length)]) (by kernel_rfl) ⟨(bfalse h2), (room_of (b := 8) (by kernel_rfl) (by decide) h1), trivial⟩
/- spillage/spillageref01.When: B true, I 3 -/
def F_ref01_When (n : Nat)  : Option (Int) :=
  some 3
theorem c_ref01_When {n : Nat}  {r : Int} (h : F_ref01_When n  = some r) : Computes cx 25 [B true, I 3] (I r) := by
  unfold F_ref01_When at h
  replace h := Option.some.inj h
  subst h
  exact run (n := 100) (f := 25) (args := [B true, I 3]) (orc := [.no]) (r := I 3) (ob := []) (by kernel_rfl) trivial
/- spillage/spillageref01.When: B a0, I a1 -/
def F_ref01_When_2 (n : Nat) (a0 : Bool) (a1 : Int) : Option (Int) :=
  if a0 = true then
    some a1
  else
  some 0
theorem c_ref01_When_2 {n : Nat} {a0 : Bool} {a1 : Int} {r : Int} (h : F_ref01_When_2 n a0 a1 = some r) : Computes cx 25 [B a0, I a1] (I r) := by
  unfold F_ref01_When_2 at h
  by_cases h1 : a0 = true
  · replace h := ite_t h h1
    replace h := Option.some.inj h
    subst h
    exact run (n := 100) (f := 25) (args := [B a0, I a1]) (orc := [.br true]) (r := I a1) (ob := [a0 = true]) (by kernel_rfl) ⟨h1, trivial⟩
  · replace h := ite_f h h1
    replace h := Option.some.inj h
    subst h
    exact run (n := 100) (f := 25) (args := [B a0, I a1]) (orc := [.br false]) (r := I 0) (ob := [a0 = false]) (by kernel_rfl) ⟨(bfalse h1), trivial⟩
/- spillage/spillageref01.CheckRange: I a0, I a1, I a2 -/
def F_ref01_CheckRange (n : Nat) (a0 : Int) (a1 : Int) (a2 : Int) : Option (Int) :=
  if a0 < a1 then
    (F_ref01_When n).bind fun t2 =>
    some t2
  else
  (F_ref01_When_2 n (decide (a0 > a2)) 3).bind fun t2 =>
  some t2
theorem c_ref01_CheckRange {n : Nat} {a0 : Int} {a1 : Int} {a2 : Int} {r : Int} (h : F_ref01_CheckRange n a0 a1 a2 = some r) : Computes cx 59 [I a0, I a1, I a2] (I r) := by
  unfold F_ref01_CheckRange at h
  by_cases h1 : a0 < a1
  · replace h := ite_t h h1
    obtain ⟨t2, h2, h⟩ := bnd_of h
    replace h := Option.some.inj h
    subst h
    exact run (n := 100) (f := 59) (args := [I a0, I a1, I a2]) (orc := [.br true, .ret (I t2)]) (r := I t2) (ob := [Computes cx 25 [B true, I 3] (I t2), (decide (a0 < a1)) = true]) (by kernel_rfl) ⟨(c_ref01_When h2), (decide_eq_true h1), trivial⟩
  · replace h := ite_f h h1
    obtain ⟨t2, h2, h⟩ := bnd_of h
    replace h := Option.some.inj h
    subst h
    exact run (n := 100) (f := 59) (args := [I a0, I a1, I a2]) (orc := [.br false, .ret (I t2)]) (r := I t2) (ob := [Computes cx 25 [B (decide (a0 > a2)), I 3] (I t2), (decide (a0 < a1)) = false]) (by kernel_rfl) ⟨(c_ref01_When_2 h2), (decide_eq_false h1), trivial⟩
def F_ref01_First_L1 (n : Nat) (a0 : List D) (sa : (Int)) : Option (((Int)) ⊕ ((Int) ⊕ (Unit))) :=
  if sa < ((a0).length : Int) then
    (el un_i a0 sa).bind fun ta2 =>
    if ta2 = 0 then
      if inI64 (sa + 1) then
      some (.inl (sa + 1))
      else none
    else
    some (.inr (.inl ta2))
  else
  some (.inr (.inr ()))
noncomputable def T_ref01_First_L1 (a0 : List D) (sa : (Int)) : List (Nat × AV) := [(0, .d (.lst false 1 a0)), (3, .d (I sa))]
noncomputable def H_ref01_First_L1 (a0 : List D) (sa : (Int)) : List (Nat × Blk) := []
noncomputable def X_ref01_First_L1 (a0 : List D) (e : (Int) ⊕ (Unit)) : Ex := match e with
  | (.inl e) => .ret
  | (.inr e) => (.exit 0)
noncomputable def XT_ref01_First_L1 (a0 : List D) (e : (Int) ⊕ (Unit)) : List (Nat × AV) := match e with
  | (.inl e) => [(2, .d (I e))]
  | (.inr e) => []
noncomputable def XH_ref01_First_L1 (a0 : List D) (e : (Int) ⊕ (Unit)) : List (Nat × Blk) := match e with
  | (.inl e) => []
  | (.inr e) => []
theorem R_ref01_First_L1 {n : Nat} {a0 : List D} (sa : (Int)) (r) (h : F_ref01_First_L1 n a0 sa = some r) : Rd cx (loopAt cx.P 24 0) 19 0 false (T_ref01_First_L1 a0) (H_ref01_First_L1 a0) (X_ref01_First_L1 a0) (XT_ref01_First_L1 a0) (XH_ref01_First_L1 a0) sa r := by
  unfold F_ref01_First_L1 at h
  by_cases ha1 : sa < ((a0).length : Int)
  · replace h := ite_t h ha1
    obtain ⟨ta2, ha2, h⟩ := bnd_of h
    by_cases ha3 : ta2 = 0
    · replace h := ite_t h ha3
      obtain ⟨ha4, h⟩ := grd_of h
      replace h := Option.some.inj h
      subst h
      exact ⟨100, 2, [.br true, .el (I ta2), .br false], [], [0, 3], [], round_of (ob := [inI64 (sa + 1), (ta2 != 0) = false, (0 : Int) ≤ sa, nth (a0) (Int.toNat sa) = some (I ta2), (decide (sa < ((a0).length : Int))) = true]) (by kernel_rfl) ⟨ha4, (nef ha3), (el_ok un_i_ok ha2).1, (el_ok un_i_ok ha2).2, (decide_eq_true ha1), trivial⟩⟩
    · replace h := ite_f h ha3
      replace h := Option.some.inj h
      subst h
      exact ⟨⟨100, 2, [.br true, .el (I ta2), .br true, .el (I ta2)], [], [2], [], round_of (ob := [(0 : Int) ≤ sa, nth (a0) (Int.toNat sa) = some (I ta2), (ta2 != 0) = true, (0 : Int) ≤ sa, nth (a0) (Int.toNat sa) = some (I ta2), (decide (sa < ((a0).length : Int))) = true]) (by kernel_rfl) ⟨(el_ok un_i_ok ha2).1, (el_ok un_i_ok ha2).2, (net ha3), (el_ok un_i_ok ha2).1, (el_ok un_i_ok ha2).2, (decide_eq_true ha1), trivial⟩⟩, nofun⟩
  · replace h := ite_f h ha1
    replace h := Option.some.inj h
    subst h
    exact ⟨⟨100, 2, [.br false], [], [], [], round_of (ob := [(decide (sa < ((a0).length : Int))) = false]) (by kernel_rfl) ⟨(decide_eq_false ha1), trivial⟩⟩, nofun⟩
/- spillage/spillageref01.First: .lst false 1 a0 -/
def F_ref01_First (n : Nat) (a0 : List D) : Option (Int) :=
  (loopF (F_ref01_First_L1 n a0) n 0).bind fun t1 => match t1 with
    | (.inl t1) => (
      some t1)
    | (.inr t1) => (
      some 0)
theorem c_ref01_First {n : Nat} {a0 : List D} {r : Int} (h : F_ref01_First n a0 = some r) : Computes cx 24 [.lst false 1 a0] (I r) := by
  unfold F_ref01_First at h
  obtain ⟨t1, h1, h⟩ := bnd_of h
  rcases t1 with t1 | t1
  · replace h := Option.some.inj h
    subst h
    exact run (n := 100) (f := 24) (args := [.lst false 1 a0]) (orc := [.lp [] [0, 3] [] .ret [(2, .d (I t1))] [] 27]) (r := I t1) (ob := [LoopN cx (loopAt cx.P 24 0) 19 0 false [(0, .d (.lst false 1 a0)), (3, .d (I 0))] [] .ret [(2, .d (I t1))] []]) (by kernel_rfl) ⟨(loopF_to R_ref01_First_L1 h1), trivial⟩
  · replace h := Option.some.inj h
    subst h
    exact run (n := 100) (f := 24) (args := [.lst false 1 a0]) (orc := [.lp [] [0, 3] [] (.exit 0) [] [] 27]) (r := I 0) (ob := [LoopN cx (loopAt cx.P 24 0) 19 0 false [(0, .d (.lst false 1 a0)), (3, .d (I 0))] [] (.exit 0) [] []]) (by kernel_rfl) ⟨(loopF_to R_ref01_First_L1 h1), trivial⟩
/- spillage/spillageref03.CheckAxis: .agg [I a0, I a1, I a2] -/
def F_ref03_CheckAxis (n : Nat) (a0 : Int) (a1 : Int) (a2 : Int) : Option (Int) :=
  (F_ref01_CheckRange n a0 (-1000) 1000).bind fun t1 =>
  (F_ref01_CheckRange n a1 (-1000) 1000).bind fun t2 =>
  (F_ref01_When_2 n (decide (a0 > a1)) 11).bind fun t3 =>
  (F_ref01_CheckRange n a2 0 50).bind fun t4 =>
  (F_ref01_First n ([I t1, I t2, I t3, I t4])).bind fun t5 =>
  some t5
theorem c_ref03_CheckAxis {n : Nat} {a0 : Int} {a1 : Int} {a2 : Int} {r : Int} (h : F_ref03_CheckAxis n a0 a1 a2 = some r) : Computes cx 29 [.agg [I a0, I a1, I a2]] (I r) := by
  unfold F_ref03_CheckAxis at h
  obtain ⟨t1, h1, h⟩ := bnd_of h
  obtain ⟨t2, h2, h⟩ := bnd_of h
  obtain ⟨t3, h3, h⟩ := bnd_of h
  obtain ⟨t4, h4, h⟩ := bnd_of h
  obtain ⟨t5, h5, h⟩ := bnd_of h
  replace h := Option.some.inj h
  subst h
  exact run (n := 100) (f := 29) (args := [.agg [I a0, I a1, I a2]]) (orc := [.ret (I t1), .ret (I t2), .ret (I t3), .ret (I t4), .ret (I t5)]) (r := I t5) (ob := [Computes cx 24 [.lst true 1 [I t1, I t2, I t3, I t4]] (I t5), Computes cx 59 [I a2, I 0, I 50] (I t4), Computes cx 25 [B (decide (a0 > a1)), I 11] (I t3), Computes cx 59 [I a1, I (-1000), I 1000] (I t2), Computes cx 59 [I a0, I (-1000), I 1000] (I t1)]) (by kernel_rfl) ⟨((c_ref01_First h5).le (.cons (.full _ _ _) (.nil)) (.refl _)), (c_ref01_CheckRange h4), (c_ref01_When_2 h3), (c_ref01_CheckRange h2), (c_ref01_CheckRange h1), trivial⟩
/- spillage/spillageref01.When: B true, I 24 -/
def F_ref01_When_3 (n : Nat)  : Option (Int) :=
  some 24
theorem c_ref01_When_3 {n : Nat}  {r : Int} (h : F_ref01_When_3 n  = some r) : Computes cx 25 [B true, I 24] (I r) := by
  unfold F_ref01_When_3 at h
  replace h := Option.some.inj h
  subst h
  exact run (n := 100) (f := 25) (args := [B true, I 24]) (orc := [.no]) (r := I 24) (ob := []) (by kernel_rfl) trivial
/- spillage/spillageref03.CheckState: .agg [I a0, I a1, I a2], .agg [I a3, I a4, I a5] -/
def F_ref03_CheckState (n : Nat) (a0 : Int) (a1 : Int) (a2 : Int) (a3 : Int) (a4 : Int) (a5 : Int) : Option (Int) :=
  (F_ref03_CheckAxis n a0 a1 a2).bind fun t1 =>
  (F_ref01_CheckRange n a3 a0 a1).bind fun t2 =>
  (F_ref01_When_2 n (decide (a4 > a5)) 11).bind fun t3 =>
  (F_ref01_First n ([I t1, I t2, I t3])).bind fun t4 =>
  if t4 = 0 then
    if inI64 (a3 - a2) then
    if a4 < (a3 - a2) then
      (F_ref01_When_3 n).bind fun t8 =>
      some t8
    else
    (F_ref01_When_2 n (decide (a5 > a3)) 24).bind fun t8 =>
    some t8
    else none
  else
  some t4
theorem c_ref03_CheckState {n : Nat} {a0 : Int} {a1 : Int} {a2 : Int} {a3 : Int} {a4 : Int} {a5 : Int} {r : Int} (h : F_ref03_CheckState n a0 a1 a2 a3 a4 a5 = some r) : Computes cx 23 [.agg [I a0, I a1, I a2], .agg [I a3, I a4, I a5]] (I r) := by
  unfold F_ref03_CheckState at h
  obtain ⟨t1, h1, h⟩ := bnd_of h
  obtain ⟨t2, h2, h⟩ := bnd_of h
  obtain ⟨t3, h3, h⟩ := bnd_of h
  obtain ⟨t4, h4, h⟩ := bnd_of h
  by_cases h5 : t4 = 0
  · replace h := ite_t h h5
    obtain ⟨h6, h⟩ := grd_of h
    by_cases h7 : a4 < (a3 - a2)
    · replace h := ite_t h h7
      obtain ⟨t8, h8, h⟩ := bnd_of h
      replace h := Option.some.inj h
      subst h
      exact run (n := 100) (f := 23) (args := [.agg [I a0, I a1, I a2], .agg [I a3, I a4, I a5]]) (orc := [.ret (I t1), .ret (I t2), .ret (I t3), .ret (I t4), .br false, .br true, .ret (I t8)]) (r := I t8) (ob := [Computes cx 25 [B true, I 24] (I t8), (decide (a4 < (a3 - a2))) = true, inI64 (a3 - a2), (t4 != 0) = false, Computes cx 24 [.lst true 1 [I t1, I t2, I t3]] (I t4), Computes cx 25 [B (decide (a4 > a5)), I 11] (I t3), Computes cx 59 [I a3, I a0, I a1] (I t2), Computes cx 29 [.agg [I a0, I a1, I a2]] (I t1)]) (by kernel_rfl) ⟨(c_ref01_When_3 h8), (decide_eq_true h7), h6, (nef h5), ((c_ref01_First h4).le (.cons (.full _ _ _) (.nil)) (.refl _)), (c_ref01_When_2 h3), (c_ref01_CheckRange h2), (c_ref03_CheckAxis h1), trivial⟩
    · replace h := ite_f h h7
      obtain ⟨t8, h8, h⟩ := bnd_of h
      replace h := Option.some.inj h
      subst h
      exact run (n := 100) (f := 23) (args := [.agg [I a0, I a1, I a2], .agg [I a3, I a4, I a5]]) (orc := [.ret (I t1), .ret (I t2), .ret (I t3), .ret (I t4), .br false, .br false, .ret (I t8)]) (r := I t8) (ob := [Computes cx 25 [B (decide (a5 > a3)), I 24] (I t8), (decide (a4 < (a3 - a2))) = false, inI64 (a3 - a2), (t4 != 0) = false, Computes cx 24 [.lst true 1 [I t1, I t2, I t3]] (I t4), Computes cx 25 [B (decide (a4 > a5)), I 11] (I t3), Computes cx 59 [I a3, I a0, I a1] (I t2), Computes cx 29 [.agg [I a0, I a1, I a2]] (I t1)]) (by kernel_rfl) ⟨(c_ref01_When_2 h8), (decide_eq_false h7), h6, (nef h5), ((c_ref01_First h4).le (.cons (.full _ _ _) (.nil)) (.refl _)), (c_ref01_When_2 h3), (c_ref01_CheckRange h2), (c_ref03_CheckAxis h1), trivial⟩
  · replace h := ite_f h h5
    replace h := Option.some.inj h
    subst h
    exact run (n := 100) (f := 23) (args := [.agg [I a0, I a1, I a2], .agg [I a3, I a4, I a5]]) (orc := [.ret (I t1), .ret (I t2), .ret (I t3), .ret (I t4), .br true]) (r := I t4) (ob := [(t4 != 0) = true, Computes cx 24 [.lst true 1 [I t1, I t2, I t3]] (I t4), Computes cx 25 [B (decide (a4 > a5)), I 11] (I t3), Computes cx 59 [I a3, I a0, I a1] (I t2), Computes cx 29 [.agg [I a0, I a1, I a2]] (I t1)]) (by kernel_rfl) ⟨(net h5), ((c_ref01_First h4).le (.cons (.full _ _ _) (.nil)) (.refl _)), (c_ref01_When_2 h3), (c_ref01_CheckRange h2), (c_ref03_CheckAxis h1), trivial⟩
/- spillage/spillageref03.Leaves: .agg [I a0, I a1, I a2], I a3, I a4 -/
def F_ref03_Leaves (n : Nat) (a0 : Int) (a1 : Int) (a2 : Int) (a3 : Int) (a4 : Int) : Option (Int) :=
  if inI64 (a4 - a2) then
  some (maxI (a4 - a2) (minI a4 a3))
  else none
theorem c_ref03_Leaves {n : Nat} {a0 : Int} {a1 : Int} {a2 : Int} {a3 : Int} {a4 : Int} {r : Int} (h : F_ref03_Leaves n a0 a1 a2 a3 a4 = some r) : Computes cx 121 [.agg [I a0, I a1, I a2], I a3, I a4] (I r) := by
  unfold F_ref03_Leaves at h
  obtain ⟨h1, h⟩ := grd_of h
  replace h := Option.some.inj h
  subst h
  exact run (n := 100) (f := 121) (args := [.agg [I a0, I a1, I a2], I a3, I a4]) (orc := []) (r := I (maxI (a4 - a2) (minI a4 a3))) (ob := [inI64 (a4 - a2)]) (by kernel_rfl) ⟨h1, trivial⟩
/- spillage/spillageref03.Stepped: .agg [I a0, I a1, I a2], .agg [I a3, I a4, I a5], I a6 -/
def F_ref03_Stepped (n : Nat) (a0 : Int) (a1 : Int) (a2 : Int) (a3 : Int) (a4 : Int) (a5 : Int) (a6 : Int) : Option (Int × Int × Int) :=
  (F_ref03_Leaves n a0 a1 a2 a4 a6).bind fun t1 =>
  (F_ref03_Leaves n a0 a1 a2 a5 a6).bind fun t2 =>
  some (a6, t1, t2)
theorem c_ref03_Stepped {n : Nat} {a0 : Int} {a1 : Int} {a2 : Int} {a3 : Int} {a4 : Int} {a5 : Int} {a6 : Int} {r : Int × Int × Int} (h : F_ref03_Stepped n a0 a1 a2 a3 a4 a5 a6 = some r) : Computes cx 87 [.agg [I a0, I a1, I a2], .agg [I a3, I a4, I a5], I a6] (.agg [I r.1, I r.2.1, I r.2.2]) := by
  unfold F_ref03_Stepped at h
  obtain ⟨t1, h1, h⟩ := bnd_of h
  obtain ⟨t2, h2, h⟩ := bnd_of h
  replace h := Option.some.inj h
  subst h
  exact run (n := 100) (f := 87) (args := [.agg [I a0, I a1, I a2], .agg [I a3, I a4, I a5], I a6]) (orc := [.ret (I t1), .ret (I t2)]) (r := .agg [I a6, I t1, I t2]) (ob := [Computes cx 121 [.agg [I a0, I a1, I a2], I a5, I a6] (I t2), Computes cx 121 [.agg [I a0, I a1, I a2], I a4, I a6] (I t1)]) (by kernel_rfl) ⟨(c_ref03_Leaves h2), (c_ref03_Leaves h1), trivial⟩
/- spillage/spillageref03.CheckTrack: .agg [I a0, I a1], .agg [I a2, I a3], .agg [I a4, I a5] -/
def F_ref03_CheckTrack (n : Nat) (a0 : Int) (a1 : Int) (a2 : Int) (a3 : Int) (a4 : Int) (a5 : Int) : Option (Int) :=
  (F_ref01_CheckRange n a0 (-1000) 1000).bind fun t1 =>
  (F_ref01_CheckRange n a1 (-1000) 1000).bind fun t2 =>
  (F_ref01_CheckRange n a2 (-1000) 1000).bind fun t3 =>
  (F_ref01_CheckRange n a3 (-1000) 1000).bind fun t4 =>
  (F_ref01_CheckRange n a4 1 100).bind fun t5 =>
  (F_ref01_CheckRange n a5 1 100).bind fun t6 =>
  (F_ref01_First n ([I t1, I t2, I t3, I t4, I t5, I t6])).bind fun t7 =>
  some t7
theorem c_ref03_CheckTrack {n : Nat} {a0 : Int} {a1 : Int} {a2 : Int} {a3 : Int} {a4 : Int} {a5 : Int} {r : Int} (h : F_ref03_CheckTrack n a0 a1 a2 a3 a4 a5 = some r) : Computes cx 33 [.agg [I a0, I a1], .agg [I a2, I a3], .agg [I a4, I a5]] (I r) := by
  unfold F_ref03_CheckTrack at h
  obtain ⟨t1, h1, h⟩ := bnd_of h
  obtain ⟨t2, h2, h⟩ := bnd_of h
  obtain ⟨t3, h3, h⟩ := bnd_of h
  obtain ⟨t4, h4, h⟩ := bnd_of h
  obtain ⟨t5, h5, h⟩ := bnd_of h
  obtain ⟨t6, h6, h⟩ := bnd_of h
  obtain ⟨t7, h7, h⟩ := bnd_of h
  replace h := Option.some.inj h
  subst h
  exact run (n := 100) (f := 33) (args := [.agg [I a0, I a1], .agg [I a2, I a3], .agg [I a4, I a5]]) (orc := [.ret (I t1), .ret (I t2), .ret (I t3), .ret (I t4), .ret (I t5), .ret (I t6), .ret (I t7)]) (r := I t7) (ob := [Computes cx 24 [.lst true 1 [I t1, I t2, I t3, I t4, I t5, I t6]] (I t7), Computes cx 59 [I a5, I 1, I 100] (I t6), Computes cx 59 [I a4, I 1, I 100] (I t5), Computes cx 59 [I a3, I (-1000), I 1000] (I t4), Computes cx 59 [I a2, I (-1000), I 1000] (I t3), Computes cx 59 [I a1, I (-1000), I 1000] (I t2), Computes cx 59 [I a0, I (-1000), I 1000] (I t1)]) (by kernel_rfl) ⟨((c_ref01_First h7).le (.cons (.full _ _ _) (.nil)) (.refl _)), (c_ref01_CheckRange h6), (c_ref01_CheckRange h5), (c_ref01_CheckRange h4), (c_ref01_CheckRange h3), (c_ref01_CheckRange h2), (c_ref01_CheckRange h1), trivial⟩
def F_law03_spots_L1 (n : Nat) (a0 : List D) (sa : (Int × List D)) : Option (((Int × List D)) ⊕ ((List D))) :=
  if sa.1 < ((a0).length : Int) then
    (el un_Ai3Z a0 sa.1).bind fun ta2 =>
    if roomP 24 ((sa.2).length + 1) then
    if inI64 (sa.1 + 1) then
    some (.inl ((sa.1 + 1), (sa.2 ++ ([.agg [I ta2.1, I ta2.2.1, I ta2.2.2]] : List D))))
    else none
    else none
  else
  some (.inr sa.2)
noncomputable def T_law03_spots_L1 (a0 : List D) (sa : (Int × List D)) : List (Nat × AV) := [(3, .own 5 0), (6, .d (.lst false 3 a0)), (7, .d (I ((a0).length : Int))), (8, .d (I sa.1))]
noncomputable def H_law03_spots_L1 (a0 : List D) (sa : (Int × List D)) : List (Nat × Blk) := [(5, .row 0 3 sa.2)]
noncomputable def X_law03_spots_L1 (a0 : List D) (e : (List D)) : Ex := (.exit 0)
noncomputable def XT_law03_spots_L1 (a0 : List D) (e : (List D)) : List (Nat × AV) := [(3, .own 5 0)]
noncomputable def XH_law03_spots_L1 (a0 : List D) (e : (List D)) : List (Nat × Blk) := [(5, .row 0 3 e)]
theorem R_law03_spots_L1 {n : Nat} {a0 : List D} (sa : (Int × List D)) (r) (h : F_law03_spots_L1 n a0 sa = some r) : Rd cx (loopAt cx.P 38 0) 18 0 false (T_law03_spots_L1 a0) (H_law03_spots_L1 a0) (X_law03_spots_L1 a0) (XT_law03_spots_L1 a0) (XH_law03_spots_L1 a0) sa r := by
  unfold F_law03_spots_L1 at h
  by_cases ha1 : sa.1 < ((a0).length : Int)
  · replace h := ite_t h ha1
    obtain ⟨ta2, ha2, h⟩ := bnd_of h
    obtain ⟨ha3, h⟩ := grd_of h
    obtain ⟨ha4, h⟩ := grd_of h
    replace h := Option.some.inj h
    subst h
    exact ⟨100, 6, [.br true, .el (.agg [I ta2.1, I ta2.2.1, I ta2.2.2]), .br true], [], [3, 6, 7, 8], [5], round_of (ob := [inI64 (sa.1 + 1), room cx 80 ((sa.2).length + 1), (0 : Int) ≤ sa.1, nth (a0) (Int.toNat sa.1) = some (.agg [I ta2.1, I ta2.2.1, I ta2.2.2]), (decide (sa.1 < ((a0).length : Int))) = true]) (by kernel_rfl) ⟨ha4, (room_of (b := 24) (by kernel_rfl) (by decide) ha3), (el_ok un_Ai3Z_ok ha2).1, (el_ok un_Ai3Z_ok ha2).2, (decide_eq_true ha1), trivial⟩⟩
  · replace h := ite_f h ha1
    replace h := Option.some.inj h
    subst h
    exact ⟨⟨100, 6, [.br false], [], [3], [5], round_of (ob := [(decide (sa.1 < ((a0).length : Int))) = false]) (by kernel_rfl) ⟨(decide_eq_false ha1), trivial⟩⟩, nofun⟩
/- spillage/spillagelaw03.spots: .lst false 3 a0 -/
def F_law03_spots (n : Nat) (a0 : List D) : Option (List D) :=
  (loopF (F_law03_spots_L1 n a0) n (0, [])).bind fun t1 =>
  some t1
theorem c_law03_spots {n : Nat} {a0 : List D} {r : List D} (h : F_law03_spots n a0 = some r) : Computes cx 38 [.lst false 3 a0] (.lst false 3 r) := by
  unfold F_law03_spots at h
  obtain ⟨t1, h1, h⟩ := bnd_of h
  replace h := Option.some.inj h
  subst h
  exact run (n := 100) (f := 38) (args := [.lst false 3 a0]) (orc := [.lp [3, 3] [3, 6, 7, 8] [5] (.exit 0) [(3, .own 5 0)] [(5, .row 0 3 t1)] 29]) (r := .lst false 3 t1) (ob := [LoopN cx (loopAt cx.P 38 0) 18 0 false [(3, .own 5 0), (6, .d (.lst false 3 a0)), (7, .d (I ((a0).length : Int))), (8, .d (I 0))] [(5, .row 0 3 [])] (.exit 0) [(3, .own 5 0)] [(5, .row 0 3 t1)]]) (by kernel_rfl) ⟨(loopF_to R_law03_spots_L1 h1), trivial⟩
/- spillage/spillageref03.CheckInterval: .agg [I a0, I a1], I a2, I a3 -/
def F_ref03_CheckInterval (n : Nat) (a0 : Int) (a1 : Int) (a2 : Int) (a3 : Int) : Option (Int) :=
  (F_ref01_CheckRange n a0 a2 a3).bind fun t1 =>
  (F_ref01_CheckRange n a1 a2 a3).bind fun t2 =>
  (F_ref01_When_2 n (decide (a0 > a1)) 11).bind fun t3 =>
  (F_ref01_First n ([I t1, I t2, I t3])).bind fun t4 =>
  some t4
theorem c_ref03_CheckInterval {n : Nat} {a0 : Int} {a1 : Int} {a2 : Int} {a3 : Int} {r : Int} (h : F_ref03_CheckInterval n a0 a1 a2 a3 = some r) : Computes cx 40 [.agg [I a0, I a1], I a2, I a3] (I r) := by
  unfold F_ref03_CheckInterval at h
  obtain ⟨t1, h1, h⟩ := bnd_of h
  obtain ⟨t2, h2, h⟩ := bnd_of h
  obtain ⟨t3, h3, h⟩ := bnd_of h
  obtain ⟨t4, h4, h⟩ := bnd_of h
  replace h := Option.some.inj h
  subst h
  exact run (n := 100) (f := 40) (args := [.agg [I a0, I a1], I a2, I a3]) (orc := [.ret (I t1), .ret (I t2), .ret (I t3), .ret (I t4)]) (r := I t4) (ob := [Computes cx 24 [.lst true 1 [I t1, I t2, I t3]] (I t4), Computes cx 25 [B (decide (a0 > a1)), I 11] (I t3), Computes cx 59 [I a1, I a2, I a3] (I t2), Computes cx 59 [I a0, I a2, I a3] (I t1)]) (by kernel_rfl) ⟨((c_ref01_First h4).le (.cons (.full _ _ _) (.nil)) (.refl _)), (c_ref01_When_2 h3), (c_ref01_CheckRange h2), (c_ref01_CheckRange h1), trivial⟩
/- spillage/spillageref03.CheckSpot: .agg [I a0, I a1, I a2] -/
def F_ref03_CheckSpot (n : Nat) (a0 : Int) (a1 : Int) (a2 : Int) : Option (Int) :=
  (F_ref01_CheckRange n a0 (-1000) 1000).bind fun t1 =>
  (F_ref03_CheckInterval n a1 a2 (-1000000) 1000000).bind fun t2 =>
  (F_ref01_First n ([I t1, I t2])).bind fun t3 =>
  some t3
theorem c_ref03_CheckSpot {n : Nat} {a0 : Int} {a1 : Int} {a2 : Int} {r : Int} (h : F_ref03_CheckSpot n a0 a1 a2 = some r) : Computes cx 50 [.agg [I a0, I a1, I a2]] (I r) := by
  unfold F_ref03_CheckSpot at h
  obtain ⟨t1, h1, h⟩ := bnd_of h
  obtain ⟨t2, h2, h⟩ := bnd_of h
  obtain ⟨t3, h3, h⟩ := bnd_of h
  replace h := Option.some.inj h
  subst h
  exact run (n := 100) (f := 50) (args := [.agg [I a0, I a1, I a2]]) (orc := [.ret (I t1), .ret (I t2), .ret (I t3)]) (r := I t3) (ob := [Computes cx 24 [.lst true 1 [I t1, I t2]] (I t3), Computes cx 40 [.agg [I a1, I a2], I (-1000000), I 1000000] (I t2), Computes cx 59 [I a0, I (-1000), I 1000] (I t1)]) (by kernel_rfl) ⟨((c_ref01_First h3).le (.cons (.full _ _ _) (.nil)) (.refl _)), (c_ref03_CheckInterval h2), (c_ref01_CheckRange h1), trivial⟩
/- spillage/spillageref03.permitted: .agg [I a0, I a1, I a2], .agg [I a3, I a4, I a5] -/
def F_ref03_permitted (n : Nat) (a0 : Int) (a1 : Int) (a2 : Int) (a3 : Int) (a4 : Int) (a5 : Int) : Option (Int × Int × Int) :=
  if inI64 (a0 * a3) then
  if inI64 (a4 - (a0 * a3)) then
  if inI64 (a5 - (a0 * a3)) then
  some (a0, (maxI a1 (a4 - (a0 * a3))), (minI a2 (a5 - (a0 * a3))))
  else none
  else none
  else none
theorem c_ref03_permitted {n : Nat} {a0 : Int} {a1 : Int} {a2 : Int} {a3 : Int} {a4 : Int} {a5 : Int} {r : Int × Int × Int} (h : F_ref03_permitted n a0 a1 a2 a3 a4 a5 = some r) : Computes cx 94 [.agg [I a0, I a1, I a2], .agg [I a3, I a4, I a5]] (.agg [I r.1, I r.2.1, I r.2.2]) := by
  unfold F_ref03_permitted at h
  obtain ⟨h1, h⟩ := grd_of h
  obtain ⟨h2, h⟩ := grd_of h
  obtain ⟨h3, h⟩ := grd_of h
  replace h := Option.some.inj h
  subst h
  exact run (n := 100) (f := 94) (args := [.agg [I a0, I a1, I a2], .agg [I a3, I a4, I a5]]) (orc := []) (r := .agg [I a0, I (maxI a1 (a4 - (a0 * a3))), I (minI a2 (a5 - (a0 * a3)))]) (ob := [inI64 (a5 - (a0 * a3)), inI64 (a0 * a3), inI64 (a4 - (a0 * a3)), inI64 (a0 * a3)]) (by kernel_rfl) ⟨h3, h1, h2, h1, trivial⟩
/- spillage/spillageref03.ShortModel: .lst false 3 a0 -/
def F_ref03_ShortModel (n : Nat) (a0 : List D) : Option (Bool) :=
  if ((a0).length : Int) ≤ 8 then
    some true
  else
  some (((a0).length : Int) == 65)
theorem c_ref03_ShortModel {n : Nat} {a0 : List D} {r : Bool} (h : F_ref03_ShortModel n a0 = some r) : Computes cx 45 [.lst false 3 a0] (B r) := by
  unfold F_ref03_ShortModel at h
  by_cases h1 : ((a0).length : Int) ≤ 8
  · replace h := ite_t h h1
    replace h := Option.some.inj h
    subst h
    exact run (n := 100) (f := 45) (args := [.lst false 3 a0]) (orc := [.br true]) (r := B true) (ob := [(decide (((a0).length : Int) ≤ 8)) = true]) (by kernel_rfl) ⟨(decide_eq_true h1), trivial⟩
  · replace h := ite_f h h1
    replace h := Option.some.inj h
    subst h
    exact run (n := 100) (f := 45) (args := [.lst false 3 a0]) (orc := [.br false]) (r := B (((a0).length : Int) == 65)) (ob := [(decide (((a0).length : Int) ≤ 8)) = false]) (by kernel_rfl) ⟨(decide_eq_false h1), trivial⟩
def F_law03_given_L1 (n : Nat) (a0 : List D) (sa : (Int × List D)) : Option (((Int × List D)) ⊕ ((List D))) :=
  if sa.1 < ((a0).length : Int) then
    (el un_Ai3Z a0 sa.1).bind fun ta2 =>
    if roomP 24 ((sa.2).length + 1) then
    if inI64 (sa.1 + 1) then
    some (.inl ((sa.1 + 1), (sa.2 ++ ([.agg [I ta2.1, I ta2.2.1, I ta2.2.2]] : List D))))
    else none
    else none
  else
  some (.inr sa.2)
noncomputable def T_law03_given_L1 (a0 : List D) (sa : (Int × List D)) : List (Nat × AV) := [(3, .own 5 0), (6, .d (.lst false 3 a0)), (7, .d (I ((a0).length : Int))), (8, .d (I sa.1))]
noncomputable def H_law03_given_L1 (a0 : List D) (sa : (Int × List D)) : List (Nat × Blk) := [(5, .row 0 3 sa.2)]
noncomputable def X_law03_given_L1 (a0 : List D) (e : (List D)) : Ex := (.exit 0)
noncomputable def XT_law03_given_L1 (a0 : List D) (e : (List D)) : List (Nat × AV) := [(3, .own 5 0)]
noncomputable def XH_law03_given_L1 (a0 : List D) (e : (List D)) : List (Nat × Blk) := [(5, .row 0 3 e)]
theorem R_law03_given_L1 {n : Nat} {a0 : List D} (sa : (Int × List D)) (r) (h : F_law03_given_L1 n a0 sa = some r) : Rd cx (loopAt cx.P 47 0) 18 0 false (T_law03_given_L1 a0) (H_law03_given_L1 a0) (X_law03_given_L1 a0) (XT_law03_given_L1 a0) (XH_law03_given_L1 a0) sa r := by
  unfold F_law03_given_L1 at h
  by_cases ha1 : sa.1 < ((a0).length : Int)
  · replace h := ite_t h ha1
    obtain ⟨ta2, ha2, h⟩ := bnd_of h
    obtain ⟨ha3, h⟩ := grd_of h
    obtain ⟨ha4, h⟩ := grd_of h
    replace h := Option.some.inj h
    subst h
    exact ⟨100, 6, [.br true, .el (.agg [I ta2.1, I ta2.2.1, I ta2.2.2]), .br true], [], [3, 6, 7, 8], [5], round_of (ob := [inI64 (sa.1 + 1), room cx 142 ((sa.2).length + 1), (0 : Int) ≤ sa.1, nth (a0) (Int.toNat sa.1) = some (.agg [I ta2.1, I ta2.2.1, I ta2.2.2]), (decide (sa.1 < ((a0).length : Int))) = true]) (by kernel_rfl) ⟨ha4, (room_of (b := 24) (by kernel_rfl) (by decide) ha3), (el_ok un_Ai3Z_ok ha2).1, (el_ok un_Ai3Z_ok ha2).2, (decide_eq_true ha1), trivial⟩⟩
  · replace h := ite_f h ha1
    replace h := Option.some.inj h
    subst h
    exact ⟨⟨100, 6, [.br false], [], [3], [5], round_of (ob := [(decide (sa.1 < ((a0).length : Int))) = false]) (by kernel_rfl) ⟨(decide_eq_false ha1), trivial⟩⟩, nofun⟩
/- spillage/spillagelaw03.given: .lst false 3 a0 -/
def F_law03_given (n : Nat) (a0 : List D) : Option (List D) :=
  (loopF (F_law03_given_L1 n a0) n (0, [])).bind fun t1 =>
  some t1
theorem c_law03_given {n : Nat} {a0 : List D} {r : List D} (h : F_law03_given n a0 = some r) : Computes cx 47 [.lst false 3 a0] (.lst false 3 r) := by
  unfold F_law03_given at h
  obtain ⟨t1, h1, h⟩ := bnd_of h
  replace h := Option.some.inj h
  subst h
  exact run (n := 100) (f := 47) (args := [.lst false 3 a0]) (orc := [.lp [3, 3] [3, 6, 7, 8] [5] (.exit 0) [(3, .own 5 0)] [(5, .row 0 3 t1)] 29]) (r := .lst false 3 t1) (ob := [LoopN cx (loopAt cx.P 47 0) 18 0 false [(3, .own 5 0), (6, .d (.lst false 3 a0)), (7, .d (I ((a0).length : Int))), (8, .d (I 0))] [(5, .row 0 3 [])] (.exit 0) [(3, .own 5 0)] [(5, .row 0 3 t1)]]) (by kernel_rfl) ⟨(loopF_to R_law03_given_L1 h1), trivial⟩
def F_ref03_CheckModel_L1 (n : Nat) (a0 : List D) (sa : (Int)) : Option (((Int)) ⊕ ((Int) ⊕ (Unit))) :=
  if sa < ((a0).length : Int) then
    (el un_Ai3Z a0 sa).bind fun ta2 =>
    (F_ref01_CheckRange n ta2.1 (-1000) 1000).bind fun ta3 =>
    (F_ref03_CheckInterval n ta2.2.1 ta2.2.2 (-2000000) 2000000).bind fun ta4 =>
    (F_ref01_First n ([I ta3, I ta4])).bind fun ta5 =>
    if ta5 = 0 then
      if sa > 0 then
        if inI64 (sa - 1) then
        (el un_Ai3Z a0 (sa - 1)).bind fun ta9 =>
        if ta2.1 ≤ ta9.1 then
          some (.inr (.inl 11))
        else
        if inI64 (sa + 1) then
        some (.inl (sa + 1))
        else none
        else none
      else
      if inI64 (sa + 1) then
      some (.inl (sa + 1))
      else none
    else
    some (.inr (.inl ta5))
  else
  some (.inr (.inr ()))
noncomputable def T_ref03_CheckModel_L1 (a0 : List D) (sa : (Int)) : List (Nat × AV) := [(0, .d (.lst false 3 a0)), (3, .d (I sa))]
noncomputable def H_ref03_CheckModel_L1 (a0 : List D) (sa : (Int)) : List (Nat × Blk) := []
noncomputable def X_ref03_CheckModel_L1 (a0 : List D) (e : (Int) ⊕ (Unit)) : Ex := match e with
  | (.inl e) => .ret
  | (.inr e) => (.exit 0)
noncomputable def XT_ref03_CheckModel_L1 (a0 : List D) (e : (Int) ⊕ (Unit)) : List (Nat × AV) := match e with
  | (.inl e) => [(2, .d (I e))]
  | (.inr e) => []
noncomputable def XH_ref03_CheckModel_L1 (a0 : List D) (e : (Int) ⊕ (Unit)) : List (Nat × Blk) := match e with
  | (.inl e) => []
  | (.inr e) => []
theorem R_ref03_CheckModel_L1 {n : Nat} {a0 : List D} (sa : (Int)) (r) (h : F_ref03_CheckModel_L1 n a0 sa = some r) : Rd cx (loopAt cx.P 49 0) 50 0 false (T_ref03_CheckModel_L1 a0) (H_ref03_CheckModel_L1 a0) (X_ref03_CheckModel_L1 a0) (XT_ref03_CheckModel_L1 a0) (XH_ref03_CheckModel_L1 a0) sa r := by
  unfold F_ref03_CheckModel_L1 at h
  by_cases ha1 : sa < ((a0).length : Int)
  · replace h := ite_t h ha1
    obtain ⟨ta2, ha2, h⟩ := bnd_of h
    obtain ⟨ta3, ha3, h⟩ := bnd_of h
    obtain ⟨ta4, ha4, h⟩ := bnd_of h
    obtain ⟨ta5, ha5, h⟩ := bnd_of h
    by_cases ha6 : ta5 = 0
    · replace h := ite_t h ha6
      by_cases ha7 : sa > 0
      · replace h := ite_t h ha7
        obtain ⟨ha8, h⟩ := grd_of h
        obtain ⟨ta9, ha9, h⟩ := bnd_of h
        by_cases ha10 : ta2.1 ≤ ta9.1
        · replace h := ite_t h ha10
          replace h := Option.some.inj h
          subst h
          exact ⟨⟨100, 8, [.br true, .el (.agg [I ta2.1, I ta2.2.1, I ta2.2.2]), .ret (I ta3), .el (.agg [I ta2.1, I ta2.2.1, I ta2.2.2]), .ret (I ta4), .ret (I ta5), .br false, .br true, .el (.agg [I ta2.1, I ta2.2.1, I ta2.2.2]), .el (.agg [I ta9.1, I ta9.2.1, I ta9.2.2]), .br true], [], [2], [], round_of (ob := [(decide (ta2.1 ≤ ta9.1)) = true, (0 : Int) ≤ (sa - 1), nth (a0) (Int.toNat (sa - 1)) = some (.agg [I ta9.1, I ta9.2.1, I ta9.2.2]), inI64 (sa - 1), (0 : Int) ≤ sa, nth (a0) (Int.toNat sa) = some (.agg [I ta2.1, I ta2.2.1, I ta2.2.2]), (decide (sa > 0)) = true, (ta5 != 0) = false, Computes cx 24 [.lst true 1 [I ta3, I ta4]] (I ta5), Computes cx 40 [.agg [I ta2.2.1, I ta2.2.2], I (-2000000), I 2000000] (I ta4), (0 : Int) ≤ sa, nth (a0) (Int.toNat sa) = some (.agg [I ta2.1, I ta2.2.1, I ta2.2.2]), Computes cx 59 [I ta2.1, I (-1000), I 1000] (I ta3), (0 : Int) ≤ sa, nth (a0) (Int.toNat sa) = some (.agg [I ta2.1, I ta2.2.1, I ta2.2.2]), (decide (sa < ((a0).length : Int))) = true]) (by kernel_rfl) ⟨(decide_eq_true ha10), (el_ok un_Ai3Z_ok ha9).1, (el_ok un_Ai3Z_ok ha9).2, ha8, (el_ok un_Ai3Z_ok ha2).1, (el_ok un_Ai3Z_ok ha2).2, (decide_eq_true ha7), (nef ha6), ((c_ref01_First ha5).le (.cons (.full _ _ _) (.nil)) (.refl _)), (c_ref03_CheckInterval ha4), (el_ok un_Ai3Z_ok ha2).1, (el_ok un_Ai3Z_ok ha2).2, (c_ref01_CheckRange ha3), (el_ok un_Ai3Z_ok ha2).1, (el_ok un_Ai3Z_ok ha2).2, (decide_eq_true ha1), trivial⟩⟩, nofun⟩
        · replace h := ite_f h ha10
          obtain ⟨ha11, h⟩ := grd_of h
          replace h := Option.some.inj h
          subst h
          exact ⟨100, 8, [.br true, .el (.agg [I ta2.1, I ta2.2.1, I ta2.2.2]), .ret (I ta3), .el (.agg [I ta2.1, I ta2.2.1, I ta2.2.2]), .ret (I ta4), .ret (I ta5), .br false, .br true, .el (.agg [I ta2.1, I ta2.2.1, I ta2.2.2]), .el (.agg [I ta9.1, I ta9.2.1, I ta9.2.2]), .br false], [], [0, 3], [], round_of (ob := [inI64 (sa + 1), (decide (ta2.1 ≤ ta9.1)) = false, (0 : Int) ≤ (sa - 1), nth (a0) (Int.toNat (sa - 1)) = some (.agg [I ta9.1, I ta9.2.1, I ta9.2.2]), inI64 (sa - 1), (0 : Int) ≤ sa, nth (a0) (Int.toNat sa) = some (.agg [I ta2.1, I ta2.2.1, I ta2.2.2]), (decide (sa > 0)) = true, (ta5 != 0) = false, Computes cx 24 [.lst true 1 [I ta3, I ta4]] (I ta5), Computes cx 40 [.agg [I ta2.2.1, I ta2.2.2], I (-2000000), I 2000000] (I ta4), (0 : Int) ≤ sa, nth (a0) (Int.toNat sa) = some (.agg [I ta2.1, I ta2.2.1, I ta2.2.2]), Computes cx 59 [I ta2.1, I (-1000), I 1000] (I ta3), (0 : Int) ≤ sa, nth (a0) (Int.toNat sa) = some (.agg [I ta2.1, I ta2.2.1, I ta2.2.2]), (decide (sa < ((a0).length : Int))) = true]) (by kernel_rfl) ⟨ha11, (decide_eq_false ha10), (el_ok un_Ai3Z_ok ha9).1, (el_ok un_Ai3Z_ok ha9).2, ha8, (el_ok un_Ai3Z_ok ha2).1, (el_ok un_Ai3Z_ok ha2).2, (decide_eq_true ha7), (nef ha6), ((c_ref01_First ha5).le (.cons (.full _ _ _) (.nil)) (.refl _)), (c_ref03_CheckInterval ha4), (el_ok un_Ai3Z_ok ha2).1, (el_ok un_Ai3Z_ok ha2).2, (c_ref01_CheckRange ha3), (el_ok un_Ai3Z_ok ha2).1, (el_ok un_Ai3Z_ok ha2).2, (decide_eq_true ha1), trivial⟩⟩
      · replace h := ite_f h ha7
        obtain ⟨ha8, h⟩ := grd_of h
        replace h := Option.some.inj h
        subst h
        exact ⟨100, 8, [.br true, .el (.agg [I ta2.1, I ta2.2.1, I ta2.2.2]), .ret (I ta3), .el (.agg [I ta2.1, I ta2.2.1, I ta2.2.2]), .ret (I ta4), .ret (I ta5), .br false, .br false, .no], [], [0, 3], [], round_of (ob := [inI64 (sa + 1), (decide (sa > 0)) = false, (ta5 != 0) = false, Computes cx 24 [.lst true 1 [I ta3, I ta4]] (I ta5), Computes cx 40 [.agg [I ta2.2.1, I ta2.2.2], I (-2000000), I 2000000] (I ta4), (0 : Int) ≤ sa, nth (a0) (Int.toNat sa) = some (.agg [I ta2.1, I ta2.2.1, I ta2.2.2]), Computes cx 59 [I ta2.1, I (-1000), I 1000] (I ta3), (0 : Int) ≤ sa, nth (a0) (Int.toNat sa) = some (.agg [I ta2.1, I ta2.2.1, I ta2.2.2]), (decide (sa < ((a0).length : Int))) = true]) (by kernel_rfl) ⟨ha8, (decide_eq_false ha7), (nef ha6), ((c_ref01_First ha5).le (.cons (.full _ _ _) (.nil)) (.refl _)), (c_ref03_CheckInterval ha4), (el_ok un_Ai3Z_ok ha2).1, (el_ok un_Ai3Z_ok ha2).2, (c_ref01_CheckRange ha3), (el_ok un_Ai3Z_ok ha2).1, (el_ok un_Ai3Z_ok ha2).2, (decide_eq_true ha1), trivial⟩⟩
    · replace h := ite_f h ha6
      replace h := Option.some.inj h
      subst h
      exact ⟨⟨100, 8, [.br true, .el (.agg [I ta2.1, I ta2.2.1, I ta2.2.2]), .ret (I ta3), .el (.agg [I ta2.1, I ta2.2.1, I ta2.2.2]), .ret (I ta4), .ret (I ta5), .br true], [], [2], [], round_of (ob := [(ta5 != 0) = true, Computes cx 24 [.lst true 1 [I ta3, I ta4]] (I ta5), Computes cx 40 [.agg [I ta2.2.1, I ta2.2.2], I (-2000000), I 2000000] (I ta4), (0 : Int) ≤ sa, nth (a0) (Int.toNat sa) = some (.agg [I ta2.1, I ta2.2.1, I ta2.2.2]), Computes cx 59 [I ta2.1, I (-1000), I 1000] (I ta3), (0 : Int) ≤ sa, nth (a0) (Int.toNat sa) = some (.agg [I ta2.1, I ta2.2.1, I ta2.2.2]), (decide (sa < ((a0).length : Int))) = true]) (by kernel_rfl) ⟨(net ha6), ((c_ref01_First ha5).le (.cons (.full _ _ _) (.nil)) (.refl _)), (c_ref03_CheckInterval ha4), (el_ok un_Ai3Z_ok ha2).1, (el_ok un_Ai3Z_ok ha2).2, (c_ref01_CheckRange ha3), (el_ok un_Ai3Z_ok ha2).1, (el_ok un_Ai3Z_ok ha2).2, (decide_eq_true ha1), trivial⟩⟩, nofun⟩
  · replace h := ite_f h ha1
    replace h := Option.some.inj h
    subst h
    exact ⟨⟨100, 8, [.br false], [], [], [], round_of (ob := [(decide (sa < ((a0).length : Int))) = false]) (by kernel_rfl) ⟨(decide_eq_false ha1), trivial⟩⟩, nofun⟩
/- spillage/spillageref03.CheckModel: .lst false 3 a0 -/
def F_ref03_CheckModel (n : Nat) (a0 : List D) : Option (Int) :=
  if ((a0).length : Int) = 0 then
    some 12
  else
  if ((a0).length : Int) > 64 then
    some 5
  else
  (loopF (F_ref03_CheckModel_L1 n a0) n 0).bind fun t3 => match t3 with
    | (.inl t3) => (
      some t3)
    | (.inr t3) => (
      some 0)
theorem c_ref03_CheckModel {n : Nat} {a0 : List D} {r : Int} (h : F_ref03_CheckModel n a0 = some r) : Computes cx 49 [.lst false 3 a0] (I r) := by
  unfold F_ref03_CheckModel at h
  by_cases h1 : ((a0).length : Int) = 0
  · replace h := ite_t h h1
    replace h := Option.some.inj h
    subst h
    exact run (n := 100) (f := 49) (args := [.lst false 3 a0]) (orc := [.br true]) (r := I 12) (ob := [(((a0).length : Int) == 0) = true]) (by kernel_rfl) ⟨(eqt h1), trivial⟩
  · replace h := ite_f h h1
    by_cases h2 : ((a0).length : Int) > 64
    · replace h := ite_t h h2
      replace h := Option.some.inj h
      subst h
      exact run (n := 100) (f := 49) (args := [.lst false 3 a0]) (orc := [.br false, .br true]) (r := I 5) (ob := [(decide (((a0).length : Int) > 64)) = true, (((a0).length : Int) == 0) = false]) (by kernel_rfl) ⟨(decide_eq_true h2), (eqf h1), trivial⟩
    · replace h := ite_f h h2
      obtain ⟨t3, h3, h⟩ := bnd_of h
      rcases t3 with t3 | t3
      · replace h := Option.some.inj h
        subst h
        exact run (n := 100) (f := 49) (args := [.lst false 3 a0]) (orc := [.br false, .br false, .lp [] [0, 3] [] .ret [(2, .d (I t3))] [] 59]) (r := I t3) (ob := [LoopN cx (loopAt cx.P 49 0) 50 0 false [(0, .d (.lst false 3 a0)), (3, .d (I 0))] [] .ret [(2, .d (I t3))] [], (decide (((a0).length : Int) > 64)) = false, (((a0).length : Int) == 0) = false]) (by kernel_rfl) ⟨(loopF_to R_ref03_CheckModel_L1 h3), (decide_eq_false h2), (eqf h1), trivial⟩
      · replace h := Option.some.inj h
        subst h
        exact run (n := 100) (f := 49) (args := [.lst false 3 a0]) (orc := [.br false, .br false, .lp [] [0, 3] [] (.exit 0) [] [] 59]) (r := I 0) (ob := [LoopN cx (loopAt cx.P 49 0) 50 0 false [(0, .d (.lst false 3 a0)), (3, .d (I 0))] [] (.exit 0) [] [], (decide (((a0).length : Int) > 64)) = false, (((a0).length : Int) == 0) = false]) (by kernel_rfl) ⟨(loopF_to R_ref03_CheckModel_L1 h3), (decide_eq_false h2), (eqf h1), trivial⟩
end Go.Proofs.YtmgbmngmmpeaaaaGreatDoor
