/-
  Printed by gsx.py: functions of the program as Lean functions, and that the code computes them.
-/
import Derived.Test.YtiogobiijlaalaaDoorRefl1
set_option linter.unusedVariables false
set_option linter.unusedSimpArgs false
set_option linter.unnecessarySimpa false
set_option maxRecDepth 10000
namespace Go.Proofs.YtiogobiijlaalaaDoor
open Go.SX
/- spillage/spillagetop.TopThistleReflected: .agg [.v (.int .i8 a0), .v (.int .i8 a1), .v (.int .i8 a2), .v (.int .i8 a3)], .agg [.v (.int .i8 a4), .v (.int .i8 a5), .v (.int .i8 a6), .v (.int .i8 a7)], .v (.int .u8 a8) -/
def F_top_TopThistleReflected (n : Nat) (a0 : Int) (a1 : Int) (a2 : Int) (a3 : Int) (a4 : Int) (a5 : Int) (a6 : Int) (a7 : Int) (a8 : Int) : Option (Bool) :=
  if inI64 ((Int.tmod (IntKind.wrap .i64 a0) 4) * (Int.tmod (IntKind.wrap .i64 a0) 4)) then
  if inI64 (0 + ((Int.tmod (IntKind.wrap .i64 a0) 4) * (Int.tmod (IntKind.wrap .i64 a0) 4))) then
  if inI64 ((Int.tmod (IntKind.wrap .i64 a4) 4) * (Int.tmod (IntKind.wrap .i64 a4) 4)) then
  if inI64 (0 + ((Int.tmod (IntKind.wrap .i64 a4) 4) * (Int.tmod (IntKind.wrap .i64 a4) 4))) then
  if inI64 ((Int.tmod (IntKind.wrap .i64 a1) 4) * (Int.tmod (IntKind.wrap .i64 a1) 4)) then
  if inI64 ((0 + ((Int.tmod (IntKind.wrap .i64 a0) 4) * (Int.tmod (IntKind.wrap .i64 a0) 4))) + ((Int.tmod (IntKind.wrap .i64 a1) 4) * (Int.tmod (IntKind.wrap .i64 a1) 4))) then
  if inI64 ((Int.tmod (IntKind.wrap .i64 a5) 4) * (Int.tmod (IntKind.wrap .i64 a5) 4)) then
  if inI64 ((0 + ((Int.tmod (IntKind.wrap .i64 a4) 4) * (Int.tmod (IntKind.wrap .i64 a4) 4))) + ((Int.tmod (IntKind.wrap .i64 a5) 4) * (Int.tmod (IntKind.wrap .i64 a5) 4))) then
  if inI64 ((Int.tmod (IntKind.wrap .i64 a2) 4) * (Int.tmod (IntKind.wrap .i64 a2) 4)) then
  if inI64 (((0 + ((Int.tmod (IntKind.wrap .i64 a0) 4) * (Int.tmod (IntKind.wrap .i64 a0) 4))) + ((Int.tmod (IntKind.wrap .i64 a1) 4) * (Int.tmod (IntKind.wrap .i64 a1) 4))) + ((Int.tmod (IntKind.wrap .i64 a2) 4) * (Int.tmod (IntKind.wrap .i64 a2) 4))) then
  if inI64 ((Int.tmod (IntKind.wrap .i64 a6) 4) * (Int.tmod (IntKind.wrap .i64 a6) 4)) then
  if inI64 (((0 + ((Int.tmod (IntKind.wrap .i64 a4) 4) * (Int.tmod (IntKind.wrap .i64 a4) 4))) + ((Int.tmod (IntKind.wrap .i64 a5) 4) * (Int.tmod (IntKind.wrap .i64 a5) 4))) + ((Int.tmod (IntKind.wrap .i64 a6) 4) * (Int.tmod (IntKind.wrap .i64 a6) 4))) then
  if inI64 ((Int.tmod (IntKind.wrap .i64 a3) 4) * (Int.tmod (IntKind.wrap .i64 a3) 4)) then
  if inI64 ((((0 + ((Int.tmod (IntKind.wrap .i64 a0) 4) * (Int.tmod (IntKind.wrap .i64 a0) 4))) + ((Int.tmod (IntKind.wrap .i64 a1) 4) * (Int.tmod (IntKind.wrap .i64 a1) 4))) + ((Int.tmod (IntKind.wrap .i64 a2) 4) * (Int.tmod (IntKind.wrap .i64 a2) 4))) + ((Int.tmod (IntKind.wrap .i64 a3) 4) * (Int.tmod (IntKind.wrap .i64 a3) 4))) then
  if inI64 ((Int.tmod (IntKind.wrap .i64 a7) 4) * (Int.tmod (IntKind.wrap .i64 a7) 4)) then
  if inI64 ((((0 + ((Int.tmod (IntKind.wrap .i64 a4) 4) * (Int.tmod (IntKind.wrap .i64 a4) 4))) + ((Int.tmod (IntKind.wrap .i64 a5) 4) * (Int.tmod (IntKind.wrap .i64 a5) 4))) + ((Int.tmod (IntKind.wrap .i64 a6) 4) * (Int.tmod (IntKind.wrap .i64 a6) 4))) + ((Int.tmod (IntKind.wrap .i64 a7) 4) * (Int.tmod (IntKind.wrap .i64 a7) 4))) then
  (F_top_thistleLevel n).bind fun t17 =>
  if t17 = true then
    if ((((0 + ((Int.tmod (IntKind.wrap .i64 a0) 4) * (Int.tmod (IntKind.wrap .i64 a0) 4))) + ((Int.tmod (IntKind.wrap .i64 a1) 4) * (Int.tmod (IntKind.wrap .i64 a1) 4))) + ((Int.tmod (IntKind.wrap .i64 a2) 4) * (Int.tmod (IntKind.wrap .i64 a2) 4))) + ((Int.tmod (IntKind.wrap .i64 a3) 4) * (Int.tmod (IntKind.wrap .i64 a3) 4))) = 0 then
      some t17
    else
    if ((((0 + ((Int.tmod (IntKind.wrap .i64 a4) 4) * (Int.tmod (IntKind.wrap .i64 a4) 4))) + ((Int.tmod (IntKind.wrap .i64 a5) 4) * (Int.tmod (IntKind.wrap .i64 a5) 4))) + ((Int.tmod (IntKind.wrap .i64 a6) 4) * (Int.tmod (IntKind.wrap .i64 a6) 4))) + ((Int.tmod (IntKind.wrap .i64 a7) 4) * (Int.tmod (IntKind.wrap .i64 a7) 4))) = 0 then
      some t17
    else
    (F_sun_Whole n (Int.tmod (IntKind.wrap .i64 a0) 4) (Int.tmod (IntKind.wrap .i64 a1) 4) (Int.tmod (IntKind.wrap .i64 a2) 4) (Int.tmod (IntKind.wrap .i64 a3) 4)).bind fun t21 =>
    (F_sun_Whole n (Int.tmod (IntKind.wrap .i64 a4) 4) (Int.tmod (IntKind.wrap .i64 a5) 4) (Int.tmod (IntKind.wrap .i64 a6) 4) (Int.tmod (IntKind.wrap .i64 a7) 4)).bind fun t22 =>
    if t21.2.2.2 = 0 then
      if t22.2.2.2 = 0 then
        (F_ref02_CheckRay n t21.1 t21.2.1 t21.2.2.1).bind fun t25 =>
        if t25 = 0 then
          (F_ref02_CheckRay n t22.1 t22.2.1 t22.2.2.1).bind fun t27 =>
          if t27 = 0 then
            (F_ref04_CheckDirection n t21.1 t21.2.1 t21.2.2.1).bind fun t29 =>
            if t29 = 0 then
              (F_ref04_CheckDirection n t22.1 t22.2.1 t22.2.2.1).bind fun t31 =>
              if t31 = 0 then
                (F_sun_Normal_2 n t21.1 t21.2.1 t21.2.2.1 t22.1 t22.2.1 t22.2.2.1).bind fun t33 =>
                if t33.2.2.2 = 0 then
                  (F_sun_Frame n t33.1 t33.2.1 t33.2.2.1).bind fun t35 =>
                  if t35.2.2.2.2.2.2 = 0 then
                    (F_ref04_CheckMirror n (⟨#[109]⟩) 0 0 500 t35.1 t35.2.1 t35.2.2.1 t35.2.2.2.1 t35.2.2.2.2.1 t35.2.2.2.2.2.1).bind fun t37 =>
                    if t37 = 0 then
                      (F_sun_Cosine n t33.1 t33.2.1 t33.2.2.1 t21.1 t21.2.1 t21.2.2.1).bind fun t39 =>
                      (F_field_Cosine n (⟨#[109]⟩) 0 0 500 t35.1 t35.2.1 t35.2.2.1 t35.2.2.2.1 t35.2.2.2.2.1 t35.2.2.2.2.2.1 t21.1 t21.2.1 t21.2.2.1).bind fun t40 =>
                      (F_field_Cosine n (⟨#[109]⟩) 0 0 500 t35.1 t35.2.1 t35.2.2.1 t35.2.2.2.1 t35.2.2.2.2.1 t35.2.2.2.2.2.1 t22.1 t22.2.1 t22.2.2.1).bind fun t41 =>
                      if t39.2.2.2 = 0 then
                        if t40.2.2.2 = 0 then
                          if t41.2.2.2 = 0 then
                            if t39.1 = 1 then
                              if t40.1 = 1 then
                                if t41.1 = 1 then
                                  if ((t40.2.1 == t39.2.1) && ((t40.2.2.1 == t39.2.2.1) && true)) = true then
                                    if ((t41.2.1 == t39.2.1) && ((t41.2.2.1 == t39.2.2.1) && true)) = true then
                                      if inI64 (1 + (Int.tmod (IntKind.wrap .i64 a8) 20)) then
                                      if inI64 (2 * (1 + (Int.tmod (IntKind.wrap .i64 a8) 20))) then
                                      (F_top_thistleAlong n 0 0 500 t22.1 t22.2.1 t22.2.2.1 (2 * (1 + (Int.tmod (IntKind.wrap .i64 a8) 20)))).bind fun t52 =>
                                      (F_top_thistleField n ([.agg [.v (.string ⟨#[109]⟩), I 0, I 0, I 500, I t35.1, I t35.2.1, I t35.2.2.1, I t35.2.2.2.1, I t35.2.2.2.2.1, I t35.2.2.2.2.2.1]])).bind fun t53 =>
                                      (F_field_Lit n t53 0 t21.1 t21.2.1 t21.2.2.1 t52.1 t52.2.1 t52.2.2 1).bind fun t54 =>
                                      (F_top_thistleAlong n 0 0 500 t22.1 t22.2.1 t22.2.2.1 (1 + (Int.tmod (IntKind.wrap .i64 a8) 20))).bind fun t55 =>
                                      (F_top_thistleField n ([.agg [.v (.string ⟨#[109]⟩), I 0, I 0, I 500, I t35.1, I t35.2.1, I t35.2.2.1, I t35.2.2.2.1, I t35.2.2.2.2.1, I t35.2.2.2.2.2.1], .agg [.v (.string ⟨#[104, 97, 108, 102]⟩), I t55.1, I t55.2.1, I t55.2.2, I t35.1, I t35.2.1, I t35.2.2.1, I t35.2.2.2.1, I t35.2.2.2.2.1, I t35.2.2.2.2.2.1]])).bind fun t56 =>
                                      (F_field_Lit n t56 0 t21.1 t21.2.1 t21.2.2.1 t52.1 t52.2.1 t52.2.2 1).bind fun t57 =>
                                      (F_top_thistleAlong n 0 0 500 t21.1 t21.2.1 t21.2.2.1 (1 + (Int.tmod (IntKind.wrap .i64 a8) 20))).bind fun t58 =>
                                      (F_top_thistleField n ([.agg [.v (.string ⟨#[109]⟩), I 0, I 0, I 500, I t35.1, I t35.2.1, I t35.2.2.1, I t35.2.2.2.1, I t35.2.2.2.2.1, I t35.2.2.2.2.2.1], .agg [.v (.string ⟨#[115, 104, 97, 100, 101]⟩), I t58.1, I t58.2.1, I t58.2.2, I t35.1, I t35.2.1, I t35.2.2.1, I t35.2.2.2.1, I t35.2.2.2.2.1, I t35.2.2.2.2.2.1]])).bind fun t59 =>
                                      (F_field_Lit n t59 0 t21.1 t21.2.1 t21.2.2.1 t52.1 t52.2.1 t52.2.2 1).bind fun t60 =>
                                      (F_top_thistleAlong n 0 0 500 t33.1 t33.2.1 t33.2.2.1 (-1)).bind fun t61 =>
                                      (F_top_thistleField n ([.agg [.v (.string ⟨#[109]⟩), I 0, I 0, I 500, I t35.1, I t35.2.1, I t35.2.2.1, I t35.2.2.2.1, I t35.2.2.2.2.1, I t35.2.2.2.2.2.1], .agg [.v (.string ⟨#[98, 101, 104, 105, 110, 100]⟩), I t61.1, I t61.2.1, I t61.2.2, I t35.1, I t35.2.1, I t35.2.2.1, I t35.2.2.2.1, I t35.2.2.2.2.1, I t35.2.2.2.2.2.1]])).bind fun t62 =>
                                      (F_field_Lit n t62 0 t21.1 t21.2.1 t21.2.2.1 t52.1 t52.2.1 t52.2.2 1).bind fun t63 =>
                                      if t54.2.2.2 = 0 then
                                        if t57.2.2.2 = 0 then
                                          if t60.2.2.2 = 0 then
                                            if t63.2.2.2 = 0 then
                                              if ((t54.1 == 0) && ((t54.2.1 == 0) && ((t54.2.2.1 == 1) && true))) = true then
                                                if t57.2.2.1 = 0 then
                                                  if inI64 (t57.1 + t57.2.1) then
                                                  if (t57.1 + t57.2.1) = 1 then
                                                    if ((t60.1 == 1) && ((t60.2.1 == 0) && ((t60.2.2.1 == 0) && true))) = true then
                                                      some ((t63.1 == t54.1) && ((t63.2.1 == t54.2.1) && ((t63.2.2.1 == t54.2.2.1) && true)))
                                                    else
                                                    none /- false -/
                                                  else
                                                  none /- false -/
                                                  else none
                                                else
                                                none /- false -/
                                              else
                                              none /- false -/
                                            else
                                            none /- false -/
                                          else
                                          none /- false -/
                                        else
                                        none /- false -/
                                      else
                                      none /- false -/
                                      else none
                                      else none
                                    else
                                    none /- false -/
                                  else
                                  none /- false -/
                                else
                                none /- false -/
                              else
                              none /- false -/
                            else
                            none /- false -/
                          else
                          none /- false -/
                        else
                        none /- false -/
                      else
                      none /- false -/
                    else
                    some (decide ((maxI (maxI (maxI (maxI (maxI (maxI (maxI (maxI (maxI (maxI (maxI t35.1 (IntKind.wrap .i64 (0 - t35.1))) t35.2.1) (IntKind.wrap .i64 (0 - t35.2.1))) t35.2.2.1) (IntKind.wrap .i64 (0 - t35.2.2.1))) t35.2.2.2.1) (IntKind.wrap .i64 (0 - t35.2.2.2.1))) t35.2.2.2.2.1) (IntKind.wrap .i64 (0 - t35.2.2.2.2.1))) t35.2.2.2.2.2.1) (IntKind.wrap .i64 (0 - t35.2.2.2.2.2.1))) > 64))
                  else
                  none /- false -/
                else
                if t33.2.2.2 = 6 then
                  (F_ref02_Opposite n t21.1 t21.2.1 t21.2.2.1 t22.1 t22.2.1 t22.2.2.1).bind fun t36 =>
                  some t36
                else
                none /- false -/
              else
              none /- false -/
            else
            none /- false -/
          else
          none /- false -/
        else
        none /- false -/
      else
      none /- false -/
    else
    none /- false -/
  else
  some t17
  else none
  else none
  else none
  else none
  else none
  else none
  else none
  else none
  else none
  else none
  else none
  else none
  else none
  else none
  else none
  else none
theorem c_top_TopThistleReflected {n : Nat} {a0 : Int} {a1 : Int} {a2 : Int} {a3 : Int} {a4 : Int} {a5 : Int} {a6 : Int} {a7 : Int} {a8 : Int} {r : Bool} (h : F_top_TopThistleReflected n a0 a1 a2 a3 a4 a5 a6 a7 a8 = some r) : Computes cx 3 [.agg [.v (.int .i8 a0), .v (.int .i8 a1), .v (.int .i8 a2), .v (.int .i8 a3)], .agg [.v (.int .i8 a4), .v (.int .i8 a5), .v (.int .i8 a6), .v (.int .i8 a7)], .v (.int .u8 a8)] (B r) := by
  unfold F_top_TopThistleReflected at h
  obtain ⟨h1, h⟩ := grd_of h
  obtain ⟨h2, h⟩ := grd_of h
  obtain ⟨h3, h⟩ := grd_of h
  obtain ⟨h4, h⟩ := grd_of h
  obtain ⟨h5, h⟩ := grd_of h
  obtain ⟨h6, h⟩ := grd_of h
  obtain ⟨h7, h⟩ := grd_of h
  obtain ⟨h8, h⟩ := grd_of h
  obtain ⟨h9, h⟩ := grd_of h
  obtain ⟨h10, h⟩ := grd_of h
  obtain ⟨h11, h⟩ := grd_of h
  obtain ⟨h12, h⟩ := grd_of h
  obtain ⟨h13, h⟩ := grd_of h
  obtain ⟨h14, h⟩ := grd_of h
  obtain ⟨h15, h⟩ := grd_of h
  obtain ⟨h16, h⟩ := grd_of h
  obtain ⟨t17, h17, h⟩ := bnd_of h
  by_cases h18 : t17 = true
  · replace h := ite_t h h18
    by_cases h19 : ((((0 + ((Int.tmod (IntKind.wrap .i64 a0) 4) * (Int.tmod (IntKind.wrap .i64 a0) 4))) + ((Int.tmod (IntKind.wrap .i64 a1) 4) * (Int.tmod (IntKind.wrap .i64 a1) 4))) + ((Int.tmod (IntKind.wrap .i64 a2) 4) * (Int.tmod (IntKind.wrap .i64 a2) 4))) + ((Int.tmod (IntKind.wrap .i64 a3) 4) * (Int.tmod (IntKind.wrap .i64 a3) 4))) = 0
    · replace h := ite_t h h19
      replace h := Option.some.inj h
      subst h
      exact run (n := 100) (f := 3) (args := [.agg [.v (.int .i8 a0), .v (.int .i8 a1), .v (.int .i8 a2), .v (.int .i8 a3)], .agg [.v (.int .i8 a4), .v (.int .i8 a5), .v (.int .i8 a6), .v (.int .i8 a7)], .v (.int .u8 a8)]) (orc := [.no, .no, .no, .no, .no, .no, .no, .no, .no, .no, .ret (B t17), .br false, .br true, .no, .ret (B t17)]) (r := B t17) (ob := [Computes cx 5 [] (B t17), (((((0 + ((Int.tmod (IntKind.wrap .i64 a0) 4) * (Int.tmod (IntKind.wrap .i64 a0) 4))) + ((Int.tmod (IntKind.wrap .i64 a1) 4) * (Int.tmod (IntKind.wrap .i64 a1) 4))) + ((Int.tmod (IntKind.wrap .i64 a2) 4) * (Int.tmod (IntKind.wrap .i64 a2) 4))) + ((Int.tmod (IntKind.wrap .i64 a3) 4) * (Int.tmod (IntKind.wrap .i64 a3) 4))) == 0) = true, (!t17) = false, Computes cx 5 [] (B t17), inI64 4, inI64 ((((0 + ((Int.tmod (IntKind.wrap .i64 a4) 4) * (Int.tmod (IntKind.wrap .i64 a4) 4))) + ((Int.tmod (IntKind.wrap .i64 a5) 4) * (Int.tmod (IntKind.wrap .i64 a5) 4))) + ((Int.tmod (IntKind.wrap .i64 a6) 4) * (Int.tmod (IntKind.wrap .i64 a6) 4))) + ((Int.tmod (IntKind.wrap .i64 a7) 4) * (Int.tmod (IntKind.wrap .i64 a7) 4))), inI64 ((Int.tmod (IntKind.wrap .i64 a7) 4) * (Int.tmod (IntKind.wrap .i64 a7) 4)), inI64 ((((0 + ((Int.tmod (IntKind.wrap .i64 a0) 4) * (Int.tmod (IntKind.wrap .i64 a0) 4))) + ((Int.tmod (IntKind.wrap .i64 a1) 4) * (Int.tmod (IntKind.wrap .i64 a1) 4))) + ((Int.tmod (IntKind.wrap .i64 a2) 4) * (Int.tmod (IntKind.wrap .i64 a2) 4))) + ((Int.tmod (IntKind.wrap .i64 a3) 4) * (Int.tmod (IntKind.wrap .i64 a3) 4))), inI64 ((Int.tmod (IntKind.wrap .i64 a3) 4) * (Int.tmod (IntKind.wrap .i64 a3) 4)), (4 : Int) ≠ 0, (4 : Int) ≠ 0, inI64 3, inI64 (((0 + ((Int.tmod (IntKind.wrap .i64 a4) 4) * (Int.tmod (IntKind.wrap .i64 a4) 4))) + ((Int.tmod (IntKind.wrap .i64 a5) 4) * (Int.tmod (IntKind.wrap .i64 a5) 4))) + ((Int.tmod (IntKind.wrap .i64 a6) 4) * (Int.tmod (IntKind.wrap .i64 a6) 4))), inI64 ((Int.tmod (IntKind.wrap .i64 a6) 4) * (Int.tmod (IntKind.wrap .i64 a6) 4)), inI64 (((0 + ((Int.tmod (IntKind.wrap .i64 a0) 4) * (Int.tmod (IntKind.wrap .i64 a0) 4))) + ((Int.tmod (IntKind.wrap .i64 a1) 4) * (Int.tmod (IntKind.wrap .i64 a1) 4))) + ((Int.tmod (IntKind.wrap .i64 a2) 4) * (Int.tmod (IntKind.wrap .i64 a2) 4))), inI64 ((Int.tmod (IntKind.wrap .i64 a2) 4) * (Int.tmod (IntKind.wrap .i64 a2) 4)), (4 : Int) ≠ 0, (4 : Int) ≠ 0, inI64 2, inI64 ((0 + ((Int.tmod (IntKind.wrap .i64 a4) 4) * (Int.tmod (IntKind.wrap .i64 a4) 4))) + ((Int.tmod (IntKind.wrap .i64 a5) 4) * (Int.tmod (IntKind.wrap .i64 a5) 4))), inI64 ((Int.tmod (IntKind.wrap .i64 a5) 4) * (Int.tmod (IntKind.wrap .i64 a5) 4)), inI64 ((0 + ((Int.tmod (IntKind.wrap .i64 a0) 4) * (Int.tmod (IntKind.wrap .i64 a0) 4))) + ((Int.tmod (IntKind.wrap .i64 a1) 4) * (Int.tmod (IntKind.wrap .i64 a1) 4))), inI64 ((Int.tmod (IntKind.wrap .i64 a1) 4) * (Int.tmod (IntKind.wrap .i64 a1) 4)), (4 : Int) ≠ 0, (4 : Int) ≠ 0, inI64 1, inI64 (0 + ((Int.tmod (IntKind.wrap .i64 a4) 4) * (Int.tmod (IntKind.wrap .i64 a4) 4))), inI64 ((Int.tmod (IntKind.wrap .i64 a4) 4) * (Int.tmod (IntKind.wrap .i64 a4) 4)), inI64 (0 + ((Int.tmod (IntKind.wrap .i64 a0) 4) * (Int.tmod (IntKind.wrap .i64 a0) 4))), inI64 ((Int.tmod (IntKind.wrap .i64 a0) 4) * (Int.tmod (IntKind.wrap .i64 a0) 4)), (4 : Int) ≠ 0, (4 : Int) ≠ 0]) (e_top_TopThistleReflected_0 a0 a1 a2 a3 a4 a5 a6 a7 a8 t17) ⟨(c_top_thistleLevel h17), (eqt h19), (notf h18), (c_top_thistleLevel h17), (by unfold inI64; omega), h16, h15, h14, h13, (by decide), (by decide), (by unfold inI64; omega), h12, h11, h10, h9, (by decide), (by decide), (by unfold inI64; omega), h8, h7, h6, h5, (by decide), (by decide), (by unfold inI64; omega), h4, h3, h2, h1, (by decide), (by decide), trivial⟩
    · replace h := ite_f h h19
      by_cases h20 : ((((0 + ((Int.tmod (IntKind.wrap .i64 a4) 4) * (Int.tmod (IntKind.wrap .i64 a4) 4))) + ((Int.tmod (IntKind.wrap .i64 a5) 4) * (Int.tmod (IntKind.wrap .i64 a5) 4))) + ((Int.tmod (IntKind.wrap .i64 a6) 4) * (Int.tmod (IntKind.wrap .i64 a6) 4))) + ((Int.tmod (IntKind.wrap .i64 a7) 4) * (Int.tmod (IntKind.wrap .i64 a7) 4))) = 0
      · replace h := ite_t h h20
        replace h := Option.some.inj h
        subst h
        exact run (n := 100) (f := 3) (args := [.agg [.v (.int .i8 a0), .v (.int .i8 a1), .v (.int .i8 a2), .v (.int .i8 a3)], .agg [.v (.int .i8 a4), .v (.int .i8 a5), .v (.int .i8 a6), .v (.int .i8 a7)], .v (.int .u8 a8)]) (orc := [.no, .no, .no, .no, .no, .no, .no, .no, .no, .no, .ret (B t17), .br false, .br false, .br true, .ret (B t17)]) (r := B t17) (ob := [Computes cx 5 [] (B t17), (((((0 + ((Int.tmod (IntKind.wrap .i64 a4) 4) * (Int.tmod (IntKind.wrap .i64 a4) 4))) + ((Int.tmod (IntKind.wrap .i64 a5) 4) * (Int.tmod (IntKind.wrap .i64 a5) 4))) + ((Int.tmod (IntKind.wrap .i64 a6) 4) * (Int.tmod (IntKind.wrap .i64 a6) 4))) + ((Int.tmod (IntKind.wrap .i64 a7) 4) * (Int.tmod (IntKind.wrap .i64 a7) 4))) == 0) = true, (((((0 + ((Int.tmod (IntKind.wrap .i64 a0) 4) * (Int.tmod (IntKind.wrap .i64 a0) 4))) + ((Int.tmod (IntKind.wrap .i64 a1) 4) * (Int.tmod (IntKind.wrap .i64 a1) 4))) + ((Int.tmod (IntKind.wrap .i64 a2) 4) * (Int.tmod (IntKind.wrap .i64 a2) 4))) + ((Int.tmod (IntKind.wrap .i64 a3) 4) * (Int.tmod (IntKind.wrap .i64 a3) 4))) == 0) = false, (!t17) = false, Computes cx 5 [] (B t17), inI64 4, inI64 ((((0 + ((Int.tmod (IntKind.wrap .i64 a4) 4) * (Int.tmod (IntKind.wrap .i64 a4) 4))) + ((Int.tmod (IntKind.wrap .i64 a5) 4) * (Int.tmod (IntKind.wrap .i64 a5) 4))) + ((Int.tmod (IntKind.wrap .i64 a6) 4) * (Int.tmod (IntKind.wrap .i64 a6) 4))) + ((Int.tmod (IntKind.wrap .i64 a7) 4) * (Int.tmod (IntKind.wrap .i64 a7) 4))), inI64 ((Int.tmod (IntKind.wrap .i64 a7) 4) * (Int.tmod (IntKind.wrap .i64 a7) 4)), inI64 ((((0 + ((Int.tmod (IntKind.wrap .i64 a0) 4) * (Int.tmod (IntKind.wrap .i64 a0) 4))) + ((Int.tmod (IntKind.wrap .i64 a1) 4) * (Int.tmod (IntKind.wrap .i64 a1) 4))) + ((Int.tmod (IntKind.wrap .i64 a2) 4) * (Int.tmod (IntKind.wrap .i64 a2) 4))) + ((Int.tmod (IntKind.wrap .i64 a3) 4) * (Int.tmod (IntKind.wrap .i64 a3) 4))), inI64 ((Int.tmod (IntKind.wrap .i64 a3) 4) * (Int.tmod (IntKind.wrap .i64 a3) 4)), (4 : Int) ≠ 0, (4 : Int) ≠ 0, inI64 3, inI64 (((0 + ((Int.tmod (IntKind.wrap .i64 a4) 4) * (Int.tmod (IntKind.wrap .i64 a4) 4))) + ((Int.tmod (IntKind.wrap .i64 a5) 4) * (Int.tmod (IntKind.wrap .i64 a5) 4))) + ((Int.tmod (IntKind.wrap .i64 a6) 4) * (Int.tmod (IntKind.wrap .i64 a6) 4))), inI64 ((Int.tmod (IntKind.wrap .i64 a6) 4) * (Int.tmod (IntKind.wrap .i64 a6) 4)), inI64 (((0 + ((Int.tmod (IntKind.wrap .i64 a0) 4) * (Int.tmod (IntKind.wrap .i64 a0) 4))) + ((Int.tmod (IntKind.wrap .i64 a1) 4) * (Int.tmod (IntKind.wrap .i64 a1) 4))) + ((Int.tmod (IntKind.wrap .i64 a2) 4) * (Int.tmod (IntKind.wrap .i64 a2) 4))), inI64 ((Int.tmod (IntKind.wrap .i64 a2) 4) * (Int.tmod (IntKind.wrap .i64 a2) 4)), (4 : Int) ≠ 0, (4 : Int) ≠ 0, inI64 2, inI64 ((0 + ((Int.tmod (IntKind.wrap .i64 a4) 4) * (Int.tmod (IntKind.wrap .i64 a4) 4))) + ((Int.tmod (IntKind.wrap .i64 a5) 4) * (Int.tmod (IntKind.wrap .i64 a5) 4))), inI64 ((Int.tmod (IntKind.wrap .i64 a5) 4) * (Int.tmod (IntKind.wrap .i64 a5) 4)), inI64 ((0 + ((Int.tmod (IntKind.wrap .i64 a0) 4) * (Int.tmod (IntKind.wrap .i64 a0) 4))) + ((Int.tmod (IntKind.wrap .i64 a1) 4) * (Int.tmod (IntKind.wrap .i64 a1) 4))), inI64 ((Int.tmod (IntKind.wrap .i64 a1) 4) * (Int.tmod (IntKind.wrap .i64 a1) 4)), (4 : Int) ≠ 0, (4 : Int) ≠ 0, inI64 1, inI64 (0 + ((Int.tmod (IntKind.wrap .i64 a4) 4) * (Int.tmod (IntKind.wrap .i64 a4) 4))), inI64 ((Int.tmod (IntKind.wrap .i64 a4) 4) * (Int.tmod (IntKind.wrap .i64 a4) 4)), inI64 (0 + ((Int.tmod (IntKind.wrap .i64 a0) 4) * (Int.tmod (IntKind.wrap .i64 a0) 4))), inI64 ((Int.tmod (IntKind.wrap .i64 a0) 4) * (Int.tmod (IntKind.wrap .i64 a0) 4)), (4 : Int) ≠ 0, (4 : Int) ≠ 0]) (e_top_TopThistleReflected_1 a0 a1 a2 a3 a4 a5 a6 a7 a8 t17) ⟨(c_top_thistleLevel h17), (eqt h20), (eqf h19), (notf h18), (c_top_thistleLevel h17), (by unfold inI64; omega), h16, h15, h14, h13, (by decide), (by decide), (by unfold inI64; omega), h12, h11, h10, h9, (by decide), (by decide), (by unfold inI64; omega), h8, h7, h6, h5, (by decide), (by decide), (by unfold inI64; omega), h4, h3, h2, h1, (by decide), (by decide), trivial⟩
      · replace h := ite_f h h20
        obtain ⟨t21, h21, h⟩ := bnd_of h
        obtain ⟨t22, h22, h⟩ := bnd_of h
        by_cases h23 : t21.2.2.2 = 0
        · replace h := ite_t h h23
          by_cases h24 : t22.2.2.2 = 0
          · replace h := ite_t h h24
            obtain ⟨t25, h25, h⟩ := bnd_of h
            by_cases h26 : t25 = 0
            · replace h := ite_t h h26
              obtain ⟨t27, h27, h⟩ := bnd_of h
              by_cases h28 : t27 = 0
              · replace h := ite_t h h28
                obtain ⟨t29, h29, h⟩ := bnd_of h
                by_cases h30 : t29 = 0
                · replace h := ite_t h h30
                  obtain ⟨t31, h31, h⟩ := bnd_of h
                  by_cases h32 : t31 = 0
                  · replace h := ite_t h h32
                    obtain ⟨t33, h33, h⟩ := bnd_of h
                    by_cases h34 : t33.2.2.2 = 0
                    · replace h := ite_t h h34
                      obtain ⟨t35, h35, h⟩ := bnd_of h
                      by_cases h36 : t35.2.2.2.2.2.2 = 0
                      · replace h := ite_t h h36
                        obtain ⟨t37, h37, h⟩ := bnd_of h
                        by_cases h38 : t37 = 0
                        · replace h := ite_t h h38
                          obtain ⟨t39, h39, h⟩ := bnd_of h
                          obtain ⟨t40, h40, h⟩ := bnd_of h
                          obtain ⟨t41, h41, h⟩ := bnd_of h
                          by_cases h42 : t39.2.2.2 = 0
                          · replace h := ite_t h h42
                            by_cases h43 : t40.2.2.2 = 0
                            · replace h := ite_t h h43
                              by_cases h44 : t41.2.2.2 = 0
                              · replace h := ite_t h h44
                                by_cases h45 : t39.1 = 1
                                · replace h := ite_t h h45
                                  by_cases h46 : t40.1 = 1
                                  · replace h := ite_t h h46
                                    by_cases h47 : t41.1 = 1
                                    · replace h := ite_t h h47
                                      by_cases h48 : ((t40.2.1 == t39.2.1) && ((t40.2.2.1 == t39.2.2.1) && true)) = true
                                      · replace h := ite_t h h48
                                        by_cases h49 : ((t41.2.1 == t39.2.1) && ((t41.2.2.1 == t39.2.2.1) && true)) = true
                                        · replace h := ite_t h h49
                                          obtain ⟨h50, h⟩ := grd_of h
                                          obtain ⟨h51, h⟩ := grd_of h
                                          obtain ⟨t52, h52, h⟩ := bnd_of h
                                          obtain ⟨t53, h53, h⟩ := bnd_of h
                                          obtain ⟨t54, h54, h⟩ := bnd_of h
                                          obtain ⟨t55, h55, h⟩ := bnd_of h
                                          obtain ⟨t56, h56, h⟩ := bnd_of h
                                          obtain ⟨t57, h57, h⟩ := bnd_of h
                                          obtain ⟨t58, h58, h⟩ := bnd_of h
                                          obtain ⟨t59, h59, h⟩ := bnd_of h
                                          obtain ⟨t60, h60, h⟩ := bnd_of h
                                          obtain ⟨t61, h61, h⟩ := bnd_of h
                                          obtain ⟨t62, h62, h⟩ := bnd_of h
                                          obtain ⟨t63, h63, h⟩ := bnd_of h
                                          by_cases h64 : t54.2.2.2 = 0
                                          · replace h := ite_t h h64
                                            by_cases h65 : t57.2.2.2 = 0
                                            · replace h := ite_t h h65
                                              by_cases h66 : t60.2.2.2 = 0
                                              · replace h := ite_t h h66
                                                by_cases h67 : t63.2.2.2 = 0
                                                · replace h := ite_t h h67
                                                  by_cases h68 : ((t54.1 == 0) && ((t54.2.1 == 0) && ((t54.2.2.1 == 1) && true))) = true
                                                  · replace h := ite_t h h68
                                                    by_cases h69 : t57.2.2.1 = 0
                                                    · replace h := ite_t h h69
                                                      obtain ⟨h70, h⟩ := grd_of h
                                                      by_cases h71 : (t57.1 + t57.2.1) = 1
                                                      · replace h := ite_t h h71
                                                        by_cases h72 : ((t60.1 == 1) && ((t60.2.1 == 0) && ((t60.2.2.1 == 0) && true))) = true
                                                        · replace h := ite_t h h72
                                                          replace h := Option.some.inj h
                                                          subst h
                                                          exact run (n := 100) (f := 3) (args := [.agg [.v (.int .i8 a0), .v (.int .i8 a1), .v (.int .i8 a2), .v (.int .i8 a3)], .agg [.v (.int .i8 a4), .v (.int .i8 a5), .v (.int .i8 a6), .v (.int .i8 a7)], .v (.int .u8 a8)]) (orc := [.no, .no, .no, .no, .no, .no, .no, .no, .no, .no, .ret (B t17), .br false, .br false, .br false, .ret (.tup [.agg [I t21.1, I t21.2.1, I t21.2.2.1], I t21.2.2.2]), .ret (.tup [.agg [I t22.1, I t22.2.1, I t22.2.2.1], I t22.2.2.2]), .br false, .br false, .ret (I t25), .br false, .ret (I t27), .br false, .ret (I t29), .br false, .ret (I t31), .br false, .ret (.tup [.agg [I t33.1, I t33.2.1, I t33.2.2.1], I t33.2.2.2]), .br false, .ret (.tup [.agg [I t35.1, I t35.2.1, I t35.2.2.1, I t35.2.2.2.1, I t35.2.2.2.2.1, I t35.2.2.2.2.2.1], I t35.2.2.2.2.2.2]), .br false, .ret (I t37), .br false, .ret (.tup [I t39.1, .agg [I t39.2.1, I t39.2.2.1], I t39.2.2.2]), .ret (.tup [I t40.1, .agg [I t40.2.1, I t40.2.2.1], I t40.2.2.2]), .ret (.tup [I t41.1, .agg [I t41.2.1, I t41.2.2.1], I t41.2.2.2]), .br false, .br false, .br false, .br false, .br false, .br false, .br false, .br false, .ret (.agg [I t52.1, I t52.2.1, I t52.2.2]), .br true, .ret (.lst false 10 t53), .ret (.tup [.agg [I t54.1, I t54.2.1, I t54.2.2.1], I t54.2.2.2]), .ret (.agg [I t55.1, I t55.2.1, I t55.2.2]), .no, .no, .ret (.lst false 10 t56), .ret (.tup [.agg [I t57.1, I t57.2.1, I t57.2.2.1], I t57.2.2.2]), .ret (.agg [I t58.1, I t58.2.1, I t58.2.2]), .no, .no, .ret (.lst false 10 t59), .ret (.tup [.agg [I t60.1, I t60.2.1, I t60.2.2.1], I t60.2.2.2]), .ret (.agg [I t61.1, I t61.2.1, I t61.2.2]), .no, .no, .ret (.lst false 10 t62), .ret (.tup [.agg [I t63.1, I t63.2.1, I t63.2.2.1], I t63.2.2.2]), .br true, .br true, .br true, .br true, .br true, .br true, .br true, .br true]) (r := B ((t63.1 == t54.1) && ((t63.2.1 == t54.2.1) && ((t63.2.2.1 == t54.2.2.1) && true)))) (ob := [((t60.1 == 1) && ((t60.2.1 == 0) && ((t60.2.2.1 == 0) && true))) = true, ((t57.1 + t57.2.1) == 1) = true, inI64 (t57.1 + t57.2.1), (t57.2.2.1 == 0) = true, ((t54.1 == 0) && ((t54.2.1 == 0) && ((t54.2.2.1 == 1) && true))) = true, (t63.2.2.2 == 0) = true, (t60.2.2.2 == 0) = true, (t57.2.2.2 == 0) = true, (t54.2.2.2 == 0) = true, Computes cx 18 [.lst false 10 t62, I 0, .agg [I t21.1, I t21.2.1, I t21.2.2.1], .agg [I t52.1, I t52.2.1, I t52.2.2], I 1] (.tup [.agg [I t63.1, I t63.2.1, I t63.2.2.1], I t63.2.2.2]), Computes cx 19 [.lst true 10 [.agg [.v (.string ⟨#[109]⟩), I 0, I 0, I 500, I t35.1, I t35.2.1, I t35.2.2.1, I t35.2.2.2.1, I t35.2.2.2.2.1, I t35.2.2.2.2.2.1], .agg [.v (.string ⟨#[98, 101, 104, 105, 110, 100]⟩), I t61.1, I t61.2.1, I t61.2.2, I t35.1, I t35.2.1, I t35.2.2.1, I t35.2.2.2.1, I t35.2.2.2.2.1, I t35.2.2.2.2.2.1]]] (.lst false 10 t62), Computes cx 15 [.agg [I 0, I 0, I 500], .agg [I t33.1, I t33.2.1, I t33.2.2.1], I (-1)] (.agg [I t61.1, I t61.2.1, I t61.2.2]), Computes cx 18 [.lst false 10 t59, I 0, .agg [I t21.1, I t21.2.1, I t21.2.2.1], .agg [I t52.1, I t52.2.1, I t52.2.2], I 1] (.tup [.agg [I t60.1, I t60.2.1, I t60.2.2.1], I t60.2.2.2]), Computes cx 19 [.lst true 10 [.agg [.v (.string ⟨#[109]⟩), I 0, I 0, I 500, I t35.1, I t35.2.1, I t35.2.2.1, I t35.2.2.2.1, I t35.2.2.2.2.1, I t35.2.2.2.2.2.1], .agg [.v (.string ⟨#[115, 104, 97, 100, 101]⟩), I t58.1, I t58.2.1, I t58.2.2, I t35.1, I t35.2.1, I t35.2.2.1, I t35.2.2.2.1, I t35.2.2.2.2.1, I t35.2.2.2.2.2.1]]] (.lst false 10 t59), Computes cx 15 [.agg [I 0, I 0, I 500], .agg [I t21.1, I t21.2.1, I t21.2.2.1], I (1 + (Int.tmod (IntKind.wrap .i64 a8) 20))] (.agg [I t58.1, I t58.2.1, I t58.2.2]), Computes cx 18 [.lst false 10 t56, I 0, .agg [I t21.1, I t21.2.1, I t21.2.2.1], .agg [I t52.1, I t52.2.1, I t52.2.2], I 1] (.tup [.agg [I t57.1, I t57.2.1, I t57.2.2.1], I t57.2.2.2]), Computes cx 19 [.lst true 10 [.agg [.v (.string ⟨#[109]⟩), I 0, I 0, I 500, I t35.1, I t35.2.1, I t35.2.2.1, I t35.2.2.2.1, I t35.2.2.2.2.1, I t35.2.2.2.2.2.1], .agg [.v (.string ⟨#[104, 97, 108, 102]⟩), I t55.1, I t55.2.1, I t55.2.2, I t35.1, I t35.2.1, I t35.2.2.1, I t35.2.2.2.1, I t35.2.2.2.2.1, I t35.2.2.2.2.2.1]]] (.lst false 10 t56), Computes cx 15 [.agg [I 0, I 0, I 500], .agg [I t22.1, I t22.2.1, I t22.2.2.1], I (1 + (Int.tmod (IntKind.wrap .i64 a8) 20))] (.agg [I t55.1, I t55.2.1, I t55.2.2]), Computes cx 18 [.lst false 10 t53, I 0, .agg [I t21.1, I t21.2.1, I t21.2.2.1], .agg [I t52.1, I t52.2.1, I t52.2.2], I 1] (.tup [.agg [I t54.1, I t54.2.1, I t54.2.2.1], I t54.2.2.2]), Computes cx 19 [.lst true 10 [.agg [.v (.string ⟨#[109]⟩), I 0, I 0, I 500, I t35.1, I t35.2.1, I t35.2.2.1, I t35.2.2.2.1, I t35.2.2.2.2.1, I t35.2.2.2.2.2.1]]] (.lst false 10 t53), Computes cx 15 [.agg [I 0, I 0, I 500], .agg [I t22.1, I t22.2.1, I t22.2.2.1], I (2 * (1 + (Int.tmod (IntKind.wrap .i64 a8) 20)))] (.agg [I t52.1, I t52.2.1, I t52.2.2]), inI64 (2 * (1 + (Int.tmod (IntKind.wrap .i64 a8) 20))), inI64 (1 + (Int.tmod (IntKind.wrap .i64 a8) 20)), (20 : Int) ≠ 0, (!((t41.2.1 == t39.2.1) && ((t41.2.2.1 == t39.2.2.1) && true))) = false, (!((t40.2.1 == t39.2.1) && ((t40.2.2.1 == t39.2.2.1) && true))) = false, (t41.1 != 1) = false, (t40.1 != 1) = false, (t39.1 != 1) = false, (t41.2.2.2 != 0) = false, (t40.2.2.2 != 0) = false, (t39.2.2.2 != 0) = false, Computes cx 14 [.agg [.v (.string ⟨#[109]⟩), I 0, I 0, I 500, I t35.1, I t35.2.1, I t35.2.2.1, I t35.2.2.2.1, I t35.2.2.2.2.1, I t35.2.2.2.2.2.1], .agg [I t22.1, I t22.2.1, I t22.2.2.1]] (.tup [I t41.1, .agg [I t41.2.1, I t41.2.2.1], I t41.2.2.2]), Computes cx 14 [.agg [.v (.string ⟨#[109]⟩), I 0, I 0, I 500, I t35.1, I t35.2.1, I t35.2.2.1, I t35.2.2.2.1, I t35.2.2.2.2.1, I t35.2.2.2.2.2.1], .agg [I t21.1, I t21.2.1, I t21.2.2.1]] (.tup [I t40.1, .agg [I t40.2.1, I t40.2.2.1], I t40.2.2.2]), Computes cx 13 [.agg [I t33.1, I t33.2.1, I t33.2.2.1], .agg [I t21.1, I t21.2.1, I t21.2.2.1]] (.tup [I t39.1, .agg [I t39.2.1, I t39.2.2.1], I t39.2.2.2]), (t37 != 0) = false, Computes cx 12 [.agg [.v (.string ⟨#[109]⟩), I 0, I 0, I 500, I t35.1, I t35.2.1, I t35.2.2.1, I t35.2.2.2.1, I t35.2.2.2.2.1, I t35.2.2.2.2.2.1]] (I t37), (t35.2.2.2.2.2.2 != 0) = false, Computes cx 11 [.agg [I t33.1, I t33.2.1, I t33.2.2.1]] (.tup [.agg [I t35.1, I t35.2.1, I t35.2.2.1, I t35.2.2.2.1, I t35.2.2.2.2.1, I t35.2.2.2.2.2.1], I t35.2.2.2.2.2.2]), (t33.2.2.2 != 0) = false, Computes cx 9 [.agg [I t21.1, I t21.2.1, I t21.2.2.1], .agg [I t22.1, I t22.2.1, I t22.2.2.1]] (.tup [.agg [I t33.1, I t33.2.1, I t33.2.2.1], I t33.2.2.2]), (t31 != 0) = false, Computes cx 8 [.agg [I t22.1, I t22.2.1, I t22.2.2.1]] (I t31), (t29 != 0) = false, Computes cx 8 [.agg [I t21.1, I t21.2.1, I t21.2.2.1]] (I t29), (t27 != 0) = false, Computes cx 7 [.agg [I t22.1, I t22.2.1, I t22.2.2.1]] (I t27), (t25 != 0) = false, Computes cx 7 [.agg [I t21.1, I t21.2.1, I t21.2.2.1]] (I t25), (t22.2.2.2 != 0) = false, (t21.2.2.2 != 0) = false, Computes cx 6 [.agg [I (Int.tmod (IntKind.wrap .i64 a4) 4), I (Int.tmod (IntKind.wrap .i64 a5) 4), I (Int.tmod (IntKind.wrap .i64 a6) 4), I (Int.tmod (IntKind.wrap .i64 a7) 4)]] (.tup [.agg [I t22.1, I t22.2.1, I t22.2.2.1], I t22.2.2.2]), Computes cx 6 [.agg [I (Int.tmod (IntKind.wrap .i64 a0) 4), I (Int.tmod (IntKind.wrap .i64 a1) 4), I (Int.tmod (IntKind.wrap .i64 a2) 4), I (Int.tmod (IntKind.wrap .i64 a3) 4)]] (.tup [.agg [I t21.1, I t21.2.1, I t21.2.2.1], I t21.2.2.2]), (((((0 + ((Int.tmod (IntKind.wrap .i64 a4) 4) * (Int.tmod (IntKind.wrap .i64 a4) 4))) + ((Int.tmod (IntKind.wrap .i64 a5) 4) * (Int.tmod (IntKind.wrap .i64 a5) 4))) + ((Int.tmod (IntKind.wrap .i64 a6) 4) * (Int.tmod (IntKind.wrap .i64 a6) 4))) + ((Int.tmod (IntKind.wrap .i64 a7) 4) * (Int.tmod (IntKind.wrap .i64 a7) 4))) == 0) = false, (((((0 + ((Int.tmod (IntKind.wrap .i64 a0) 4) * (Int.tmod (IntKind.wrap .i64 a0) 4))) + ((Int.tmod (IntKind.wrap .i64 a1) 4) * (Int.tmod (IntKind.wrap .i64 a1) 4))) + ((Int.tmod (IntKind.wrap .i64 a2) 4) * (Int.tmod (IntKind.wrap .i64 a2) 4))) + ((Int.tmod (IntKind.wrap .i64 a3) 4) * (Int.tmod (IntKind.wrap .i64 a3) 4))) == 0) = false, (!t17) = false, Computes cx 5 [] (B t17), inI64 4, inI64 ((((0 + ((Int.tmod (IntKind.wrap .i64 a4) 4) * (Int.tmod (IntKind.wrap .i64 a4) 4))) + ((Int.tmod (IntKind.wrap .i64 a5) 4) * (Int.tmod (IntKind.wrap .i64 a5) 4))) + ((Int.tmod (IntKind.wrap .i64 a6) 4) * (Int.tmod (IntKind.wrap .i64 a6) 4))) + ((Int.tmod (IntKind.wrap .i64 a7) 4) * (Int.tmod (IntKind.wrap .i64 a7) 4))), inI64 ((Int.tmod (IntKind.wrap .i64 a7) 4) * (Int.tmod (IntKind.wrap .i64 a7) 4)), inI64 ((((0 + ((Int.tmod (IntKind.wrap .i64 a0) 4) * (Int.tmod (IntKind.wrap .i64 a0) 4))) + ((Int.tmod (IntKind.wrap .i64 a1) 4) * (Int.tmod (IntKind.wrap .i64 a1) 4))) + ((Int.tmod (IntKind.wrap .i64 a2) 4) * (Int.tmod (IntKind.wrap .i64 a2) 4))) + ((Int.tmod (IntKind.wrap .i64 a3) 4) * (Int.tmod (IntKind.wrap .i64 a3) 4))), inI64 ((Int.tmod (IntKind.wrap .i64 a3) 4) * (Int.tmod (IntKind.wrap .i64 a3) 4)), (4 : Int) ≠ 0, (4 : Int) ≠ 0, inI64 3, inI64 (((0 + ((Int.tmod (IntKind.wrap .i64 a4) 4) * (Int.tmod (IntKind.wrap .i64 a4) 4))) + ((Int.tmod (IntKind.wrap .i64 a5) 4) * (Int.tmod (IntKind.wrap .i64 a5) 4))) + ((Int.tmod (IntKind.wrap .i64 a6) 4) * (Int.tmod (IntKind.wrap .i64 a6) 4))), inI64 ((Int.tmod (IntKind.wrap .i64 a6) 4) * (Int.tmod (IntKind.wrap .i64 a6) 4)), inI64 (((0 + ((Int.tmod (IntKind.wrap .i64 a0) 4) * (Int.tmod (IntKind.wrap .i64 a0) 4))) + ((Int.tmod (IntKind.wrap .i64 a1) 4) * (Int.tmod (IntKind.wrap .i64 a1) 4))) + ((Int.tmod (IntKind.wrap .i64 a2) 4) * (Int.tmod (IntKind.wrap .i64 a2) 4))), inI64 ((Int.tmod (IntKind.wrap .i64 a2) 4) * (Int.tmod (IntKind.wrap .i64 a2) 4)), (4 : Int) ≠ 0, (4 : Int) ≠ 0, inI64 2, inI64 ((0 + ((Int.tmod (IntKind.wrap .i64 a4) 4) * (Int.tmod (IntKind.wrap .i64 a4) 4))) + ((Int.tmod (IntKind.wrap .i64 a5) 4) * (Int.tmod (IntKind.wrap .i64 a5) 4))), inI64 ((Int.tmod (IntKind.wrap .i64 a5) 4) * (Int.tmod (IntKind.wrap .i64 a5) 4)), inI64 ((0 + ((Int.tmod (IntKind.wrap .i64 a0) 4) * (Int.tmod (IntKind.wrap .i64 a0) 4))) + ((Int.tmod (IntKind.wrap .i64 a1) 4) * (Int.tmod (IntKind.wrap .i64 a1) 4))), inI64 ((Int.tmod (IntKind.wrap .i64 a1) 4) * (Int.tmod (IntKind.wrap .i64 a1) 4)), (4 : Int) ≠ 0, (4 : Int) ≠ 0, inI64 1, inI64 (0 + ((Int.tmod (IntKind.wrap .i64 a4) 4) * (Int.tmod (IntKind.wrap .i64 a4) 4))), inI64 ((Int.tmod (IntKind.wrap .i64 a4) 4) * (Int.tmod (IntKind.wrap .i64 a4) 4)), inI64 (0 + ((Int.tmod (IntKind.wrap .i64 a0) 4) * (Int.tmod (IntKind.wrap .i64 a0) 4))), inI64 ((Int.tmod (IntKind.wrap .i64 a0) 4) * (Int.tmod (IntKind.wrap .i64 a0) 4)), (4 : Int) ≠ 0, (4 : Int) ≠ 0]) (e_top_TopThistleReflected_2 a0 a1 a2 a3 a4 a5 a6 a7 a8 t17 t21 t22 t25 t27 t29 t31 t33 t35 t37 t39 t40 t41 t52 t53 t54 t55 t56 t57 t58 t59 t60 t61 t62 t63) ⟨h72, (eqt h71), h70, (eqt h69), h68, (eqt h67), (eqt h66), (eqt h65), (eqt h64), (c_field_Lit h63), ((c_top_thistleField h62).le (.cons (.full _ _ _) (.nil)) (.refl _)), (c_top_thistleAlong h61), (c_field_Lit h60), ((c_top_thistleField h59).le (.cons (.full _ _ _) (.nil)) (.refl _)), (c_top_thistleAlong h58), (c_field_Lit h57), ((c_top_thistleField h56).le (.cons (.full _ _ _) (.nil)) (.refl _)), (c_top_thistleAlong h55), (c_field_Lit h54), ((c_top_thistleField h53).le (.cons (.full _ _ _) (.nil)) (.refl _)), (c_top_thistleAlong h52), h51, h50, (by decide), (notf h49), (notf h48), (nef h47), (nef h46), (nef h45), (nef h44), (nef h43), (nef h42), (c_field_Cosine h41), (c_field_Cosine h40), (c_sun_Cosine h39), (nef h38), (c_ref04_CheckMirror h37), (nef h36), (c_sun_Frame h35), (nef h34), (c_sun_Normal_2 h33), (nef h32), (c_ref04_CheckDirection h31), (nef h30), (c_ref04_CheckDirection h29), (nef h28), (c_ref02_CheckRay h27), (nef h26), (c_ref02_CheckRay h25), (nef h24), (nef h23), (c_sun_Whole h22), (c_sun_Whole h21), (eqf h20), (eqf h19), (notf h18), (c_top_thistleLevel h17), (by unfold inI64; omega), h16, h15, h14, h13, (by decide), (by decide), (by unfold inI64; omega), h12, h11, h10, h9, (by decide), (by decide), (by unfold inI64; omega), h8, h7, h6, h5, (by decide), (by decide), (by unfold inI64; omega), h4, h3, h2, h1, (by decide), (by decide), trivial⟩
                                                        · replace h := ite_f h h72
                                                          cases h
                                                      · replace h := ite_f h h71
                                                        cases h
                                                    · replace h := ite_f h h69
                                                      cases h
                                                  · replace h := ite_f h h68
                                                    cases h
                                                · replace h := ite_f h h67
                                                  cases h
                                              · replace h := ite_f h h66
                                                cases h
                                            · replace h := ite_f h h65
                                              cases h
                                          · replace h := ite_f h h64
                                            cases h
                                        · replace h := ite_f h h49
                                          cases h
                                      · replace h := ite_f h h48
                                        cases h
                                    · replace h := ite_f h h47
                                      cases h
                                  · replace h := ite_f h h46
                                    cases h
                                · replace h := ite_f h h45
                                  cases h
                              · replace h := ite_f h h44
                                cases h
                            · replace h := ite_f h h43
                              cases h
                          · replace h := ite_f h h42
                            cases h
                        · replace h := ite_f h h38
                          replace h := Option.some.inj h
                          subst h
                          exact run (n := 100) (f := 3) (args := [.agg [.v (.int .i8 a0), .v (.int .i8 a1), .v (.int .i8 a2), .v (.int .i8 a3)], .agg [.v (.int .i8 a4), .v (.int .i8 a5), .v (.int .i8 a6), .v (.int .i8 a7)], .v (.int .u8 a8)]) (orc := [.no, .no, .no, .no, .no, .no, .no, .no, .no, .no, .ret (B t17), .br false, .br false, .br false, .ret (.tup [.agg [I t21.1, I t21.2.1, I t21.2.2.1], I t21.2.2.2]), .ret (.tup [.agg [I t22.1, I t22.2.1, I t22.2.2.1], I t22.2.2.2]), .br false, .br false, .ret (I t25), .br false, .ret (I t27), .br false, .ret (I t29), .br false, .ret (I t31), .br false, .ret (.tup [.agg [I t33.1, I t33.2.1, I t33.2.2.1], I t33.2.2.2]), .br false, .ret (.tup [.agg [I t35.1, I t35.2.1, I t35.2.2.1, I t35.2.2.2.1, I t35.2.2.2.2.1, I t35.2.2.2.2.2.1], I t35.2.2.2.2.2.2]), .br false, .ret (I t37), .br true]) (r := B (decide ((maxI (maxI (maxI (maxI (maxI (maxI (maxI (maxI (maxI (maxI (maxI t35.1 (IntKind.wrap .i64 (0 - t35.1))) t35.2.1) (IntKind.wrap .i64 (0 - t35.2.1))) t35.2.2.1) (IntKind.wrap .i64 (0 - t35.2.2.1))) t35.2.2.2.1) (IntKind.wrap .i64 (0 - t35.2.2.2.1))) t35.2.2.2.2.1) (IntKind.wrap .i64 (0 - t35.2.2.2.2.1))) t35.2.2.2.2.2.1) (IntKind.wrap .i64 (0 - t35.2.2.2.2.2.1))) > 64))) (ob := [(t37 != 0) = true, Computes cx 12 [.agg [.v (.string ⟨#[109]⟩), I 0, I 0, I 500, I t35.1, I t35.2.1, I t35.2.2.1, I t35.2.2.2.1, I t35.2.2.2.2.1, I t35.2.2.2.2.2.1]] (I t37), (t35.2.2.2.2.2.2 != 0) = false, Computes cx 11 [.agg [I t33.1, I t33.2.1, I t33.2.2.1]] (.tup [.agg [I t35.1, I t35.2.1, I t35.2.2.1, I t35.2.2.2.1, I t35.2.2.2.2.1, I t35.2.2.2.2.2.1], I t35.2.2.2.2.2.2]), (t33.2.2.2 != 0) = false, Computes cx 9 [.agg [I t21.1, I t21.2.1, I t21.2.2.1], .agg [I t22.1, I t22.2.1, I t22.2.2.1]] (.tup [.agg [I t33.1, I t33.2.1, I t33.2.2.1], I t33.2.2.2]), (t31 != 0) = false, Computes cx 8 [.agg [I t22.1, I t22.2.1, I t22.2.2.1]] (I t31), (t29 != 0) = false, Computes cx 8 [.agg [I t21.1, I t21.2.1, I t21.2.2.1]] (I t29), (t27 != 0) = false, Computes cx 7 [.agg [I t22.1, I t22.2.1, I t22.2.2.1]] (I t27), (t25 != 0) = false, Computes cx 7 [.agg [I t21.1, I t21.2.1, I t21.2.2.1]] (I t25), (t22.2.2.2 != 0) = false, (t21.2.2.2 != 0) = false, Computes cx 6 [.agg [I (Int.tmod (IntKind.wrap .i64 a4) 4), I (Int.tmod (IntKind.wrap .i64 a5) 4), I (Int.tmod (IntKind.wrap .i64 a6) 4), I (Int.tmod (IntKind.wrap .i64 a7) 4)]] (.tup [.agg [I t22.1, I t22.2.1, I t22.2.2.1], I t22.2.2.2]), Computes cx 6 [.agg [I (Int.tmod (IntKind.wrap .i64 a0) 4), I (Int.tmod (IntKind.wrap .i64 a1) 4), I (Int.tmod (IntKind.wrap .i64 a2) 4), I (Int.tmod (IntKind.wrap .i64 a3) 4)]] (.tup [.agg [I t21.1, I t21.2.1, I t21.2.2.1], I t21.2.2.2]), (((((0 + ((Int.tmod (IntKind.wrap .i64 a4) 4) * (Int.tmod (IntKind.wrap .i64 a4) 4))) + ((Int.tmod (IntKind.wrap .i64 a5) 4) * (Int.tmod (IntKind.wrap .i64 a5) 4))) + ((Int.tmod (IntKind.wrap .i64 a6) 4) * (Int.tmod (IntKind.wrap .i64 a6) 4))) + ((Int.tmod (IntKind.wrap .i64 a7) 4) * (Int.tmod (IntKind.wrap .i64 a7) 4))) == 0) = false, (((((0 + ((Int.tmod (IntKind.wrap .i64 a0) 4) * (Int.tmod (IntKind.wrap .i64 a0) 4))) + ((Int.tmod (IntKind.wrap .i64 a1) 4) * (Int.tmod (IntKind.wrap .i64 a1) 4))) + ((Int.tmod (IntKind.wrap .i64 a2) 4) * (Int.tmod (IntKind.wrap .i64 a2) 4))) + ((Int.tmod (IntKind.wrap .i64 a3) 4) * (Int.tmod (IntKind.wrap .i64 a3) 4))) == 0) = false, (!t17) = false, Computes cx 5 [] (B t17), inI64 4, inI64 ((((0 + ((Int.tmod (IntKind.wrap .i64 a4) 4) * (Int.tmod (IntKind.wrap .i64 a4) 4))) + ((Int.tmod (IntKind.wrap .i64 a5) 4) * (Int.tmod (IntKind.wrap .i64 a5) 4))) + ((Int.tmod (IntKind.wrap .i64 a6) 4) * (Int.tmod (IntKind.wrap .i64 a6) 4))) + ((Int.tmod (IntKind.wrap .i64 a7) 4) * (Int.tmod (IntKind.wrap .i64 a7) 4))), inI64 ((Int.tmod (IntKind.wrap .i64 a7) 4) * (Int.tmod (IntKind.wrap .i64 a7) 4)), inI64 ((((0 + ((Int.tmod (IntKind.wrap .i64 a0) 4) * (Int.tmod (IntKind.wrap .i64 a0) 4))) + ((Int.tmod (IntKind.wrap .i64 a1) 4) * (Int.tmod (IntKind.wrap .i64 a1) 4))) + ((Int.tmod (IntKind.wrap .i64 a2) 4) * (Int.tmod (IntKind.wrap .i64 a2) 4))) + ((Int.tmod (IntKind.wrap .i64 a3) 4) * (Int.tmod (IntKind.wrap .i64 a3) 4))), inI64 ((Int.tmod (IntKind.wrap .i64 a3) 4) * (Int.tmod (IntKind.wrap .i64 a3) 4)), (4 : Int) ≠ 0, (4 : Int) ≠ 0, inI64 3, inI64 (((0 + ((Int.tmod (IntKind.wrap .i64 a4) 4) * (Int.tmod (IntKind.wrap .i64 a4) 4))) + ((Int.tmod (IntKind.wrap .i64 a5) 4) * (Int.tmod (IntKind.wrap .i64 a5) 4))) + ((Int.tmod (IntKind.wrap .i64 a6) 4) * (Int.tmod (IntKind.wrap .i64 a6) 4))), inI64 ((Int.tmod (IntKind.wrap .i64 a6) 4) * (Int.tmod (IntKind.wrap .i64 a6) 4)), inI64 (((0 + ((Int.tmod (IntKind.wrap .i64 a0) 4) * (Int.tmod (IntKind.wrap .i64 a0) 4))) + ((Int.tmod (IntKind.wrap .i64 a1) 4) * (Int.tmod (IntKind.wrap .i64 a1) 4))) + ((Int.tmod (IntKind.wrap .i64 a2) 4) * (Int.tmod (IntKind.wrap .i64 a2) 4))), inI64 ((Int.tmod (IntKind.wrap .i64 a2) 4) * (Int.tmod (IntKind.wrap .i64 a2) 4)), (4 : Int) ≠ 0, (4 : Int) ≠ 0, inI64 2, inI64 ((0 + ((Int.tmod (IntKind.wrap .i64 a4) 4) * (Int.tmod (IntKind.wrap .i64 a4) 4))) + ((Int.tmod (IntKind.wrap .i64 a5) 4) * (Int.tmod (IntKind.wrap .i64 a5) 4))), inI64 ((Int.tmod (IntKind.wrap .i64 a5) 4) * (Int.tmod (IntKind.wrap .i64 a5) 4)), inI64 ((0 + ((Int.tmod (IntKind.wrap .i64 a0) 4) * (Int.tmod (IntKind.wrap .i64 a0) 4))) + ((Int.tmod (IntKind.wrap .i64 a1) 4) * (Int.tmod (IntKind.wrap .i64 a1) 4))), inI64 ((Int.tmod (IntKind.wrap .i64 a1) 4) * (Int.tmod (IntKind.wrap .i64 a1) 4)), (4 : Int) ≠ 0, (4 : Int) ≠ 0, inI64 1, inI64 (0 + ((Int.tmod (IntKind.wrap .i64 a4) 4) * (Int.tmod (IntKind.wrap .i64 a4) 4))), inI64 ((Int.tmod (IntKind.wrap .i64 a4) 4) * (Int.tmod (IntKind.wrap .i64 a4) 4)), inI64 (0 + ((Int.tmod (IntKind.wrap .i64 a0) 4) * (Int.tmod (IntKind.wrap .i64 a0) 4))), inI64 ((Int.tmod (IntKind.wrap .i64 a0) 4) * (Int.tmod (IntKind.wrap .i64 a0) 4)), (4 : Int) ≠ 0, (4 : Int) ≠ 0]) (e_top_TopThistleReflected_19 a0 a1 a2 a3 a4 a5 a6 a7 a8 t17 t21 t22 t25 t27 t29 t31 t33 t35 t37) ⟨(net h38), (c_ref04_CheckMirror h37), (nef h36), (c_sun_Frame h35), (nef h34), (c_sun_Normal_2 h33), (nef h32), (c_ref04_CheckDirection h31), (nef h30), (c_ref04_CheckDirection h29), (nef h28), (c_ref02_CheckRay h27), (nef h26), (c_ref02_CheckRay h25), (nef h24), (nef h23), (c_sun_Whole h22), (c_sun_Whole h21), (eqf h20), (eqf h19), (notf h18), (c_top_thistleLevel h17), (by unfold inI64; omega), h16, h15, h14, h13, (by decide), (by decide), (by unfold inI64; omega), h12, h11, h10, h9, (by decide), (by decide), (by unfold inI64; omega), h8, h7, h6, h5, (by decide), (by decide), (by unfold inI64; omega), h4, h3, h2, h1, (by decide), (by decide), trivial⟩
                      · replace h := ite_f h h36
                        cases h
                    · replace h := ite_f h h34
                      by_cases h35 : t33.2.2.2 = 6
                      · replace h := ite_t h h35
                        obtain ⟨t36, h36, h⟩ := bnd_of h
                        replace h := Option.some.inj h
                        subst h
                        exact run (n := 100) (f := 3) (args := [.agg [.v (.int .i8 a0), .v (.int .i8 a1), .v (.int .i8 a2), .v (.int .i8 a3)], .agg [.v (.int .i8 a4), .v (.int .i8 a5), .v (.int .i8 a6), .v (.int .i8 a7)], .v (.int .u8 a8)]) (orc := [.no, .no, .no, .no, .no, .no, .no, .no, .no, .no, .ret (B t17), .br false, .br false, .br false, .ret (.tup [.agg [I t21.1, I t21.2.1, I t21.2.2.1], I t21.2.2.2]), .ret (.tup [.agg [I t22.1, I t22.2.1, I t22.2.2.1], I t22.2.2.2]), .br false, .br false, .ret (I t25), .br false, .ret (I t27), .br false, .ret (I t29), .br false, .ret (I t31), .br false, .ret (.tup [.agg [I t33.1, I t33.2.1, I t33.2.2.1], I t33.2.2.2]), .br true, .br true, .ret (B t36)]) (r := B t36) (ob := [Computes cx 10 [.agg [I t21.1, I t21.2.1, I t21.2.2.1], .agg [I t22.1, I t22.2.1, I t22.2.2.1]] (B t36), (t33.2.2.2 == 6) = true, (t33.2.2.2 != 0) = true, Computes cx 9 [.agg [I t21.1, I t21.2.1, I t21.2.2.1], .agg [I t22.1, I t22.2.1, I t22.2.2.1]] (.tup [.agg [I t33.1, I t33.2.1, I t33.2.2.1], I t33.2.2.2]), (t31 != 0) = false, Computes cx 8 [.agg [I t22.1, I t22.2.1, I t22.2.2.1]] (I t31), (t29 != 0) = false, Computes cx 8 [.agg [I t21.1, I t21.2.1, I t21.2.2.1]] (I t29), (t27 != 0) = false, Computes cx 7 [.agg [I t22.1, I t22.2.1, I t22.2.2.1]] (I t27), (t25 != 0) = false, Computes cx 7 [.agg [I t21.1, I t21.2.1, I t21.2.2.1]] (I t25), (t22.2.2.2 != 0) = false, (t21.2.2.2 != 0) = false, Computes cx 6 [.agg [I (Int.tmod (IntKind.wrap .i64 a4) 4), I (Int.tmod (IntKind.wrap .i64 a5) 4), I (Int.tmod (IntKind.wrap .i64 a6) 4), I (Int.tmod (IntKind.wrap .i64 a7) 4)]] (.tup [.agg [I t22.1, I t22.2.1, I t22.2.2.1], I t22.2.2.2]), Computes cx 6 [.agg [I (Int.tmod (IntKind.wrap .i64 a0) 4), I (Int.tmod (IntKind.wrap .i64 a1) 4), I (Int.tmod (IntKind.wrap .i64 a2) 4), I (Int.tmod (IntKind.wrap .i64 a3) 4)]] (.tup [.agg [I t21.1, I t21.2.1, I t21.2.2.1], I t21.2.2.2]), (((((0 + ((Int.tmod (IntKind.wrap .i64 a4) 4) * (Int.tmod (IntKind.wrap .i64 a4) 4))) + ((Int.tmod (IntKind.wrap .i64 a5) 4) * (Int.tmod (IntKind.wrap .i64 a5) 4))) + ((Int.tmod (IntKind.wrap .i64 a6) 4) * (Int.tmod (IntKind.wrap .i64 a6) 4))) + ((Int.tmod (IntKind.wrap .i64 a7) 4) * (Int.tmod (IntKind.wrap .i64 a7) 4))) == 0) = false, (((((0 + ((Int.tmod (IntKind.wrap .i64 a0) 4) * (Int.tmod (IntKind.wrap .i64 a0) 4))) + ((Int.tmod (IntKind.wrap .i64 a1) 4) * (Int.tmod (IntKind.wrap .i64 a1) 4))) + ((Int.tmod (IntKind.wrap .i64 a2) 4) * (Int.tmod (IntKind.wrap .i64 a2) 4))) + ((Int.tmod (IntKind.wrap .i64 a3) 4) * (Int.tmod (IntKind.wrap .i64 a3) 4))) == 0) = false, (!t17) = false, Computes cx 5 [] (B t17), inI64 4, inI64 ((((0 + ((Int.tmod (IntKind.wrap .i64 a4) 4) * (Int.tmod (IntKind.wrap .i64 a4) 4))) + ((Int.tmod (IntKind.wrap .i64 a5) 4) * (Int.tmod (IntKind.wrap .i64 a5) 4))) + ((Int.tmod (IntKind.wrap .i64 a6) 4) * (Int.tmod (IntKind.wrap .i64 a6) 4))) + ((Int.tmod (IntKind.wrap .i64 a7) 4) * (Int.tmod (IntKind.wrap .i64 a7) 4))), inI64 ((Int.tmod (IntKind.wrap .i64 a7) 4) * (Int.tmod (IntKind.wrap .i64 a7) 4)), inI64 ((((0 + ((Int.tmod (IntKind.wrap .i64 a0) 4) * (Int.tmod (IntKind.wrap .i64 a0) 4))) + ((Int.tmod (IntKind.wrap .i64 a1) 4) * (Int.tmod (IntKind.wrap .i64 a1) 4))) + ((Int.tmod (IntKind.wrap .i64 a2) 4) * (Int.tmod (IntKind.wrap .i64 a2) 4))) + ((Int.tmod (IntKind.wrap .i64 a3) 4) * (Int.tmod (IntKind.wrap .i64 a3) 4))), inI64 ((Int.tmod (IntKind.wrap .i64 a3) 4) * (Int.tmod (IntKind.wrap .i64 a3) 4)), (4 : Int) ≠ 0, (4 : Int) ≠ 0, inI64 3, inI64 (((0 + ((Int.tmod (IntKind.wrap .i64 a4) 4) * (Int.tmod (IntKind.wrap .i64 a4) 4))) + ((Int.tmod (IntKind.wrap .i64 a5) 4) * (Int.tmod (IntKind.wrap .i64 a5) 4))) + ((Int.tmod (IntKind.wrap .i64 a6) 4) * (Int.tmod (IntKind.wrap .i64 a6) 4))), inI64 ((Int.tmod (IntKind.wrap .i64 a6) 4) * (Int.tmod (IntKind.wrap .i64 a6) 4)), inI64 (((0 + ((Int.tmod (IntKind.wrap .i64 a0) 4) * (Int.tmod (IntKind.wrap .i64 a0) 4))) + ((Int.tmod (IntKind.wrap .i64 a1) 4) * (Int.tmod (IntKind.wrap .i64 a1) 4))) + ((Int.tmod (IntKind.wrap .i64 a2) 4) * (Int.tmod (IntKind.wrap .i64 a2) 4))), inI64 ((Int.tmod (IntKind.wrap .i64 a2) 4) * (Int.tmod (IntKind.wrap .i64 a2) 4)), (4 : Int) ≠ 0, (4 : Int) ≠ 0, inI64 2, inI64 ((0 + ((Int.tmod (IntKind.wrap .i64 a4) 4) * (Int.tmod (IntKind.wrap .i64 a4) 4))) + ((Int.tmod (IntKind.wrap .i64 a5) 4) * (Int.tmod (IntKind.wrap .i64 a5) 4))), inI64 ((Int.tmod (IntKind.wrap .i64 a5) 4) * (Int.tmod (IntKind.wrap .i64 a5) 4)), inI64 ((0 + ((Int.tmod (IntKind.wrap .i64 a0) 4) * (Int.tmod (IntKind.wrap .i64 a0) 4))) + ((Int.tmod (IntKind.wrap .i64 a1) 4) * (Int.tmod (IntKind.wrap .i64 a1) 4))), inI64 ((Int.tmod (IntKind.wrap .i64 a1) 4) * (Int.tmod (IntKind.wrap .i64 a1) 4)), (4 : Int) ≠ 0, (4 : Int) ≠ 0, inI64 1, inI64 (0 + ((Int.tmod (IntKind.wrap .i64 a4) 4) * (Int.tmod (IntKind.wrap .i64 a4) 4))), inI64 ((Int.tmod (IntKind.wrap .i64 a4) 4) * (Int.tmod (IntKind.wrap .i64 a4) 4)), inI64 (0 + ((Int.tmod (IntKind.wrap .i64 a0) 4) * (Int.tmod (IntKind.wrap .i64 a0) 4))), inI64 ((Int.tmod (IntKind.wrap .i64 a0) 4) * (Int.tmod (IntKind.wrap .i64 a0) 4)), (4 : Int) ≠ 0, (4 : Int) ≠ 0]) (e_top_TopThistleReflected_21 a0 a1 a2 a3 a4 a5 a6 a7 a8 t17 t21 t22 t25 t27 t29 t31 t33 t36) ⟨(c_ref02_Opposite h36), (eqt h35), (net h34), (c_sun_Normal_2 h33), (nef h32), (c_ref04_CheckDirection h31), (nef h30), (c_ref04_CheckDirection h29), (nef h28), (c_ref02_CheckRay h27), (nef h26), (c_ref02_CheckRay h25), (nef h24), (nef h23), (c_sun_Whole h22), (c_sun_Whole h21), (eqf h20), (eqf h19), (notf h18), (c_top_thistleLevel h17), (by unfold inI64; omega), h16, h15, h14, h13, (by decide), (by decide), (by unfold inI64; omega), h12, h11, h10, h9, (by decide), (by decide), (by unfold inI64; omega), h8, h7, h6, h5, (by decide), (by decide), (by unfold inI64; omega), h4, h3, h2, h1, (by decide), (by decide), trivial⟩
                      · replace h := ite_f h h35
                        cases h
                  · replace h := ite_f h h32
                    cases h
                · replace h := ite_f h h30
                  cases h
              · replace h := ite_f h h28
                cases h
            · replace h := ite_f h h26
              cases h
          · replace h := ite_f h h24
            cases h
        · replace h := ite_f h h23
          cases h
  · replace h := ite_f h h18
    replace h := Option.some.inj h
    subst h
    exact run (n := 100) (f := 3) (args := [.agg [.v (.int .i8 a0), .v (.int .i8 a1), .v (.int .i8 a2), .v (.int .i8 a3)], .agg [.v (.int .i8 a4), .v (.int .i8 a5), .v (.int .i8 a6), .v (.int .i8 a7)], .v (.int .u8 a8)]) (orc := [.no, .no, .no, .no, .no, .no, .no, .no, .no, .no, .ret (B t17), .br true, .no, .no, .ret (B t17)]) (r := B t17) (ob := [Computes cx 5 [] (B t17), (!t17) = true, Computes cx 5 [] (B t17), inI64 4, inI64 ((((0 + ((Int.tmod (IntKind.wrap .i64 a4) 4) * (Int.tmod (IntKind.wrap .i64 a4) 4))) + ((Int.tmod (IntKind.wrap .i64 a5) 4) * (Int.tmod (IntKind.wrap .i64 a5) 4))) + ((Int.tmod (IntKind.wrap .i64 a6) 4) * (Int.tmod (IntKind.wrap .i64 a6) 4))) + ((Int.tmod (IntKind.wrap .i64 a7) 4) * (Int.tmod (IntKind.wrap .i64 a7) 4))), inI64 ((Int.tmod (IntKind.wrap .i64 a7) 4) * (Int.tmod (IntKind.wrap .i64 a7) 4)), inI64 ((((0 + ((Int.tmod (IntKind.wrap .i64 a0) 4) * (Int.tmod (IntKind.wrap .i64 a0) 4))) + ((Int.tmod (IntKind.wrap .i64 a1) 4) * (Int.tmod (IntKind.wrap .i64 a1) 4))) + ((Int.tmod (IntKind.wrap .i64 a2) 4) * (Int.tmod (IntKind.wrap .i64 a2) 4))) + ((Int.tmod (IntKind.wrap .i64 a3) 4) * (Int.tmod (IntKind.wrap .i64 a3) 4))), inI64 ((Int.tmod (IntKind.wrap .i64 a3) 4) * (Int.tmod (IntKind.wrap .i64 a3) 4)), (4 : Int) ≠ 0, (4 : Int) ≠ 0, inI64 3, inI64 (((0 + ((Int.tmod (IntKind.wrap .i64 a4) 4) * (Int.tmod (IntKind.wrap .i64 a4) 4))) + ((Int.tmod (IntKind.wrap .i64 a5) 4) * (Int.tmod (IntKind.wrap .i64 a5) 4))) + ((Int.tmod (IntKind.wrap .i64 a6) 4) * (Int.tmod (IntKind.wrap .i64 a6) 4))), inI64 ((Int.tmod (IntKind.wrap .i64 a6) 4) * (Int.tmod (IntKind.wrap .i64 a6) 4)), inI64 (((0 + ((Int.tmod (IntKind.wrap .i64 a0) 4) * (Int.tmod (IntKind.wrap .i64 a0) 4))) + ((Int.tmod (IntKind.wrap .i64 a1) 4) * (Int.tmod (IntKind.wrap .i64 a1) 4))) + ((Int.tmod (IntKind.wrap .i64 a2) 4) * (Int.tmod (IntKind.wrap .i64 a2) 4))), inI64 ((Int.tmod (IntKind.wrap .i64 a2) 4) * (Int.tmod (IntKind.wrap .i64 a2) 4)), (4 : Int) ≠ 0, (4 : Int) ≠ 0, inI64 2, inI64 ((0 + ((Int.tmod (IntKind.wrap .i64 a4) 4) * (Int.tmod (IntKind.wrap .i64 a4) 4))) + ((Int.tmod (IntKind.wrap .i64 a5) 4) * (Int.tmod (IntKind.wrap .i64 a5) 4))), inI64 ((Int.tmod (IntKind.wrap .i64 a5) 4) * (Int.tmod (IntKind.wrap .i64 a5) 4)), inI64 ((0 + ((Int.tmod (IntKind.wrap .i64 a0) 4) * (Int.tmod (IntKind.wrap .i64 a0) 4))) + ((Int.tmod (IntKind.wrap .i64 a1) 4) * (Int.tmod (IntKind.wrap .i64 a1) 4))), inI64 ((Int.tmod (IntKind.wrap .i64 a1) 4) * (Int.tmod (IntKind.wrap .i64 a1) 4)), (4 : Int) ≠ 0, (4 : Int) ≠ 0, inI64 1, inI64 (0 + ((Int.tmod (IntKind.wrap .i64 a4) 4) * (Int.tmod (IntKind.wrap .i64 a4) 4))), inI64 ((Int.tmod (IntKind.wrap .i64 a4) 4) * (Int.tmod (IntKind.wrap .i64 a4) 4)), inI64 (0 + ((Int.tmod (IntKind.wrap .i64 a0) 4) * (Int.tmod (IntKind.wrap .i64 a0) 4))), inI64 ((Int.tmod (IntKind.wrap .i64 a0) 4) * (Int.tmod (IntKind.wrap .i64 a0) 4)), (4 : Int) ≠ 0, (4 : Int) ≠ 0]) (e_top_TopThistleReflected_29 a0 a1 a2 a3 a4 a5 a6 a7 a8 t17) ⟨(c_top_thistleLevel h17), (nott (bfalse h18)), (c_top_thistleLevel h17), (by unfold inI64; omega), h16, h15, h14, h13, (by decide), (by decide), (by unfold inI64; omega), h12, h11, h10, h9, (by decide), (by decide), (by unfold inI64; omega), h8, h7, h6, h5, (by decide), (by decide), (by unfold inI64; omega), h4, h3, h2, h1, (by decide), (by decide), trivial⟩
end Go.Proofs.YtiogobiijlaalaaDoor
