/-
  Printed by gsx.py: functions of the program as Lean functions, and that the code computes them.
-/
import Derived.Test.YtiogobiijlaalaaDoorYear1
set_option linter.unusedVariables false
set_option maxRecDepth 10000
namespace Go.Proofs.YtiogobiijlaalaaDoor
open Go.SX
def F_top_TopThistleYear_L2 (n : Nat) (a0 : ByteArray) (a1 : List D) (a2 : List D) (a3 : Int) (a4 : Int) (a5 : Int) (a6 : Int) (t17 : ByteArray × Int × Int × Int × Int × Int × Int × Int × Int × Int) (sa : (Unit) ⊕ (Int × Int × Int × List D × List D × List D)) : Option (((Unit) ⊕ (Int × Int × Int × List D × List D × List D)) ⊕ ((Unit) ⊕ (Unit) ⊕ (Int × Int × List D × List D × List D))) := match sa with
 | (.inl sa) => (
  if 0 < ((a1).length : Int) then
  (el un_Ai4Z a1 0).bind fun ta2 =>
  (F_top_thistleSky n a0 a1).bind fun ta3 =>
  (F_sun_At n ta3.1 ta3.2 ta2.1).bind fun ta4 =>
  (F_sun_Risen n ta3.1 ta3.2 ta2.1).bind fun ta5 =>
  if ta4.2.2.2 = 0 then
   if ta5.2 = 0 then
   (F_ref02_CheckPlace n ta4.1 ta4.2.1 ta4.2.2.1).bind fun ta8 =>
   if ta8 = 0 then
    (F_ref04_CheckDirection n ta4.1 ta4.2.1 ta4.2.2.1).bind fun ta10 =>
    if ta10 = 0 then
    (F_top_thistleField n a2).bind fun ta12 =>
    (F_field_Lit n ta12 0 ta4.1 ta4.2.1 ta4.2.2.1 (IntKind.wrap .i64 a3) (IntKind.wrap .i64 a4) (100 + (IntKind.wrap .i64 a5)) (kE a6)).bind fun ta13 =>
    if ta13.2.2.2 = 0 then
     if (minI (minI ta13.1 ta13.2.1) ta13.2.2.1) < 0 then
     none /- false -/
     else
     if inI64 (ta13.1 + ta13.2.1) then
     if inI64 ((ta13.1 + ta13.2.1) + ta13.2.2.1) then
     if inI64 ((kE a6) * (kE a6)) then
     if ((ta13.1 + ta13.2.1) + ta13.2.2.1) = ((kE a6) * (kE a6)) then
     (el un_Asi9Z a2 0).bind fun ta20 =>
     if ta20.2.2.2.2.2.2.1 = 0 then
      if ta20.2.2.2.2.2.2.2.2.2 = 0 then
      (F_ref04_Normal n ta20.1 ta20.2.1 ta20.2.2.1 ta20.2.2.2.1 ta20.2.2.2.2.1 ta20.2.2.2.2.2.1 ta20.2.2.2.2.2.2.1 ta20.2.2.2.2.2.2.2.1 ta20.2.2.2.2.2.2.2.2.1 ta20.2.2.2.2.2.2.2.2.2).bind fun ta23 =>
      if ta23.2.2 > 0 then
       if ta5.1 = true then
       if inI64 (ta13.2.2.1 * 1) then
       if inI64 (0 + (ta13.2.2.1 * 1)) then
       if inI64 (((kE a6) * (kE a6)) * 1) then
       if inI64 (0 + (((kE a6) * (kE a6)) * 1)) then
       (F_top_thistleField n ([.agg [.v (.string t17.1), I t17.2.1, I t17.2.2.1, I t17.2.2.2.1, I t17.2.2.2.2.1, I t17.2.2.2.2.2.1, I t17.2.2.2.2.2.2.1, I t17.2.2.2.2.2.2.2.1, I t17.2.2.2.2.2.2.2.2.1, I t17.2.2.2.2.2.2.2.2.2]])).bind fun ta30 =>
       (F_field_Lit n ta30 0 ta4.1 ta4.2.1 ta4.2.2.1 (IntKind.wrap .i64 a3) (IntKind.wrap .i64 a4) (100 + (IntKind.wrap .i64 a5)) (kE a6)).bind fun ta31 =>
       if ta31.2.2.2 = 0 then
        if (minI (minI ta31.1 ta31.2.1) ta31.2.2.1) < 0 then
        none /- false -/
        else
        if inI64 (ta31.1 + ta31.2.1) then
        if inI64 ((ta31.1 + ta31.2.1) + ta31.2.2.1) then
        if ((ta31.1 + ta31.2.1) + ta31.2.2.1) = ((kE a6) * (kE a6)) then
        (F_top_thistleField n ((a2.take (Int.toNat (maxI 1 (((a2).length : Int) - 1)))).drop (Int.toNat 0))).bind fun ta37 =>
        (F_field_Lit n ta37 0 ta4.1 ta4.2.1 ta4.2.2.1 (IntKind.wrap .i64 a3) (IntKind.wrap .i64 a4) (100 + (IntKind.wrap .i64 a5)) (kE a6)).bind fun ta38 =>
        if ta38.2.2.2 = 0 then
         if (minI (minI ta38.1 ta38.2.1) ta38.2.2.1) < 0 then
         none /- false -/
         else
         if inI64 (ta38.1 + ta38.2.1) then
         if inI64 ((ta38.1 + ta38.2.1) + ta38.2.2.1) then
         if ((ta38.1 + ta38.2.1) + ta38.2.2.1) = ((kE a6) * (kE a6)) then
         some (.inl (.inr ((0 + (ta13.2.2.1 * 1)), (0 + (((kE a6) * (kE a6)) * 1)), 1, [.agg [I ta13.2.2.1, I ((kE a6) * (kE a6)), I 1]], [.agg [I ta31.2.2.1, I ((kE a6) * (kE a6)), I 1]], [.agg [I ta38.2.2.1, I ((kE a6) * (kE a6)), I 1]])))
         else
         none /- false -/
         else none
         else none
        else
        none /- false -/
        else
        none /- false -/
        else none
        else none
       else
       none /- false -/
       else none
       else none
       else none
       else none
       else
       if ta13.1 = ((kE a6) * (kE a6)) then
       if inI64 (ta13.2.2.1 * 1) then
       if inI64 (0 + (ta13.2.2.1 * 1)) then
       if inI64 (((kE a6) * (kE a6)) * 1) then
       if inI64 (0 + (((kE a6) * (kE a6)) * 1)) then
       (F_top_thistleField n ([.agg [.v (.string t17.1), I t17.2.1, I t17.2.2.1, I t17.2.2.2.1, I t17.2.2.2.2.1, I t17.2.2.2.2.2.1, I t17.2.2.2.2.2.2.1, I t17.2.2.2.2.2.2.2.1, I t17.2.2.2.2.2.2.2.2.1, I t17.2.2.2.2.2.2.2.2.2]])).bind fun ta31 =>
       (F_field_Lit n ta31 0 ta4.1 ta4.2.1 ta4.2.2.1 (IntKind.wrap .i64 a3) (IntKind.wrap .i64 a4) (100 + (IntKind.wrap .i64 a5)) (kE a6)).bind fun ta32 =>
       if ta32.2.2.2 = 0 then
        if (minI (minI ta32.1 ta32.2.1) ta32.2.2.1) < 0 then
        none /- false -/
        else
        if inI64 (ta32.1 + ta32.2.1) then
        if inI64 ((ta32.1 + ta32.2.1) + ta32.2.2.1) then
        if ((ta32.1 + ta32.2.1) + ta32.2.2.1) = ((kE a6) * (kE a6)) then
        if ta32.1 = ((kE a6) * (kE a6)) then
         (F_top_thistleField n ((a2.take (Int.toNat (maxI 1 (((a2).length : Int) - 1)))).drop (Int.toNat 0))).bind fun ta39 =>
         (F_field_Lit n ta39 0 ta4.1 ta4.2.1 ta4.2.2.1 (IntKind.wrap .i64 a3) (IntKind.wrap .i64 a4) (100 + (IntKind.wrap .i64 a5)) (kE a6)).bind fun ta40 =>
         if ta40.2.2.2 = 0 then
         if (minI (minI ta40.1 ta40.2.1) ta40.2.2.1) < 0 then
          none /- false -/
         else
         if inI64 (ta40.1 + ta40.2.1) then
         if inI64 ((ta40.1 + ta40.2.1) + ta40.2.2.1) then
         if ((ta40.1 + ta40.2.1) + ta40.2.2.1) = ((kE a6) * (kE a6)) then
          if ta40.1 = ((kE a6) * (kE a6)) then
          some (.inl (.inr ((0 + (ta13.2.2.1 * 1)), (0 + (((kE a6) * (kE a6)) * 1)), 1, [.agg [I ta13.2.2.1, I ((kE a6) * (kE a6)), I 1]], [.agg [I ta32.2.2.1, I ((kE a6) * (kE a6)), I 1]], [.agg [I ta40.2.2.1, I ((kE a6) * (kE a6)), I 1]])))
          else
          none /- false -/
         else
         none /- false -/
         else none
         else none
         else
         none /- false -/
        else
        none /- false -/
        else
        none /- false -/
        else none
        else none
       else
       none /- false -/
       else none
       else none
       else none
       else none
       else
       none /- false -/
      else
      if inI64 (ta13.2.2.1 * 1) then
      if inI64 (0 + (ta13.2.2.1 * 1)) then
      if inI64 (((kE a6) * (kE a6)) * 1) then
      if inI64 (0 + (((kE a6) * (kE a6)) * 1)) then
      (F_top_thistleField n ([.agg [.v (.string t17.1), I t17.2.1, I t17.2.2.1, I t17.2.2.2.1, I t17.2.2.2.2.1, I t17.2.2.2.2.2.1, I t17.2.2.2.2.2.2.1, I t17.2.2.2.2.2.2.2.1, I t17.2.2.2.2.2.2.2.2.1, I t17.2.2.2.2.2.2.2.2.2]])).bind fun ta29 =>
      (F_field_Lit n ta29 0 ta4.1 ta4.2.1 ta4.2.2.1 (IntKind.wrap .i64 a3) (IntKind.wrap .i64 a4) (100 + (IntKind.wrap .i64 a5)) (kE a6)).bind fun ta30 =>
      if ta30.2.2.2 = 0 then
       if (minI (minI ta30.1 ta30.2.1) ta30.2.2.1) < 0 then
       none /- false -/
       else
       if inI64 (ta30.1 + ta30.2.1) then
       if inI64 ((ta30.1 + ta30.2.1) + ta30.2.2.1) then
       if ((ta30.1 + ta30.2.1) + ta30.2.2.1) = ((kE a6) * (kE a6)) then
       (F_top_thistleField n ((a2.take (Int.toNat (maxI 1 (((a2).length : Int) - 1)))).drop (Int.toNat 0))).bind fun ta36 =>
       (F_field_Lit n ta36 0 ta4.1 ta4.2.1 ta4.2.2.1 (IntKind.wrap .i64 a3) (IntKind.wrap .i64 a4) (100 + (IntKind.wrap .i64 a5)) (kE a6)).bind fun ta37 =>
       if ta37.2.2.2 = 0 then
        if (minI (minI ta37.1 ta37.2.1) ta37.2.2.1) < 0 then
        none /- false -/
        else
        if inI64 (ta37.1 + ta37.2.1) then
        if inI64 ((ta37.1 + ta37.2.1) + ta37.2.2.1) then
        if ((ta37.1 + ta37.2.1) + ta37.2.2.1) = ((kE a6) * (kE a6)) then
        some (.inl (.inr ((0 + (ta13.2.2.1 * 1)), (0 + (((kE a6) * (kE a6)) * 1)), 1, [.agg [I ta13.2.2.1, I ((kE a6) * (kE a6)), I 1]], [.agg [I ta30.2.2.1, I ((kE a6) * (kE a6)), I 1]], [.agg [I ta37.2.2.1, I ((kE a6) * (kE a6)), I 1]])))
        else
        none /- false -/
        else none
        else none
       else
       none /- false -/
       else
       none /- false -/
       else none
       else none
      else
      none /- false -/
      else none
      else none
      else none
      else none
      else
      if inI64 (ta13.2.2.1 * 1) then
      if inI64 (0 + (ta13.2.2.1 * 1)) then
      if inI64 (((kE a6) * (kE a6)) * 1) then
      if inI64 (0 + (((kE a6) * (kE a6)) * 1)) then
      (F_top_thistleField n ([.agg [.v (.string t17.1), I t17.2.1, I t17.2.2.1, I t17.2.2.2.1, I t17.2.2.2.2.1, I t17.2.2.2.2.2.1, I t17.2.2.2.2.2.2.1, I t17.2.2.2.2.2.2.2.1, I t17.2.2.2.2.2.2.2.2.1, I t17.2.2.2.2.2.2.2.2.2]])).bind fun ta27 =>
      (F_field_Lit n ta27 0 ta4.1 ta4.2.1 ta4.2.2.1 (IntKind.wrap .i64 a3) (IntKind.wrap .i64 a4) (100 + (IntKind.wrap .i64 a5)) (kE a6)).bind fun ta28 =>
      if ta28.2.2.2 = 0 then
      if (minI (minI ta28.1 ta28.2.1) ta28.2.2.1) < 0 then
       none /- false -/
      else
      if inI64 (ta28.1 + ta28.2.1) then
      if inI64 ((ta28.1 + ta28.2.1) + ta28.2.2.1) then
      if ((ta28.1 + ta28.2.1) + ta28.2.2.1) = ((kE a6) * (kE a6)) then
       (F_top_thistleField n ((a2.take (Int.toNat (maxI 1 (((a2).length : Int) - 1)))).drop (Int.toNat 0))).bind fun ta34 =>
       (F_field_Lit n ta34 0 ta4.1 ta4.2.1 ta4.2.2.1 (IntKind.wrap .i64 a3) (IntKind.wrap .i64 a4) (100 + (IntKind.wrap .i64 a5)) (kE a6)).bind fun ta35 =>
       if ta35.2.2.2 = 0 then
       if (minI (minI ta35.1 ta35.2.1) ta35.2.2.1) < 0 then
        none /- false -/
       else
       if inI64 (ta35.1 + ta35.2.1) then
       if inI64 ((ta35.1 + ta35.2.1) + ta35.2.2.1) then
       if ((ta35.1 + ta35.2.1) + ta35.2.2.1) = ((kE a6) * (kE a6)) then
        some (.inl (.inr ((0 + (ta13.2.2.1 * 1)), (0 + (((kE a6) * (kE a6)) * 1)), 1, [.agg [I ta13.2.2.1, I ((kE a6) * (kE a6)), I 1]], [.agg [I ta28.2.2.1, I ((kE a6) * (kE a6)), I 1]], [.agg [I ta35.2.2.1, I ((kE a6) * (kE a6)), I 1]])))
       else
       none /- false -/
       else none
       else none
       else
       none /- false -/
      else
      none /- false -/
      else none
      else none
      else
      none /- false -/
      else none
      else none
      else none
      else none
     else
     if inI64 (ta13.2.2.1 * 1) then
     if inI64 (0 + (ta13.2.2.1 * 1)) then
     if inI64 (((kE a6) * (kE a6)) * 1) then
     if inI64 (0 + (((kE a6) * (kE a6)) * 1)) then
     (F_top_thistleField n ([.agg [.v (.string t17.1), I t17.2.1, I t17.2.2.1, I t17.2.2.2.1, I t17.2.2.2.2.1, I t17.2.2.2.2.2.1, I t17.2.2.2.2.2.2.1, I t17.2.2.2.2.2.2.2.1, I t17.2.2.2.2.2.2.2.2.1, I t17.2.2.2.2.2.2.2.2.2]])).bind fun ta26 =>
     (F_field_Lit n ta26 0 ta4.1 ta4.2.1 ta4.2.2.1 (IntKind.wrap .i64 a3) (IntKind.wrap .i64 a4) (100 + (IntKind.wrap .i64 a5)) (kE a6)).bind fun ta27 =>
     if ta27.2.2.2 = 0 then
      if (minI (minI ta27.1 ta27.2.1) ta27.2.2.1) < 0 then
      none /- false -/
      else
      if inI64 (ta27.1 + ta27.2.1) then
      if inI64 ((ta27.1 + ta27.2.1) + ta27.2.2.1) then
      if ((ta27.1 + ta27.2.1) + ta27.2.2.1) = ((kE a6) * (kE a6)) then
      (F_top_thistleField n ((a2.take (Int.toNat (maxI 1 (((a2).length : Int) - 1)))).drop (Int.toNat 0))).bind fun ta33 =>
      (F_field_Lit n ta33 0 ta4.1 ta4.2.1 ta4.2.2.1 (IntKind.wrap .i64 a3) (IntKind.wrap .i64 a4) (100 + (IntKind.wrap .i64 a5)) (kE a6)).bind fun ta34 =>
      if ta34.2.2.2 = 0 then
       if (minI (minI ta34.1 ta34.2.1) ta34.2.2.1) < 0 then
       none /- false -/
       else
       if inI64 (ta34.1 + ta34.2.1) then
       if inI64 ((ta34.1 + ta34.2.1) + ta34.2.2.1) then
       if ((ta34.1 + ta34.2.1) + ta34.2.2.1) = ((kE a6) * (kE a6)) then
       some (.inl (.inr ((0 + (ta13.2.2.1 * 1)), (0 + (((kE a6) * (kE a6)) * 1)), 1, [.agg [I ta13.2.2.1, I ((kE a6) * (kE a6)), I 1]], [.agg [I ta27.2.2.1, I ((kE a6) * (kE a6)), I 1]], [.agg [I ta34.2.2.1, I ((kE a6) * (kE a6)), I 1]])))
       else
       none /- false -/
       else none
       else none
      else
      none /- false -/
      else
      none /- false -/
      else none
      else none
     else
     none /- false -/
     else none
     else none
     else none
     else none
     else
     none /- false -/
     else none
     else none
     else none
    else
    none /- false -/
    else
    some (.inr (.inl ()))
   else
   none /- false -/
   else
   none /- false -/
  else
  none /- false -/
  else
  some (.inr (.inr (.inl ()))))
 | (.inr sa) => (
  if sa.2.2.1 < ((a1).length : Int) then
  (el un_Ai4Z a1 sa.2.2.1).bind fun ta2 =>
  (F_top_thistleSky n a0 a1).bind fun ta3 =>
  (F_sun_At n ta3.1 ta3.2 ta2.1).bind fun ta4 =>
  (F_sun_Risen n ta3.1 ta3.2 ta2.1).bind fun ta5 =>
  if ta4.2.2.2 = 0 then
   if ta5.2 = 0 then
   (F_ref02_CheckPlace n ta4.1 ta4.2.1 ta4.2.2.1).bind fun ta8 =>
   if ta8 = 0 then
    (F_ref04_CheckDirection n ta4.1 ta4.2.1 ta4.2.2.1).bind fun ta10 =>
    if ta10 = 0 then
    if inI64 (1 + sa.2.2.1) then
    (F_top_thistleField n a2).bind fun ta13 =>
    (F_field_Lit n ta13 0 ta4.1 ta4.2.1 ta4.2.2.1 (IntKind.wrap .i64 a3) (IntKind.wrap .i64 a4) (100 + (IntKind.wrap .i64 a5)) (kE a6)).bind fun ta14 =>
    if ta14.2.2.2 = 0 then
     if (minI (minI ta14.1 ta14.2.1) ta14.2.2.1) < 0 then
     none /- false -/
     else
     if inI64 (ta14.1 + ta14.2.1) then
     if inI64 ((ta14.1 + ta14.2.1) + ta14.2.2.1) then
     if inI64 ((kE a6) * (kE a6)) then
     if ((ta14.1 + ta14.2.1) + ta14.2.2.1) = ((kE a6) * (kE a6)) then
     (el un_Asi9Z a2 0).bind fun ta21 =>
     if ta21.2.2.2.2.2.2.1 = 0 then
      if ta21.2.2.2.2.2.2.2.2.2 = 0 then
      (F_ref04_Normal n ta21.1 ta21.2.1 ta21.2.2.1 ta21.2.2.2.1 ta21.2.2.2.2.1 ta21.2.2.2.2.2.1 ta21.2.2.2.2.2.2.1 ta21.2.2.2.2.2.2.2.1 ta21.2.2.2.2.2.2.2.2.1 ta21.2.2.2.2.2.2.2.2.2).bind fun ta24 =>
      if ta24.2.2 > 0 then
       if ta5.1 = true then
       if roomP 24 ((sa.2.2.2.1).length + 1) then
       if inI64 (ta14.2.2.1 * (1 + sa.2.2.1)) then
       if inI64 (sa.1 + (ta14.2.2.1 * (1 + sa.2.2.1))) then
       if inI64 (((kE a6) * (kE a6)) * (1 + sa.2.2.1)) then
       if inI64 (sa.2.1 + (((kE a6) * (kE a6)) * (1 + sa.2.2.1))) then
       (F_top_thistleField n ([.agg [.v (.string t17.1), I t17.2.1, I t17.2.2.1, I t17.2.2.2.1, I t17.2.2.2.2.1, I t17.2.2.2.2.2.1, I t17.2.2.2.2.2.2.1, I t17.2.2.2.2.2.2.2.1, I t17.2.2.2.2.2.2.2.2.1, I t17.2.2.2.2.2.2.2.2.2]])).bind fun ta32 =>
       (F_field_Lit n ta32 0 ta4.1 ta4.2.1 ta4.2.2.1 (IntKind.wrap .i64 a3) (IntKind.wrap .i64 a4) (100 + (IntKind.wrap .i64 a5)) (kE a6)).bind fun ta33 =>
       if ta33.2.2.2 = 0 then
        if (minI (minI ta33.1 ta33.2.1) ta33.2.2.1) < 0 then
        none /- false -/
        else
        if inI64 (ta33.1 + ta33.2.1) then
        if inI64 ((ta33.1 + ta33.2.1) + ta33.2.2.1) then
        if ((ta33.1 + ta33.2.1) + ta33.2.2.1) = ((kE a6) * (kE a6)) then
        if roomP 24 ((sa.2.2.2.2.1).length + 1) then
        (F_top_thistleField n ((a2.take (Int.toNat (maxI 1 (((a2).length : Int) - 1)))).drop (Int.toNat 0))).bind fun ta40 =>
        (F_field_Lit n ta40 0 ta4.1 ta4.2.1 ta4.2.2.1 (IntKind.wrap .i64 a3) (IntKind.wrap .i64 a4) (100 + (IntKind.wrap .i64 a5)) (kE a6)).bind fun ta41 =>
        if ta41.2.2.2 = 0 then
         if (minI (minI ta41.1 ta41.2.1) ta41.2.2.1) < 0 then
         none /- false -/
         else
         if inI64 (ta41.1 + ta41.2.1) then
         if inI64 ((ta41.1 + ta41.2.1) + ta41.2.2.1) then
         if ((ta41.1 + ta41.2.1) + ta41.2.2.1) = ((kE a6) * (kE a6)) then
         if roomP 24 ((sa.2.2.2.2.2).length + 1) then
         if inI64 (sa.2.2.1 + 1) then
         some (.inl (.inr ((sa.1 + (ta14.2.2.1 * (1 + sa.2.2.1))), (sa.2.1 + (((kE a6) * (kE a6)) * (1 + sa.2.2.1))), (sa.2.2.1 + 1), (sa.2.2.2.1 ++ ([.agg [I ta14.2.2.1, I ((kE a6) * (kE a6)), I (1 + sa.2.2.1)]] : List D)), (sa.2.2.2.2.1 ++ ([.agg [I ta33.2.2.1, I ((kE a6) * (kE a6)), I (1 + sa.2.2.1)]] : List D)), (sa.2.2.2.2.2 ++ ([.agg [I ta41.2.2.1, I ((kE a6) * (kE a6)), I (1 + sa.2.2.1)]] : List D)))))
         else none
         else none
         else
         none /- false -/
         else none
         else none
        else
        none /- false -/
        else none
        else
        none /- false -/
        else none
        else none
       else
       none /- false -/
       else none
       else none
       else none
       else none
       else none
       else
       if ta14.1 = ((kE a6) * (kE a6)) then
       if roomP 24 ((sa.2.2.2.1).length + 1) then
       if inI64 (ta14.2.2.1 * (1 + sa.2.2.1)) then
       if inI64 (sa.1 + (ta14.2.2.1 * (1 + sa.2.2.1))) then
       if inI64 (((kE a6) * (kE a6)) * (1 + sa.2.2.1)) then
       if inI64 (sa.2.1 + (((kE a6) * (kE a6)) * (1 + sa.2.2.1))) then
       (F_top_thistleField n ([.agg [.v (.string t17.1), I t17.2.1, I t17.2.2.1, I t17.2.2.2.1, I t17.2.2.2.2.1, I t17.2.2.2.2.2.1, I t17.2.2.2.2.2.2.1, I t17.2.2.2.2.2.2.2.1, I t17.2.2.2.2.2.2.2.2.1, I t17.2.2.2.2.2.2.2.2.2]])).bind fun ta33 =>
       (F_field_Lit n ta33 0 ta4.1 ta4.2.1 ta4.2.2.1 (IntKind.wrap .i64 a3) (IntKind.wrap .i64 a4) (100 + (IntKind.wrap .i64 a5)) (kE a6)).bind fun ta34 =>
       if ta34.2.2.2 = 0 then
        if (minI (minI ta34.1 ta34.2.1) ta34.2.2.1) < 0 then
        none /- false -/
        else
        if inI64 (ta34.1 + ta34.2.1) then
        if inI64 ((ta34.1 + ta34.2.1) + ta34.2.2.1) then
        if ((ta34.1 + ta34.2.1) + ta34.2.2.1) = ((kE a6) * (kE a6)) then
        if ta34.1 = ((kE a6) * (kE a6)) then
         if roomP 24 ((sa.2.2.2.2.1).length + 1) then
         (F_top_thistleField n ((a2.take (Int.toNat (maxI 1 (((a2).length : Int) - 1)))).drop (Int.toNat 0))).bind fun ta42 =>
         (F_field_Lit n ta42 0 ta4.1 ta4.2.1 ta4.2.2.1 (IntKind.wrap .i64 a3) (IntKind.wrap .i64 a4) (100 + (IntKind.wrap .i64 a5)) (kE a6)).bind fun ta43 =>
         if ta43.2.2.2 = 0 then
         if (minI (minI ta43.1 ta43.2.1) ta43.2.2.1) < 0 then
          none /- false -/
         else
         if inI64 (ta43.1 + ta43.2.1) then
         if inI64 ((ta43.1 + ta43.2.1) + ta43.2.2.1) then
         if ((ta43.1 + ta43.2.1) + ta43.2.2.1) = ((kE a6) * (kE a6)) then
          if ta43.1 = ((kE a6) * (kE a6)) then
          if roomP 24 ((sa.2.2.2.2.2).length + 1) then
          if inI64 (sa.2.2.1 + 1) then
          some (.inl (.inr ((sa.1 + (ta14.2.2.1 * (1 + sa.2.2.1))), (sa.2.1 + (((kE a6) * (kE a6)) * (1 + sa.2.2.1))), (sa.2.2.1 + 1), (sa.2.2.2.1 ++ ([.agg [I ta14.2.2.1, I ((kE a6) * (kE a6)), I (1 + sa.2.2.1)]] : List D)), (sa.2.2.2.2.1 ++ ([.agg [I ta34.2.2.1, I ((kE a6) * (kE a6)), I (1 + sa.2.2.1)]] : List D)), (sa.2.2.2.2.2 ++ ([.agg [I ta43.2.2.1, I ((kE a6) * (kE a6)), I (1 + sa.2.2.1)]] : List D)))))
          else none
          else none
          else
          none /- false -/
         else
         none /- false -/
         else none
         else none
         else
         none /- false -/
         else none
        else
        none /- false -/
        else
        none /- false -/
        else none
        else none
       else
       none /- false -/
       else none
       else none
       else none
       else none
       else none
       else
       none /- false -/
      else
      if roomP 24 ((sa.2.2.2.1).length + 1) then
      if inI64 (ta14.2.2.1 * (1 + sa.2.2.1)) then
      if inI64 (sa.1 + (ta14.2.2.1 * (1 + sa.2.2.1))) then
      if inI64 (((kE a6) * (kE a6)) * (1 + sa.2.2.1)) then
      if inI64 (sa.2.1 + (((kE a6) * (kE a6)) * (1 + sa.2.2.1))) then
      (F_top_thistleField n ([.agg [.v (.string t17.1), I t17.2.1, I t17.2.2.1, I t17.2.2.2.1, I t17.2.2.2.2.1, I t17.2.2.2.2.2.1, I t17.2.2.2.2.2.2.1, I t17.2.2.2.2.2.2.2.1, I t17.2.2.2.2.2.2.2.2.1, I t17.2.2.2.2.2.2.2.2.2]])).bind fun ta31 =>
      (F_field_Lit n ta31 0 ta4.1 ta4.2.1 ta4.2.2.1 (IntKind.wrap .i64 a3) (IntKind.wrap .i64 a4) (100 + (IntKind.wrap .i64 a5)) (kE a6)).bind fun ta32 =>
      if ta32.2.2.2 = 0 then
       if (minI (minI ta32.1 ta32.2.1) ta32.2.2.1) < 0 then
       none /- false -/
       else
       if inI64 (ta32.1 + ta32.2.1) then
       if inI64 ((ta32.1 + ta32.2.1) + ta32.2.2.1) then
       if ((ta32.1 + ta32.2.1) + ta32.2.2.1) = ((kE a6) * (kE a6)) then
       if roomP 24 ((sa.2.2.2.2.1).length + 1) then
       (F_top_thistleField n ((a2.take (Int.toNat (maxI 1 (((a2).length : Int) - 1)))).drop (Int.toNat 0))).bind fun ta39 =>
       (F_field_Lit n ta39 0 ta4.1 ta4.2.1 ta4.2.2.1 (IntKind.wrap .i64 a3) (IntKind.wrap .i64 a4) (100 + (IntKind.wrap .i64 a5)) (kE a6)).bind fun ta40 =>
       if ta40.2.2.2 = 0 then
        if (minI (minI ta40.1 ta40.2.1) ta40.2.2.1) < 0 then
        none /- false -/
        else
        if inI64 (ta40.1 + ta40.2.1) then
        if inI64 ((ta40.1 + ta40.2.1) + ta40.2.2.1) then
        if ((ta40.1 + ta40.2.1) + ta40.2.2.1) = ((kE a6) * (kE a6)) then
        if roomP 24 ((sa.2.2.2.2.2).length + 1) then
        if inI64 (sa.2.2.1 + 1) then
        some (.inl (.inr ((sa.1 + (ta14.2.2.1 * (1 + sa.2.2.1))), (sa.2.1 + (((kE a6) * (kE a6)) * (1 + sa.2.2.1))), (sa.2.2.1 + 1), (sa.2.2.2.1 ++ ([.agg [I ta14.2.2.1, I ((kE a6) * (kE a6)), I (1 + sa.2.2.1)]] : List D)), (sa.2.2.2.2.1 ++ ([.agg [I ta32.2.2.1, I ((kE a6) * (kE a6)), I (1 + sa.2.2.1)]] : List D)), (sa.2.2.2.2.2 ++ ([.agg [I ta40.2.2.1, I ((kE a6) * (kE a6)), I (1 + sa.2.2.1)]] : List D)))))
        else none
        else none
        else
        none /- false -/
        else none
        else none
       else
       none /- false -/
       else none
       else
       none /- false -/
       else none
       else none
      else
      none /- false -/
      else none
      else none
      else none
      else none
      else none
      else
      if roomP 24 ((sa.2.2.2.1).length + 1) then
      if inI64 (ta14.2.2.1 * (1 + sa.2.2.1)) then
      if inI64 (sa.1 + (ta14.2.2.1 * (1 + sa.2.2.1))) then
      if inI64 (((kE a6) * (kE a6)) * (1 + sa.2.2.1)) then
      if inI64 (sa.2.1 + (((kE a6) * (kE a6)) * (1 + sa.2.2.1))) then
      (F_top_thistleField n ([.agg [.v (.string t17.1), I t17.2.1, I t17.2.2.1, I t17.2.2.2.1, I t17.2.2.2.2.1, I t17.2.2.2.2.2.1, I t17.2.2.2.2.2.2.1, I t17.2.2.2.2.2.2.2.1, I t17.2.2.2.2.2.2.2.2.1, I t17.2.2.2.2.2.2.2.2.2]])).bind fun ta29 =>
      (F_field_Lit n ta29 0 ta4.1 ta4.2.1 ta4.2.2.1 (IntKind.wrap .i64 a3) (IntKind.wrap .i64 a4) (100 + (IntKind.wrap .i64 a5)) (kE a6)).bind fun ta30 =>
      if ta30.2.2.2 = 0 then
      if (minI (minI ta30.1 ta30.2.1) ta30.2.2.1) < 0 then
       none /- false -/
      else
      if inI64 (ta30.1 + ta30.2.1) then
      if inI64 ((ta30.1 + ta30.2.1) + ta30.2.2.1) then
      if ((ta30.1 + ta30.2.1) + ta30.2.2.1) = ((kE a6) * (kE a6)) then
       if roomP 24 ((sa.2.2.2.2.1).length + 1) then
       (F_top_thistleField n ((a2.take (Int.toNat (maxI 1 (((a2).length : Int) - 1)))).drop (Int.toNat 0))).bind fun ta37 =>
       (F_field_Lit n ta37 0 ta4.1 ta4.2.1 ta4.2.2.1 (IntKind.wrap .i64 a3) (IntKind.wrap .i64 a4) (100 + (IntKind.wrap .i64 a5)) (kE a6)).bind fun ta38 =>
       if ta38.2.2.2 = 0 then
       if (minI (minI ta38.1 ta38.2.1) ta38.2.2.1) < 0 then
        none /- false -/
       else
       if inI64 (ta38.1 + ta38.2.1) then
       if inI64 ((ta38.1 + ta38.2.1) + ta38.2.2.1) then
       if ((ta38.1 + ta38.2.1) + ta38.2.2.1) = ((kE a6) * (kE a6)) then
        if roomP 24 ((sa.2.2.2.2.2).length + 1) then
        if inI64 (sa.2.2.1 + 1) then
        some (.inl (.inr ((sa.1 + (ta14.2.2.1 * (1 + sa.2.2.1))), (sa.2.1 + (((kE a6) * (kE a6)) * (1 + sa.2.2.1))), (sa.2.2.1 + 1), (sa.2.2.2.1 ++ ([.agg [I ta14.2.2.1, I ((kE a6) * (kE a6)), I (1 + sa.2.2.1)]] : List D)), (sa.2.2.2.2.1 ++ ([.agg [I ta30.2.2.1, I ((kE a6) * (kE a6)), I (1 + sa.2.2.1)]] : List D)), (sa.2.2.2.2.2 ++ ([.agg [I ta38.2.2.1, I ((kE a6) * (kE a6)), I (1 + sa.2.2.1)]] : List D)))))
        else none
        else none
       else
       none /- false -/
       else none
       else none
       else
       none /- false -/
       else none
      else
      none /- false -/
      else none
      else none
      else
      none /- false -/
      else none
      else none
      else none
      else none
      else none
     else
     if roomP 24 ((sa.2.2.2.1).length + 1) then
     if inI64 (ta14.2.2.1 * (1 + sa.2.2.1)) then
     if inI64 (sa.1 + (ta14.2.2.1 * (1 + sa.2.2.1))) then
     if inI64 (((kE a6) * (kE a6)) * (1 + sa.2.2.1)) then
     if inI64 (sa.2.1 + (((kE a6) * (kE a6)) * (1 + sa.2.2.1))) then
     (F_top_thistleField n ([.agg [.v (.string t17.1), I t17.2.1, I t17.2.2.1, I t17.2.2.2.1, I t17.2.2.2.2.1, I t17.2.2.2.2.2.1, I t17.2.2.2.2.2.2.1, I t17.2.2.2.2.2.2.2.1, I t17.2.2.2.2.2.2.2.2.1, I t17.2.2.2.2.2.2.2.2.2]])).bind fun ta28 =>
     (F_field_Lit n ta28 0 ta4.1 ta4.2.1 ta4.2.2.1 (IntKind.wrap .i64 a3) (IntKind.wrap .i64 a4) (100 + (IntKind.wrap .i64 a5)) (kE a6)).bind fun ta29 =>
     if ta29.2.2.2 = 0 then
      if (minI (minI ta29.1 ta29.2.1) ta29.2.2.1) < 0 then
      none /- false -/
      else
      if inI64 (ta29.1 + ta29.2.1) then
      if inI64 ((ta29.1 + ta29.2.1) + ta29.2.2.1) then
      if ((ta29.1 + ta29.2.1) + ta29.2.2.1) = ((kE a6) * (kE a6)) then
      if roomP 24 ((sa.2.2.2.2.1).length + 1) then
      (F_top_thistleField n ((a2.take (Int.toNat (maxI 1 (((a2).length : Int) - 1)))).drop (Int.toNat 0))).bind fun ta36 =>
      (F_field_Lit n ta36 0 ta4.1 ta4.2.1 ta4.2.2.1 (IntKind.wrap .i64 a3) (IntKind.wrap .i64 a4) (100 + (IntKind.wrap .i64 a5)) (kE a6)).bind fun ta37 =>
      if ta37.2.2.2 = 0 then
       if (minI (minI ta37.1 ta37.2.1) ta37.2.2.1) < 0 then
       none /- false -/
       else
       if inI64 (ta37.1 + ta37.2.1) then
       if inI64 ((ta37.1 + ta37.2.1) + ta37.2.2.1) then
       if ((ta37.1 + ta37.2.1) + ta37.2.2.1) = ((kE a6) * (kE a6)) then
       if roomP 24 ((sa.2.2.2.2.2).length + 1) then
       if inI64 (sa.2.2.1 + 1) then
       some (.inl (.inr ((sa.1 + (ta14.2.2.1 * (1 + sa.2.2.1))), (sa.2.1 + (((kE a6) * (kE a6)) * (1 + sa.2.2.1))), (sa.2.2.1 + 1), (sa.2.2.2.1 ++ ([.agg [I ta14.2.2.1, I ((kE a6) * (kE a6)), I (1 + sa.2.2.1)]] : List D)), (sa.2.2.2.2.1 ++ ([.agg [I ta29.2.2.1, I ((kE a6) * (kE a6)), I (1 + sa.2.2.1)]] : List D)), (sa.2.2.2.2.2 ++ ([.agg [I ta37.2.2.1, I ((kE a6) * (kE a6)), I (1 + sa.2.2.1)]] : List D)))))
       else none
       else none
       else
       none /- false -/
       else none
       else none
      else
      none /- false -/
      else none
      else
      none /- false -/
      else none
      else none
     else
     none /- false -/
     else none
     else none
     else none
     else none
     else none
     else
     none /- false -/
     else none
     else none
     else none
    else
    none /- false -/
    else none
    else
    some (.inr (.inl ()))
   else
   none /- false -/
   else
   none /- false -/
  else
  none /- false -/
  else
  some (.inr (.inr (.inr (sa.1, sa.2.1, sa.2.2.2.1, sa.2.2.2.2.1, sa.2.2.2.2.2)))))
noncomputable def T_top_TopThistleYear_L2 (a0 : ByteArray) (a1 : List D) (a2 : List D) (a3 : Int) (a4 : Int) (a5 : Int) (a6 : Int) (t17 : ByteArray × Int × Int × Int × Int × Int × Int × Int × Int × Int) (sa : (Unit) ⊕ (Int × Int × Int × List D × List D × List D)) : List (Nat × AV) := match sa with
  | (.inl sa) => [(1, .d (.lst false 10 a2)), (3, .ptr 0 0 0 0 0), (7, .ptr 52 0 0 0 0), (8, .d (I (kE a6))), (9, .ptr 74 0 0 0 0), (11, .ptr 116 0 0 0 0), (12, .d (I 0)), (13, .d (I 0)), (118, .d (.lst false 4 a1)), (119, .d (I ((a1).length : Int))), (120, .d (I 0))]
  | (.inr sa) => [(1, .d (.lst false 10 a2)), (3, .ptr 0 0 0 0 0), (7, .ptr 52 0 0 0 0), (8, .d (I (kE a6))), (9, .ptr 74 0 0 0 0), (11, .ptr 116 0 0 0 0), (12, .d (I sa.1)), (13, .d (I sa.2.1)), (118, .d (.lst false 4 a1)), (119, .d (I ((a1).length : Int))), (120, .d (I sa.2.2.1))]
noncomputable def H_top_TopThistleYear_L2 (a0 : ByteArray) (a1 : List D) (a2 : List D) (a3 : Int) (a4 : Int) (a5 : Int) (a6 : Int) (t17 : ByteArray × Int × Int × Int × Int × Int × Int × Int × Int × Int) (sa : (Unit) ⊕ (Int × Int × Int × List D × List D × List D)) : List (Nat × Blk) := match sa with
  | (.inl sa) => [(0, .box (.d (.agg [.v (.string a0), .lst false 4 a1]))), (52, .box (.d (.agg [I (IntKind.wrap .i64 a3), I (IntKind.wrap .i64 a4), I (100 + (IntKind.wrap .i64 a5))]))), (74, .box (.d (.agg [.lst false 10 a2, .lst true 10 [.agg [.v (.string t17.1), I t17.2.1, I t17.2.2.1, I t17.2.2.2.1, I t17.2.2.2.2.1, I t17.2.2.2.2.2.1, I t17.2.2.2.2.2.2.1, I t17.2.2.2.2.2.2.2.1, I t17.2.2.2.2.2.2.2.2.1, I t17.2.2.2.2.2.2.2.2.2]], .lst false 10 ((a2.take (Int.toNat (maxI 1 (((a2).length : Int) - 1)))).drop (Int.toNat 0))]))), (116, .box (.d (.agg [.lst true 0 [], .lst true 0 [], .lst true 0 []])))]
  | (.inr sa) => [(0, .box (.d (.agg [.v (.string a0), .lst false 4 a1]))), (52, .box (.d (.agg [I (IntKind.wrap .i64 a3), I (IntKind.wrap .i64 a4), I (100 + (IntKind.wrap .i64 a5))]))), (74, .box (.d (.agg [.lst false 10 a2, .lst true 10 [.agg [.v (.string t17.1), I t17.2.1, I t17.2.2.1, I t17.2.2.2.1, I t17.2.2.2.2.1, I t17.2.2.2.2.2.1, I t17.2.2.2.2.2.2.1, I t17.2.2.2.2.2.2.2.1, I t17.2.2.2.2.2.2.2.2.1, I t17.2.2.2.2.2.2.2.2.2]], .lst false 10 ((a2.take (Int.toNat (maxI 1 (((a2).length : Int) - 1)))).drop (Int.toNat 0))]))), (116, .box (.agg [.own 261 0, .own 374 0, .own 472 0])), (261, .row 0 3 sa.2.2.2.1), (374, .row 0 3 sa.2.2.2.2.1), (472, .row 0 3 sa.2.2.2.2.2)]
noncomputable def X_top_TopThistleYear_L2 (a0 : ByteArray) (a1 : List D) (a2 : List D) (a3 : Int) (a4 : Int) (a5 : Int) (a6 : Int) (t17 : ByteArray × Int × Int × Int × Int × Int × Int × Int × Int × Int) (e : (Unit) ⊕ (Unit) ⊕ (Int × Int × List D × List D × List D)) : Ex := match e with
  | (.inl e) => .ret
  | (.inr (.inl e)) => (.exit 2)
  | (.inr (.inr e)) => (.exit 2)
noncomputable def XT_top_TopThistleYear_L2 (a0 : ByteArray) (a1 : List D) (a2 : List D) (a3 : Int) (a4 : Int) (a5 : Int) (a6 : Int) (t17 : ByteArray × Int × Int × Int × Int × Int × Int × Int × Int × Int) (e : (Unit) ⊕ (Unit) ⊕ (Int × Int × List D × List D × List D)) : List (Nat × AV) := match e with
  | (.inl e) => [(6, .d (B true))]
  | (.inr (.inl e)) => [(11, .ptr 116 0 0 0 0), (12, .d (I 0)), (13, .d (I 0))]
  | (.inr (.inr e)) => [(11, .ptr 116 0 0 0 0), (12, .d (I e.1)), (13, .d (I e.2.1))]
noncomputable def XH_top_TopThistleYear_L2 (a0 : ByteArray) (a1 : List D) (a2 : List D) (a3 : Int) (a4 : Int) (a5 : Int) (a6 : Int) (t17 : ByteArray × Int × Int × Int × Int × Int × Int × Int × Int × Int) (e : (Unit) ⊕ (Unit) ⊕ (Int × Int × List D × List D × List D)) : List (Nat × Blk) := match e with
  | (.inl e) => []
  | (.inr (.inl e)) => [(116, .box (.d (.agg [.lst true 0 [], .lst true 0 [], .lst true 0 []])))]
  | (.inr (.inr e)) => [(116, .box (.agg [.own 261 0, .own 374 0, .own 472 0])), (261, .row 0 3 e.2.2.1), (374, .row 0 3 e.2.2.2.1), (472, .row 0 3 e.2.2.2.2)]
theorem R_top_TopThistleYear_L2 {n : Nat} {a0 : ByteArray} {a1 : List D} {a2 : List D} {a3 : Int} {a4 : Int} {a5 : Int} {a6 : Int} {t17 : ByteArray × Int × Int × Int × Int × Int × Int × Int × Int × Int} (sa : (Unit) ⊕ (Int × Int × Int × List D × List D × List D)) (r) (h : F_top_TopThistleYear_L2 n a0 a1 a2 a3 a4 a5 a6 t17 sa = some r) : Rd cx (loopAt cx.P 4 1) 319 0 false (T_top_TopThistleYear_L2 a0 a1 a2 a3 a4 a5 a6 t17) (H_top_TopThistleYear_L2 a0 a1 a2 a3 a4 a5 a6 t17) (X_top_TopThistleYear_L2 a0 a1 a2 a3 a4 a5 a6 t17) (XT_top_TopThistleYear_L2 a0 a1 a2 a3 a4 a5 a6 t17) (XH_top_TopThistleYear_L2 a0 a1 a2 a3 a4 a5 a6 t17) sa r := by
 unfold F_top_TopThistleYear_L2 at h
 rcases sa with sa | sa
 ·by_cases ha1 : 0 < ((a1).length : Int)
  ·replace h := it h ha1
   obtain ⟨ta2, ha2, h⟩ := bo h; obtain ⟨ta3, ha3, h⟩ := bo h; obtain ⟨ta4, ha4, h⟩ := bo h; obtain ⟨ta5, ha5, h⟩ := bo h
   by_cases ha6 : ta4.2.2.2 = 0
   ·replace h := it h ha6
    by_cases ha7 : ta5.2 = 0
    ·replace h := it h ha7
     obtain ⟨ta8, ha8, h⟩ := bo h
     by_cases ha9 : ta8 = 0
     ·replace h := it h ha9
      obtain ⟨ta10, ha10, h⟩ := bo h
      by_cases ha11 : ta10 = 0
      ·replace h := it h ha11
       obtain ⟨ta12, ha12, h⟩ := bo h; obtain ⟨ta13, ha13, h⟩ := bo h
       by_cases ha14 : ta13.2.2.2 = 0
       ·replace h := it h ha14
        by_cases ha15 : (minI (minI ta13.1 ta13.2.1) ta13.2.2.1) < 0
        ·replace h := it h ha15
         cases h
        ·replace h := jf h ha15
         obtain ⟨ha16, h⟩ := gd h; obtain ⟨ha17, h⟩ := gd h; obtain ⟨ha18, h⟩ := gd h
         by_cases ha19 : ((ta13.1 + ta13.2.1) + ta13.2.2.1) = ((kE a6) * (kE a6))
         ·replace h := it h ha19
          obtain ⟨ta20, ha20, h⟩ := bo h
          by_cases ha21 : ta20.2.2.2.2.2.2.1 = 0
          ·replace h := it h ha21
           by_cases ha22 : ta20.2.2.2.2.2.2.2.2.2 = 0
           ·replace h := it h ha22
            obtain ⟨ta23, ha23, h⟩ := bo h
            by_cases ha24 : ta23.2.2 > 0
            ·replace h := it h ha24
             by_cases ha25 : ta5.1 = true
             ·replace h := it h ha25
              obtain ⟨ha26, h⟩ := gd h; obtain ⟨ha27, h⟩ := gd h; obtain ⟨ha28, h⟩ := gd h; obtain ⟨ha29, h⟩ := gd h; obtain ⟨ta30, ha30, h⟩ := bo h; obtain ⟨ta31, ha31, h⟩ := bo h
              by_cases ha32 : ta31.2.2.2 = 0
              ·replace h := it h ha32
               by_cases ha33 : (minI (minI ta31.1 ta31.2.1) ta31.2.2.1) < 0
               ·replace h := it h ha33
                cases h
               ·replace h := jf h ha33
                obtain ⟨ha34, h⟩ := gd h; obtain ⟨ha35, h⟩ := gd h
                by_cases ha36 : ((ta31.1 + ta31.2.1) + ta31.2.2.1) = ((kE a6) * (kE a6))
                ·replace h := it h ha36
                 obtain ⟨ta37, ha37, h⟩ := bo h; obtain ⟨ta38, ha38, h⟩ := bo h
                 by_cases ha39 : ta38.2.2.2 = 0
                 ·replace h := it h ha39
                  by_cases ha40 : (minI (minI ta38.1 ta38.2.1) ta38.2.2.1) < 0
                  ·replace h := it h ha40
                   cases h
                  ·replace h := jf h ha40
                   obtain ⟨ha41, h⟩ := gd h; obtain ⟨ha42, h⟩ := gd h
                   by_cases ha43 : ((ta38.1 + ta38.2.1) + ta38.2.2.1) = ((kE a6) * (kE a6))
                   ·replace h := it h ha43
                    obtain rfl := oi h
                    exact ⟨100, 123, [.br true, .el (enc_Ai4Z ta2), .ret (.agg [.v (.string ta3.1), .lst false 4 ta3.2]), .ret (.tup [.agg [I ta4.1, I ta4.2.1, I ta4.2.2.1], I ta4.2.2.2]), .ret (.agg [.v (.string ta3.1), .lst false 4 ta3.2]), .ret (.tup [B ta5.1, I ta5.2]), .br false, .br false, .ret (I ta8), .br false, .ret (I ta10), .br false, .no, .no, .ret (.lst false 10 ta12), .ret (.tup [.agg [I ta13.1, I ta13.2.1, I ta13.2.2.1], I ta13.2.2.2]), .br false, .br false, .br false, .el (enc_Asi9Z ta20), .br true, .el (enc_Asi9Z ta20), .br true, .el (enc_Asi9Z ta20), .ret (.agg [I ta23.1, I ta23.2.1, I ta23.2.2]), .br true, .br false, .no, .no, .no, .no, .no, .no, .ret (.lst false 10 ta30), .ret (.tup [.agg [I ta31.1, I ta31.2.1, I ta31.2.2.1], I ta31.2.2.2]), .br false, .br false, .br false, .el (enc_Asi9Z ta20), .br true, .el (enc_Asi9Z ta20), .br true, .el (enc_Asi9Z ta20), .ret (.agg [I ta23.1, I ta23.2.1, I ta23.2.2]), .br true, .br false, .no, .no, .no, .no, .no, .no, .ret (.lst false 10 ta37), .ret (.tup [.agg [I ta38.1, I ta38.2.1, I ta38.2.2.1], I ta38.2.2.2]), .br false, .br false, .br false, .el (enc_Asi9Z ta20), .br true, .el (enc_Asi9Z ta20), .br true, .el (enc_Asi9Z ta20), .ret (.agg [I ta23.1, I ta23.2.1, I ta23.2.2]), .br true, .br false, .no, .no, .no, .no, .no, .no], [], [1, 3, 7, 8, 9, 11, 12, 13, 118, 119, 120], [0, 52, 74, 116, 261, 374, 472], round_fr (allC ((by unfold inI64; omega) : inI64 1) (allC ((by unfold inI64; omega) : inI64 3) (allC ha18 (allC (notf ha25) (allC (decide_eq_true ha24) (allC (c_ref04_Normal ha23) (allC (el_ok un_Asi9Z_ok ha20).1 (allC (el_ok un_Asi9Z_ok ha20).2 (allC (eqt ha22) (allC (el_ok un_Asi9Z_ok ha20).1 (allC (el_ok un_Asi9Z_ok ha20).2 (allC (eqt ha21) (allC (el_ok un_Asi9Z_ok ha20).1 (allC (el_ok un_Asi9Z_ok ha20).2 (allC (nef ha43) (allC ha18 (allC ha42 (allC ha41 (allC (decide_eq_false ha40) (allC (nef ha39) (allC (c_field_Lit ha38) (allC (c_top_thistleField ha37) (allC ((by unfold inI64; omega) : inI64 2) (allC ha18 (allC (notf ha25) (allC (decide_eq_true ha24) (allC (c_ref04_Normal ha23) (allC (el_ok un_Asi9Z_ok ha20).1 (allC (el_ok un_Asi9Z_ok ha20).2 (allC (eqt ha22) (allC (el_ok un_Asi9Z_ok ha20).1 (allC (el_ok un_Asi9Z_ok ha20).2 (allC (eqt ha21) (allC (el_ok un_Asi9Z_ok ha20).1 (allC (el_ok un_Asi9Z_ok ha20).2 (allC (nef ha36) (allC ha18 (allC ha35 (allC ha34 (allC (decide_eq_false ha33) (allC (nef ha32) (allC (c_field_Lit ha31) (allC (((c_top_thistleField ha30).le (.cons (.full _ _ _) (.nil)) (.refl _)) : Computes cx 19 [.lst true 10 [.agg [.v (.string t17.1), I t17.2.1, I t17.2.2.1, I t17.2.2.2.1, I t17.2.2.2.2.1, I t17.2.2.2.2.2.1, I t17.2.2.2.2.2.2.1, I t17.2.2.2.2.2.2.2.1, I t17.2.2.2.2.2.2.2.2.1, I t17.2.2.2.2.2.2.2.2.2]]] (.lst false 10 ta30)) (allC ((by unfold inI64; omega) : inI64 1) (allC ha29 (allC ha28 (allC ha18 (allC ha27 (allC ha26 (allC ha18 (allC (notf ha25) (allC (decide_eq_true ha24) (allC (c_ref04_Normal ha23) (allC (el_ok un_Asi9Z_ok ha20).1 (allC (el_ok un_Asi9Z_ok ha20).2 (allC (eqt ha22) (allC (el_ok un_Asi9Z_ok ha20).1 (allC (el_ok un_Asi9Z_ok ha20).2 (allC (eqt ha21) (allC (el_ok un_Asi9Z_ok ha20).1 (allC (el_ok un_Asi9Z_ok ha20).2 (allC (nef ha19) (allC ha18 (allC ha17 (allC ha16 (allC (decide_eq_false ha15) (allC (nef ha14) (allC (c_field_Lit ha13) (allC (c_top_thistleField ha12) (allC ((by unfold inI64; omega) : inI64 1) (allC (nef ha11) (allC (c_ref04_CheckDirection ha10) (allC (nef ha9) (allC (c_ref02_CheckPlace ha8) (allC (nef ha7) (allC (nef ha6) (allC (c_sun_Risen ha5) (allC (c_top_thistleSky ha3) (allC (c_sun_At ha4) (allC (c_top_thistleSky ha3) (allC (el_ok un_Ai4Z_ok ha2).1 (allC (el_ok un_Ai4Z_ok ha2).2 (allC (decide_eq_true ha1) allN))))))))))))))))))))))))))))))))))))))))))))))))))))))))))))))))))))))))))))))))))) (by kernel_rfl)⟩
                   ·replace h := jf h ha43
                    cases h
                 ·replace h := jf h ha39
                  cases h
                ·replace h := jf h ha36
                 cases h
              ·replace h := jf h ha32
               cases h
             ·replace h := jf h ha25
              by_cases ha26 : ta13.1 = ((kE a6) * (kE a6))
              ·replace h := it h ha26
               obtain ⟨ha27, h⟩ := gd h; obtain ⟨ha28, h⟩ := gd h; obtain ⟨ha29, h⟩ := gd h; obtain ⟨ha30, h⟩ := gd h; obtain ⟨ta31, ha31, h⟩ := bo h; obtain ⟨ta32, ha32, h⟩ := bo h
               by_cases ha33 : ta32.2.2.2 = 0
               ·replace h := it h ha33
                by_cases ha34 : (minI (minI ta32.1 ta32.2.1) ta32.2.2.1) < 0
                ·replace h := it h ha34
                 cases h
                ·replace h := jf h ha34
                 obtain ⟨ha35, h⟩ := gd h; obtain ⟨ha36, h⟩ := gd h
                 by_cases ha37 : ((ta32.1 + ta32.2.1) + ta32.2.2.1) = ((kE a6) * (kE a6))
                 ·replace h := it h ha37
                  by_cases ha38 : ta32.1 = ((kE a6) * (kE a6))
                  ·replace h := it h ha38
                   obtain ⟨ta39, ha39, h⟩ := bo h; obtain ⟨ta40, ha40, h⟩ := bo h
                   by_cases ha41 : ta40.2.2.2 = 0
                   ·replace h := it h ha41
                    by_cases ha42 : (minI (minI ta40.1 ta40.2.1) ta40.2.2.1) < 0
                    ·replace h := it h ha42
                     cases h
                    ·replace h := jf h ha42
                     obtain ⟨ha43, h⟩ := gd h; obtain ⟨ha44, h⟩ := gd h
                     by_cases ha45 : ((ta40.1 + ta40.2.1) + ta40.2.2.1) = ((kE a6) * (kE a6))
                     ·replace h := it h ha45
                      by_cases ha46 : ta40.1 = ((kE a6) * (kE a6))
                      ·replace h := it h ha46
                       obtain rfl := oi h
                       exact ⟨100, 123, [.br true, .el (enc_Ai4Z ta2), .ret (.agg [.v (.string ta3.1), .lst false 4 ta3.2]), .ret (.tup [.agg [I ta4.1, I ta4.2.1, I ta4.2.2.1], I ta4.2.2.2]), .ret (.agg [.v (.string ta3.1), .lst false 4 ta3.2]), .ret (.tup [B ta5.1, I ta5.2]), .br false, .br false, .ret (I ta8), .br false, .ret (I ta10), .br false, .no, .no, .ret (.lst false 10 ta12), .ret (.tup [.agg [I ta13.1, I ta13.2.1, I ta13.2.2.1], I ta13.2.2.2]), .br false, .br false, .br false, .el (enc_Asi9Z ta20), .br true, .el (enc_Asi9Z ta20), .br true, .el (enc_Asi9Z ta20), .ret (.agg [I ta23.1, I ta23.2.1, I ta23.2.2]), .br true, .br true, .br false, .no, .no, .no, .no, .no, .ret (.lst false 10 ta31), .ret (.tup [.agg [I ta32.1, I ta32.2.1, I ta32.2.2.1], I ta32.2.2.2]), .br false, .br false, .br false, .el (enc_Asi9Z ta20), .br true, .el (enc_Asi9Z ta20), .br true, .el (enc_Asi9Z ta20), .ret (.agg [I ta23.1, I ta23.2.1, I ta23.2.2]), .br true, .br true, .br false, .no, .no, .no, .no, .no, .ret (.lst false 10 ta39), .ret (.tup [.agg [I ta40.1, I ta40.2.1, I ta40.2.2.1], I ta40.2.2.2]), .br false, .br false, .br false, .el (enc_Asi9Z ta20), .br true, .el (enc_Asi9Z ta20), .br true, .el (enc_Asi9Z ta20), .ret (.agg [I ta23.1, I ta23.2.1, I ta23.2.2]), .br true, .br true, .br false, .no, .no, .no, .no, .no], [], [1, 3, 7, 8, 9, 11, 12, 13, 118, 119, 120], [0, 52, 74, 116, 261, 374, 472], round_fr (allC ((by unfold inI64; omega) : inI64 1) (allC ((by unfold inI64; omega) : inI64 3) (allC ha18 (allC (nef ha46) (allC ha18 (allC (nott (bfalse ha25)) (allC (decide_eq_true ha24) (allC (c_ref04_Normal ha23) (allC (el_ok un_Asi9Z_ok ha20).1 (allC (el_ok un_Asi9Z_ok ha20).2 (allC (eqt ha22) (allC (el_ok un_Asi9Z_ok ha20).1 (allC (el_ok un_Asi9Z_ok ha20).2 (allC (eqt ha21) (allC (el_ok un_Asi9Z_ok ha20).1 (allC (el_ok un_Asi9Z_ok ha20).2 (allC (nef ha45) (allC ha18 (allC ha44 (allC ha43 (allC (decide_eq_false ha42) (allC (nef ha41) (allC (c_field_Lit ha40) (allC (c_top_thistleField ha39) (allC ((by unfold inI64; omega) : inI64 2) (allC ha18 (allC (nef ha38) (allC ha18 (allC (nott (bfalse ha25)) (allC (decide_eq_true ha24) (allC (c_ref04_Normal ha23) (allC (el_ok un_Asi9Z_ok ha20).1 (allC (el_ok un_Asi9Z_ok ha20).2 (allC (eqt ha22) (allC (el_ok un_Asi9Z_ok ha20).1 (allC (el_ok un_Asi9Z_ok ha20).2 (allC (eqt ha21) (allC (el_ok un_Asi9Z_ok ha20).1 (allC (el_ok un_Asi9Z_ok ha20).2 (allC (nef ha37) (allC ha18 (allC ha36 (allC ha35 (allC (decide_eq_false ha34) (allC (nef ha33) (allC (c_field_Lit ha32) (allC (((c_top_thistleField ha31).le (.cons (.full _ _ _) (.nil)) (.refl _)) : Computes cx 19 [.lst true 10 [.agg [.v (.string t17.1), I t17.2.1, I t17.2.2.1, I t17.2.2.2.1, I t17.2.2.2.2.1, I t17.2.2.2.2.2.1, I t17.2.2.2.2.2.2.1, I t17.2.2.2.2.2.2.2.1, I t17.2.2.2.2.2.2.2.2.1, I t17.2.2.2.2.2.2.2.2.2]]] (.lst false 10 ta31)) (allC ((by unfold inI64; omega) : inI64 1) (allC ha30 (allC ha29 (allC ha18 (allC ha28 (allC ha27 (allC ha18 (allC (nef ha26) (allC ha18 (allC (nott (bfalse ha25)) (allC (decide_eq_true ha24) (allC (c_ref04_Normal ha23) (allC (el_ok un_Asi9Z_ok ha20).1 (allC (el_ok un_Asi9Z_ok ha20).2 (allC (eqt ha22) (allC (el_ok un_Asi9Z_ok ha20).1 (allC (el_ok un_Asi9Z_ok ha20).2 (allC (eqt ha21) (allC (el_ok un_Asi9Z_ok ha20).1 (allC (el_ok un_Asi9Z_ok ha20).2 (allC (nef ha19) (allC ha18 (allC ha17 (allC ha16 (allC (decide_eq_false ha15) (allC (nef ha14) (allC (c_field_Lit ha13) (allC (c_top_thistleField ha12) (allC ((by unfold inI64; omega) : inI64 1) (allC (nef ha11) (allC (c_ref04_CheckDirection ha10) (allC (nef ha9) (allC (c_ref02_CheckPlace ha8) (allC (nef ha7) (allC (nef ha6) (allC (c_sun_Risen ha5) (allC (c_top_thistleSky ha3) (allC (c_sun_At ha4) (allC (c_top_thistleSky ha3) (allC (el_ok un_Ai4Z_ok ha2).1 (allC (el_ok un_Ai4Z_ok ha2).2 (allC (decide_eq_true ha1) allN))))))))))))))))))))))))))))))))))))))))))))))))))))))))))))))))))))))))))))))))))))))))) (by kernel_rfl)⟩
                      ·replace h := jf h ha46
                       cases h
                     ·replace h := jf h ha45
                      cases h
                   ·replace h := jf h ha41
                    cases h
                  ·replace h := jf h ha38
                   cases h
                 ·replace h := jf h ha37
                  cases h
               ·replace h := jf h ha33
                cases h
              ·replace h := jf h ha26
               cases h
            ·replace h := jf h ha24
             obtain ⟨ha25, h⟩ := gd h; obtain ⟨ha26, h⟩ := gd h; obtain ⟨ha27, h⟩ := gd h; obtain ⟨ha28, h⟩ := gd h; obtain ⟨ta29, ha29, h⟩ := bo h; obtain ⟨ta30, ha30, h⟩ := bo h
             by_cases ha31 : ta30.2.2.2 = 0
             ·replace h := it h ha31
              by_cases ha32 : (minI (minI ta30.1 ta30.2.1) ta30.2.2.1) < 0
              ·replace h := it h ha32
               cases h
              ·replace h := jf h ha32
               obtain ⟨ha33, h⟩ := gd h; obtain ⟨ha34, h⟩ := gd h
               by_cases ha35 : ((ta30.1 + ta30.2.1) + ta30.2.2.1) = ((kE a6) * (kE a6))
               ·replace h := it h ha35
                obtain ⟨ta36, ha36, h⟩ := bo h; obtain ⟨ta37, ha37, h⟩ := bo h
                by_cases ha38 : ta37.2.2.2 = 0
                ·replace h := it h ha38
                 by_cases ha39 : (minI (minI ta37.1 ta37.2.1) ta37.2.2.1) < 0
                 ·replace h := it h ha39
                  cases h
                 ·replace h := jf h ha39
                  obtain ⟨ha40, h⟩ := gd h; obtain ⟨ha41, h⟩ := gd h
                  by_cases ha42 : ((ta37.1 + ta37.2.1) + ta37.2.2.1) = ((kE a6) * (kE a6))
                  ·replace h := it h ha42
                   obtain rfl := oi h
                   exact ⟨100, 123, [.br true, .el (enc_Ai4Z ta2), .ret (.agg [.v (.string ta3.1), .lst false 4 ta3.2]), .ret (.tup [.agg [I ta4.1, I ta4.2.1, I ta4.2.2.1], I ta4.2.2.2]), .ret (.agg [.v (.string ta3.1), .lst false 4 ta3.2]), .ret (.tup [B ta5.1, I ta5.2]), .br false, .br false, .ret (I ta8), .br false, .ret (I ta10), .br false, .no, .no, .ret (.lst false 10 ta12), .ret (.tup [.agg [I ta13.1, I ta13.2.1, I ta13.2.2.1], I ta13.2.2.2]), .br false, .br false, .br false, .el (enc_Asi9Z ta20), .br true, .el (enc_Asi9Z ta20), .br true, .el (enc_Asi9Z ta20), .ret (.agg [I ta23.1, I ta23.2.1, I ta23.2.2]), .br false, .no, .no, .no, .no, .no, .no, .no, .ret (.lst false 10 ta29), .ret (.tup [.agg [I ta30.1, I ta30.2.1, I ta30.2.2.1], I ta30.2.2.2]), .br false, .br false, .br false, .el (enc_Asi9Z ta20), .br true, .el (enc_Asi9Z ta20), .br true, .el (enc_Asi9Z ta20), .ret (.agg [I ta23.1, I ta23.2.1, I ta23.2.2]), .br false, .no, .no, .no, .no, .no, .no, .no, .ret (.lst false 10 ta36), .ret (.tup [.agg [I ta37.1, I ta37.2.1, I ta37.2.2.1], I ta37.2.2.2]), .br false, .br false, .br false, .el (enc_Asi9Z ta20), .br true, .el (enc_Asi9Z ta20), .br true, .el (enc_Asi9Z ta20), .ret (.agg [I ta23.1, I ta23.2.1, I ta23.2.2]), .br false, .no, .no, .no, .no, .no, .no, .no], [], [1, 3, 7, 8, 9, 11, 12, 13, 118, 119, 120], [0, 52, 74, 116, 261, 374, 472], round_fr (allC ((by unfold inI64; omega) : inI64 1) (allC ((by unfold inI64; omega) : inI64 3) (allC ha18 (allC (decide_eq_false ha24) (allC (c_ref04_Normal ha23) (allC (el_ok un_Asi9Z_ok ha20).1 (allC (el_ok un_Asi9Z_ok ha20).2 (allC (eqt ha22) (allC (el_ok un_Asi9Z_ok ha20).1 (allC (el_ok un_Asi9Z_ok ha20).2 (allC (eqt ha21) (allC (el_ok un_Asi9Z_ok ha20).1 (allC (el_ok un_Asi9Z_ok ha20).2 (allC (nef ha42) (allC ha18 (allC ha41 (allC ha40 (allC (decide_eq_false ha39) (allC (nef ha38) (allC (c_field_Lit ha37) (allC (c_top_thistleField ha36) (allC ((by unfold inI64; omega) : inI64 2) (allC ha18 (allC (decide_eq_false ha24) (allC (c_ref04_Normal ha23) (allC (el_ok un_Asi9Z_ok ha20).1 (allC (el_ok un_Asi9Z_ok ha20).2 (allC (eqt ha22) (allC (el_ok un_Asi9Z_ok ha20).1 (allC (el_ok un_Asi9Z_ok ha20).2 (allC (eqt ha21) (allC (el_ok un_Asi9Z_ok ha20).1 (allC (el_ok un_Asi9Z_ok ha20).2 (allC (nef ha35) (allC ha18 (allC ha34 (allC ha33 (allC (decide_eq_false ha32) (allC (nef ha31) (allC (c_field_Lit ha30) (allC (((c_top_thistleField ha29).le (.cons (.full _ _ _) (.nil)) (.refl _)) : Computes cx 19 [.lst true 10 [.agg [.v (.string t17.1), I t17.2.1, I t17.2.2.1, I t17.2.2.2.1, I t17.2.2.2.2.1, I t17.2.2.2.2.2.1, I t17.2.2.2.2.2.2.1, I t17.2.2.2.2.2.2.2.1, I t17.2.2.2.2.2.2.2.2.1, I t17.2.2.2.2.2.2.2.2.2]]] (.lst false 10 ta29)) (allC ((by unfold inI64; omega) : inI64 1) (allC ha28 (allC ha27 (allC ha18 (allC ha26 (allC ha25 (allC ha18 (allC (decide_eq_false ha24) (allC (c_ref04_Normal ha23) (allC (el_ok un_Asi9Z_ok ha20).1 (allC (el_ok un_Asi9Z_ok ha20).2 (allC (eqt ha22) (allC (el_ok un_Asi9Z_ok ha20).1 (allC (el_ok un_Asi9Z_ok ha20).2 (allC (eqt ha21) (allC (el_ok un_Asi9Z_ok ha20).1 (allC (el_ok un_Asi9Z_ok ha20).2 (allC (nef ha19) (allC ha18 (allC ha17 (allC ha16 (allC (decide_eq_false ha15) (allC (nef ha14) (allC (c_field_Lit ha13) (allC (c_top_thistleField ha12) (allC ((by unfold inI64; omega) : inI64 1) (allC (nef ha11) (allC (c_ref04_CheckDirection ha10) (allC (nef ha9) (allC (c_ref02_CheckPlace ha8) (allC (nef ha7) (allC (nef ha6) (allC (c_sun_Risen ha5) (allC (c_top_thistleSky ha3) (allC (c_sun_At ha4) (allC (c_top_thistleSky ha3) (allC (el_ok un_Ai4Z_ok ha2).1 (allC (el_ok un_Ai4Z_ok ha2).2 (allC (decide_eq_true ha1) allN)))))))))))))))))))))))))))))))))))))))))))))))))))))))))))))))))))))))))))))))) (by kernel_rfl)⟩
                  ·replace h := jf h ha42
                   cases h
                ·replace h := jf h ha38
                 cases h
               ·replace h := jf h ha35
                cases h
             ·replace h := jf h ha31
              cases h
           ·replace h := jf h ha22
            obtain ⟨ha23, h⟩ := gd h; obtain ⟨ha24, h⟩ := gd h; obtain ⟨ha25, h⟩ := gd h; obtain ⟨ha26, h⟩ := gd h; obtain ⟨ta27, ha27, h⟩ := bo h; obtain ⟨ta28, ha28, h⟩ := bo h
            by_cases ha29 : ta28.2.2.2 = 0
            ·replace h := it h ha29
             by_cases ha30 : (minI (minI ta28.1 ta28.2.1) ta28.2.2.1) < 0
             ·replace h := it h ha30
              cases h
             ·replace h := jf h ha30
              obtain ⟨ha31, h⟩ := gd h; obtain ⟨ha32, h⟩ := gd h
              by_cases ha33 : ((ta28.1 + ta28.2.1) + ta28.2.2.1) = ((kE a6) * (kE a6))
              ·replace h := it h ha33
               obtain ⟨ta34, ha34, h⟩ := bo h; obtain ⟨ta35, ha35, h⟩ := bo h
               by_cases ha36 : ta35.2.2.2 = 0
               ·replace h := it h ha36
                by_cases ha37 : (minI (minI ta35.1 ta35.2.1) ta35.2.2.1) < 0
                ·replace h := it h ha37
                 cases h
                ·replace h := jf h ha37
                 obtain ⟨ha38, h⟩ := gd h; obtain ⟨ha39, h⟩ := gd h
                 by_cases ha40 : ((ta35.1 + ta35.2.1) + ta35.2.2.1) = ((kE a6) * (kE a6))
                 ·replace h := it h ha40
                  obtain rfl := oi h
                  exact ⟨100, 123, [.br true, .el (enc_Ai4Z ta2), .ret (.agg [.v (.string ta3.1), .lst false 4 ta3.2]), .ret (.tup [.agg [I ta4.1, I ta4.2.1, I ta4.2.2.1], I ta4.2.2.2]), .ret (.agg [.v (.string ta3.1), .lst false 4 ta3.2]), .ret (.tup [B ta5.1, I ta5.2]), .br false, .br false, .ret (I ta8), .br false, .ret (I ta10), .br false, .no, .no, .ret (.lst false 10 ta12), .ret (.tup [.agg [I ta13.1, I ta13.2.1, I ta13.2.2.1], I ta13.2.2.2]), .br false, .br false, .br false, .el (enc_Asi9Z ta20), .br true, .el (enc_Asi9Z ta20), .br false, .no, .no, .no, .no, .no, .no, .no, .no, .ret (.lst false 10 ta27), .ret (.tup [.agg [I ta28.1, I ta28.2.1, I ta28.2.2.1], I ta28.2.2.2]), .br false, .br false, .br false, .el (enc_Asi9Z ta20), .br true, .el (enc_Asi9Z ta20), .br false, .no, .no, .no, .no, .no, .no, .no, .no, .ret (.lst false 10 ta34), .ret (.tup [.agg [I ta35.1, I ta35.2.1, I ta35.2.2.1], I ta35.2.2.2]), .br false, .br false, .br false, .el (enc_Asi9Z ta20), .br true, .el (enc_Asi9Z ta20), .br false, .no, .no, .no, .no, .no, .no, .no, .no], [], [1, 3, 7, 8, 9, 11, 12, 13, 118, 119, 120], [0, 52, 74, 116, 261, 374, 472], round_fr (allC ((by unfold inI64; omega) : inI64 1) (allC ((by unfold inI64; omega) : inI64 3) (allC ha18 (allC (eqf ha22) (allC (el_ok un_Asi9Z_ok ha20).1 (allC (el_ok un_Asi9Z_ok ha20).2 (allC (eqt ha21) (allC (el_ok un_Asi9Z_ok ha20).1 (allC (el_ok un_Asi9Z_ok ha20).2 (allC (nef ha40) (allC ha18 (allC ha39 (allC ha38 (allC (decide_eq_false ha37) (allC (nef ha36) (allC (c_field_Lit ha35) (allC (c_top_thistleField ha34) (allC ((by unfold inI64; omega) : inI64 2) (allC ha18 (allC (eqf ha22) (allC (el_ok un_Asi9Z_ok ha20).1 (allC (el_ok un_Asi9Z_ok ha20).2 (allC (eqt ha21) (allC (el_ok un_Asi9Z_ok ha20).1 (allC (el_ok un_Asi9Z_ok ha20).2 (allC (nef ha33) (allC ha18 (allC ha32 (allC ha31 (allC (decide_eq_false ha30) (allC (nef ha29) (allC (c_field_Lit ha28) (allC (((c_top_thistleField ha27).le (.cons (.full _ _ _) (.nil)) (.refl _)) : Computes cx 19 [.lst true 10 [.agg [.v (.string t17.1), I t17.2.1, I t17.2.2.1, I t17.2.2.2.1, I t17.2.2.2.2.1, I t17.2.2.2.2.2.1, I t17.2.2.2.2.2.2.1, I t17.2.2.2.2.2.2.2.1, I t17.2.2.2.2.2.2.2.2.1, I t17.2.2.2.2.2.2.2.2.2]]] (.lst false 10 ta27)) (allC ((by unfold inI64; omega) : inI64 1) (allC ha26 (allC ha25 (allC ha18 (allC ha24 (allC ha23 (allC ha18 (allC (eqf ha22) (allC (el_ok un_Asi9Z_ok ha20).1 (allC (el_ok un_Asi9Z_ok ha20).2 (allC (eqt ha21) (allC (el_ok un_Asi9Z_ok ha20).1 (allC (el_ok un_Asi9Z_ok ha20).2 (allC (nef ha19) (allC ha18 (allC ha17 (allC ha16 (allC (decide_eq_false ha15) (allC (nef ha14) (allC (c_field_Lit ha13) (allC (c_top_thistleField ha12) (allC ((by unfold inI64; omega) : inI64 1) (allC (nef ha11) (allC (c_ref04_CheckDirection ha10) (allC (nef ha9) (allC (c_ref02_CheckPlace ha8) (allC (nef ha7) (allC (nef ha6) (allC (c_sun_Risen ha5) (allC (c_top_thistleSky ha3) (allC (c_sun_At ha4) (allC (c_top_thistleSky ha3) (allC (el_ok un_Ai4Z_ok ha2).1 (allC (el_ok un_Ai4Z_ok ha2).2 (allC (decide_eq_true ha1) allN)))))))))))))))))))))))))))))))))))))))))))))))))))))))))))))))))))) (by kernel_rfl)⟩
                 ·replace h := jf h ha40
                  cases h
               ·replace h := jf h ha36
                cases h
              ·replace h := jf h ha33
               cases h
            ·replace h := jf h ha29
             cases h
          ·replace h := jf h ha21
           obtain ⟨ha22, h⟩ := gd h; obtain ⟨ha23, h⟩ := gd h; obtain ⟨ha24, h⟩ := gd h; obtain ⟨ha25, h⟩ := gd h; obtain ⟨ta26, ha26, h⟩ := bo h; obtain ⟨ta27, ha27, h⟩ := bo h
           by_cases ha28 : ta27.2.2.2 = 0
           ·replace h := it h ha28
            by_cases ha29 : (minI (minI ta27.1 ta27.2.1) ta27.2.2.1) < 0
            ·replace h := it h ha29
             cases h
            ·replace h := jf h ha29
             obtain ⟨ha30, h⟩ := gd h; obtain ⟨ha31, h⟩ := gd h
             by_cases ha32 : ((ta27.1 + ta27.2.1) + ta27.2.2.1) = ((kE a6) * (kE a6))
             ·replace h := it h ha32
              obtain ⟨ta33, ha33, h⟩ := bo h; obtain ⟨ta34, ha34, h⟩ := bo h
              by_cases ha35 : ta34.2.2.2 = 0
              ·replace h := it h ha35
               by_cases ha36 : (minI (minI ta34.1 ta34.2.1) ta34.2.2.1) < 0
               ·replace h := it h ha36
                cases h
               ·replace h := jf h ha36
                obtain ⟨ha37, h⟩ := gd h; obtain ⟨ha38, h⟩ := gd h
                by_cases ha39 : ((ta34.1 + ta34.2.1) + ta34.2.2.1) = ((kE a6) * (kE a6))
                ·replace h := it h ha39
                 obtain rfl := oi h
                 exact ⟨100, 123, [.br true, .el (enc_Ai4Z ta2), .ret (.agg [.v (.string ta3.1), .lst false 4 ta3.2]), .ret (.tup [.agg [I ta4.1, I ta4.2.1, I ta4.2.2.1], I ta4.2.2.2]), .ret (.agg [.v (.string ta3.1), .lst false 4 ta3.2]), .ret (.tup [B ta5.1, I ta5.2]), .br false, .br false, .ret (I ta8), .br false, .ret (I ta10), .br false, .no, .no, .ret (.lst false 10 ta12), .ret (.tup [.agg [I ta13.1, I ta13.2.1, I ta13.2.2.1], I ta13.2.2.2]), .br false, .br false, .br false, .el (enc_Asi9Z ta20), .br false, .no, .no, .no, .no, .no, .no, .no, .no, .no, .ret (.lst false 10 ta26), .ret (.tup [.agg [I ta27.1, I ta27.2.1, I ta27.2.2.1], I ta27.2.2.2]), .br false, .br false, .br false, .el (enc_Asi9Z ta20), .br false, .no, .no, .no, .no, .no, .no, .no, .no, .no, .ret (.lst false 10 ta33), .ret (.tup [.agg [I ta34.1, I ta34.2.1, I ta34.2.2.1], I ta34.2.2.2]), .br false, .br false, .br false, .el (enc_Asi9Z ta20), .br false, .no, .no, .no, .no, .no, .no, .no, .no, .no], [], [1, 3, 7, 8, 9, 11, 12, 13, 118, 119, 120], [0, 52, 74, 116, 261, 374, 472], round_fr (allC ((by unfold inI64; omega) : inI64 1) (allC ((by unfold inI64; omega) : inI64 3) (allC ha18 (allC (eqf ha21) (allC (el_ok un_Asi9Z_ok ha20).1 (allC (el_ok un_Asi9Z_ok ha20).2 (allC (nef ha39) (allC ha18 (allC ha38 (allC ha37 (allC (decide_eq_false ha36) (allC (nef ha35) (allC (c_field_Lit ha34) (allC (c_top_thistleField ha33) (allC ((by unfold inI64; omega) : inI64 2) (allC ha18 (allC (eqf ha21) (allC (el_ok un_Asi9Z_ok ha20).1 (allC (el_ok un_Asi9Z_ok ha20).2 (allC (nef ha32) (allC ha18 (allC ha31 (allC ha30 (allC (decide_eq_false ha29) (allC (nef ha28) (allC (c_field_Lit ha27) (allC (((c_top_thistleField ha26).le (.cons (.full _ _ _) (.nil)) (.refl _)) : Computes cx 19 [.lst true 10 [.agg [.v (.string t17.1), I t17.2.1, I t17.2.2.1, I t17.2.2.2.1, I t17.2.2.2.2.1, I t17.2.2.2.2.2.1, I t17.2.2.2.2.2.2.1, I t17.2.2.2.2.2.2.2.1, I t17.2.2.2.2.2.2.2.2.1, I t17.2.2.2.2.2.2.2.2.2]]] (.lst false 10 ta26)) (allC ((by unfold inI64; omega) : inI64 1) (allC ha25 (allC ha24 (allC ha18 (allC ha23 (allC ha22 (allC ha18 (allC (eqf ha21) (allC (el_ok un_Asi9Z_ok ha20).1 (allC (el_ok un_Asi9Z_ok ha20).2 (allC (nef ha19) (allC ha18 (allC ha17 (allC ha16 (allC (decide_eq_false ha15) (allC (nef ha14) (allC (c_field_Lit ha13) (allC (c_top_thistleField ha12) (allC ((by unfold inI64; omega) : inI64 1) (allC (nef ha11) (allC (c_ref04_CheckDirection ha10) (allC (nef ha9) (allC (c_ref02_CheckPlace ha8) (allC (nef ha7) (allC (nef ha6) (allC (c_sun_Risen ha5) (allC (c_top_thistleSky ha3) (allC (c_sun_At ha4) (allC (c_top_thistleSky ha3) (allC (el_ok un_Ai4Z_ok ha2).1 (allC (el_ok un_Ai4Z_ok ha2).2 (allC (decide_eq_true ha1) allN))))))))))))))))))))))))))))))))))))))))))))))))))))))))))) (by kernel_rfl)⟩
                ·replace h := jf h ha39
                 cases h
              ·replace h := jf h ha35
               cases h
             ·replace h := jf h ha32
              cases h
           ·replace h := jf h ha28
            cases h
         ·replace h := jf h ha19
          cases h
       ·replace h := jf h ha14
        cases h
      ·replace h := jf h ha11
       obtain rfl := oi h
       exact ⟨⟨100, 123, [.br true, .el (enc_Ai4Z ta2), .ret (.agg [.v (.string ta3.1), .lst false 4 ta3.2]), .ret (.tup [.agg [I ta4.1, I ta4.2.1, I ta4.2.2.1], I ta4.2.2.2]), .ret (.agg [.v (.string ta3.1), .lst false 4 ta3.2]), .ret (.tup [B ta5.1, I ta5.2]), .br false, .br false, .ret (I ta8), .br false, .ret (I ta10), .br true], [], [6], [], round_fr (allC (net ha11) (allC (c_ref04_CheckDirection ha10) (allC (nef ha9) (allC (c_ref02_CheckPlace ha8) (allC (nef ha7) (allC (nef ha6) (allC (c_sun_Risen ha5) (allC (c_top_thistleSky ha3) (allC (c_sun_At ha4) (allC (c_top_thistleSky ha3) (allC (el_ok un_Ai4Z_ok ha2).1 (allC (el_ok un_Ai4Z_ok ha2).2 (allC (decide_eq_true ha1) allN))))))))))))) (by kernel_rfl)⟩, nofun⟩
     ·replace h := jf h ha9
      cases h
    ·replace h := jf h ha7
     cases h
   ·replace h := jf h ha6
    cases h
  ·replace h := jf h ha1
   obtain rfl := oi h
   exact ⟨⟨100, 123, [.br false], [], [11, 12, 13], [116], round_fr (allC (decide_eq_false ha1) allN) (by kernel_rfl)⟩, nofun⟩
 ·by_cases ha1 : sa.2.2.1 < ((a1).length : Int)
  ·replace h := it h ha1
   obtain ⟨ta2, ha2, h⟩ := bo h; obtain ⟨ta3, ha3, h⟩ := bo h; obtain ⟨ta4, ha4, h⟩ := bo h; obtain ⟨ta5, ha5, h⟩ := bo h
   by_cases ha6 : ta4.2.2.2 = 0
   ·replace h := it h ha6
    by_cases ha7 : ta5.2 = 0
    ·replace h := it h ha7
     obtain ⟨ta8, ha8, h⟩ := bo h
     by_cases ha9 : ta8 = 0
     ·replace h := it h ha9
      obtain ⟨ta10, ha10, h⟩ := bo h
      by_cases ha11 : ta10 = 0
      ·replace h := it h ha11
       obtain ⟨ha12, h⟩ := gd h; obtain ⟨ta13, ha13, h⟩ := bo h; obtain ⟨ta14, ha14, h⟩ := bo h
       by_cases ha15 : ta14.2.2.2 = 0
       ·replace h := it h ha15
        by_cases ha16 : (minI (minI ta14.1 ta14.2.1) ta14.2.2.1) < 0
        ·replace h := it h ha16
         cases h
        ·replace h := jf h ha16
         obtain ⟨ha17, h⟩ := gd h; obtain ⟨ha18, h⟩ := gd h; obtain ⟨ha19, h⟩ := gd h
         by_cases ha20 : ((ta14.1 + ta14.2.1) + ta14.2.2.1) = ((kE a6) * (kE a6))
         ·replace h := it h ha20
          obtain ⟨ta21, ha21, h⟩ := bo h
          by_cases ha22 : ta21.2.2.2.2.2.2.1 = 0
          ·replace h := it h ha22
           by_cases ha23 : ta21.2.2.2.2.2.2.2.2.2 = 0
           ·replace h := it h ha23
            obtain ⟨ta24, ha24, h⟩ := bo h
            by_cases ha25 : ta24.2.2 > 0
            ·replace h := it h ha25
             by_cases ha26 : ta5.1 = true
             ·replace h := it h ha26
              obtain ⟨ha27, h⟩ := gd h; obtain ⟨ha28, h⟩ := gd h; obtain ⟨ha29, h⟩ := gd h; obtain ⟨ha30, h⟩ := gd h; obtain ⟨ha31, h⟩ := gd h; obtain ⟨ta32, ha32, h⟩ := bo h; obtain ⟨ta33, ha33, h⟩ := bo h
              by_cases ha34 : ta33.2.2.2 = 0
              ·replace h := it h ha34
               by_cases ha35 : (minI (minI ta33.1 ta33.2.1) ta33.2.2.1) < 0
               ·replace h := it h ha35
                cases h
               ·replace h := jf h ha35
                obtain ⟨ha36, h⟩ := gd h; obtain ⟨ha37, h⟩ := gd h
                by_cases ha38 : ((ta33.1 + ta33.2.1) + ta33.2.2.1) = ((kE a6) * (kE a6))
                ·replace h := it h ha38
                 obtain ⟨ha39, h⟩ := gd h; obtain ⟨ta40, ha40, h⟩ := bo h; obtain ⟨ta41, ha41, h⟩ := bo h
                 by_cases ha42 : ta41.2.2.2 = 0
                 ·replace h := it h ha42
                  by_cases ha43 : (minI (minI ta41.1 ta41.2.1) ta41.2.2.1) < 0
                  ·replace h := it h ha43
                   cases h
                  ·replace h := jf h ha43
                   obtain ⟨ha44, h⟩ := gd h; obtain ⟨ha45, h⟩ := gd h
                   by_cases ha46 : ((ta41.1 + ta41.2.1) + ta41.2.2.1) = ((kE a6) * (kE a6))
                   ·replace h := it h ha46
                    obtain ⟨ha47, h⟩ := gd h; obtain ⟨ha48, h⟩ := gd h
                    obtain rfl := oi h
                    exact ⟨100, 473, [.br true, .el (enc_Ai4Z ta2), .ret (.agg [.v (.string ta3.1), .lst false 4 ta3.2]), .ret (.tup [.agg [I ta4.1, I ta4.2.1, I ta4.2.2.1], I ta4.2.2.2]), .ret (.agg [.v (.string ta3.1), .lst false 4 ta3.2]), .ret (.tup [B ta5.1, I ta5.2]), .br false, .br false, .ret (I ta8), .br false, .ret (I ta10), .br false, .no, .no, .ret (.lst false 10 ta13), .ret (.tup [.agg [I ta14.1, I ta14.2.1, I ta14.2.2.1], I ta14.2.2.2]), .br false, .br false, .br false, .el (enc_Asi9Z ta21), .br true, .el (enc_Asi9Z ta21), .br true, .el (enc_Asi9Z ta21), .ret (.agg [I ta24.1, I ta24.2.1, I ta24.2.2]), .br true, .br false, .no, .br true, .no, .no, .no, .ret (.lst false 10 ta32), .ret (.tup [.agg [I ta33.1, I ta33.2.1, I ta33.2.2.1], I ta33.2.2.2]), .br false, .br false, .br false, .el (enc_Asi9Z ta21), .br true, .el (enc_Asi9Z ta21), .br true, .el (enc_Asi9Z ta21), .ret (.agg [I ta24.1, I ta24.2.1, I ta24.2.2]), .br true, .br false, .no, .br true, .no, .no, .no, .ret (.lst false 10 ta40), .ret (.tup [.agg [I ta41.1, I ta41.2.1, I ta41.2.2.1], I ta41.2.2.2]), .br false, .br false, .br false, .el (enc_Asi9Z ta21), .br true, .el (enc_Asi9Z ta21), .br true, .el (enc_Asi9Z ta21), .ret (.agg [I ta24.1, I ta24.2.1, I ta24.2.2]), .br true, .br false, .no, .br true, .no, .no, .no], [], [1, 3, 7, 8, 9, 11, 12, 13, 118, 119, 120], [0, 52, 74, 116, 261, 374, 472], round_fr (allC ha48 (allC ((by unfold inI64; omega) : inI64 3) (allC ((room_of (b := 24) (by kernel_rfl) (by decide) ha47) : room cx 80 ((sa.2.2.2.2.2).length + 1)) (allC ha19 (allC (notf ha26) (allC (decide_eq_true ha25) (allC (c_ref04_Normal ha24) (allC (el_ok un_Asi9Z_ok ha21).1 (allC (el_ok un_Asi9Z_ok ha21).2 (allC (eqt ha23) (allC (el_ok un_Asi9Z_ok ha21).1 (allC (el_ok un_Asi9Z_ok ha21).2 (allC (eqt ha22) (allC (el_ok un_Asi9Z_ok ha21).1 (allC (el_ok un_Asi9Z_ok ha21).2 (allC (nef ha46) (allC ha19 (allC ha45 (allC ha44 (allC (decide_eq_false ha43) (allC (nef ha42) (allC (c_field_Lit ha41) (allC (c_top_thistleField ha40) (allC ((by unfold inI64; omega) : inI64 2) (allC ((room_of (b := 24) (by kernel_rfl) (by decide) ha39) : room cx 80 ((sa.2.2.2.2.1).length + 1)) (allC ha19 (allC (notf ha26) (allC (decide_eq_true ha25) (allC (c_ref04_Normal ha24) (allC (el_ok un_Asi9Z_ok ha21).1 (allC (el_ok un_Asi9Z_ok ha21).2 (allC (eqt ha23) (allC (el_ok un_Asi9Z_ok ha21).1 (allC (el_ok un_Asi9Z_ok ha21).2 (allC (eqt ha22) (allC (el_ok un_Asi9Z_ok ha21).1 (allC (el_ok un_Asi9Z_ok ha21).2 (allC (nef ha38) (allC ha19 (allC ha37 (allC ha36 (allC (decide_eq_false ha35) (allC (nef ha34) (allC (c_field_Lit ha33) (allC (((c_top_thistleField ha32).le (.cons (.full _ _ _) (.nil)) (.refl _)) : Computes cx 19 [.lst true 10 [.agg [.v (.string t17.1), I t17.2.1, I t17.2.2.1, I t17.2.2.2.1, I t17.2.2.2.2.1, I t17.2.2.2.2.2.1, I t17.2.2.2.2.2.2.1, I t17.2.2.2.2.2.2.2.1, I t17.2.2.2.2.2.2.2.2.1, I t17.2.2.2.2.2.2.2.2.2]]] (.lst false 10 ta32)) (allC ((by unfold inI64; omega) : inI64 1) (allC ha31 (allC ha30 (allC ha19 (allC ha29 (allC ha28 (allC ((room_of (b := 24) (by kernel_rfl) (by decide) ha27) : room cx 80 ((sa.2.2.2.1).length + 1)) (allC ha19 (allC (notf ha26) (allC (decide_eq_true ha25) (allC (c_ref04_Normal ha24) (allC (el_ok un_Asi9Z_ok ha21).1 (allC (el_ok un_Asi9Z_ok ha21).2 (allC (eqt ha23) (allC (el_ok un_Asi9Z_ok ha21).1 (allC (el_ok un_Asi9Z_ok ha21).2 (allC (eqt ha22) (allC (el_ok un_Asi9Z_ok ha21).1 (allC (el_ok un_Asi9Z_ok ha21).2 (allC (nef ha20) (allC ha19 (allC ha18 (allC ha17 (allC (decide_eq_false ha16) (allC (nef ha15) (allC (c_field_Lit ha14) (allC (c_top_thistleField ha13) (allC ha12 (allC (nef ha11) (allC (c_ref04_CheckDirection ha10) (allC (nef ha9) (allC (c_ref02_CheckPlace ha8) (allC (nef ha7) (allC (nef ha6) (allC (c_sun_Risen ha5) (allC (c_top_thistleSky ha3) (allC (c_sun_At ha4) (allC (c_top_thistleSky ha3) (allC (el_ok un_Ai4Z_ok ha2).1 (allC (el_ok un_Ai4Z_ok ha2).2 (allC (decide_eq_true ha1) allN)))))))))))))))))))))))))))))))))))))))))))))))))))))))))))))))))))))))))))))))))))))) (by kernel_rfl)⟩
                   ·replace h := jf h ha46
                    cases h
                 ·replace h := jf h ha42
                  cases h
                ·replace h := jf h ha38
                 cases h
              ·replace h := jf h ha34
               cases h
             ·replace h := jf h ha26
              by_cases ha27 : ta14.1 = ((kE a6) * (kE a6))
              ·replace h := it h ha27
               obtain ⟨ha28, h⟩ := gd h; obtain ⟨ha29, h⟩ := gd h; obtain ⟨ha30, h⟩ := gd h; obtain ⟨ha31, h⟩ := gd h; obtain ⟨ha32, h⟩ := gd h; obtain ⟨ta33, ha33, h⟩ := bo h; obtain ⟨ta34, ha34, h⟩ := bo h
               by_cases ha35 : ta34.2.2.2 = 0
               ·replace h := it h ha35
                by_cases ha36 : (minI (minI ta34.1 ta34.2.1) ta34.2.2.1) < 0
                ·replace h := it h ha36
                 cases h
                ·replace h := jf h ha36
                 obtain ⟨ha37, h⟩ := gd h; obtain ⟨ha38, h⟩ := gd h
                 by_cases ha39 : ((ta34.1 + ta34.2.1) + ta34.2.2.1) = ((kE a6) * (kE a6))
                 ·replace h := it h ha39
                  by_cases ha40 : ta34.1 = ((kE a6) * (kE a6))
                  ·replace h := it h ha40
                   obtain ⟨ha41, h⟩ := gd h; obtain ⟨ta42, ha42, h⟩ := bo h; obtain ⟨ta43, ha43, h⟩ := bo h
                   by_cases ha44 : ta43.2.2.2 = 0
                   ·replace h := it h ha44
                    by_cases ha45 : (minI (minI ta43.1 ta43.2.1) ta43.2.2.1) < 0
                    ·replace h := it h ha45
                     cases h
                    ·replace h := jf h ha45
                     obtain ⟨ha46, h⟩ := gd h; obtain ⟨ha47, h⟩ := gd h
                     by_cases ha48 : ((ta43.1 + ta43.2.1) + ta43.2.2.1) = ((kE a6) * (kE a6))
                     ·replace h := it h ha48
                      by_cases ha49 : ta43.1 = ((kE a6) * (kE a6))
                      ·replace h := it h ha49
                       obtain ⟨ha50, h⟩ := gd h; obtain ⟨ha51, h⟩ := gd h
                       obtain rfl := oi h
                       exact ⟨100, 473, [.br true, .el (enc_Ai4Z ta2), .ret (.agg [.v (.string ta3.1), .lst false 4 ta3.2]), .ret (.tup [.agg [I ta4.1, I ta4.2.1, I ta4.2.2.1], I ta4.2.2.2]), .ret (.agg [.v (.string ta3.1), .lst false 4 ta3.2]), .ret (.tup [B ta5.1, I ta5.2]), .br false, .br false, .ret (I ta8), .br false, .ret (I ta10), .br false, .no, .no, .ret (.lst false 10 ta13), .ret (.tup [.agg [I ta14.1, I ta14.2.1, I ta14.2.2.1], I ta14.2.2.2]), .br false, .br false, .br false, .el (enc_Asi9Z ta21), .br true, .el (enc_Asi9Z ta21), .br true, .el (enc_Asi9Z ta21), .ret (.agg [I ta24.1, I ta24.2.1, I ta24.2.2]), .br true, .br true, .br false, .br true, .no, .no, .no, .ret (.lst false 10 ta33), .ret (.tup [.agg [I ta34.1, I ta34.2.1, I ta34.2.2.1], I ta34.2.2.2]), .br false, .br false, .br false, .el (enc_Asi9Z ta21), .br true, .el (enc_Asi9Z ta21), .br true, .el (enc_Asi9Z ta21), .ret (.agg [I ta24.1, I ta24.2.1, I ta24.2.2]), .br true, .br true, .br false, .br true, .no, .no, .no, .ret (.lst false 10 ta42), .ret (.tup [.agg [I ta43.1, I ta43.2.1, I ta43.2.2.1], I ta43.2.2.2]), .br false, .br false, .br false, .el (enc_Asi9Z ta21), .br true, .el (enc_Asi9Z ta21), .br true, .el (enc_Asi9Z ta21), .ret (.agg [I ta24.1, I ta24.2.1, I ta24.2.2]), .br true, .br true, .br false, .br true, .no, .no, .no], [], [1, 3, 7, 8, 9, 11, 12, 13, 118, 119, 120], [0, 52, 74, 116, 261, 374, 472], round_fr (allC ha51 (allC ((by unfold inI64; omega) : inI64 3) (allC ((room_of (b := 24) (by kernel_rfl) (by decide) ha50) : room cx 80 ((sa.2.2.2.2.2).length + 1)) (allC ha19 (allC (nef ha49) (allC ha19 (allC (nott (bfalse ha26)) (allC (decide_eq_true ha25) (allC (c_ref04_Normal ha24) (allC (el_ok un_Asi9Z_ok ha21).1 (allC (el_ok un_Asi9Z_ok ha21).2 (allC (eqt ha23) (allC (el_ok un_Asi9Z_ok ha21).1 (allC (el_ok un_Asi9Z_ok ha21).2 (allC (eqt ha22) (allC (el_ok un_Asi9Z_ok ha21).1 (allC (el_ok un_Asi9Z_ok ha21).2 (allC (nef ha48) (allC ha19 (allC ha47 (allC ha46 (allC (decide_eq_false ha45) (allC (nef ha44) (allC (c_field_Lit ha43) (allC (c_top_thistleField ha42) (allC ((by unfold inI64; omega) : inI64 2) (allC ((room_of (b := 24) (by kernel_rfl) (by decide) ha41) : room cx 80 ((sa.2.2.2.2.1).length + 1)) (allC ha19 (allC (nef ha40) (allC ha19 (allC (nott (bfalse ha26)) (allC (decide_eq_true ha25) (allC (c_ref04_Normal ha24) (allC (el_ok un_Asi9Z_ok ha21).1 (allC (el_ok un_Asi9Z_ok ha21).2 (allC (eqt ha23) (allC (el_ok un_Asi9Z_ok ha21).1 (allC (el_ok un_Asi9Z_ok ha21).2 (allC (eqt ha22) (allC (el_ok un_Asi9Z_ok ha21).1 (allC (el_ok un_Asi9Z_ok ha21).2 (allC (nef ha39) (allC ha19 (allC ha38 (allC ha37 (allC (decide_eq_false ha36) (allC (nef ha35) (allC (c_field_Lit ha34) (allC (((c_top_thistleField ha33).le (.cons (.full _ _ _) (.nil)) (.refl _)) : Computes cx 19 [.lst true 10 [.agg [.v (.string t17.1), I t17.2.1, I t17.2.2.1, I t17.2.2.2.1, I t17.2.2.2.2.1, I t17.2.2.2.2.2.1, I t17.2.2.2.2.2.2.1, I t17.2.2.2.2.2.2.2.1, I t17.2.2.2.2.2.2.2.2.1, I t17.2.2.2.2.2.2.2.2.2]]] (.lst false 10 ta33)) (allC ((by unfold inI64; omega) : inI64 1) (allC ha32 (allC ha31 (allC ha19 (allC ha30 (allC ha29 (allC ((room_of (b := 24) (by kernel_rfl) (by decide) ha28) : room cx 80 ((sa.2.2.2.1).length + 1)) (allC ha19 (allC (nef ha27) (allC ha19 (allC (nott (bfalse ha26)) (allC (decide_eq_true ha25) (allC (c_ref04_Normal ha24) (allC (el_ok un_Asi9Z_ok ha21).1 (allC (el_ok un_Asi9Z_ok ha21).2 (allC (eqt ha23) (allC (el_ok un_Asi9Z_ok ha21).1 (allC (el_ok un_Asi9Z_ok ha21).2 (allC (eqt ha22) (allC (el_ok un_Asi9Z_ok ha21).1 (allC (el_ok un_Asi9Z_ok ha21).2 (allC (nef ha20) (allC ha19 (allC ha18 (allC ha17 (allC (decide_eq_false ha16) (allC (nef ha15) (allC (c_field_Lit ha14) (allC (c_top_thistleField ha13) (allC ha12 (allC (nef ha11) (allC (c_ref04_CheckDirection ha10) (allC (nef ha9) (allC (c_ref02_CheckPlace ha8) (allC (nef ha7) (allC (nef ha6) (allC (c_sun_Risen ha5) (allC (c_top_thistleSky ha3) (allC (c_sun_At ha4) (allC (c_top_thistleSky ha3) (allC (el_ok un_Ai4Z_ok ha2).1 (allC (el_ok un_Ai4Z_ok ha2).2 (allC (decide_eq_true ha1) allN)))))))))))))))))))))))))))))))))))))))))))))))))))))))))))))))))))))))))))))))))))))))))))) (by kernel_rfl)⟩
                      ·replace h := jf h ha49
                       cases h
                     ·replace h := jf h ha48
                      cases h
                   ·replace h := jf h ha44
                    cases h
                  ·replace h := jf h ha40
                   cases h
                 ·replace h := jf h ha39
                  cases h
               ·replace h := jf h ha35
                cases h
              ·replace h := jf h ha27
               cases h
            ·replace h := jf h ha25
             obtain ⟨ha26, h⟩ := gd h; obtain ⟨ha27, h⟩ := gd h; obtain ⟨ha28, h⟩ := gd h; obtain ⟨ha29, h⟩ := gd h; obtain ⟨ha30, h⟩ := gd h; obtain ⟨ta31, ha31, h⟩ := bo h; obtain ⟨ta32, ha32, h⟩ := bo h
             by_cases ha33 : ta32.2.2.2 = 0
             ·replace h := it h ha33
              by_cases ha34 : (minI (minI ta32.1 ta32.2.1) ta32.2.2.1) < 0
              ·replace h := it h ha34
               cases h
              ·replace h := jf h ha34
               obtain ⟨ha35, h⟩ := gd h; obtain ⟨ha36, h⟩ := gd h
               by_cases ha37 : ((ta32.1 + ta32.2.1) + ta32.2.2.1) = ((kE a6) * (kE a6))
               ·replace h := it h ha37
                obtain ⟨ha38, h⟩ := gd h; obtain ⟨ta39, ha39, h⟩ := bo h; obtain ⟨ta40, ha40, h⟩ := bo h
                by_cases ha41 : ta40.2.2.2 = 0
                ·replace h := it h ha41
                 by_cases ha42 : (minI (minI ta40.1 ta40.2.1) ta40.2.2.1) < 0
                 ·replace h := it h ha42
                  cases h
                 ·replace h := jf h ha42
                  obtain ⟨ha43, h⟩ := gd h; obtain ⟨ha44, h⟩ := gd h
                  by_cases ha45 : ((ta40.1 + ta40.2.1) + ta40.2.2.1) = ((kE a6) * (kE a6))
                  ·replace h := it h ha45
                   obtain ⟨ha46, h⟩ := gd h; obtain ⟨ha47, h⟩ := gd h
                   obtain rfl := oi h
                   exact ⟨100, 473, [.br true, .el (enc_Ai4Z ta2), .ret (.agg [.v (.string ta3.1), .lst false 4 ta3.2]), .ret (.tup [.agg [I ta4.1, I ta4.2.1, I ta4.2.2.1], I ta4.2.2.2]), .ret (.agg [.v (.string ta3.1), .lst false 4 ta3.2]), .ret (.tup [B ta5.1, I ta5.2]), .br false, .br false, .ret (I ta8), .br false, .ret (I ta10), .br false, .no, .no, .ret (.lst false 10 ta13), .ret (.tup [.agg [I ta14.1, I ta14.2.1, I ta14.2.2.1], I ta14.2.2.2]), .br false, .br false, .br false, .el (enc_Asi9Z ta21), .br true, .el (enc_Asi9Z ta21), .br true, .el (enc_Asi9Z ta21), .ret (.agg [I ta24.1, I ta24.2.1, I ta24.2.2]), .br false, .no, .no, .br true, .no, .no, .no, .ret (.lst false 10 ta31), .ret (.tup [.agg [I ta32.1, I ta32.2.1, I ta32.2.2.1], I ta32.2.2.2]), .br false, .br false, .br false, .el (enc_Asi9Z ta21), .br true, .el (enc_Asi9Z ta21), .br true, .el (enc_Asi9Z ta21), .ret (.agg [I ta24.1, I ta24.2.1, I ta24.2.2]), .br false, .no, .no, .br true, .no, .no, .no, .ret (.lst false 10 ta39), .ret (.tup [.agg [I ta40.1, I ta40.2.1, I ta40.2.2.1], I ta40.2.2.2]), .br false, .br false, .br false, .el (enc_Asi9Z ta21), .br true, .el (enc_Asi9Z ta21), .br true, .el (enc_Asi9Z ta21), .ret (.agg [I ta24.1, I ta24.2.1, I ta24.2.2]), .br false, .no, .no, .br true, .no, .no, .no], [], [1, 3, 7, 8, 9, 11, 12, 13, 118, 119, 120], [0, 52, 74, 116, 261, 374, 472], round_fr (allC ha47 (allC ((by unfold inI64; omega) : inI64 3) (allC ((room_of (b := 24) (by kernel_rfl) (by decide) ha46) : room cx 80 ((sa.2.2.2.2.2).length + 1)) (allC ha19 (allC (decide_eq_false ha25) (allC (c_ref04_Normal ha24) (allC (el_ok un_Asi9Z_ok ha21).1 (allC (el_ok un_Asi9Z_ok ha21).2 (allC (eqt ha23) (allC (el_ok un_Asi9Z_ok ha21).1 (allC (el_ok un_Asi9Z_ok ha21).2 (allC (eqt ha22) (allC (el_ok un_Asi9Z_ok ha21).1 (allC (el_ok un_Asi9Z_ok ha21).2 (allC (nef ha45) (allC ha19 (allC ha44 (allC ha43 (allC (decide_eq_false ha42) (allC (nef ha41) (allC (c_field_Lit ha40) (allC (c_top_thistleField ha39) (allC ((by unfold inI64; omega) : inI64 2) (allC ((room_of (b := 24) (by kernel_rfl) (by decide) ha38) : room cx 80 ((sa.2.2.2.2.1).length + 1)) (allC ha19 (allC (decide_eq_false ha25) (allC (c_ref04_Normal ha24) (allC (el_ok un_Asi9Z_ok ha21).1 (allC (el_ok un_Asi9Z_ok ha21).2 (allC (eqt ha23) (allC (el_ok un_Asi9Z_ok ha21).1 (allC (el_ok un_Asi9Z_ok ha21).2 (allC (eqt ha22) (allC (el_ok un_Asi9Z_ok ha21).1 (allC (el_ok un_Asi9Z_ok ha21).2 (allC (nef ha37) (allC ha19 (allC ha36 (allC ha35 (allC (decide_eq_false ha34) (allC (nef ha33) (allC (c_field_Lit ha32) (allC (((c_top_thistleField ha31).le (.cons (.full _ _ _) (.nil)) (.refl _)) : Computes cx 19 [.lst true 10 [.agg [.v (.string t17.1), I t17.2.1, I t17.2.2.1, I t17.2.2.2.1, I t17.2.2.2.2.1, I t17.2.2.2.2.2.1, I t17.2.2.2.2.2.2.1, I t17.2.2.2.2.2.2.2.1, I t17.2.2.2.2.2.2.2.2.1, I t17.2.2.2.2.2.2.2.2.2]]] (.lst false 10 ta31)) (allC ((by unfold inI64; omega) : inI64 1) (allC ha30 (allC ha29 (allC ha19 (allC ha28 (allC ha27 (allC ((room_of (b := 24) (by kernel_rfl) (by decide) ha26) : room cx 80 ((sa.2.2.2.1).length + 1)) (allC ha19 (allC (decide_eq_false ha25) (allC (c_ref04_Normal ha24) (allC (el_ok un_Asi9Z_ok ha21).1 (allC (el_ok un_Asi9Z_ok ha21).2 (allC (eqt ha23) (allC (el_ok un_Asi9Z_ok ha21).1 (allC (el_ok un_Asi9Z_ok ha21).2 (allC (eqt ha22) (allC (el_ok un_Asi9Z_ok ha21).1 (allC (el_ok un_Asi9Z_ok ha21).2 (allC (nef ha20) (allC ha19 (allC ha18 (allC ha17 (allC (decide_eq_false ha16) (allC (nef ha15) (allC (c_field_Lit ha14) (allC (c_top_thistleField ha13) (allC ha12 (allC (nef ha11) (allC (c_ref04_CheckDirection ha10) (allC (nef ha9) (allC (c_ref02_CheckPlace ha8) (allC (nef ha7) (allC (nef ha6) (allC (c_sun_Risen ha5) (allC (c_top_thistleSky ha3) (allC (c_sun_At ha4) (allC (c_top_thistleSky ha3) (allC (el_ok un_Ai4Z_ok ha2).1 (allC (el_ok un_Ai4Z_ok ha2).2 (allC (decide_eq_true ha1) allN))))))))))))))))))))))))))))))))))))))))))))))))))))))))))))))))))))))))))))))))))) (by kernel_rfl)⟩
                  ·replace h := jf h ha45
                   cases h
                ·replace h := jf h ha41
                 cases h
               ·replace h := jf h ha37
                cases h
             ·replace h := jf h ha33
              cases h
           ·replace h := jf h ha23
            obtain ⟨ha24, h⟩ := gd h; obtain ⟨ha25, h⟩ := gd h; obtain ⟨ha26, h⟩ := gd h; obtain ⟨ha27, h⟩ := gd h; obtain ⟨ha28, h⟩ := gd h; obtain ⟨ta29, ha29, h⟩ := bo h; obtain ⟨ta30, ha30, h⟩ := bo h
            by_cases ha31 : ta30.2.2.2 = 0
            ·replace h := it h ha31
             by_cases ha32 : (minI (minI ta30.1 ta30.2.1) ta30.2.2.1) < 0
             ·replace h := it h ha32
              cases h
             ·replace h := jf h ha32
              obtain ⟨ha33, h⟩ := gd h; obtain ⟨ha34, h⟩ := gd h
              by_cases ha35 : ((ta30.1 + ta30.2.1) + ta30.2.2.1) = ((kE a6) * (kE a6))
              ·replace h := it h ha35
               obtain ⟨ha36, h⟩ := gd h; obtain ⟨ta37, ha37, h⟩ := bo h; obtain ⟨ta38, ha38, h⟩ := bo h
               by_cases ha39 : ta38.2.2.2 = 0
               ·replace h := it h ha39
                by_cases ha40 : (minI (minI ta38.1 ta38.2.1) ta38.2.2.1) < 0
                ·replace h := it h ha40
                 cases h
                ·replace h := jf h ha40
                 obtain ⟨ha41, h⟩ := gd h; obtain ⟨ha42, h⟩ := gd h
                 by_cases ha43 : ((ta38.1 + ta38.2.1) + ta38.2.2.1) = ((kE a6) * (kE a6))
                 ·replace h := it h ha43
                  obtain ⟨ha44, h⟩ := gd h; obtain ⟨ha45, h⟩ := gd h
                  obtain rfl := oi h
                  exact ⟨100, 473, [.br true, .el (enc_Ai4Z ta2), .ret (.agg [.v (.string ta3.1), .lst false 4 ta3.2]), .ret (.tup [.agg [I ta4.1, I ta4.2.1, I ta4.2.2.1], I ta4.2.2.2]), .ret (.agg [.v (.string ta3.1), .lst false 4 ta3.2]), .ret (.tup [B ta5.1, I ta5.2]), .br false, .br false, .ret (I ta8), .br false, .ret (I ta10), .br false, .no, .no, .ret (.lst false 10 ta13), .ret (.tup [.agg [I ta14.1, I ta14.2.1, I ta14.2.2.1], I ta14.2.2.2]), .br false, .br false, .br false, .el (enc_Asi9Z ta21), .br true, .el (enc_Asi9Z ta21), .br false, .no, .no, .no, .br true, .no, .no, .no, .ret (.lst false 10 ta29), .ret (.tup [.agg [I ta30.1, I ta30.2.1, I ta30.2.2.1], I ta30.2.2.2]), .br false, .br false, .br false, .el (enc_Asi9Z ta21), .br true, .el (enc_Asi9Z ta21), .br false, .no, .no, .no, .br true, .no, .no, .no, .ret (.lst false 10 ta37), .ret (.tup [.agg [I ta38.1, I ta38.2.1, I ta38.2.2.1], I ta38.2.2.2]), .br false, .br false, .br false, .el (enc_Asi9Z ta21), .br true, .el (enc_Asi9Z ta21), .br false, .no, .no, .no, .br true, .no, .no, .no], [], [1, 3, 7, 8, 9, 11, 12, 13, 118, 119, 120], [0, 52, 74, 116, 261, 374, 472], round_fr (allC ha45 (allC ((by unfold inI64; omega) : inI64 3) (allC ((room_of (b := 24) (by kernel_rfl) (by decide) ha44) : room cx 80 ((sa.2.2.2.2.2).length + 1)) (allC ha19 (allC (eqf ha23) (allC (el_ok un_Asi9Z_ok ha21).1 (allC (el_ok un_Asi9Z_ok ha21).2 (allC (eqt ha22) (allC (el_ok un_Asi9Z_ok ha21).1 (allC (el_ok un_Asi9Z_ok ha21).2 (allC (nef ha43) (allC ha19 (allC ha42 (allC ha41 (allC (decide_eq_false ha40) (allC (nef ha39) (allC (c_field_Lit ha38) (allC (c_top_thistleField ha37) (allC ((by unfold inI64; omega) : inI64 2) (allC ((room_of (b := 24) (by kernel_rfl) (by decide) ha36) : room cx 80 ((sa.2.2.2.2.1).length + 1)) (allC ha19 (allC (eqf ha23) (allC (el_ok un_Asi9Z_ok ha21).1 (allC (el_ok un_Asi9Z_ok ha21).2 (allC (eqt ha22) (allC (el_ok un_Asi9Z_ok ha21).1 (allC (el_ok un_Asi9Z_ok ha21).2 (allC (nef ha35) (allC ha19 (allC ha34 (allC ha33 (allC (decide_eq_false ha32) (allC (nef ha31) (allC (c_field_Lit ha30) (allC (((c_top_thistleField ha29).le (.cons (.full _ _ _) (.nil)) (.refl _)) : Computes cx 19 [.lst true 10 [.agg [.v (.string t17.1), I t17.2.1, I t17.2.2.1, I t17.2.2.2.1, I t17.2.2.2.2.1, I t17.2.2.2.2.2.1, I t17.2.2.2.2.2.2.1, I t17.2.2.2.2.2.2.2.1, I t17.2.2.2.2.2.2.2.2.1, I t17.2.2.2.2.2.2.2.2.2]]] (.lst false 10 ta29)) (allC ((by unfold inI64; omega) : inI64 1) (allC ha28 (allC ha27 (allC ha19 (allC ha26 (allC ha25 (allC ((room_of (b := 24) (by kernel_rfl) (by decide) ha24) : room cx 80 ((sa.2.2.2.1).length + 1)) (allC ha19 (allC (eqf ha23) (allC (el_ok un_Asi9Z_ok ha21).1 (allC (el_ok un_Asi9Z_ok ha21).2 (allC (eqt ha22) (allC (el_ok un_Asi9Z_ok ha21).1 (allC (el_ok un_Asi9Z_ok ha21).2 (allC (nef ha20) (allC ha19 (allC ha18 (allC ha17 (allC (decide_eq_false ha16) (allC (nef ha15) (allC (c_field_Lit ha14) (allC (c_top_thistleField ha13) (allC ha12 (allC (nef ha11) (allC (c_ref04_CheckDirection ha10) (allC (nef ha9) (allC (c_ref02_CheckPlace ha8) (allC (nef ha7) (allC (nef ha6) (allC (c_sun_Risen ha5) (allC (c_top_thistleSky ha3) (allC (c_sun_At ha4) (allC (c_top_thistleSky ha3) (allC (el_ok un_Ai4Z_ok ha2).1 (allC (el_ok un_Ai4Z_ok ha2).2 (allC (decide_eq_true ha1) allN))))))))))))))))))))))))))))))))))))))))))))))))))))))))))))))))))))))) (by kernel_rfl)⟩
                 ·replace h := jf h ha43
                  cases h
               ·replace h := jf h ha39
                cases h
              ·replace h := jf h ha35
               cases h
            ·replace h := jf h ha31
             cases h
          ·replace h := jf h ha22
           obtain ⟨ha23, h⟩ := gd h; obtain ⟨ha24, h⟩ := gd h; obtain ⟨ha25, h⟩ := gd h; obtain ⟨ha26, h⟩ := gd h; obtain ⟨ha27, h⟩ := gd h; obtain ⟨ta28, ha28, h⟩ := bo h; obtain ⟨ta29, ha29, h⟩ := bo h
           by_cases ha30 : ta29.2.2.2 = 0
           ·replace h := it h ha30
            by_cases ha31 : (minI (minI ta29.1 ta29.2.1) ta29.2.2.1) < 0
            ·replace h := it h ha31
             cases h
            ·replace h := jf h ha31
             obtain ⟨ha32, h⟩ := gd h; obtain ⟨ha33, h⟩ := gd h
             by_cases ha34 : ((ta29.1 + ta29.2.1) + ta29.2.2.1) = ((kE a6) * (kE a6))
             ·replace h := it h ha34
              obtain ⟨ha35, h⟩ := gd h; obtain ⟨ta36, ha36, h⟩ := bo h; obtain ⟨ta37, ha37, h⟩ := bo h
              by_cases ha38 : ta37.2.2.2 = 0
              ·replace h := it h ha38
               by_cases ha39 : (minI (minI ta37.1 ta37.2.1) ta37.2.2.1) < 0
               ·replace h := it h ha39
                cases h
               ·replace h := jf h ha39
                obtain ⟨ha40, h⟩ := gd h; obtain ⟨ha41, h⟩ := gd h
                by_cases ha42 : ((ta37.1 + ta37.2.1) + ta37.2.2.1) = ((kE a6) * (kE a6))
                ·replace h := it h ha42
                 obtain ⟨ha43, h⟩ := gd h; obtain ⟨ha44, h⟩ := gd h
                 obtain rfl := oi h
                 exact ⟨100, 473, [.br true, .el (enc_Ai4Z ta2), .ret (.agg [.v (.string ta3.1), .lst false 4 ta3.2]), .ret (.tup [.agg [I ta4.1, I ta4.2.1, I ta4.2.2.1], I ta4.2.2.2]), .ret (.agg [.v (.string ta3.1), .lst false 4 ta3.2]), .ret (.tup [B ta5.1, I ta5.2]), .br false, .br false, .ret (I ta8), .br false, .ret (I ta10), .br false, .no, .no, .ret (.lst false 10 ta13), .ret (.tup [.agg [I ta14.1, I ta14.2.1, I ta14.2.2.1], I ta14.2.2.2]), .br false, .br false, .br false, .el (enc_Asi9Z ta21), .br false, .no, .no, .no, .no, .br true, .no, .no, .no, .ret (.lst false 10 ta28), .ret (.tup [.agg [I ta29.1, I ta29.2.1, I ta29.2.2.1], I ta29.2.2.2]), .br false, .br false, .br false, .el (enc_Asi9Z ta21), .br false, .no, .no, .no, .no, .br true, .no, .no, .no, .ret (.lst false 10 ta36), .ret (.tup [.agg [I ta37.1, I ta37.2.1, I ta37.2.2.1], I ta37.2.2.2]), .br false, .br false, .br false, .el (enc_Asi9Z ta21), .br false, .no, .no, .no, .no, .br true, .no, .no, .no], [], [1, 3, 7, 8, 9, 11, 12, 13, 118, 119, 120], [0, 52, 74, 116, 261, 374, 472], round_fr (allC ha44 (allC ((by unfold inI64; omega) : inI64 3) (allC ((room_of (b := 24) (by kernel_rfl) (by decide) ha43) : room cx 80 ((sa.2.2.2.2.2).length + 1)) (allC ha19 (allC (eqf ha22) (allC (el_ok un_Asi9Z_ok ha21).1 (allC (el_ok un_Asi9Z_ok ha21).2 (allC (nef ha42) (allC ha19 (allC ha41 (allC ha40 (allC (decide_eq_false ha39) (allC (nef ha38) (allC (c_field_Lit ha37) (allC (c_top_thistleField ha36) (allC ((by unfold inI64; omega) : inI64 2) (allC ((room_of (b := 24) (by kernel_rfl) (by decide) ha35) : room cx 80 ((sa.2.2.2.2.1).length + 1)) (allC ha19 (allC (eqf ha22) (allC (el_ok un_Asi9Z_ok ha21).1 (allC (el_ok un_Asi9Z_ok ha21).2 (allC (nef ha34) (allC ha19 (allC ha33 (allC ha32 (allC (decide_eq_false ha31) (allC (nef ha30) (allC (c_field_Lit ha29) (allC (((c_top_thistleField ha28).le (.cons (.full _ _ _) (.nil)) (.refl _)) : Computes cx 19 [.lst true 10 [.agg [.v (.string t17.1), I t17.2.1, I t17.2.2.1, I t17.2.2.2.1, I t17.2.2.2.2.1, I t17.2.2.2.2.2.1, I t17.2.2.2.2.2.2.1, I t17.2.2.2.2.2.2.2.1, I t17.2.2.2.2.2.2.2.2.1, I t17.2.2.2.2.2.2.2.2.2]]] (.lst false 10 ta28)) (allC ((by unfold inI64; omega) : inI64 1) (allC ha27 (allC ha26 (allC ha19 (allC ha25 (allC ha24 (allC ((room_of (b := 24) (by kernel_rfl) (by decide) ha23) : room cx 80 ((sa.2.2.2.1).length + 1)) (allC ha19 (allC (eqf ha22) (allC (el_ok un_Asi9Z_ok ha21).1 (allC (el_ok un_Asi9Z_ok ha21).2 (allC (nef ha20) (allC ha19 (allC ha18 (allC ha17 (allC (decide_eq_false ha16) (allC (nef ha15) (allC (c_field_Lit ha14) (allC (c_top_thistleField ha13) (allC ha12 (allC (nef ha11) (allC (c_ref04_CheckDirection ha10) (allC (nef ha9) (allC (c_ref02_CheckPlace ha8) (allC (nef ha7) (allC (nef ha6) (allC (c_sun_Risen ha5) (allC (c_top_thistleSky ha3) (allC (c_sun_At ha4) (allC (c_top_thistleSky ha3) (allC (el_ok un_Ai4Z_ok ha2).1 (allC (el_ok un_Ai4Z_ok ha2).2 (allC (decide_eq_true ha1) allN)))))))))))))))))))))))))))))))))))))))))))))))))))))))))))))) (by kernel_rfl)⟩
                ·replace h := jf h ha42
                 cases h
              ·replace h := jf h ha38
               cases h
             ·replace h := jf h ha34
              cases h
           ·replace h := jf h ha30
            cases h
         ·replace h := jf h ha20
          cases h
       ·replace h := jf h ha15
        cases h
      ·replace h := jf h ha11
       obtain rfl := oi h
       exact ⟨⟨100, 473, [.br true, .el (enc_Ai4Z ta2), .ret (.agg [.v (.string ta3.1), .lst false 4 ta3.2]), .ret (.tup [.agg [I ta4.1, I ta4.2.1, I ta4.2.2.1], I ta4.2.2.2]), .ret (.agg [.v (.string ta3.1), .lst false 4 ta3.2]), .ret (.tup [B ta5.1, I ta5.2]), .br false, .br false, .ret (I ta8), .br false, .ret (I ta10), .br true], [], [6], [], round_fr (allC (net ha11) (allC (c_ref04_CheckDirection ha10) (allC (nef ha9) (allC (c_ref02_CheckPlace ha8) (allC (nef ha7) (allC (nef ha6) (allC (c_sun_Risen ha5) (allC (c_top_thistleSky ha3) (allC (c_sun_At ha4) (allC (c_top_thistleSky ha3) (allC (el_ok un_Ai4Z_ok ha2).1 (allC (el_ok un_Ai4Z_ok ha2).2 (allC (decide_eq_true ha1) allN))))))))))))) (by kernel_rfl)⟩, nofun⟩
     ·replace h := jf h ha9
      cases h
    ·replace h := jf h ha7
     cases h
   ·replace h := jf h ha6
    cases h
  ·replace h := jf h ha1
   obtain rfl := oi h
   exact ⟨⟨100, 473, [.br false], [], [11, 12, 13], [116, 261, 374, 472], round_fr (allC (decide_eq_false ha1) allN) (by kernel_rfl)⟩, nofun⟩
end Go.Proofs.YtiogobiijlaalaaDoor
