/-
  Printed by gsx.py: functions of the program as Lean functions, and that the code computes them.
-/
import Derived.Test.YtbjnjffckhdhgaaGreatDoorHold1
set_option linter.unusedVariables false
set_option maxRecDepth 10000
namespace Go.Proofs.YtbjnjffckhdhgaaGreatDoor
open Go.SX
def F_law04_FieldHolds (n : Nat) (a0 : List D) (a1 : Int) : Option (Bool) :=
 (F_law04_awake n).bind fun t1 =>
 if t1 = true then
  if ((a0).length : Int) < 3 then
  some t1
  else
  if ((a0).length : Int) > 12 then
  some t1
  else
  (loopF (F_law04_FieldHolds_L1 n a0 a1) n 0).bind fun t5 => match t5 with
  | (.inl t5) => (
   some true)
  | (.inr t5) => (
   (F_law04_points n a0).bind fun t6 =>
   (F_field_Hull n t6).bind fun t7 =>
   if ((a0).length : Int) ≠ 0 then
   if 0 ≤ (Int.tmod (IntKind.wrap .i64 a1) ((a0).length : Int)) ∧ (Int.tmod (IntKind.wrap .i64 a1) ((a0).length : Int)) ≤ ((a0).length : Int) ∧ ((a0).length : Int) ≤ ((a0).length : Int) ∧ (a0 = [] ∨ 2 = 2) then
   if roomP 16 (0 + (((a0.take (Int.toNat ((a0).length : Int))).drop (Int.toNat (Int.tmod (IntKind.wrap .i64 a1) ((a0).length : Int)))) : List D).length) then
   if isNilL ((a0.take (Int.toNat ((a0).length : Int))).drop (Int.toNat (Int.tmod (IntKind.wrap .i64 a1) ((a0).length : Int)))) = true then
   if (0 : Int) ≤ 0 ∧ 0 ≤ (Int.tmod (IntKind.wrap .i64 a1) ((a0).length : Int)) ∧ (Int.tmod (IntKind.wrap .i64 a1) ((a0).length : Int)) ≤ ((a0).length : Int) ∧ (a0 = [] ∨ 2 = 2) then
   if roomP 16 (0 + (((a0.take (Int.toNat (Int.tmod (IntKind.wrap .i64 a1) ((a0).length : Int)))).drop (Int.toNat 0)) : List D).length) then
   if isNilL ((a0.take (Int.toNat (Int.tmod (IntKind.wrap .i64 a1) ((a0).length : Int)))).drop (Int.toNat 0)) = true then
    (F_field_Hull n ([])).bind fun t15 =>
    if t7.2 = t15.2 then
    (F_ref04_SamePoints n t7.1 t15.1).bind fun t17 =>
    if t17 = true then
     if t7.2 = 0 then
     if ((t7.1).length : Int) > ((a0).length : Int) then
      none /- false -/
     else
     (F_ref04_CheckPolygon n t7.1).bind fun t21 =>
     if t21 = 0 then
      (F_law04_points n t7.1).bind fun t23 =>
      (F_field_CheckPolygon n t23).bind fun t24 =>
      if t24 = 0 then
      (loopF (F_law04_FieldHolds_L2 n a0 a1 t7) n 0).bind fun t26 =>
      (loopF (F_law04_FieldHolds_L5 n a0 a1 t7) n 0).bind fun t27 =>
      (F_field_Hull n t23).bind fun t28 =>
      (F_field_Area n t23).bind fun t29 =>
      if t28.2 = 0 then
       if t29.2 = 0 then
       (F_ref04_SamePoints n t28.1 t7.1).bind fun t32 =>
       if t32 = true then
        (loopF (F_law04_FieldHolds_L6 n a1 t7 t29) n (0, 1)).bind fun t34 =>
        if t34 = t29.1 then
        if ((t7.1).length : Int) > 3 then
         if ((t7.1).length : Int) ≠ 0 then
         if (0 : Int) ≤ 0 ∧ 0 ≤ (Int.tmod (IntKind.wrap .i64 a1) ((t7.1).length : Int)) ∧ (Int.tmod (IntKind.wrap .i64 a1) ((t7.1).length : Int)) ≤ ((t7.1).length : Int) ∧ (t7.1 = [] ∨ 2 = 2) then
         if roomP 16 (0 + (((t7.1.take (Int.toNat (Int.tmod (IntKind.wrap .i64 a1) ((t7.1).length : Int)))).drop (Int.toNat 0)) : List D).length) then
         if isNilL ((t7.1.take (Int.toNat (Int.tmod (IntKind.wrap .i64 a1) ((t7.1).length : Int)))).drop (Int.toNat 0)) = true then
         if inI64 ((Int.tmod (IntKind.wrap .i64 a1) ((t7.1).length : Int)) + 1) then
         if 0 ≤ ((Int.tmod (IntKind.wrap .i64 a1) ((t7.1).length : Int)) + 1) ∧ ((Int.tmod (IntKind.wrap .i64 a1) ((t7.1).length : Int)) + 1) ≤ ((t7.1).length : Int) ∧ ((t7.1).length : Int) ≤ ((t7.1).length : Int) ∧ (t7.1 = [] ∨ 2 = 2) then
         if roomP 16 (0 + (((t7.1.take (Int.toNat ((t7.1).length : Int))).drop (Int.toNat ((Int.tmod (IntKind.wrap .i64 a1) ((t7.1).length : Int)) + 1))) : List D).length) then
         if isNilL ((t7.1.take (Int.toNat ((t7.1).length : Int))).drop (Int.toNat ((Int.tmod (IntKind.wrap .i64 a1) ((t7.1).length : Int)) + 1))) = true then
          (el un_Ai2Z t7.1 (Int.tmod (IntKind.wrap .i64 a1) ((t7.1).length : Int))).bind fun t45 =>
          (F_field_Holds n ([]) t45.1 t45.2).bind fun t46 =>
          if t46.2 = 0 then
          if t46.1 = (-1) then
           some true
          else
          none /- false -/
          else
          none /- false -/
         else
         (el un_Ai2Z t7.1 (Int.tmod (IntKind.wrap .i64 a1) ((t7.1).length : Int))).bind fun t45 =>
         (F_field_Holds n ((t7.1.take (Int.toNat ((t7.1).length : Int))).drop (Int.toNat ((Int.tmod (IntKind.wrap .i64 a1) ((t7.1).length : Int)) + 1))) t45.1 t45.2).bind fun t46 =>
         if t46.2 = 0 then
          if t46.1 = (-1) then
          some true
          else
          none /- false -/
         else
         none /- false -/
         else none
         else none
         else none
         else
         if inI64 ((Int.tmod (IntKind.wrap .i64 a1) ((t7.1).length : Int)) + 1) then
         if 0 ≤ ((Int.tmod (IntKind.wrap .i64 a1) ((t7.1).length : Int)) + 1) ∧ ((Int.tmod (IntKind.wrap .i64 a1) ((t7.1).length : Int)) + 1) ≤ ((t7.1).length : Int) ∧ ((t7.1).length : Int) ≤ ((t7.1).length : Int) ∧ (t7.1 = [] ∨ 2 = 2) then
         if roomP 16 ((((t7.1.take (Int.toNat (Int.tmod (IntKind.wrap .i64 a1) ((t7.1).length : Int)))).drop (Int.toNat 0)) : List D).length + (((t7.1.take (Int.toNat ((t7.1).length : Int))).drop (Int.toNat ((Int.tmod (IntKind.wrap .i64 a1) ((t7.1).length : Int)) + 1))) : List D).length) then
         (el un_Ai2Z t7.1 (Int.tmod (IntKind.wrap .i64 a1) ((t7.1).length : Int))).bind fun t44 =>
         (F_field_Holds n (((t7.1.take (Int.toNat (Int.tmod (IntKind.wrap .i64 a1) ((t7.1).length : Int)))).drop (Int.toNat 0)) ++ (((t7.1.take (Int.toNat ((t7.1).length : Int))).drop (Int.toNat ((Int.tmod (IntKind.wrap .i64 a1) ((t7.1).length : Int)) + 1))) : List D)) t44.1 t44.2).bind fun t45 =>
         if t45.2 = 0 then
         if t45.1 = (-1) then
          some true
         else
         none /- false -/
         else
         none /- false -/
         else none
         else none
         else none
         else none
         else none
         else none
        else
        some true
        else
        none /- false -/
       else
       none /- false -/
       else
       none /- false -/
      else
      none /- false -/
      else
      none /- false -/
     else
     none /- false -/
     else
     if t7.2 = 17 then
     (loopF (F_law04_FieldHolds_L9 n a0) n 0).bind fun t21 =>
     some true
     else
     none /- false -/
    else
    none /- false -/
    else
    none /- false -/
   else
   (F_field_Hull n ((a0.take (Int.toNat (Int.tmod (IntKind.wrap .i64 a1) ((a0).length : Int)))).drop (Int.toNat 0))).bind fun t15 =>
   if t7.2 = t15.2 then
    (F_ref04_SamePoints n t7.1 t15.1).bind fun t17 =>
    if t17 = true then
    if t7.2 = 0 then
     if ((t7.1).length : Int) > ((a0).length : Int) then
     none /- false -/
     else
     (F_ref04_CheckPolygon n t7.1).bind fun t21 =>
     if t21 = 0 then
     (F_law04_points n t7.1).bind fun t23 =>
     (F_field_CheckPolygon n t23).bind fun t24 =>
     if t24 = 0 then
      (loopF (F_law04_FieldHolds_L2 n a0 a1 t7) n 0).bind fun t26 =>
      (loopF (F_law04_FieldHolds_L5 n a0 a1 t7) n 0).bind fun t27 =>
      (F_field_Hull n t23).bind fun t28 =>
      (F_field_Area n t23).bind fun t29 =>
      if t28.2 = 0 then
      if t29.2 = 0 then
       (F_ref04_SamePoints n t28.1 t7.1).bind fun t32 =>
       if t32 = true then
       (loopF (F_law04_FieldHolds_L6 n a1 t7 t29) n (0, 1)).bind fun t34 =>
       if t34 = t29.1 then
        if ((t7.1).length : Int) > 3 then
        if ((t7.1).length : Int) ≠ 0 then
        if (0 : Int) ≤ 0 ∧ 0 ≤ (Int.tmod (IntKind.wrap .i64 a1) ((t7.1).length : Int)) ∧ (Int.tmod (IntKind.wrap .i64 a1) ((t7.1).length : Int)) ≤ ((t7.1).length : Int) ∧ (t7.1 = [] ∨ 2 = 2) then
        if roomP 16 (0 + (((t7.1.take (Int.toNat (Int.tmod (IntKind.wrap .i64 a1) ((t7.1).length : Int)))).drop (Int.toNat 0)) : List D).length) then
        if isNilL ((t7.1.take (Int.toNat (Int.tmod (IntKind.wrap .i64 a1) ((t7.1).length : Int)))).drop (Int.toNat 0)) = true then
         if inI64 ((Int.tmod (IntKind.wrap .i64 a1) ((t7.1).length : Int)) + 1) then
         if 0 ≤ ((Int.tmod (IntKind.wrap .i64 a1) ((t7.1).length : Int)) + 1) ∧ ((Int.tmod (IntKind.wrap .i64 a1) ((t7.1).length : Int)) + 1) ≤ ((t7.1).length : Int) ∧ ((t7.1).length : Int) ≤ ((t7.1).length : Int) ∧ (t7.1 = [] ∨ 2 = 2) then
         if roomP 16 (0 + (((t7.1.take (Int.toNat ((t7.1).length : Int))).drop (Int.toNat ((Int.tmod (IntKind.wrap .i64 a1) ((t7.1).length : Int)) + 1))) : List D).length) then
         if isNilL ((t7.1.take (Int.toNat ((t7.1).length : Int))).drop (Int.toNat ((Int.tmod (IntKind.wrap .i64 a1) ((t7.1).length : Int)) + 1))) = true then
         (el un_Ai2Z t7.1 (Int.tmod (IntKind.wrap .i64 a1) ((t7.1).length : Int))).bind fun t45 =>
         (F_field_Holds n ([]) t45.1 t45.2).bind fun t46 =>
         if t46.2 = 0 then
          if t46.1 = (-1) then
          some true
          else
          none /- false -/
         else
         none /- false -/
         else
         (el un_Ai2Z t7.1 (Int.tmod (IntKind.wrap .i64 a1) ((t7.1).length : Int))).bind fun t45 =>
         (F_field_Holds n ((t7.1.take (Int.toNat ((t7.1).length : Int))).drop (Int.toNat ((Int.tmod (IntKind.wrap .i64 a1) ((t7.1).length : Int)) + 1))) t45.1 t45.2).bind fun t46 =>
         if t46.2 = 0 then
         if t46.1 = (-1) then
          some true
         else
         none /- false -/
         else
         none /- false -/
         else none
         else none
         else none
        else
        if inI64 ((Int.tmod (IntKind.wrap .i64 a1) ((t7.1).length : Int)) + 1) then
        if 0 ≤ ((Int.tmod (IntKind.wrap .i64 a1) ((t7.1).length : Int)) + 1) ∧ ((Int.tmod (IntKind.wrap .i64 a1) ((t7.1).length : Int)) + 1) ≤ ((t7.1).length : Int) ∧ ((t7.1).length : Int) ≤ ((t7.1).length : Int) ∧ (t7.1 = [] ∨ 2 = 2) then
        if roomP 16 ((((t7.1.take (Int.toNat (Int.tmod (IntKind.wrap .i64 a1) ((t7.1).length : Int)))).drop (Int.toNat 0)) : List D).length + (((t7.1.take (Int.toNat ((t7.1).length : Int))).drop (Int.toNat ((Int.tmod (IntKind.wrap .i64 a1) ((t7.1).length : Int)) + 1))) : List D).length) then
        (el un_Ai2Z t7.1 (Int.tmod (IntKind.wrap .i64 a1) ((t7.1).length : Int))).bind fun t44 =>
        (F_field_Holds n (((t7.1.take (Int.toNat (Int.tmod (IntKind.wrap .i64 a1) ((t7.1).length : Int)))).drop (Int.toNat 0)) ++ (((t7.1.take (Int.toNat ((t7.1).length : Int))).drop (Int.toNat ((Int.tmod (IntKind.wrap .i64 a1) ((t7.1).length : Int)) + 1))) : List D)) t44.1 t44.2).bind fun t45 =>
        if t45.2 = 0 then
         if t45.1 = (-1) then
         some true
         else
         none /- false -/
        else
        none /- false -/
        else none
        else none
        else none
        else none
        else none
        else none
        else
        some true
       else
       none /- false -/
       else
       none /- false -/
      else
      none /- false -/
      else
      none /- false -/
     else
     none /- false -/
     else
     none /- false -/
    else
    if t7.2 = 17 then
     (loopF (F_law04_FieldHolds_L9 n a0) n 0).bind fun t21 =>
     some true
    else
    none /- false -/
    else
    none /- false -/
   else
   none /- false -/
   else none
   else none
   else
   if (0 : Int) ≤ 0 ∧ 0 ≤ (Int.tmod (IntKind.wrap .i64 a1) ((a0).length : Int)) ∧ (Int.tmod (IntKind.wrap .i64 a1) ((a0).length : Int)) ≤ ((a0).length : Int) ∧ (a0 = [] ∨ 2 = 2) then
   if roomP 16 ((((a0.take (Int.toNat ((a0).length : Int))).drop (Int.toNat (Int.tmod (IntKind.wrap .i64 a1) ((a0).length : Int)))) : List D).length + (((a0.take (Int.toNat (Int.tmod (IntKind.wrap .i64 a1) ((a0).length : Int)))).drop (Int.toNat 0)) : List D).length) then
   (F_field_Hull n (((a0.take (Int.toNat ((a0).length : Int))).drop (Int.toNat (Int.tmod (IntKind.wrap .i64 a1) ((a0).length : Int)))) ++ (((a0.take (Int.toNat (Int.tmod (IntKind.wrap .i64 a1) ((a0).length : Int)))).drop (Int.toNat 0)) : List D))).bind fun t14 =>
   if t7.2 = t14.2 then
   (F_ref04_SamePoints n t7.1 t14.1).bind fun t16 =>
   if t16 = true then
    if t7.2 = 0 then
    if ((t7.1).length : Int) > ((a0).length : Int) then
     none /- false -/
    else
    (F_ref04_CheckPolygon n t7.1).bind fun t20 =>
    if t20 = 0 then
     (F_law04_points n t7.1).bind fun t22 =>
     (F_field_CheckPolygon n t22).bind fun t23 =>
     if t23 = 0 then
     (loopF (F_law04_FieldHolds_L2 n a0 a1 t7) n 0).bind fun t25 =>
     (loopF (F_law04_FieldHolds_L5 n a0 a1 t7) n 0).bind fun t26 =>
     (F_field_Hull n t22).bind fun t27 =>
     (F_field_Area n t22).bind fun t28 =>
     if t27.2 = 0 then
      if t28.2 = 0 then
      (F_ref04_SamePoints n t27.1 t7.1).bind fun t31 =>
      if t31 = true then
       (loopF (F_law04_FieldHolds_L10 n a1 t7 t28) n (0, 1)).bind fun t33 =>
       if t33 = t28.1 then
       if ((t7.1).length : Int) > 3 then
        if ((t7.1).length : Int) ≠ 0 then
        if (0 : Int) ≤ 0 ∧ 0 ≤ (Int.tmod (IntKind.wrap .i64 a1) ((t7.1).length : Int)) ∧ (Int.tmod (IntKind.wrap .i64 a1) ((t7.1).length : Int)) ≤ ((t7.1).length : Int) ∧ (t7.1 = [] ∨ 2 = 2) then
        if roomP 16 (0 + (((t7.1.take (Int.toNat (Int.tmod (IntKind.wrap .i64 a1) ((t7.1).length : Int)))).drop (Int.toNat 0)) : List D).length) then
        if isNilL ((t7.1.take (Int.toNat (Int.tmod (IntKind.wrap .i64 a1) ((t7.1).length : Int)))).drop (Int.toNat 0)) = true then
        if inI64 ((Int.tmod (IntKind.wrap .i64 a1) ((t7.1).length : Int)) + 1) then
        if 0 ≤ ((Int.tmod (IntKind.wrap .i64 a1) ((t7.1).length : Int)) + 1) ∧ ((Int.tmod (IntKind.wrap .i64 a1) ((t7.1).length : Int)) + 1) ≤ ((t7.1).length : Int) ∧ ((t7.1).length : Int) ≤ ((t7.1).length : Int) ∧ (t7.1 = [] ∨ 2 = 2) then
        if roomP 16 (0 + (((t7.1.take (Int.toNat ((t7.1).length : Int))).drop (Int.toNat ((Int.tmod (IntKind.wrap .i64 a1) ((t7.1).length : Int)) + 1))) : List D).length) then
        if isNilL ((t7.1.take (Int.toNat ((t7.1).length : Int))).drop (Int.toNat ((Int.tmod (IntKind.wrap .i64 a1) ((t7.1).length : Int)) + 1))) = true then
         (el un_Ai2Z t7.1 (Int.tmod (IntKind.wrap .i64 a1) ((t7.1).length : Int))).bind fun t44 =>
         (F_field_Holds n ([]) t44.1 t44.2).bind fun t45 =>
         if t45.2 = 0 then
         if t45.1 = (-1) then
          some true
         else
         none /- false -/
         else
         none /- false -/
        else
        (el un_Ai2Z t7.1 (Int.tmod (IntKind.wrap .i64 a1) ((t7.1).length : Int))).bind fun t44 =>
        (F_field_Holds n ((t7.1.take (Int.toNat ((t7.1).length : Int))).drop (Int.toNat ((Int.tmod (IntKind.wrap .i64 a1) ((t7.1).length : Int)) + 1))) t44.1 t44.2).bind fun t45 =>
        if t45.2 = 0 then
         if t45.1 = (-1) then
         some true
         else
         none /- false -/
        else
        none /- false -/
        else none
        else none
        else none
        else
        if inI64 ((Int.tmod (IntKind.wrap .i64 a1) ((t7.1).length : Int)) + 1) then
        if 0 ≤ ((Int.tmod (IntKind.wrap .i64 a1) ((t7.1).length : Int)) + 1) ∧ ((Int.tmod (IntKind.wrap .i64 a1) ((t7.1).length : Int)) + 1) ≤ ((t7.1).length : Int) ∧ ((t7.1).length : Int) ≤ ((t7.1).length : Int) ∧ (t7.1 = [] ∨ 2 = 2) then
        if roomP 16 ((((t7.1.take (Int.toNat (Int.tmod (IntKind.wrap .i64 a1) ((t7.1).length : Int)))).drop (Int.toNat 0)) : List D).length + (((t7.1.take (Int.toNat ((t7.1).length : Int))).drop (Int.toNat ((Int.tmod (IntKind.wrap .i64 a1) ((t7.1).length : Int)) + 1))) : List D).length) then
        (el un_Ai2Z t7.1 (Int.tmod (IntKind.wrap .i64 a1) ((t7.1).length : Int))).bind fun t43 =>
        (F_field_Holds n (((t7.1.take (Int.toNat (Int.tmod (IntKind.wrap .i64 a1) ((t7.1).length : Int)))).drop (Int.toNat 0)) ++ (((t7.1.take (Int.toNat ((t7.1).length : Int))).drop (Int.toNat ((Int.tmod (IntKind.wrap .i64 a1) ((t7.1).length : Int)) + 1))) : List D)) t43.1 t43.2).bind fun t44 =>
        if t44.2 = 0 then
        if t44.1 = (-1) then
         some true
        else
        none /- false -/
        else
        none /- false -/
        else none
        else none
        else none
        else none
        else none
        else none
       else
       some true
       else
       none /- false -/
      else
      none /- false -/
      else
      none /- false -/
     else
     none /- false -/
     else
     none /- false -/
    else
    none /- false -/
    else
    if t7.2 = 17 then
    (loopF (F_law04_FieldHolds_L9 n a0) n 0).bind fun t20 =>
    some true
    else
    none /- false -/
   else
   none /- false -/
   else
   none /- false -/
   else none
   else none
   else none
   else none
   else none)
 else
 some t1
theorem c_law04_FieldHolds {n : Nat} {a0 : List D} {a1 : Int} {r : Bool} (h : F_law04_FieldHolds n a0 a1 = some r) : Computes cx 3 [.lst false 2 a0, .v (.int .u8 a1)] (B r) := by
 unfold F_law04_FieldHolds at h
 obtain ⟨t1, h1, h⟩ := bo h
 by_cases h2 : t1 = true
 ·replace h := it h h2
  by_cases h3 : ((a0).length : Int) < 3
  ·replace h := it h h3
   obtain rfl := oi h
   exact run (e_law04_FieldHolds_0 a0 a1 t1) ⟨(c_law04_awake h1), (decide_eq_true h3), (notf h2), (c_law04_awake h1), trivial⟩
  ·replace h := jf h h3
   by_cases h4 : ((a0).length : Int) > 12
   ·replace h := it h h4
    obtain rfl := oi h
    exact run (e_law04_FieldHolds_1 a0 a1 t1) ⟨(c_law04_awake h1), (decide_eq_true h4), (decide_eq_false h3), (notf h2), (c_law04_awake h1), trivial⟩
   ·replace h := jf h h4
    obtain ⟨t5, h5, h⟩ := bo h
    rcases t5 with t5 | t5
    ·obtain rfl := oi h
     exact run (e_law04_FieldHolds_2 a0 a1 t1) ⟨(loopF_to R_law04_FieldHolds_L1 h5), (decide_eq_false h4), (decide_eq_false h3), (notf h2), (c_law04_awake h1), trivial⟩
    ·obtain ⟨t6, h6, h⟩ := bo h; obtain ⟨t7, h7, h⟩ := bo h; obtain ⟨h8, h⟩ := gd h; obtain ⟨h9, h⟩ := gd h; obtain ⟨h10, h⟩ := gd h
     by_cases h11 : isNilL ((a0.take (Int.toNat ((a0).length : Int))).drop (Int.toNat (Int.tmod (IntKind.wrap .i64 a1) ((a0).length : Int)))) = true
     ·replace h := it h h11
      obtain ⟨h12, h⟩ := gd h; obtain ⟨h13, h⟩ := gd h
      by_cases h14 : isNilL ((a0.take (Int.toNat (Int.tmod (IntKind.wrap .i64 a1) ((a0).length : Int)))).drop (Int.toNat 0)) = true
      ·replace h := it h h14
       obtain ⟨t15, h15, h⟩ := bo h
       by_cases h16 : t7.2 = t15.2
       ·replace h := it h h16
        obtain ⟨t17, h17, h⟩ := bo h
        by_cases h18 : t17 = true
        ·replace h := it h h18
         by_cases h19 : t7.2 = 0
         ·replace h := it h h19
          by_cases h20 : ((t7.1).length : Int) > ((a0).length : Int)
          ·replace h := it h h20
           cases h
          ·replace h := jf h h20
           obtain ⟨t21, h21, h⟩ := bo h
           by_cases h22 : t21 = 0
           ·replace h := it h h22
            obtain ⟨t23, h23, h⟩ := bo h; obtain ⟨t24, h24, h⟩ := bo h
            by_cases h25 : t24 = 0
            ·replace h := it h h25
             obtain ⟨t26, h26, h⟩ := bo h; obtain ⟨t27, h27, h⟩ := bo h; obtain ⟨t28, h28, h⟩ := bo h; obtain ⟨t29, h29, h⟩ := bo h
             by_cases h30 : t28.2 = 0
             ·replace h := it h h30
              by_cases h31 : t29.2 = 0
              ·replace h := it h h31
               obtain ⟨t32, h32, h⟩ := bo h
               by_cases h33 : t32 = true
               ·replace h := it h h33
                obtain ⟨t34, h34, h⟩ := bo h
                by_cases h35 : t34 = t29.1
                ·replace h := it h h35
                 by_cases h36 : ((t7.1).length : Int) > 3
                 ·replace h := it h h36
                  obtain ⟨h37, h⟩ := gd h; obtain ⟨h38, h⟩ := gd h; obtain ⟨h39, h⟩ := gd h
                  by_cases h40 : isNilL ((t7.1.take (Int.toNat (Int.tmod (IntKind.wrap .i64 a1) ((t7.1).length : Int)))).drop (Int.toNat 0)) = true
                  ·replace h := it h h40
                   obtain ⟨h41, h⟩ := gd h; obtain ⟨h42, h⟩ := gd h; obtain ⟨h43, h⟩ := gd h
                   by_cases h44 : isNilL ((t7.1.take (Int.toNat ((t7.1).length : Int))).drop (Int.toNat ((Int.tmod (IntKind.wrap .i64 a1) ((t7.1).length : Int)) + 1))) = true
                   ·replace h := it h h44
                    obtain ⟨t45, h45, h⟩ := bo h; obtain ⟨t46, h46, h⟩ := bo h
                    by_cases h47 : t46.2 = 0
                    ·replace h := it h h47
                     by_cases h48 : t46.1 = (-1)
                     ·replace h := it h h48
                      obtain rfl := oi h
                      exact run (e_law04_FieldHolds_4 a0 a1 t1 t6 t7 t15 t17 t21 t23 t24 t28 t29 t32 t34 t45 t46) ⟨(nef h48), (nef h47), ((c_field_Holds h46).le (.cons (.full _ _ _) (.cons (.refl _) (.nil))) (.refl _)), (el_ok un_Ai2Z_ok h45).1, (el_ok un_Ai2Z_ok h45).2, h44, (room_of (b := 16) (by kernel_rfl) (by decide) h43), h42, h41, h40, (room_of (b := 16) (by kernel_rfl) (by decide) h39), h38, h37, (decide_eq_true h36), (nef h35), (loopF_to R_law04_FieldHolds_L6 h34), (notf h33), (c_ref04_SamePoints h32), (nef h31), (nef h30), (c_field_Area h29), (c_law04_points h23), (c_field_Hull h28), (c_law04_points h23), (loopF_to R_law04_FieldHolds_L5 h27), (loopF_to R_law04_FieldHolds_L2 h26), (nef h25), (c_field_CheckPolygon h24), (c_law04_points h23), (nef h22), (c_ref04_CheckPolygon h21), (decide_eq_false h20), (nef h19), (notf h18), (c_ref04_SamePoints h17), (nef h16), ((c_field_Hull h15).le (.cons (.full _ _ _) (.nil)) (.refl _)), h14, (room_of (b := 16) (by kernel_rfl) (by decide) h13), h12, h11, (room_of (b := 16) (by kernel_rfl) (by decide) h10), h9, h8, (c_field_Hull h7), (c_law04_points h6), (loopF_to R_law04_FieldHolds_L1 h5), (decide_eq_false h4), (decide_eq_false h3), (notf h2), (c_law04_awake h1), trivial⟩
                     ·replace h := jf h h48
                      cases h
                    ·replace h := jf h h47
                     cases h
                   ·replace h := jf h h44
                    obtain ⟨t45, h45, h⟩ := bo h; obtain ⟨t46, h46, h⟩ := bo h
                    by_cases h47 : t46.2 = 0
                    ·replace h := it h h47
                     by_cases h48 : t46.1 = (-1)
                     ·replace h := it h h48
                      obtain rfl := oi h
                      exact run (e_law04_FieldHolds_7 a0 a1 t1 t6 t7 t15 t17 t21 t23 t24 t28 t29 t32 t34 t45 t46) ⟨(nef h48), (nef h47), (c_field_Holds h46), (el_ok un_Ai2Z_ok h45).1, (el_ok un_Ai2Z_ok h45).2, (bfalse h44), (room_of (b := 16) (by kernel_rfl) (by decide) h43), h42, h41, h40, (room_of (b := 16) (by kernel_rfl) (by decide) h39), h38, h37, (decide_eq_true h36), (nef h35), (loopF_to R_law04_FieldHolds_L6 h34), (notf h33), (c_ref04_SamePoints h32), (nef h31), (nef h30), (c_field_Area h29), (c_law04_points h23), (c_field_Hull h28), (c_law04_points h23), (loopF_to R_law04_FieldHolds_L5 h27), (loopF_to R_law04_FieldHolds_L2 h26), (nef h25), (c_field_CheckPolygon h24), (c_law04_points h23), (nef h22), (c_ref04_CheckPolygon h21), (decide_eq_false h20), (nef h19), (notf h18), (c_ref04_SamePoints h17), (nef h16), ((c_field_Hull h15).le (.cons (.full _ _ _) (.nil)) (.refl _)), h14, (room_of (b := 16) (by kernel_rfl) (by decide) h13), h12, h11, (room_of (b := 16) (by kernel_rfl) (by decide) h10), h9, h8, (c_field_Hull h7), (c_law04_points h6), (loopF_to R_law04_FieldHolds_L1 h5), (decide_eq_false h4), (decide_eq_false h3), (notf h2), (c_law04_awake h1), trivial⟩
                     ·replace h := jf h h48
                      cases h
                    ·replace h := jf h h47
                     cases h
                  ·replace h := jf h h40
                   obtain ⟨h41, h⟩ := gd h; obtain ⟨h42, h⟩ := gd h; obtain ⟨h43, h⟩ := gd h; obtain ⟨t44, h44, h⟩ := bo h; obtain ⟨t45, h45, h⟩ := bo h
                   by_cases h46 : t45.2 = 0
                   ·replace h := it h h46
                    by_cases h47 : t45.1 = (-1)
                    ·replace h := it h h47
                     obtain rfl := oi h
                     exact run (e_law04_FieldHolds_10 a0 a1 t1 t6 t7 t15 t17 t21 t23 t24 t28 t29 t32 t34 t44 t45) ⟨(nef h47), (nef h46), (c_field_Holds h45), (el_ok un_Ai2Z_ok h44).1, (el_ok un_Ai2Z_ok h44).2, (room_of (b := 16) (by kernel_rfl) (by decide) h43), h42, h41, (bfalse h40), (room_of (b := 16) (by kernel_rfl) (by decide) h39), h38, h37, (decide_eq_true h36), (nef h35), (loopF_to R_law04_FieldHolds_L6 h34), (notf h33), (c_ref04_SamePoints h32), (nef h31), (nef h30), (c_field_Area h29), (c_law04_points h23), (c_field_Hull h28), (c_law04_points h23), (loopF_to R_law04_FieldHolds_L5 h27), (loopF_to R_law04_FieldHolds_L2 h26), (nef h25), (c_field_CheckPolygon h24), (c_law04_points h23), (nef h22), (c_ref04_CheckPolygon h21), (decide_eq_false h20), (nef h19), (notf h18), (c_ref04_SamePoints h17), (nef h16), ((c_field_Hull h15).le (.cons (.full _ _ _) (.nil)) (.refl _)), h14, (room_of (b := 16) (by kernel_rfl) (by decide) h13), h12, h11, (room_of (b := 16) (by kernel_rfl) (by decide) h10), h9, h8, (c_field_Hull h7), (c_law04_points h6), (loopF_to R_law04_FieldHolds_L1 h5), (decide_eq_false h4), (decide_eq_false h3), (notf h2), (c_law04_awake h1), trivial⟩
                    ·replace h := jf h h47
                     cases h
                   ·replace h := jf h h46
                    cases h
                 ·replace h := jf h h36
                  obtain rfl := oi h
                  exact run (e_law04_FieldHolds_13 a0 a1 t1 t6 t7 t15 t17 t21 t23 t24 t28 t29 t32 t34) ⟨(decide_eq_false h36), (nef h35), (loopF_to R_law04_FieldHolds_L6 h34), (notf h33), (c_ref04_SamePoints h32), (nef h31), (nef h30), (c_field_Area h29), (c_law04_points h23), (c_field_Hull h28), (c_law04_points h23), (loopF_to R_law04_FieldHolds_L5 h27), (loopF_to R_law04_FieldHolds_L2 h26), (nef h25), (c_field_CheckPolygon h24), (c_law04_points h23), (nef h22), (c_ref04_CheckPolygon h21), (decide_eq_false h20), (nef h19), (notf h18), (c_ref04_SamePoints h17), (nef h16), ((c_field_Hull h15).le (.cons (.full _ _ _) (.nil)) (.refl _)), h14, (room_of (b := 16) (by kernel_rfl) (by decide) h13), h12, h11, (room_of (b := 16) (by kernel_rfl) (by decide) h10), h9, h8, (c_field_Hull h7), (c_law04_points h6), (loopF_to R_law04_FieldHolds_L1 h5), (decide_eq_false h4), (decide_eq_false h3), (notf h2), (c_law04_awake h1), trivial⟩
                ·replace h := jf h h35
                 cases h
               ·replace h := jf h h33
                cases h
              ·replace h := jf h h31
               cases h
             ·replace h := jf h h30
              cases h
            ·replace h := jf h h25
             cases h
           ·replace h := jf h h22
            cases h
         ·replace h := jf h h19
          by_cases h20 : t7.2 = 17
          ·replace h := it h h20
           obtain ⟨t21, h21, h⟩ := bo h
           obtain rfl := oi h
           exact run (e_law04_FieldHolds_20 a0 a1 t1 t6 t7 t15 t17) ⟨(loopF_to R_law04_FieldHolds_L9 h21), (nef h20), (net h19), (notf h18), (c_ref04_SamePoints h17), (nef h16), ((c_field_Hull h15).le (.cons (.full _ _ _) (.nil)) (.refl _)), h14, (room_of (b := 16) (by kernel_rfl) (by decide) h13), h12, h11, (room_of (b := 16) (by kernel_rfl) (by decide) h10), h9, h8, (c_field_Hull h7), (c_law04_points h6), (loopF_to R_law04_FieldHolds_L1 h5), (decide_eq_false h4), (decide_eq_false h3), (notf h2), (c_law04_awake h1), trivial⟩
          ·replace h := jf h h20
           cases h
        ·replace h := jf h h18
         cases h
       ·replace h := jf h h16
        cases h
      ·replace h := jf h h14
       obtain ⟨t15, h15, h⟩ := bo h
       by_cases h16 : t7.2 = t15.2
       ·replace h := it h h16
        obtain ⟨t17, h17, h⟩ := bo h
        by_cases h18 : t17 = true
        ·replace h := it h h18
         by_cases h19 : t7.2 = 0
         ·replace h := it h h19
          by_cases h20 : ((t7.1).length : Int) > ((a0).length : Int)
          ·replace h := it h h20
           cases h
          ·replace h := jf h h20
           obtain ⟨t21, h21, h⟩ := bo h
           by_cases h22 : t21 = 0
           ·replace h := it h h22
            obtain ⟨t23, h23, h⟩ := bo h; obtain ⟨t24, h24, h⟩ := bo h
            by_cases h25 : t24 = 0
            ·replace h := it h h25
             obtain ⟨t26, h26, h⟩ := bo h; obtain ⟨t27, h27, h⟩ := bo h; obtain ⟨t28, h28, h⟩ := bo h; obtain ⟨t29, h29, h⟩ := bo h
             by_cases h30 : t28.2 = 0
             ·replace h := it h h30
              by_cases h31 : t29.2 = 0
              ·replace h := it h h31
               obtain ⟨t32, h32, h⟩ := bo h
               by_cases h33 : t32 = true
               ·replace h := it h h33
                obtain ⟨t34, h34, h⟩ := bo h
                by_cases h35 : t34 = t29.1
                ·replace h := it h h35
                 by_cases h36 : ((t7.1).length : Int) > 3
                 ·replace h := it h h36
                  obtain ⟨h37, h⟩ := gd h; obtain ⟨h38, h⟩ := gd h; obtain ⟨h39, h⟩ := gd h
                  by_cases h40 : isNilL ((t7.1.take (Int.toNat (Int.tmod (IntKind.wrap .i64 a1) ((t7.1).length : Int)))).drop (Int.toNat 0)) = true
                  ·replace h := it h h40
                   obtain ⟨h41, h⟩ := gd h; obtain ⟨h42, h⟩ := gd h; obtain ⟨h43, h⟩ := gd h
                   by_cases h44 : isNilL ((t7.1.take (Int.toNat ((t7.1).length : Int))).drop (Int.toNat ((Int.tmod (IntKind.wrap .i64 a1) ((t7.1).length : Int)) + 1))) = true
                   ·replace h := it h h44
                    obtain ⟨t45, h45, h⟩ := bo h; obtain ⟨t46, h46, h⟩ := bo h
                    by_cases h47 : t46.2 = 0
                    ·replace h := it h h47
                     by_cases h48 : t46.1 = (-1)
                     ·replace h := it h h48
                      obtain rfl := oi h
                      exact run (e_law04_FieldHolds_25 a0 a1 t1 t6 t7 t15 t17 t21 t23 t24 t28 t29 t32 t34 t45 t46) ⟨(nef h48), (nef h47), ((c_field_Holds h46).le (.cons (.full _ _ _) (.cons (.refl _) (.nil))) (.refl _)), (el_ok un_Ai2Z_ok h45).1, (el_ok un_Ai2Z_ok h45).2, h44, (room_of (b := 16) (by kernel_rfl) (by decide) h43), h42, h41, h40, (room_of (b := 16) (by kernel_rfl) (by decide) h39), h38, h37, (decide_eq_true h36), (nef h35), (loopF_to R_law04_FieldHolds_L6 h34), (notf h33), (c_ref04_SamePoints h32), (nef h31), (nef h30), (c_field_Area h29), (c_law04_points h23), (c_field_Hull h28), (c_law04_points h23), (loopF_to R_law04_FieldHolds_L5 h27), (loopF_to R_law04_FieldHolds_L2 h26), (nef h25), (c_field_CheckPolygon h24), (c_law04_points h23), (nef h22), (c_ref04_CheckPolygon h21), (decide_eq_false h20), (nef h19), (notf h18), (c_ref04_SamePoints h17), (nef h16), (c_field_Hull h15), (bfalse h14), (room_of (b := 16) (by kernel_rfl) (by decide) h13), h12, h11, (room_of (b := 16) (by kernel_rfl) (by decide) h10), h9, h8, (c_field_Hull h7), (c_law04_points h6), (loopF_to R_law04_FieldHolds_L1 h5), (decide_eq_false h4), (decide_eq_false h3), (notf h2), (c_law04_awake h1), trivial⟩
                     ·replace h := jf h h48
                      cases h
                    ·replace h := jf h h47
                     cases h
                   ·replace h := jf h h44
                    obtain ⟨t45, h45, h⟩ := bo h; obtain ⟨t46, h46, h⟩ := bo h
                    by_cases h47 : t46.2 = 0
                    ·replace h := it h h47
                     by_cases h48 : t46.1 = (-1)
                     ·replace h := it h h48
                      obtain rfl := oi h
                      exact run (e_law04_FieldHolds_28 a0 a1 t1 t6 t7 t15 t17 t21 t23 t24 t28 t29 t32 t34 t45 t46) ⟨(nef h48), (nef h47), (c_field_Holds h46), (el_ok un_Ai2Z_ok h45).1, (el_ok un_Ai2Z_ok h45).2, (bfalse h44), (room_of (b := 16) (by kernel_rfl) (by decide) h43), h42, h41, h40, (room_of (b := 16) (by kernel_rfl) (by decide) h39), h38, h37, (decide_eq_true h36), (nef h35), (loopF_to R_law04_FieldHolds_L6 h34), (notf h33), (c_ref04_SamePoints h32), (nef h31), (nef h30), (c_field_Area h29), (c_law04_points h23), (c_field_Hull h28), (c_law04_points h23), (loopF_to R_law04_FieldHolds_L5 h27), (loopF_to R_law04_FieldHolds_L2 h26), (nef h25), (c_field_CheckPolygon h24), (c_law04_points h23), (nef h22), (c_ref04_CheckPolygon h21), (decide_eq_false h20), (nef h19), (notf h18), (c_ref04_SamePoints h17), (nef h16), (c_field_Hull h15), (bfalse h14), (room_of (b := 16) (by kernel_rfl) (by decide) h13), h12, h11, (room_of (b := 16) (by kernel_rfl) (by decide) h10), h9, h8, (c_field_Hull h7), (c_law04_points h6), (loopF_to R_law04_FieldHolds_L1 h5), (decide_eq_false h4), (decide_eq_false h3), (notf h2), (c_law04_awake h1), trivial⟩
                     ·replace h := jf h h48
                      cases h
                    ·replace h := jf h h47
                     cases h
                  ·replace h := jf h h40
                   obtain ⟨h41, h⟩ := gd h; obtain ⟨h42, h⟩ := gd h; obtain ⟨h43, h⟩ := gd h; obtain ⟨t44, h44, h⟩ := bo h; obtain ⟨t45, h45, h⟩ := bo h
                   by_cases h46 : t45.2 = 0
                   ·replace h := it h h46
                    by_cases h47 : t45.1 = (-1)
                    ·replace h := it h h47
                     obtain rfl := oi h
                     exact run (e_law04_FieldHolds_31 a0 a1 t1 t6 t7 t15 t17 t21 t23 t24 t28 t29 t32 t34 t44 t45) ⟨(nef h47), (nef h46), (c_field_Holds h45), (el_ok un_Ai2Z_ok h44).1, (el_ok un_Ai2Z_ok h44).2, (room_of (b := 16) (by kernel_rfl) (by decide) h43), h42, h41, (bfalse h40), (room_of (b := 16) (by kernel_rfl) (by decide) h39), h38, h37, (decide_eq_true h36), (nef h35), (loopF_to R_law04_FieldHolds_L6 h34), (notf h33), (c_ref04_SamePoints h32), (nef h31), (nef h30), (c_field_Area h29), (c_law04_points h23), (c_field_Hull h28), (c_law04_points h23), (loopF_to R_law04_FieldHolds_L5 h27), (loopF_to R_law04_FieldHolds_L2 h26), (nef h25), (c_field_CheckPolygon h24), (c_law04_points h23), (nef h22), (c_ref04_CheckPolygon h21), (decide_eq_false h20), (nef h19), (notf h18), (c_ref04_SamePoints h17), (nef h16), (c_field_Hull h15), (bfalse h14), (room_of (b := 16) (by kernel_rfl) (by decide) h13), h12, h11, (room_of (b := 16) (by kernel_rfl) (by decide) h10), h9, h8, (c_field_Hull h7), (c_law04_points h6), (loopF_to R_law04_FieldHolds_L1 h5), (decide_eq_false h4), (decide_eq_false h3), (notf h2), (c_law04_awake h1), trivial⟩
                    ·replace h := jf h h47
                     cases h
                   ·replace h := jf h h46
                    cases h
                 ·replace h := jf h h36
                  obtain rfl := oi h
                  exact run (e_law04_FieldHolds_34 a0 a1 t1 t6 t7 t15 t17 t21 t23 t24 t28 t29 t32 t34) ⟨(decide_eq_false h36), (nef h35), (loopF_to R_law04_FieldHolds_L6 h34), (notf h33), (c_ref04_SamePoints h32), (nef h31), (nef h30), (c_field_Area h29), (c_law04_points h23), (c_field_Hull h28), (c_law04_points h23), (loopF_to R_law04_FieldHolds_L5 h27), (loopF_to R_law04_FieldHolds_L2 h26), (nef h25), (c_field_CheckPolygon h24), (c_law04_points h23), (nef h22), (c_ref04_CheckPolygon h21), (decide_eq_false h20), (nef h19), (notf h18), (c_ref04_SamePoints h17), (nef h16), (c_field_Hull h15), (bfalse h14), (room_of (b := 16) (by kernel_rfl) (by decide) h13), h12, h11, (room_of (b := 16) (by kernel_rfl) (by decide) h10), h9, h8, (c_field_Hull h7), (c_law04_points h6), (loopF_to R_law04_FieldHolds_L1 h5), (decide_eq_false h4), (decide_eq_false h3), (notf h2), (c_law04_awake h1), trivial⟩
                ·replace h := jf h h35
                 cases h
               ·replace h := jf h h33
                cases h
              ·replace h := jf h h31
               cases h
             ·replace h := jf h h30
              cases h
            ·replace h := jf h h25
             cases h
           ·replace h := jf h h22
            cases h
         ·replace h := jf h h19
          by_cases h20 : t7.2 = 17
          ·replace h := it h h20
           obtain ⟨t21, h21, h⟩ := bo h
           obtain rfl := oi h
           exact run (e_law04_FieldHolds_41 a0 a1 t1 t6 t7 t15 t17) ⟨(loopF_to R_law04_FieldHolds_L9 h21), (nef h20), (net h19), (notf h18), (c_ref04_SamePoints h17), (nef h16), (c_field_Hull h15), (bfalse h14), (room_of (b := 16) (by kernel_rfl) (by decide) h13), h12, h11, (room_of (b := 16) (by kernel_rfl) (by decide) h10), h9, h8, (c_field_Hull h7), (c_law04_points h6), (loopF_to R_law04_FieldHolds_L1 h5), (decide_eq_false h4), (decide_eq_false h3), (notf h2), (c_law04_awake h1), trivial⟩
          ·replace h := jf h h20
           cases h
        ·replace h := jf h h18
         cases h
       ·replace h := jf h h16
        cases h
     ·replace h := jf h h11
      obtain ⟨h12, h⟩ := gd h; obtain ⟨h13, h⟩ := gd h; obtain ⟨t14, h14, h⟩ := bo h
      by_cases h15 : t7.2 = t14.2
      ·replace h := it h h15
       obtain ⟨t16, h16, h⟩ := bo h
       by_cases h17 : t16 = true
       ·replace h := it h h17
        by_cases h18 : t7.2 = 0
        ·replace h := it h h18
         by_cases h19 : ((t7.1).length : Int) > ((a0).length : Int)
         ·replace h := it h h19
          cases h
         ·replace h := jf h h19
          obtain ⟨t20, h20, h⟩ := bo h
          by_cases h21 : t20 = 0
          ·replace h := it h h21
           obtain ⟨t22, h22, h⟩ := bo h; obtain ⟨t23, h23, h⟩ := bo h
           by_cases h24 : t23 = 0
           ·replace h := it h h24
            obtain ⟨t25, h25, h⟩ := bo h; obtain ⟨t26, h26, h⟩ := bo h; obtain ⟨t27, h27, h⟩ := bo h; obtain ⟨t28, h28, h⟩ := bo h
            by_cases h29 : t27.2 = 0
            ·replace h := it h h29
             by_cases h30 : t28.2 = 0
             ·replace h := it h h30
              obtain ⟨t31, h31, h⟩ := bo h
              by_cases h32 : t31 = true
              ·replace h := it h h32
               obtain ⟨t33, h33, h⟩ := bo h
               by_cases h34 : t33 = t28.1
               ·replace h := it h h34
                by_cases h35 : ((t7.1).length : Int) > 3
                ·replace h := it h h35
                 obtain ⟨h36, h⟩ := gd h; obtain ⟨h37, h⟩ := gd h; obtain ⟨h38, h⟩ := gd h
                 by_cases h39 : isNilL ((t7.1.take (Int.toNat (Int.tmod (IntKind.wrap .i64 a1) ((t7.1).length : Int)))).drop (Int.toNat 0)) = true
                 ·replace h := it h h39
                  obtain ⟨h40, h⟩ := gd h; obtain ⟨h41, h⟩ := gd h; obtain ⟨h42, h⟩ := gd h
                  by_cases h43 : isNilL ((t7.1.take (Int.toNat ((t7.1).length : Int))).drop (Int.toNat ((Int.tmod (IntKind.wrap .i64 a1) ((t7.1).length : Int)) + 1))) = true
                  ·replace h := it h h43
                   obtain ⟨t44, h44, h⟩ := bo h; obtain ⟨t45, h45, h⟩ := bo h
                   by_cases h46 : t45.2 = 0
                   ·replace h := it h h46
                    by_cases h47 : t45.1 = (-1)
                    ·replace h := it h h47
                     obtain rfl := oi h
                     exact run (e_law04_FieldHolds_46 a0 a1 t1 t6 t7 t14 t16 t20 t22 t23 t27 t28 t31 t33 t44 t45) ⟨(nef h47), (nef h46), ((c_field_Holds h45).le (.cons (.full _ _ _) (.cons (.refl _) (.nil))) (.refl _)), (el_ok un_Ai2Z_ok h44).1, (el_ok un_Ai2Z_ok h44).2, h43, (room_of (b := 16) (by kernel_rfl) (by decide) h42), h41, h40, h39, (room_of (b := 16) (by kernel_rfl) (by decide) h38), h37, h36, (decide_eq_true h35), (nef h34), (loopF_to R_law04_FieldHolds_L10 h33), (notf h32), (c_ref04_SamePoints h31), (nef h30), (nef h29), (c_field_Area h28), (c_law04_points h22), (c_field_Hull h27), (c_law04_points h22), (loopF_to R_law04_FieldHolds_L5 h26), (loopF_to R_law04_FieldHolds_L2 h25), (nef h24), (c_field_CheckPolygon h23), (c_law04_points h22), (nef h21), (c_ref04_CheckPolygon h20), (decide_eq_false h19), (nef h18), (notf h17), (c_ref04_SamePoints h16), (nef h15), (c_field_Hull h14), (room_of (b := 16) (by kernel_rfl) (by decide) h13), h12, (bfalse h11), (room_of (b := 16) (by kernel_rfl) (by decide) h10), h9, h8, (c_field_Hull h7), (c_law04_points h6), (loopF_to R_law04_FieldHolds_L1 h5), (decide_eq_false h4), (decide_eq_false h3), (notf h2), (c_law04_awake h1), trivial⟩
                    ·replace h := jf h h47
                     cases h
                   ·replace h := jf h h46
                    cases h
                  ·replace h := jf h h43
                   obtain ⟨t44, h44, h⟩ := bo h; obtain ⟨t45, h45, h⟩ := bo h
                   by_cases h46 : t45.2 = 0
                   ·replace h := it h h46
                    by_cases h47 : t45.1 = (-1)
                    ·replace h := it h h47
                     obtain rfl := oi h
                     exact run (e_law04_FieldHolds_49 a0 a1 t1 t6 t7 t14 t16 t20 t22 t23 t27 t28 t31 t33 t44 t45) ⟨(nef h47), (nef h46), (c_field_Holds h45), (el_ok un_Ai2Z_ok h44).1, (el_ok un_Ai2Z_ok h44).2, (bfalse h43), (room_of (b := 16) (by kernel_rfl) (by decide) h42), h41, h40, h39, (room_of (b := 16) (by kernel_rfl) (by decide) h38), h37, h36, (decide_eq_true h35), (nef h34), (loopF_to R_law04_FieldHolds_L10 h33), (notf h32), (c_ref04_SamePoints h31), (nef h30), (nef h29), (c_field_Area h28), (c_law04_points h22), (c_field_Hull h27), (c_law04_points h22), (loopF_to R_law04_FieldHolds_L5 h26), (loopF_to R_law04_FieldHolds_L2 h25), (nef h24), (c_field_CheckPolygon h23), (c_law04_points h22), (nef h21), (c_ref04_CheckPolygon h20), (decide_eq_false h19), (nef h18), (notf h17), (c_ref04_SamePoints h16), (nef h15), (c_field_Hull h14), (room_of (b := 16) (by kernel_rfl) (by decide) h13), h12, (bfalse h11), (room_of (b := 16) (by kernel_rfl) (by decide) h10), h9, h8, (c_field_Hull h7), (c_law04_points h6), (loopF_to R_law04_FieldHolds_L1 h5), (decide_eq_false h4), (decide_eq_false h3), (notf h2), (c_law04_awake h1), trivial⟩
                    ·replace h := jf h h47
                     cases h
                   ·replace h := jf h h46
                    cases h
                 ·replace h := jf h h39
                  obtain ⟨h40, h⟩ := gd h; obtain ⟨h41, h⟩ := gd h; obtain ⟨h42, h⟩ := gd h; obtain ⟨t43, h43, h⟩ := bo h; obtain ⟨t44, h44, h⟩ := bo h
                  by_cases h45 : t44.2 = 0
                  ·replace h := it h h45
                   by_cases h46 : t44.1 = (-1)
                   ·replace h := it h h46
                    obtain rfl := oi h
                    exact run (e_law04_FieldHolds_52 a0 a1 t1 t6 t7 t14 t16 t20 t22 t23 t27 t28 t31 t33 t43 t44) ⟨(nef h46), (nef h45), (c_field_Holds h44), (el_ok un_Ai2Z_ok h43).1, (el_ok un_Ai2Z_ok h43).2, (room_of (b := 16) (by kernel_rfl) (by decide) h42), h41, h40, (bfalse h39), (room_of (b := 16) (by kernel_rfl) (by decide) h38), h37, h36, (decide_eq_true h35), (nef h34), (loopF_to R_law04_FieldHolds_L10 h33), (notf h32), (c_ref04_SamePoints h31), (nef h30), (nef h29), (c_field_Area h28), (c_law04_points h22), (c_field_Hull h27), (c_law04_points h22), (loopF_to R_law04_FieldHolds_L5 h26), (loopF_to R_law04_FieldHolds_L2 h25), (nef h24), (c_field_CheckPolygon h23), (c_law04_points h22), (nef h21), (c_ref04_CheckPolygon h20), (decide_eq_false h19), (nef h18), (notf h17), (c_ref04_SamePoints h16), (nef h15), (c_field_Hull h14), (room_of (b := 16) (by kernel_rfl) (by decide) h13), h12, (bfalse h11), (room_of (b := 16) (by kernel_rfl) (by decide) h10), h9, h8, (c_field_Hull h7), (c_law04_points h6), (loopF_to R_law04_FieldHolds_L1 h5), (decide_eq_false h4), (decide_eq_false h3), (notf h2), (c_law04_awake h1), trivial⟩
                   ·replace h := jf h h46
                    cases h
                  ·replace h := jf h h45
                   cases h
                ·replace h := jf h h35
                 obtain rfl := oi h
                 exact run (e_law04_FieldHolds_55 a0 a1 t1 t6 t7 t14 t16 t20 t22 t23 t27 t28 t31 t33) ⟨(decide_eq_false h35), (nef h34), (loopF_to R_law04_FieldHolds_L10 h33), (notf h32), (c_ref04_SamePoints h31), (nef h30), (nef h29), (c_field_Area h28), (c_law04_points h22), (c_field_Hull h27), (c_law04_points h22), (loopF_to R_law04_FieldHolds_L5 h26), (loopF_to R_law04_FieldHolds_L2 h25), (nef h24), (c_field_CheckPolygon h23), (c_law04_points h22), (nef h21), (c_ref04_CheckPolygon h20), (decide_eq_false h19), (nef h18), (notf h17), (c_ref04_SamePoints h16), (nef h15), (c_field_Hull h14), (room_of (b := 16) (by kernel_rfl) (by decide) h13), h12, (bfalse h11), (room_of (b := 16) (by kernel_rfl) (by decide) h10), h9, h8, (c_field_Hull h7), (c_law04_points h6), (loopF_to R_law04_FieldHolds_L1 h5), (decide_eq_false h4), (decide_eq_false h3), (notf h2), (c_law04_awake h1), trivial⟩
               ·replace h := jf h h34
                cases h
              ·replace h := jf h h32
               cases h
             ·replace h := jf h h30
              cases h
            ·replace h := jf h h29
             cases h
           ·replace h := jf h h24
            cases h
          ·replace h := jf h h21
           cases h
        ·replace h := jf h h18
         by_cases h19 : t7.2 = 17
         ·replace h := it h h19
          obtain ⟨t20, h20, h⟩ := bo h
          obtain rfl := oi h
          exact run (e_law04_FieldHolds_62 a0 a1 t1 t6 t7 t14 t16) ⟨(loopF_to R_law04_FieldHolds_L9 h20), (nef h19), (net h18), (notf h17), (c_ref04_SamePoints h16), (nef h15), (c_field_Hull h14), (room_of (b := 16) (by kernel_rfl) (by decide) h13), h12, (bfalse h11), (room_of (b := 16) (by kernel_rfl) (by decide) h10), h9, h8, (c_field_Hull h7), (c_law04_points h6), (loopF_to R_law04_FieldHolds_L1 h5), (decide_eq_false h4), (decide_eq_false h3), (notf h2), (c_law04_awake h1), trivial⟩
         ·replace h := jf h h19
          cases h
       ·replace h := jf h h17
        cases h
      ·replace h := jf h h15
       cases h
 ·replace h := jf h h2
  obtain rfl := oi h
  exact run (e_law04_FieldHolds_66 a0 a1 t1) ⟨(c_law04_awake h1), (nott (bfalse h2)), (c_law04_awake h1), trivial⟩
end Go.Proofs.YtbjnjffckhdhgaaGreatDoor
