/-
  Printed by gsx.py: functions of the program as Lean functions, and that the code computes them.
-/
import Derived.Test.YtbjnjffckhdhgaaGreatDoorGen3
set_option linter.unusedVariables false
set_option maxRecDepth 10000
namespace Go.Proofs.YtbjnjffckhdhgaaGreatDoor
open Go.SX
def F_field_Hull (n : Nat) (a0 : List D) : Option (List D × Int) :=
 (F_field_when n (((a0).length : Int) == 0) 12).bind fun t1 =>
 (F_field_when n (decide (((a0).length : Int) > 64)) 5).bind fun t2 =>
 (F_field_first n ([I t1, I t2])).bind fun t3 =>
 if t3 = 0 then
  (F_field_mapped_g n a0).bind fun t5 =>
  (F_field_first n t5).bind fun t6 =>
  if t6 = 0 then
  if isNilL a0 = true then
   none /- whether an empty list is nil -/
  else
  if roomP 16 (0 + (a0).length) then
  (F_math_bits_Len n (IntKind.wrap .u64 ((a0).length : Int))).bind fun t10 =>
  (loopF (F_field_Hull_L4 n a0 t10) n ()).bind fun t11 =>
  if ((t11).length : Int) < 2 then
   (loopF (F_field_Hull_L7 n t11) n (0, [])).bind fun t13 =>
   if inI64 (((t11).length : Int) - 1) then
   (loopF (F_field_Hull_L8 n t13) n (0, (((t11).length : Int) - 1), t11)).bind fun t15 =>
   (loopF (F_field_Hull_L11 n t13 t15) n (0, [])).bind fun t16 =>
   if inI64 (((t13).length : Int) - 1) then
   if (0 : Int) ≤ 0 ∧ 0 ≤ (((t13).length : Int) - 1) ∧ (((t13).length : Int) - 1) ≤ ((t13).length : Int) ∧ (t13 = [] ∨ 2 = 2) then
   if inI64 (((t16).length : Int) - 1) then
   if (0 : Int) ≤ 0 ∧ 0 ≤ (((t16).length : Int) - 1) ∧ (((t16).length : Int) - 1) ≤ ((t16).length : Int) ∧ (t16 = [] ∨ 2 = 2) then
   if inI64 (0 + ((((t13.take (Int.toNat (((t13).length : Int) - 1))).drop (Int.toNat 0)) : List D).length : Int)) then
   if (0 + ((((t13.take (Int.toNat (((t13).length : Int) - 1))).drop (Int.toNat 0)) : List D).length : Int)) < 0 then
   none /- operation makeInterface at slices.go:496 -/
   else
   if inI64 ((0 + ((((t13.take (Int.toNat (((t13).length : Int) - 1))).drop (Int.toNat 0)) : List D).length : Int)) + ((((t16.take (Int.toNat (((t16).length : Int) - 1))).drop (Int.toNat 0)) : List D).length : Int)) then
   if ((0 + ((((t13.take (Int.toNat (((t13).length : Int) - 1))).drop (Int.toNat 0)) : List D).length : Int)) + ((((t16.take (Int.toNat (((t16).length : Int) - 1))).drop (Int.toNat 0)) : List D).length : Int)) < 0 then
   none /- operation makeInterface at slices.go:496 -/
   else
   if inI64 (((0 + ((((t13.take (Int.toNat (((t13).length : Int) - 1))).drop (Int.toNat 0)) : List D).length : Int)) + ((((t16.take (Int.toNat (((t16).length : Int) - 1))).drop (Int.toNat 0)) : List D).length : Int)) - 0) then
   if (((0 + ((((t13.take (Int.toNat (((t13).length : Int) - 1))).drop (Int.toNat 0)) : List D).length : Int)) + ((((t16.take (Int.toNat (((t16).length : Int) - 1))).drop (Int.toNat 0)) : List D).length : Int)) - 0) > 0 then
   if 0 < (((0 + ((((t13.take (Int.toNat (((t13).length : Int) - 1))).drop (Int.toNat 0)) : List D).length : Int)) + ((((t16.take (Int.toNat (((t16).length : Int) - 1))).drop (Int.toNat 0)) : List D).length : Int)) - 0) ∧ roomP 16 (Int.toNat (((0 + ((((t13.take (Int.toNat (((t13).length : Int) - 1))).drop (Int.toNat 0)) : List D).length : Int)) + ((((t16.take (Int.toNat (((t16).length : Int) - 1))).drop (Int.toNat 0)) : List D).length : Int)) - 0)) then
   if (0 : Int) ≤ 0 ∧ 0 ≤ (((List.replicate (Int.toNat (((0 + ((((t13.take (Int.toNat (((t13).length : Int) - 1))).drop (Int.toNat 0)) : List D).length : Int)) + ((((t16.take (Int.toNat (((t16).length : Int) - 1))).drop (Int.toNat 0)) : List D).length : Int)) - 0)) (.agg [I 0, I 0] : D)) : List D).length : Int) then
   if roomP 16 (0 + (((t13.take (Int.toNat (((t13).length : Int) - 1))).drop (Int.toNat 0)) : List D).length) then
   if roomP 16 ((((t13.take (Int.toNat (((t13).length : Int) - 1))).drop (Int.toNat 0)) : List D).length + (((t16.take (Int.toNat (((t16).length : Int) - 1))).drop (Int.toNat 0)) : List D).length) then
   (F_field_when n (decide ((((((t13.take (Int.toNat (((t13).length : Int) - 1))).drop (Int.toNat 0)) ++ (((t16.take (Int.toNat (((t16).length : Int) - 1))).drop (Int.toNat 0)) : List D)) : List D).length : Int) < 3)) 17).bind fun t31 =>
   (F_field_when n (decide ((((((t13.take (Int.toNat (((t13).length : Int) - 1))).drop (Int.toNat 0)) ++ (((t16.take (Int.toNat (((t16).length : Int) - 1))).drop (Int.toNat 0)) : List D)) : List D).length : Int) > 16)) 5).bind fun t32 =>
   (F_field_first n ([I t31, I t32])).bind fun t33 =>
   if t33 = 0 then
    some ((((t13.take (Int.toNat (((t13).length : Int) - 1))).drop (Int.toNat 0)) ++ (((t16.take (Int.toNat (((t16).length : Int) - 1))).drop (Int.toNat 0)) : List D)), 0)
   else
   some ([], t33)
   else none
   else none
   else none
   else none
   else
   if roomP 16 (0 + (((t13.take (Int.toNat (((t13).length : Int) - 1))).drop (Int.toNat 0)) : List D).length) then
   if isNilL ((t13.take (Int.toNat (((t13).length : Int) - 1))).drop (Int.toNat 0)) = true then
   if roomP 16 (0 + (((t16.take (Int.toNat (((t16).length : Int) - 1))).drop (Int.toNat 0)) : List D).length) then
   if isNilL ((t16.take (Int.toNat (((t16).length : Int) - 1))).drop (Int.toNat 0)) = true then
    (F_field_when_3 n).bind fun t31 =>
    (F_field_when_4 n).bind fun t32 =>
    (F_field_first n ([I t31, I t32])).bind fun t33 =>
    if t33 = 0 then
    some ([], 0)
    else
    some ([], t33)
   else
   (F_field_when n (decide (((((t16.take (Int.toNat (((t16).length : Int) - 1))).drop (Int.toNat 0)) : List D).length : Int) < 3)) 17).bind fun t31 =>
   (F_field_when n (decide (((((t16.take (Int.toNat (((t16).length : Int) - 1))).drop (Int.toNat 0)) : List D).length : Int) > 16)) 5).bind fun t32 =>
   (F_field_first n ([I t31, I t32])).bind fun t33 =>
   if t33 = 0 then
    some (((t16.take (Int.toNat (((t16).length : Int) - 1))).drop (Int.toNat 0)), 0)
   else
   some ([], t33)
   else none
   else
   if roomP 16 ((((t13.take (Int.toNat (((t13).length : Int) - 1))).drop (Int.toNat 0)) : List D).length + (((t16.take (Int.toNat (((t16).length : Int) - 1))).drop (Int.toNat 0)) : List D).length) then
   (F_field_when n (decide ((((((t13.take (Int.toNat (((t13).length : Int) - 1))).drop (Int.toNat 0)) ++ (((t16.take (Int.toNat (((t16).length : Int) - 1))).drop (Int.toNat 0)) : List D)) : List D).length : Int) < 3)) 17).bind fun t30 =>
   (F_field_when n (decide ((((((t13.take (Int.toNat (((t13).length : Int) - 1))).drop (Int.toNat 0)) ++ (((t16.take (Int.toNat (((t16).length : Int) - 1))).drop (Int.toNat 0)) : List D)) : List D).length : Int) > 16)) 5).bind fun t31 =>
   (F_field_first n ([I t30, I t31])).bind fun t32 =>
   if t32 = 0 then
   some ((((t13.take (Int.toNat (((t13).length : Int) - 1))).drop (Int.toNat 0)) ++ (((t16.take (Int.toNat (((t16).length : Int) - 1))).drop (Int.toNat 0)) : List D)), 0)
   else
   some ([], t32)
   else none
   else none
   else none
   else none
   else none
   else none
   else none
   else none
   else none
   else none
  else
  (loopF (F_field_Hull_L14 n t11) n 1).bind fun t13 => match t13 with
   | (.inl t13) => (
   (loopF (F_field_Hull_L17 n t13) n (0, [])).bind fun t14 =>
   if inI64 (((t13).length : Int) - 1) then
   (loopF (F_field_Hull_L18 n t14) n (0, (((t13).length : Int) - 1), t13)).bind fun t16 =>
   (loopF (F_field_Hull_L21 n t14 t16) n (0, [])).bind fun t17 =>
   if inI64 (((t14).length : Int) - 1) then
   if (0 : Int) ≤ 0 ∧ 0 ≤ (((t14).length : Int) - 1) ∧ (((t14).length : Int) - 1) ≤ ((t14).length : Int) ∧ (t14 = [] ∨ 2 = 2) then
   if inI64 (((t17).length : Int) - 1) then
   if (0 : Int) ≤ 0 ∧ 0 ≤ (((t17).length : Int) - 1) ∧ (((t17).length : Int) - 1) ≤ ((t17).length : Int) ∧ (t17 = [] ∨ 2 = 2) then
   if inI64 (0 + ((((t14.take (Int.toNat (((t14).length : Int) - 1))).drop (Int.toNat 0)) : List D).length : Int)) then
   if (0 + ((((t14.take (Int.toNat (((t14).length : Int) - 1))).drop (Int.toNat 0)) : List D).length : Int)) < 0 then
    none /- operation makeInterface at slices.go:496 -/
   else
   if inI64 ((0 + ((((t14.take (Int.toNat (((t14).length : Int) - 1))).drop (Int.toNat 0)) : List D).length : Int)) + ((((t17.take (Int.toNat (((t17).length : Int) - 1))).drop (Int.toNat 0)) : List D).length : Int)) then
   if ((0 + ((((t14.take (Int.toNat (((t14).length : Int) - 1))).drop (Int.toNat 0)) : List D).length : Int)) + ((((t17.take (Int.toNat (((t17).length : Int) - 1))).drop (Int.toNat 0)) : List D).length : Int)) < 0 then
    none /- operation makeInterface at slices.go:496 -/
   else
   if inI64 (((0 + ((((t14.take (Int.toNat (((t14).length : Int) - 1))).drop (Int.toNat 0)) : List D).length : Int)) + ((((t17.take (Int.toNat (((t17).length : Int) - 1))).drop (Int.toNat 0)) : List D).length : Int)) - 0) then
   if (((0 + ((((t14.take (Int.toNat (((t14).length : Int) - 1))).drop (Int.toNat 0)) : List D).length : Int)) + ((((t17.take (Int.toNat (((t17).length : Int) - 1))).drop (Int.toNat 0)) : List D).length : Int)) - 0) > 0 then
    if 0 < (((0 + ((((t14.take (Int.toNat (((t14).length : Int) - 1))).drop (Int.toNat 0)) : List D).length : Int)) + ((((t17.take (Int.toNat (((t17).length : Int) - 1))).drop (Int.toNat 0)) : List D).length : Int)) - 0) ∧ roomP 16 (Int.toNat (((0 + ((((t14.take (Int.toNat (((t14).length : Int) - 1))).drop (Int.toNat 0)) : List D).length : Int)) + ((((t17.take (Int.toNat (((t17).length : Int) - 1))).drop (Int.toNat 0)) : List D).length : Int)) - 0)) then
    if (0 : Int) ≤ 0 ∧ 0 ≤ (((List.replicate (Int.toNat (((0 + ((((t14.take (Int.toNat (((t14).length : Int) - 1))).drop (Int.toNat 0)) : List D).length : Int)) + ((((t17.take (Int.toNat (((t17).length : Int) - 1))).drop (Int.toNat 0)) : List D).length : Int)) - 0)) (.agg [I 0, I 0] : D)) : List D).length : Int) then
    if roomP 16 (0 + (((t14.take (Int.toNat (((t14).length : Int) - 1))).drop (Int.toNat 0)) : List D).length) then
    if roomP 16 ((((t14.take (Int.toNat (((t14).length : Int) - 1))).drop (Int.toNat 0)) : List D).length + (((t17.take (Int.toNat (((t17).length : Int) - 1))).drop (Int.toNat 0)) : List D).length) then
    (F_field_when n (decide ((((((t14.take (Int.toNat (((t14).length : Int) - 1))).drop (Int.toNat 0)) ++ (((t17.take (Int.toNat (((t17).length : Int) - 1))).drop (Int.toNat 0)) : List D)) : List D).length : Int) < 3)) 17).bind fun t32 =>
    (F_field_when n (decide ((((((t14.take (Int.toNat (((t14).length : Int) - 1))).drop (Int.toNat 0)) ++ (((t17.take (Int.toNat (((t17).length : Int) - 1))).drop (Int.toNat 0)) : List D)) : List D).length : Int) > 16)) 5).bind fun t33 =>
    (F_field_first n ([I t32, I t33])).bind fun t34 =>
    if t34 = 0 then
    some ((((t14.take (Int.toNat (((t14).length : Int) - 1))).drop (Int.toNat 0)) ++ (((t17.take (Int.toNat (((t17).length : Int) - 1))).drop (Int.toNat 0)) : List D)), 0)
    else
    some ([], t34)
    else none
    else none
    else none
    else none
   else
   if roomP 16 (0 + (((t14.take (Int.toNat (((t14).length : Int) - 1))).drop (Int.toNat 0)) : List D).length) then
   if isNilL ((t14.take (Int.toNat (((t14).length : Int) - 1))).drop (Int.toNat 0)) = true then
    if roomP 16 (0 + (((t17.take (Int.toNat (((t17).length : Int) - 1))).drop (Int.toNat 0)) : List D).length) then
    if isNilL ((t17.take (Int.toNat (((t17).length : Int) - 1))).drop (Int.toNat 0)) = true then
    (F_field_when_3 n).bind fun t32 =>
    (F_field_when_4 n).bind fun t33 =>
    (F_field_first n ([I t32, I t33])).bind fun t34 =>
    if t34 = 0 then
     some ([], 0)
    else
    some ([], t34)
    else
    (F_field_when n (decide (((((t17.take (Int.toNat (((t17).length : Int) - 1))).drop (Int.toNat 0)) : List D).length : Int) < 3)) 17).bind fun t32 =>
    (F_field_when n (decide (((((t17.take (Int.toNat (((t17).length : Int) - 1))).drop (Int.toNat 0)) : List D).length : Int) > 16)) 5).bind fun t33 =>
    (F_field_first n ([I t32, I t33])).bind fun t34 =>
    if t34 = 0 then
    some (((t17.take (Int.toNat (((t17).length : Int) - 1))).drop (Int.toNat 0)), 0)
    else
    some ([], t34)
    else none
   else
   if roomP 16 ((((t14.take (Int.toNat (((t14).length : Int) - 1))).drop (Int.toNat 0)) : List D).length + (((t17.take (Int.toNat (((t17).length : Int) - 1))).drop (Int.toNat 0)) : List D).length) then
   (F_field_when n (decide ((((((t14.take (Int.toNat (((t14).length : Int) - 1))).drop (Int.toNat 0)) ++ (((t17.take (Int.toNat (((t17).length : Int) - 1))).drop (Int.toNat 0)) : List D)) : List D).length : Int) < 3)) 17).bind fun t31 =>
   (F_field_when n (decide ((((((t14.take (Int.toNat (((t14).length : Int) - 1))).drop (Int.toNat 0)) ++ (((t17.take (Int.toNat (((t17).length : Int) - 1))).drop (Int.toNat 0)) : List D)) : List D).length : Int) > 16)) 5).bind fun t32 =>
   (F_field_first n ([I t31, I t32])).bind fun t33 =>
   if t33 = 0 then
    some ((((t14.take (Int.toNat (((t14).length : Int) - 1))).drop (Int.toNat 0)) ++ (((t17.take (Int.toNat (((t17).length : Int) - 1))).drop (Int.toNat 0)) : List D)), 0)
   else
   some ([], t33)
   else none
   else none
   else none
   else none
   else none
   else none
   else none
   else none
   else none
   else none)
   | (.inr t13) => (
   (loopF (F_field_Hull_L24 n t11) n (0, [])).bind fun t14 =>
   if inI64 (((t11).length : Int) - 1) then
   (loopF (F_field_Hull_L25 n t14) n (0, (((t11).length : Int) - 1), t11)).bind fun t16 =>
   (loopF (F_field_Hull_L28 n t14 t16) n (0, [])).bind fun t17 =>
   if inI64 (((t14).length : Int) - 1) then
   if (0 : Int) ≤ 0 ∧ 0 ≤ (((t14).length : Int) - 1) ∧ (((t14).length : Int) - 1) ≤ ((t14).length : Int) ∧ (t14 = [] ∨ 2 = 2) then
   if inI64 (((t17).length : Int) - 1) then
   if (0 : Int) ≤ 0 ∧ 0 ≤ (((t17).length : Int) - 1) ∧ (((t17).length : Int) - 1) ≤ ((t17).length : Int) ∧ (t17 = [] ∨ 2 = 2) then
   if inI64 (0 + ((((t14.take (Int.toNat (((t14).length : Int) - 1))).drop (Int.toNat 0)) : List D).length : Int)) then
   if (0 + ((((t14.take (Int.toNat (((t14).length : Int) - 1))).drop (Int.toNat 0)) : List D).length : Int)) < 0 then
    none /- operation makeInterface at slices.go:496 -/
   else
   if inI64 ((0 + ((((t14.take (Int.toNat (((t14).length : Int) - 1))).drop (Int.toNat 0)) : List D).length : Int)) + ((((t17.take (Int.toNat (((t17).length : Int) - 1))).drop (Int.toNat 0)) : List D).length : Int)) then
   if ((0 + ((((t14.take (Int.toNat (((t14).length : Int) - 1))).drop (Int.toNat 0)) : List D).length : Int)) + ((((t17.take (Int.toNat (((t17).length : Int) - 1))).drop (Int.toNat 0)) : List D).length : Int)) < 0 then
    none /- operation makeInterface at slices.go:496 -/
   else
   if inI64 (((0 + ((((t14.take (Int.toNat (((t14).length : Int) - 1))).drop (Int.toNat 0)) : List D).length : Int)) + ((((t17.take (Int.toNat (((t17).length : Int) - 1))).drop (Int.toNat 0)) : List D).length : Int)) - 0) then
   if (((0 + ((((t14.take (Int.toNat (((t14).length : Int) - 1))).drop (Int.toNat 0)) : List D).length : Int)) + ((((t17.take (Int.toNat (((t17).length : Int) - 1))).drop (Int.toNat 0)) : List D).length : Int)) - 0) > 0 then
    if 0 < (((0 + ((((t14.take (Int.toNat (((t14).length : Int) - 1))).drop (Int.toNat 0)) : List D).length : Int)) + ((((t17.take (Int.toNat (((t17).length : Int) - 1))).drop (Int.toNat 0)) : List D).length : Int)) - 0) ∧ roomP 16 (Int.toNat (((0 + ((((t14.take (Int.toNat (((t14).length : Int) - 1))).drop (Int.toNat 0)) : List D).length : Int)) + ((((t17.take (Int.toNat (((t17).length : Int) - 1))).drop (Int.toNat 0)) : List D).length : Int)) - 0)) then
    if (0 : Int) ≤ 0 ∧ 0 ≤ (((List.replicate (Int.toNat (((0 + ((((t14.take (Int.toNat (((t14).length : Int) - 1))).drop (Int.toNat 0)) : List D).length : Int)) + ((((t17.take (Int.toNat (((t17).length : Int) - 1))).drop (Int.toNat 0)) : List D).length : Int)) - 0)) (.agg [I 0, I 0] : D)) : List D).length : Int) then
    if roomP 16 (0 + (((t14.take (Int.toNat (((t14).length : Int) - 1))).drop (Int.toNat 0)) : List D).length) then
    if roomP 16 ((((t14.take (Int.toNat (((t14).length : Int) - 1))).drop (Int.toNat 0)) : List D).length + (((t17.take (Int.toNat (((t17).length : Int) - 1))).drop (Int.toNat 0)) : List D).length) then
    (F_field_when n (decide ((((((t14.take (Int.toNat (((t14).length : Int) - 1))).drop (Int.toNat 0)) ++ (((t17.take (Int.toNat (((t17).length : Int) - 1))).drop (Int.toNat 0)) : List D)) : List D).length : Int) < 3)) 17).bind fun t32 =>
    (F_field_when n (decide ((((((t14.take (Int.toNat (((t14).length : Int) - 1))).drop (Int.toNat 0)) ++ (((t17.take (Int.toNat (((t17).length : Int) - 1))).drop (Int.toNat 0)) : List D)) : List D).length : Int) > 16)) 5).bind fun t33 =>
    (F_field_first n ([I t32, I t33])).bind fun t34 =>
    if t34 = 0 then
    some ((((t14.take (Int.toNat (((t14).length : Int) - 1))).drop (Int.toNat 0)) ++ (((t17.take (Int.toNat (((t17).length : Int) - 1))).drop (Int.toNat 0)) : List D)), 0)
    else
    some ([], t34)
    else none
    else none
    else none
    else none
   else
   if roomP 16 (0 + (((t14.take (Int.toNat (((t14).length : Int) - 1))).drop (Int.toNat 0)) : List D).length) then
   if isNilL ((t14.take (Int.toNat (((t14).length : Int) - 1))).drop (Int.toNat 0)) = true then
    if roomP 16 (0 + (((t17.take (Int.toNat (((t17).length : Int) - 1))).drop (Int.toNat 0)) : List D).length) then
    if isNilL ((t17.take (Int.toNat (((t17).length : Int) - 1))).drop (Int.toNat 0)) = true then
    (F_field_when_3 n).bind fun t32 =>
    (F_field_when_4 n).bind fun t33 =>
    (F_field_first n ([I t32, I t33])).bind fun t34 =>
    if t34 = 0 then
     some ([], 0)
    else
    some ([], t34)
    else
    (F_field_when n (decide (((((t17.take (Int.toNat (((t17).length : Int) - 1))).drop (Int.toNat 0)) : List D).length : Int) < 3)) 17).bind fun t32 =>
    (F_field_when n (decide (((((t17.take (Int.toNat (((t17).length : Int) - 1))).drop (Int.toNat 0)) : List D).length : Int) > 16)) 5).bind fun t33 =>
    (F_field_first n ([I t32, I t33])).bind fun t34 =>
    if t34 = 0 then
    some (((t17.take (Int.toNat (((t17).length : Int) - 1))).drop (Int.toNat 0)), 0)
    else
    some ([], t34)
    else none
   else
   if roomP 16 ((((t14.take (Int.toNat (((t14).length : Int) - 1))).drop (Int.toNat 0)) : List D).length + (((t17.take (Int.toNat (((t17).length : Int) - 1))).drop (Int.toNat 0)) : List D).length) then
   (F_field_when n (decide ((((((t14.take (Int.toNat (((t14).length : Int) - 1))).drop (Int.toNat 0)) ++ (((t17.take (Int.toNat (((t17).length : Int) - 1))).drop (Int.toNat 0)) : List D)) : List D).length : Int) < 3)) 17).bind fun t31 =>
   (F_field_when n (decide ((((((t14.take (Int.toNat (((t14).length : Int) - 1))).drop (Int.toNat 0)) ++ (((t17.take (Int.toNat (((t17).length : Int) - 1))).drop (Int.toNat 0)) : List D)) : List D).length : Int) > 16)) 5).bind fun t32 =>
   (F_field_first n ([I t31, I t32])).bind fun t33 =>
   if t33 = 0 then
    some ((((t14.take (Int.toNat (((t14).length : Int) - 1))).drop (Int.toNat 0)) ++ (((t17.take (Int.toNat (((t17).length : Int) - 1))).drop (Int.toNat 0)) : List D)), 0)
   else
   some ([], t33)
   else none
   else none
   else none
   else none
   else none
   else none
   else none
   else none
   else none
   else none)
  else none
  else
  some ([], t6)
 else
 some ([], t3)
theorem c_field_Hull {n : Nat} {a0 : List D} {r : List D × Int} (h : F_field_Hull n a0 = some r) : Computes cx 7 [.lst false 2 a0] (.tup [.lst false 2 r.1, I r.2]) := by
 unfold F_field_Hull at h
 obtain ⟨t1, h1, h⟩ := bo h; obtain ⟨t2, h2, h⟩ := bo h; obtain ⟨t3, h3, h⟩ := bo h
 by_cases h4 : t3 = 0
 ·replace h := it h h4
  obtain ⟨t5, h5, h⟩ := bo h; obtain ⟨t6, h6, h⟩ := bo h
  by_cases h7 : t6 = 0
  ·replace h := it h h7
   by_cases h8 : isNilL a0 = true
   ·replace h := it h h8
    cases h
   ·replace h := jf h h8
    obtain ⟨h9, h⟩ := gd h; obtain ⟨t10, h10, h⟩ := bo h; obtain ⟨t11, h11, h⟩ := bo h
    by_cases h12 : ((t11).length : Int) < 2
    ·replace h := it h h12
     obtain ⟨t13, h13, h⟩ := bo h; obtain ⟨h14, h⟩ := gd h; obtain ⟨t15, h15, h⟩ := bo h; obtain ⟨t16, h16, h⟩ := bo h; obtain ⟨h17, h⟩ := gd h; obtain ⟨h18, h⟩ := gd h; obtain ⟨h19, h⟩ := gd h; obtain ⟨h20, h⟩ := gd h; obtain ⟨h21, h⟩ := gd h
     by_cases h22 : (0 + ((((t13.take (Int.toNat (((t13).length : Int) - 1))).drop (Int.toNat 0)) : List D).length : Int)) < 0
     ·replace h := it h h22
      cases h
     ·replace h := jf h h22
      obtain ⟨h23, h⟩ := gd h
      by_cases h24 : ((0 + ((((t13.take (Int.toNat (((t13).length : Int) - 1))).drop (Int.toNat 0)) : List D).length : Int)) + ((((t16.take (Int.toNat (((t16).length : Int) - 1))).drop (Int.toNat 0)) : List D).length : Int)) < 0
      ·replace h := it h h24
       cases h
      ·replace h := jf h h24
       obtain ⟨h25, h⟩ := gd h
       by_cases h26 : (((0 + ((((t13.take (Int.toNat (((t13).length : Int) - 1))).drop (Int.toNat 0)) : List D).length : Int)) + ((((t16.take (Int.toNat (((t16).length : Int) - 1))).drop (Int.toNat 0)) : List D).length : Int)) - 0) > 0
       ·replace h := it h h26
        obtain ⟨h27, h⟩ := gd h; obtain ⟨h28, h⟩ := gd h; obtain ⟨h29, h⟩ := gd h; obtain ⟨h30, h⟩ := gd h; obtain ⟨t31, h31, h⟩ := bo h; obtain ⟨t32, h32, h⟩ := bo h; obtain ⟨t33, h33, h⟩ := bo h
        by_cases h34 : t33 = 0
        ·replace h := it h h34
         obtain rfl := oi h
         exact run (e_field_Hull_3 a0 t1 t2 t3 t5 t6 t10 t11 t13 t15 t16 t31 t32 t33) ⟨(nef h34), ((c_field_first h33).le (.cons (.full _ _ _) (.nil)) (.refl _)), (c_field_when h32), (c_field_when h31), (by unfold inI64; omega), (room_of (b := 16) (by kernel_rfl) (by decide) h30), (by unfold inI64; omega), (room_of (b := 16) (by kernel_rfl) (by decide) h29), h28, ⟨h27.1, (room_of (b := 16) (by kernel_rfl) (by decide) h27.2)⟩, (decide_eq_true h26), h25, (by unfold inI64; omega), (decide_eq_false h24), (by unfold inI64; omega), (decide_eq_false h24), h23, (by unfold inI64; omega), (decide_eq_false h22), h21, h20, h19, h18, h17, (loopF_to R_field_Hull_L11 h16), (loopF_to R_field_Hull_L8 h15), h14, (loopF_to R_field_Hull_L7 h13), (decide_eq_true h12), (loopF_to R_field_Hull_L4 h11), (c_math_bits_Len h10), (bfalse h8), (room_of (b := 16) (by kernel_rfl) (by decide) h9), (by intro e; rw [e] at h8; exact h8 rfl), (nef h7), (c_field_first h6), (c_field_mapped_g h5), (nef h4), ((c_field_first h3).le (.cons (.full _ _ _) (.nil)) (.refl _)), (c_field_when h2), (c_field_when h1), trivial⟩
        ·replace h := jf h h34
         obtain rfl := oi h
         exact (run (e_field_Hull_4 a0 t1 t2 t3 t5 t6 t10 t11 t13 t15 t16 t31 t32 t33) ⟨(net h34), ((c_field_first h33).le (.cons (.full _ _ _) (.nil)) (.refl _)), (c_field_when h32), (c_field_when h31), (by unfold inI64; omega), (room_of (b := 16) (by kernel_rfl) (by decide) h30), (by unfold inI64; omega), (room_of (b := 16) (by kernel_rfl) (by decide) h29), h28, ⟨h27.1, (room_of (b := 16) (by kernel_rfl) (by decide) h27.2)⟩, (decide_eq_true h26), h25, (by unfold inI64; omega), (decide_eq_false h24), (by unfold inI64; omega), (decide_eq_false h24), h23, (by unfold inI64; omega), (decide_eq_false h22), h21, h20, h19, h18, h17, (loopF_to R_field_Hull_L11 h16), (loopF_to R_field_Hull_L8 h15), h14, (loopF_to R_field_Hull_L7 h13), (decide_eq_true h12), (loopF_to R_field_Hull_L4 h11), (c_math_bits_Len h10), (bfalse h8), (room_of (b := 16) (by kernel_rfl) (by decide) h9), (by intro e; rw [e] at h8; exact h8 rfl), (nef h7), (c_field_first h6), (c_field_mapped_g h5), (nef h4), ((c_field_first h3).le (.cons (.full _ _ _) (.nil)) (.refl _)), (c_field_when h2), (c_field_when h1), trivial⟩).le (LEs.refl _) (.tups (.cons (.lst _ _ _ _ _ nofun (.inl rfl)) (.cons (.refl _) (.nil))))
       ·replace h := jf h h26
        obtain ⟨h27, h⟩ := gd h
        by_cases h28 : isNilL ((t13.take (Int.toNat (((t13).length : Int) - 1))).drop (Int.toNat 0)) = true
        ·replace h := it h h28
         obtain ⟨h29, h⟩ := gd h
         by_cases h30 : isNilL ((t16.take (Int.toNat (((t16).length : Int) - 1))).drop (Int.toNat 0)) = true
         ·replace h := it h h30
          obtain ⟨t31, h31, h⟩ := bo h; obtain ⟨t32, h32, h⟩ := bo h; obtain ⟨t33, h33, h⟩ := bo h
          by_cases h34 : t33 = 0
          ·replace h := it h h34
           obtain rfl := oi h
           exact (run (e_field_Hull_5 a0 t1 t2 t3 t5 t6 t10 t11 t13 t15 t16 t31 t32 t33) ⟨(nef h34), ((c_field_first h33).le (.cons (.full _ _ _) (.nil)) (.refl _)), (c_field_when_4 h32), (c_field_when_3 h31), (by unfold inI64; omega), h30, (room_of (b := 16) (by kernel_rfl) (by decide) h29), (by unfold inI64; omega), h28, (room_of (b := 16) (by kernel_rfl) (by decide) h27), (decide_eq_false h26), h25, (by unfold inI64; omega), (decide_eq_false h24), (by unfold inI64; omega), (decide_eq_false h24), h23, (by unfold inI64; omega), (decide_eq_false h22), h21, h20, h19, h18, h17, (loopF_to R_field_Hull_L11 h16), (loopF_to R_field_Hull_L8 h15), h14, (loopF_to R_field_Hull_L7 h13), (decide_eq_true h12), (loopF_to R_field_Hull_L4 h11), (c_math_bits_Len h10), (bfalse h8), (room_of (b := 16) (by kernel_rfl) (by decide) h9), (by intro e; rw [e] at h8; exact h8 rfl), (nef h7), (c_field_first h6), (c_field_mapped_g h5), (nef h4), ((c_field_first h3).le (.cons (.full _ _ _) (.nil)) (.refl _)), (c_field_when h2), (c_field_when h1), trivial⟩).le (LEs.refl _) (.tups (.cons (.full _ _ _) (.cons (.refl _) (.nil))))
          ·replace h := jf h h34
           obtain rfl := oi h
           exact (run (e_field_Hull_6 a0 t1 t2 t3 t5 t6 t10 t11 t13 t15 t16 t31 t32 t33) ⟨(net h34), ((c_field_first h33).le (.cons (.full _ _ _) (.nil)) (.refl _)), (c_field_when_4 h32), (c_field_when_3 h31), (by unfold inI64; omega), h30, (room_of (b := 16) (by kernel_rfl) (by decide) h29), (by unfold inI64; omega), h28, (room_of (b := 16) (by kernel_rfl) (by decide) h27), (decide_eq_false h26), h25, (by unfold inI64; omega), (decide_eq_false h24), (by unfold inI64; omega), (decide_eq_false h24), h23, (by unfold inI64; omega), (decide_eq_false h22), h21, h20, h19, h18, h17, (loopF_to R_field_Hull_L11 h16), (loopF_to R_field_Hull_L8 h15), h14, (loopF_to R_field_Hull_L7 h13), (decide_eq_true h12), (loopF_to R_field_Hull_L4 h11), (c_math_bits_Len h10), (bfalse h8), (room_of (b := 16) (by kernel_rfl) (by decide) h9), (by intro e; rw [e] at h8; exact h8 rfl), (nef h7), (c_field_first h6), (c_field_mapped_g h5), (nef h4), ((c_field_first h3).le (.cons (.full _ _ _) (.nil)) (.refl _)), (c_field_when h2), (c_field_when h1), trivial⟩).le (LEs.refl _) (.tups (.cons (.lst _ _ _ _ _ nofun (.inl rfl)) (.cons (.refl _) (.nil))))
         ·replace h := jf h h30
          obtain ⟨t31, h31, h⟩ := bo h; obtain ⟨t32, h32, h⟩ := bo h; obtain ⟨t33, h33, h⟩ := bo h
          by_cases h34 : t33 = 0
          ·replace h := it h h34
           obtain rfl := oi h
           exact run (e_field_Hull_7 a0 t1 t2 t3 t5 t6 t10 t11 t13 t15 t16 t31 t32 t33) ⟨(nef h34), ((c_field_first h33).le (.cons (.full _ _ _) (.nil)) (.refl _)), (c_field_when h32), (c_field_when h31), (by unfold inI64; omega), (bfalse h30), (room_of (b := 16) (by kernel_rfl) (by decide) h29), (by unfold inI64; omega), h28, (room_of (b := 16) (by kernel_rfl) (by decide) h27), (decide_eq_false h26), h25, (by unfold inI64; omega), (decide_eq_false h24), (by unfold inI64; omega), (decide_eq_false h24), h23, (by unfold inI64; omega), (decide_eq_false h22), h21, h20, h19, h18, h17, (loopF_to R_field_Hull_L11 h16), (loopF_to R_field_Hull_L8 h15), h14, (loopF_to R_field_Hull_L7 h13), (decide_eq_true h12), (loopF_to R_field_Hull_L4 h11), (c_math_bits_Len h10), (bfalse h8), (room_of (b := 16) (by kernel_rfl) (by decide) h9), (by intro e; rw [e] at h8; exact h8 rfl), (nef h7), (c_field_first h6), (c_field_mapped_g h5), (nef h4), ((c_field_first h3).le (.cons (.full _ _ _) (.nil)) (.refl _)), (c_field_when h2), (c_field_when h1), trivial⟩
          ·replace h := jf h h34
           obtain rfl := oi h
           exact (run (e_field_Hull_8 a0 t1 t2 t3 t5 t6 t10 t11 t13 t15 t16 t31 t32 t33) ⟨(net h34), ((c_field_first h33).le (.cons (.full _ _ _) (.nil)) (.refl _)), (c_field_when h32), (c_field_when h31), (by unfold inI64; omega), (bfalse h30), (room_of (b := 16) (by kernel_rfl) (by decide) h29), (by unfold inI64; omega), h28, (room_of (b := 16) (by kernel_rfl) (by decide) h27), (decide_eq_false h26), h25, (by unfold inI64; omega), (decide_eq_false h24), (by unfold inI64; omega), (decide_eq_false h24), h23, (by unfold inI64; omega), (decide_eq_false h22), h21, h20, h19, h18, h17, (loopF_to R_field_Hull_L11 h16), (loopF_to R_field_Hull_L8 h15), h14, (loopF_to R_field_Hull_L7 h13), (decide_eq_true h12), (loopF_to R_field_Hull_L4 h11), (c_math_bits_Len h10), (bfalse h8), (room_of (b := 16) (by kernel_rfl) (by decide) h9), (by intro e; rw [e] at h8; exact h8 rfl), (nef h7), (c_field_first h6), (c_field_mapped_g h5), (nef h4), ((c_field_first h3).le (.cons (.full _ _ _) (.nil)) (.refl _)), (c_field_when h2), (c_field_when h1), trivial⟩).le (LEs.refl _) (.tups (.cons (.lst _ _ _ _ _ nofun (.inl rfl)) (.cons (.refl _) (.nil))))
        ·replace h := jf h h28
         obtain ⟨h29, h⟩ := gd h; obtain ⟨t30, h30, h⟩ := bo h; obtain ⟨t31, h31, h⟩ := bo h; obtain ⟨t32, h32, h⟩ := bo h
         by_cases h33 : t32 = 0
         ·replace h := it h h33
          obtain rfl := oi h
          exact run (e_field_Hull_9 a0 t1 t2 t3 t5 t6 t10 t11 t13 t15 t16 t30 t31 t32) ⟨(nef h33), ((c_field_first h32).le (.cons (.full _ _ _) (.nil)) (.refl _)), (c_field_when h31), (c_field_when h30), (by unfold inI64; omega), (room_of (b := 16) (by kernel_rfl) (by decide) h29), (by unfold inI64; omega), (bfalse h28), (room_of (b := 16) (by kernel_rfl) (by decide) h27), (decide_eq_false h26), h25, (by unfold inI64; omega), (decide_eq_false h24), (by unfold inI64; omega), (decide_eq_false h24), h23, (by unfold inI64; omega), (decide_eq_false h22), h21, h20, h19, h18, h17, (loopF_to R_field_Hull_L11 h16), (loopF_to R_field_Hull_L8 h15), h14, (loopF_to R_field_Hull_L7 h13), (decide_eq_true h12), (loopF_to R_field_Hull_L4 h11), (c_math_bits_Len h10), (bfalse h8), (room_of (b := 16) (by kernel_rfl) (by decide) h9), (by intro e; rw [e] at h8; exact h8 rfl), (nef h7), (c_field_first h6), (c_field_mapped_g h5), (nef h4), ((c_field_first h3).le (.cons (.full _ _ _) (.nil)) (.refl _)), (c_field_when h2), (c_field_when h1), trivial⟩
         ·replace h := jf h h33
          obtain rfl := oi h
          exact (run (e_field_Hull_10 a0 t1 t2 t3 t5 t6 t10 t11 t13 t15 t16 t30 t31 t32) ⟨(net h33), ((c_field_first h32).le (.cons (.full _ _ _) (.nil)) (.refl _)), (c_field_when h31), (c_field_when h30), (by unfold inI64; omega), (room_of (b := 16) (by kernel_rfl) (by decide) h29), (by unfold inI64; omega), (bfalse h28), (room_of (b := 16) (by kernel_rfl) (by decide) h27), (decide_eq_false h26), h25, (by unfold inI64; omega), (decide_eq_false h24), (by unfold inI64; omega), (decide_eq_false h24), h23, (by unfold inI64; omega), (decide_eq_false h22), h21, h20, h19, h18, h17, (loopF_to R_field_Hull_L11 h16), (loopF_to R_field_Hull_L8 h15), h14, (loopF_to R_field_Hull_L7 h13), (decide_eq_true h12), (loopF_to R_field_Hull_L4 h11), (c_math_bits_Len h10), (bfalse h8), (room_of (b := 16) (by kernel_rfl) (by decide) h9), (by intro e; rw [e] at h8; exact h8 rfl), (nef h7), (c_field_first h6), (c_field_mapped_g h5), (nef h4), ((c_field_first h3).le (.cons (.full _ _ _) (.nil)) (.refl _)), (c_field_when h2), (c_field_when h1), trivial⟩).le (LEs.refl _) (.tups (.cons (.lst _ _ _ _ _ nofun (.inl rfl)) (.cons (.refl _) (.nil))))
    ·replace h := jf h h12
     obtain ⟨t13, h13, h⟩ := bo h
     rcases t13 with t13 | t13
     ·obtain ⟨t14, h14, h⟩ := bo h; obtain ⟨h15, h⟩ := gd h; obtain ⟨t16, h16, h⟩ := bo h; obtain ⟨t17, h17, h⟩ := bo h; obtain ⟨h18, h⟩ := gd h; obtain ⟨h19, h⟩ := gd h; obtain ⟨h20, h⟩ := gd h; obtain ⟨h21, h⟩ := gd h; obtain ⟨h22, h⟩ := gd h
      by_cases h23 : (0 + ((((t14.take (Int.toNat (((t14).length : Int) - 1))).drop (Int.toNat 0)) : List D).length : Int)) < 0
      ·replace h := it h h23
       cases h
      ·replace h := jf h h23
       obtain ⟨h24, h⟩ := gd h
       by_cases h25 : ((0 + ((((t14.take (Int.toNat (((t14).length : Int) - 1))).drop (Int.toNat 0)) : List D).length : Int)) + ((((t17.take (Int.toNat (((t17).length : Int) - 1))).drop (Int.toNat 0)) : List D).length : Int)) < 0
       ·replace h := it h h25
        cases h
       ·replace h := jf h h25
        obtain ⟨h26, h⟩ := gd h
        by_cases h27 : (((0 + ((((t14.take (Int.toNat (((t14).length : Int) - 1))).drop (Int.toNat 0)) : List D).length : Int)) + ((((t17.take (Int.toNat (((t17).length : Int) - 1))).drop (Int.toNat 0)) : List D).length : Int)) - 0) > 0
        ·replace h := it h h27
         obtain ⟨h28, h⟩ := gd h; obtain ⟨h29, h⟩ := gd h; obtain ⟨h30, h⟩ := gd h; obtain ⟨h31, h⟩ := gd h; obtain ⟨t32, h32, h⟩ := bo h; obtain ⟨t33, h33, h⟩ := bo h; obtain ⟨t34, h34, h⟩ := bo h
         by_cases h35 : t34 = 0
         ·replace h := it h h35
          obtain rfl := oi h
          exact run (e_field_Hull_13 a0 t1 t2 t3 t5 t6 t10 t11 t13 t14 t16 t17 t32 t33 t34) ⟨(nef h35), ((c_field_first h34).le (.cons (.full _ _ _) (.nil)) (.refl _)), (c_field_when h33), (c_field_when h32), (by unfold inI64; omega), (room_of (b := 16) (by kernel_rfl) (by decide) h31), (by unfold inI64; omega), (room_of (b := 16) (by kernel_rfl) (by decide) h30), h29, ⟨h28.1, (room_of (b := 16) (by kernel_rfl) (by decide) h28.2)⟩, (decide_eq_true h27), h26, (by unfold inI64; omega), (decide_eq_false h25), (by unfold inI64; omega), (decide_eq_false h25), h24, (by unfold inI64; omega), (decide_eq_false h23), h22, h21, h20, h19, h18, (loopF_to R_field_Hull_L21 h17), (loopF_to R_field_Hull_L18 h16), h15, (loopF_to R_field_Hull_L17 h14), (loopF_to R_field_Hull_L14 h13), (decide_eq_false h12), (loopF_to R_field_Hull_L4 h11), (c_math_bits_Len h10), (bfalse h8), (room_of (b := 16) (by kernel_rfl) (by decide) h9), (by intro e; rw [e] at h8; exact h8 rfl), (nef h7), (c_field_first h6), (c_field_mapped_g h5), (nef h4), ((c_field_first h3).le (.cons (.full _ _ _) (.nil)) (.refl _)), (c_field_when h2), (c_field_when h1), trivial⟩
         ·replace h := jf h h35
          obtain rfl := oi h
          exact (run (e_field_Hull_14 a0 t1 t2 t3 t5 t6 t10 t11 t13 t14 t16 t17 t32 t33 t34) ⟨(net h35), ((c_field_first h34).le (.cons (.full _ _ _) (.nil)) (.refl _)), (c_field_when h33), (c_field_when h32), (by unfold inI64; omega), (room_of (b := 16) (by kernel_rfl) (by decide) h31), (by unfold inI64; omega), (room_of (b := 16) (by kernel_rfl) (by decide) h30), h29, ⟨h28.1, (room_of (b := 16) (by kernel_rfl) (by decide) h28.2)⟩, (decide_eq_true h27), h26, (by unfold inI64; omega), (decide_eq_false h25), (by unfold inI64; omega), (decide_eq_false h25), h24, (by unfold inI64; omega), (decide_eq_false h23), h22, h21, h20, h19, h18, (loopF_to R_field_Hull_L21 h17), (loopF_to R_field_Hull_L18 h16), h15, (loopF_to R_field_Hull_L17 h14), (loopF_to R_field_Hull_L14 h13), (decide_eq_false h12), (loopF_to R_field_Hull_L4 h11), (c_math_bits_Len h10), (bfalse h8), (room_of (b := 16) (by kernel_rfl) (by decide) h9), (by intro e; rw [e] at h8; exact h8 rfl), (nef h7), (c_field_first h6), (c_field_mapped_g h5), (nef h4), ((c_field_first h3).le (.cons (.full _ _ _) (.nil)) (.refl _)), (c_field_when h2), (c_field_when h1), trivial⟩).le (LEs.refl _) (.tups (.cons (.lst _ _ _ _ _ nofun (.inl rfl)) (.cons (.refl _) (.nil))))
        ·replace h := jf h h27
         obtain ⟨h28, h⟩ := gd h
         by_cases h29 : isNilL ((t14.take (Int.toNat (((t14).length : Int) - 1))).drop (Int.toNat 0)) = true
         ·replace h := it h h29
          obtain ⟨h30, h⟩ := gd h
          by_cases h31 : isNilL ((t17.take (Int.toNat (((t17).length : Int) - 1))).drop (Int.toNat 0)) = true
          ·replace h := it h h31
           obtain ⟨t32, h32, h⟩ := bo h; obtain ⟨t33, h33, h⟩ := bo h; obtain ⟨t34, h34, h⟩ := bo h
           by_cases h35 : t34 = 0
           ·replace h := it h h35
            obtain rfl := oi h
            exact (run (e_field_Hull_15 a0 t1 t2 t3 t5 t6 t10 t11 t13 t14 t16 t17 t32 t33 t34) ⟨(nef h35), ((c_field_first h34).le (.cons (.full _ _ _) (.nil)) (.refl _)), (c_field_when_4 h33), (c_field_when_3 h32), (by unfold inI64; omega), h31, (room_of (b := 16) (by kernel_rfl) (by decide) h30), (by unfold inI64; omega), h29, (room_of (b := 16) (by kernel_rfl) (by decide) h28), (decide_eq_false h27), h26, (by unfold inI64; omega), (decide_eq_false h25), (by unfold inI64; omega), (decide_eq_false h25), h24, (by unfold inI64; omega), (decide_eq_false h23), h22, h21, h20, h19, h18, (loopF_to R_field_Hull_L21 h17), (loopF_to R_field_Hull_L18 h16), h15, (loopF_to R_field_Hull_L17 h14), (loopF_to R_field_Hull_L14 h13), (decide_eq_false h12), (loopF_to R_field_Hull_L4 h11), (c_math_bits_Len h10), (bfalse h8), (room_of (b := 16) (by kernel_rfl) (by decide) h9), (by intro e; rw [e] at h8; exact h8 rfl), (nef h7), (c_field_first h6), (c_field_mapped_g h5), (nef h4), ((c_field_first h3).le (.cons (.full _ _ _) (.nil)) (.refl _)), (c_field_when h2), (c_field_when h1), trivial⟩).le (LEs.refl _) (.tups (.cons (.full _ _ _) (.cons (.refl _) (.nil))))
           ·replace h := jf h h35
            obtain rfl := oi h
            exact (run (e_field_Hull_16 a0 t1 t2 t3 t5 t6 t10 t11 t13 t14 t16 t17 t32 t33 t34) ⟨(net h35), ((c_field_first h34).le (.cons (.full _ _ _) (.nil)) (.refl _)), (c_field_when_4 h33), (c_field_when_3 h32), (by unfold inI64; omega), h31, (room_of (b := 16) (by kernel_rfl) (by decide) h30), (by unfold inI64; omega), h29, (room_of (b := 16) (by kernel_rfl) (by decide) h28), (decide_eq_false h27), h26, (by unfold inI64; omega), (decide_eq_false h25), (by unfold inI64; omega), (decide_eq_false h25), h24, (by unfold inI64; omega), (decide_eq_false h23), h22, h21, h20, h19, h18, (loopF_to R_field_Hull_L21 h17), (loopF_to R_field_Hull_L18 h16), h15, (loopF_to R_field_Hull_L17 h14), (loopF_to R_field_Hull_L14 h13), (decide_eq_false h12), (loopF_to R_field_Hull_L4 h11), (c_math_bits_Len h10), (bfalse h8), (room_of (b := 16) (by kernel_rfl) (by decide) h9), (by intro e; rw [e] at h8; exact h8 rfl), (nef h7), (c_field_first h6), (c_field_mapped_g h5), (nef h4), ((c_field_first h3).le (.cons (.full _ _ _) (.nil)) (.refl _)), (c_field_when h2), (c_field_when h1), trivial⟩).le (LEs.refl _) (.tups (.cons (.lst _ _ _ _ _ nofun (.inl rfl)) (.cons (.refl _) (.nil))))
          ·replace h := jf h h31
           obtain ⟨t32, h32, h⟩ := bo h; obtain ⟨t33, h33, h⟩ := bo h; obtain ⟨t34, h34, h⟩ := bo h
           by_cases h35 : t34 = 0
           ·replace h := it h h35
            obtain rfl := oi h
            exact run (e_field_Hull_17 a0 t1 t2 t3 t5 t6 t10 t11 t13 t14 t16 t17 t32 t33 t34) ⟨(nef h35), ((c_field_first h34).le (.cons (.full _ _ _) (.nil)) (.refl _)), (c_field_when h33), (c_field_when h32), (by unfold inI64; omega), (bfalse h31), (room_of (b := 16) (by kernel_rfl) (by decide) h30), (by unfold inI64; omega), h29, (room_of (b := 16) (by kernel_rfl) (by decide) h28), (decide_eq_false h27), h26, (by unfold inI64; omega), (decide_eq_false h25), (by unfold inI64; omega), (decide_eq_false h25), h24, (by unfold inI64; omega), (decide_eq_false h23), h22, h21, h20, h19, h18, (loopF_to R_field_Hull_L21 h17), (loopF_to R_field_Hull_L18 h16), h15, (loopF_to R_field_Hull_L17 h14), (loopF_to R_field_Hull_L14 h13), (decide_eq_false h12), (loopF_to R_field_Hull_L4 h11), (c_math_bits_Len h10), (bfalse h8), (room_of (b := 16) (by kernel_rfl) (by decide) h9), (by intro e; rw [e] at h8; exact h8 rfl), (nef h7), (c_field_first h6), (c_field_mapped_g h5), (nef h4), ((c_field_first h3).le (.cons (.full _ _ _) (.nil)) (.refl _)), (c_field_when h2), (c_field_when h1), trivial⟩
           ·replace h := jf h h35
            obtain rfl := oi h
            exact (run (e_field_Hull_18 a0 t1 t2 t3 t5 t6 t10 t11 t13 t14 t16 t17 t32 t33 t34) ⟨(net h35), ((c_field_first h34).le (.cons (.full _ _ _) (.nil)) (.refl _)), (c_field_when h33), (c_field_when h32), (by unfold inI64; omega), (bfalse h31), (room_of (b := 16) (by kernel_rfl) (by decide) h30), (by unfold inI64; omega), h29, (room_of (b := 16) (by kernel_rfl) (by decide) h28), (decide_eq_false h27), h26, (by unfold inI64; omega), (decide_eq_false h25), (by unfold inI64; omega), (decide_eq_false h25), h24, (by unfold inI64; omega), (decide_eq_false h23), h22, h21, h20, h19, h18, (loopF_to R_field_Hull_L21 h17), (loopF_to R_field_Hull_L18 h16), h15, (loopF_to R_field_Hull_L17 h14), (loopF_to R_field_Hull_L14 h13), (decide_eq_false h12), (loopF_to R_field_Hull_L4 h11), (c_math_bits_Len h10), (bfalse h8), (room_of (b := 16) (by kernel_rfl) (by decide) h9), (by intro e; rw [e] at h8; exact h8 rfl), (nef h7), (c_field_first h6), (c_field_mapped_g h5), (nef h4), ((c_field_first h3).le (.cons (.full _ _ _) (.nil)) (.refl _)), (c_field_when h2), (c_field_when h1), trivial⟩).le (LEs.refl _) (.tups (.cons (.lst _ _ _ _ _ nofun (.inl rfl)) (.cons (.refl _) (.nil))))
         ·replace h := jf h h29
          obtain ⟨h30, h⟩ := gd h; obtain ⟨t31, h31, h⟩ := bo h; obtain ⟨t32, h32, h⟩ := bo h; obtain ⟨t33, h33, h⟩ := bo h
          by_cases h34 : t33 = 0
          ·replace h := it h h34
           obtain rfl := oi h
           exact run (e_field_Hull_19 a0 t1 t2 t3 t5 t6 t10 t11 t13 t14 t16 t17 t31 t32 t33) ⟨(nef h34), ((c_field_first h33).le (.cons (.full _ _ _) (.nil)) (.refl _)), (c_field_when h32), (c_field_when h31), (by unfold inI64; omega), (room_of (b := 16) (by kernel_rfl) (by decide) h30), (by unfold inI64; omega), (bfalse h29), (room_of (b := 16) (by kernel_rfl) (by decide) h28), (decide_eq_false h27), h26, (by unfold inI64; omega), (decide_eq_false h25), (by unfold inI64; omega), (decide_eq_false h25), h24, (by unfold inI64; omega), (decide_eq_false h23), h22, h21, h20, h19, h18, (loopF_to R_field_Hull_L21 h17), (loopF_to R_field_Hull_L18 h16), h15, (loopF_to R_field_Hull_L17 h14), (loopF_to R_field_Hull_L14 h13), (decide_eq_false h12), (loopF_to R_field_Hull_L4 h11), (c_math_bits_Len h10), (bfalse h8), (room_of (b := 16) (by kernel_rfl) (by decide) h9), (by intro e; rw [e] at h8; exact h8 rfl), (nef h7), (c_field_first h6), (c_field_mapped_g h5), (nef h4), ((c_field_first h3).le (.cons (.full _ _ _) (.nil)) (.refl _)), (c_field_when h2), (c_field_when h1), trivial⟩
          ·replace h := jf h h34
           obtain rfl := oi h
           exact (run (e_field_Hull_20 a0 t1 t2 t3 t5 t6 t10 t11 t13 t14 t16 t17 t31 t32 t33) ⟨(net h34), ((c_field_first h33).le (.cons (.full _ _ _) (.nil)) (.refl _)), (c_field_when h32), (c_field_when h31), (by unfold inI64; omega), (room_of (b := 16) (by kernel_rfl) (by decide) h30), (by unfold inI64; omega), (bfalse h29), (room_of (b := 16) (by kernel_rfl) (by decide) h28), (decide_eq_false h27), h26, (by unfold inI64; omega), (decide_eq_false h25), (by unfold inI64; omega), (decide_eq_false h25), h24, (by unfold inI64; omega), (decide_eq_false h23), h22, h21, h20, h19, h18, (loopF_to R_field_Hull_L21 h17), (loopF_to R_field_Hull_L18 h16), h15, (loopF_to R_field_Hull_L17 h14), (loopF_to R_field_Hull_L14 h13), (decide_eq_false h12), (loopF_to R_field_Hull_L4 h11), (c_math_bits_Len h10), (bfalse h8), (room_of (b := 16) (by kernel_rfl) (by decide) h9), (by intro e; rw [e] at h8; exact h8 rfl), (nef h7), (c_field_first h6), (c_field_mapped_g h5), (nef h4), ((c_field_first h3).le (.cons (.full _ _ _) (.nil)) (.refl _)), (c_field_when h2), (c_field_when h1), trivial⟩).le (LEs.refl _) (.tups (.cons (.lst _ _ _ _ _ nofun (.inl rfl)) (.cons (.refl _) (.nil))))
     ·obtain ⟨t14, h14, h⟩ := bo h; obtain ⟨h15, h⟩ := gd h; obtain ⟨t16, h16, h⟩ := bo h; obtain ⟨t17, h17, h⟩ := bo h; obtain ⟨h18, h⟩ := gd h; obtain ⟨h19, h⟩ := gd h; obtain ⟨h20, h⟩ := gd h; obtain ⟨h21, h⟩ := gd h; obtain ⟨h22, h⟩ := gd h
      by_cases h23 : (0 + ((((t14.take (Int.toNat (((t14).length : Int) - 1))).drop (Int.toNat 0)) : List D).length : Int)) < 0
      ·replace h := it h h23
       cases h
      ·replace h := jf h h23
       obtain ⟨h24, h⟩ := gd h
       by_cases h25 : ((0 + ((((t14.take (Int.toNat (((t14).length : Int) - 1))).drop (Int.toNat 0)) : List D).length : Int)) + ((((t17.take (Int.toNat (((t17).length : Int) - 1))).drop (Int.toNat 0)) : List D).length : Int)) < 0
       ·replace h := it h h25
        cases h
       ·replace h := jf h h25
        obtain ⟨h26, h⟩ := gd h
        by_cases h27 : (((0 + ((((t14.take (Int.toNat (((t14).length : Int) - 1))).drop (Int.toNat 0)) : List D).length : Int)) + ((((t17.take (Int.toNat (((t17).length : Int) - 1))).drop (Int.toNat 0)) : List D).length : Int)) - 0) > 0
        ·replace h := it h h27
         obtain ⟨h28, h⟩ := gd h; obtain ⟨h29, h⟩ := gd h; obtain ⟨h30, h⟩ := gd h; obtain ⟨h31, h⟩ := gd h; obtain ⟨t32, h32, h⟩ := bo h; obtain ⟨t33, h33, h⟩ := bo h; obtain ⟨t34, h34, h⟩ := bo h
         by_cases h35 : t34 = 0
         ·replace h := it h h35
          obtain rfl := oi h
          exact run (e_field_Hull_23 a0 t1 t2 t3 t5 t6 t10 t11 t14 t16 t17 t32 t33 t34) ⟨(nef h35), ((c_field_first h34).le (.cons (.full _ _ _) (.nil)) (.refl _)), (c_field_when h33), (c_field_when h32), (by unfold inI64; omega), (room_of (b := 16) (by kernel_rfl) (by decide) h31), (by unfold inI64; omega), (room_of (b := 16) (by kernel_rfl) (by decide) h30), h29, ⟨h28.1, (room_of (b := 16) (by kernel_rfl) (by decide) h28.2)⟩, (decide_eq_true h27), h26, (by unfold inI64; omega), (decide_eq_false h25), (by unfold inI64; omega), (decide_eq_false h25), h24, (by unfold inI64; omega), (decide_eq_false h23), h22, h21, h20, h19, h18, (loopF_to R_field_Hull_L28 h17), (loopF_to R_field_Hull_L25 h16), h15, (loopF_to R_field_Hull_L24 h14), (loopF_to R_field_Hull_L14 h13), (decide_eq_false h12), (loopF_to R_field_Hull_L4 h11), (c_math_bits_Len h10), (bfalse h8), (room_of (b := 16) (by kernel_rfl) (by decide) h9), (by intro e; rw [e] at h8; exact h8 rfl), (nef h7), (c_field_first h6), (c_field_mapped_g h5), (nef h4), ((c_field_first h3).le (.cons (.full _ _ _) (.nil)) (.refl _)), (c_field_when h2), (c_field_when h1), trivial⟩
         ·replace h := jf h h35
          obtain rfl := oi h
          exact (run (e_field_Hull_24 a0 t1 t2 t3 t5 t6 t10 t11 t14 t16 t17 t32 t33 t34) ⟨(net h35), ((c_field_first h34).le (.cons (.full _ _ _) (.nil)) (.refl _)), (c_field_when h33), (c_field_when h32), (by unfold inI64; omega), (room_of (b := 16) (by kernel_rfl) (by decide) h31), (by unfold inI64; omega), (room_of (b := 16) (by kernel_rfl) (by decide) h30), h29, ⟨h28.1, (room_of (b := 16) (by kernel_rfl) (by decide) h28.2)⟩, (decide_eq_true h27), h26, (by unfold inI64; omega), (decide_eq_false h25), (by unfold inI64; omega), (decide_eq_false h25), h24, (by unfold inI64; omega), (decide_eq_false h23), h22, h21, h20, h19, h18, (loopF_to R_field_Hull_L28 h17), (loopF_to R_field_Hull_L25 h16), h15, (loopF_to R_field_Hull_L24 h14), (loopF_to R_field_Hull_L14 h13), (decide_eq_false h12), (loopF_to R_field_Hull_L4 h11), (c_math_bits_Len h10), (bfalse h8), (room_of (b := 16) (by kernel_rfl) (by decide) h9), (by intro e; rw [e] at h8; exact h8 rfl), (nef h7), (c_field_first h6), (c_field_mapped_g h5), (nef h4), ((c_field_first h3).le (.cons (.full _ _ _) (.nil)) (.refl _)), (c_field_when h2), (c_field_when h1), trivial⟩).le (LEs.refl _) (.tups (.cons (.lst _ _ _ _ _ nofun (.inl rfl)) (.cons (.refl _) (.nil))))
        ·replace h := jf h h27
         obtain ⟨h28, h⟩ := gd h
         by_cases h29 : isNilL ((t14.take (Int.toNat (((t14).length : Int) - 1))).drop (Int.toNat 0)) = true
         ·replace h := it h h29
          obtain ⟨h30, h⟩ := gd h
          by_cases h31 : isNilL ((t17.take (Int.toNat (((t17).length : Int) - 1))).drop (Int.toNat 0)) = true
          ·replace h := it h h31
           obtain ⟨t32, h32, h⟩ := bo h; obtain ⟨t33, h33, h⟩ := bo h; obtain ⟨t34, h34, h⟩ := bo h
           by_cases h35 : t34 = 0
           ·replace h := it h h35
            obtain rfl := oi h
            exact (run (e_field_Hull_25 a0 t1 t2 t3 t5 t6 t10 t11 t14 t16 t17 t32 t33 t34) ⟨(nef h35), ((c_field_first h34).le (.cons (.full _ _ _) (.nil)) (.refl _)), (c_field_when_4 h33), (c_field_when_3 h32), (by unfold inI64; omega), h31, (room_of (b := 16) (by kernel_rfl) (by decide) h30), (by unfold inI64; omega), h29, (room_of (b := 16) (by kernel_rfl) (by decide) h28), (decide_eq_false h27), h26, (by unfold inI64; omega), (decide_eq_false h25), (by unfold inI64; omega), (decide_eq_false h25), h24, (by unfold inI64; omega), (decide_eq_false h23), h22, h21, h20, h19, h18, (loopF_to R_field_Hull_L28 h17), (loopF_to R_field_Hull_L25 h16), h15, (loopF_to R_field_Hull_L24 h14), (loopF_to R_field_Hull_L14 h13), (decide_eq_false h12), (loopF_to R_field_Hull_L4 h11), (c_math_bits_Len h10), (bfalse h8), (room_of (b := 16) (by kernel_rfl) (by decide) h9), (by intro e; rw [e] at h8; exact h8 rfl), (nef h7), (c_field_first h6), (c_field_mapped_g h5), (nef h4), ((c_field_first h3).le (.cons (.full _ _ _) (.nil)) (.refl _)), (c_field_when h2), (c_field_when h1), trivial⟩).le (LEs.refl _) (.tups (.cons (.full _ _ _) (.cons (.refl _) (.nil))))
           ·replace h := jf h h35
            obtain rfl := oi h
            exact (run (e_field_Hull_26 a0 t1 t2 t3 t5 t6 t10 t11 t14 t16 t17 t32 t33 t34) ⟨(net h35), ((c_field_first h34).le (.cons (.full _ _ _) (.nil)) (.refl _)), (c_field_when_4 h33), (c_field_when_3 h32), (by unfold inI64; omega), h31, (room_of (b := 16) (by kernel_rfl) (by decide) h30), (by unfold inI64; omega), h29, (room_of (b := 16) (by kernel_rfl) (by decide) h28), (decide_eq_false h27), h26, (by unfold inI64; omega), (decide_eq_false h25), (by unfold inI64; omega), (decide_eq_false h25), h24, (by unfold inI64; omega), (decide_eq_false h23), h22, h21, h20, h19, h18, (loopF_to R_field_Hull_L28 h17), (loopF_to R_field_Hull_L25 h16), h15, (loopF_to R_field_Hull_L24 h14), (loopF_to R_field_Hull_L14 h13), (decide_eq_false h12), (loopF_to R_field_Hull_L4 h11), (c_math_bits_Len h10), (bfalse h8), (room_of (b := 16) (by kernel_rfl) (by decide) h9), (by intro e; rw [e] at h8; exact h8 rfl), (nef h7), (c_field_first h6), (c_field_mapped_g h5), (nef h4), ((c_field_first h3).le (.cons (.full _ _ _) (.nil)) (.refl _)), (c_field_when h2), (c_field_when h1), trivial⟩).le (LEs.refl _) (.tups (.cons (.lst _ _ _ _ _ nofun (.inl rfl)) (.cons (.refl _) (.nil))))
          ·replace h := jf h h31
           obtain ⟨t32, h32, h⟩ := bo h; obtain ⟨t33, h33, h⟩ := bo h; obtain ⟨t34, h34, h⟩ := bo h
           by_cases h35 : t34 = 0
           ·replace h := it h h35
            obtain rfl := oi h
            exact run (e_field_Hull_27 a0 t1 t2 t3 t5 t6 t10 t11 t14 t16 t17 t32 t33 t34) ⟨(nef h35), ((c_field_first h34).le (.cons (.full _ _ _) (.nil)) (.refl _)), (c_field_when h33), (c_field_when h32), (by unfold inI64; omega), (bfalse h31), (room_of (b := 16) (by kernel_rfl) (by decide) h30), (by unfold inI64; omega), h29, (room_of (b := 16) (by kernel_rfl) (by decide) h28), (decide_eq_false h27), h26, (by unfold inI64; omega), (decide_eq_false h25), (by unfold inI64; omega), (decide_eq_false h25), h24, (by unfold inI64; omega), (decide_eq_false h23), h22, h21, h20, h19, h18, (loopF_to R_field_Hull_L28 h17), (loopF_to R_field_Hull_L25 h16), h15, (loopF_to R_field_Hull_L24 h14), (loopF_to R_field_Hull_L14 h13), (decide_eq_false h12), (loopF_to R_field_Hull_L4 h11), (c_math_bits_Len h10), (bfalse h8), (room_of (b := 16) (by kernel_rfl) (by decide) h9), (by intro e; rw [e] at h8; exact h8 rfl), (nef h7), (c_field_first h6), (c_field_mapped_g h5), (nef h4), ((c_field_first h3).le (.cons (.full _ _ _) (.nil)) (.refl _)), (c_field_when h2), (c_field_when h1), trivial⟩
           ·replace h := jf h h35
            obtain rfl := oi h
            exact (run (e_field_Hull_28 a0 t1 t2 t3 t5 t6 t10 t11 t14 t16 t17 t32 t33 t34) ⟨(net h35), ((c_field_first h34).le (.cons (.full _ _ _) (.nil)) (.refl _)), (c_field_when h33), (c_field_when h32), (by unfold inI64; omega), (bfalse h31), (room_of (b := 16) (by kernel_rfl) (by decide) h30), (by unfold inI64; omega), h29, (room_of (b := 16) (by kernel_rfl) (by decide) h28), (decide_eq_false h27), h26, (by unfold inI64; omega), (decide_eq_false h25), (by unfold inI64; omega), (decide_eq_false h25), h24, (by unfold inI64; omega), (decide_eq_false h23), h22, h21, h20, h19, h18, (loopF_to R_field_Hull_L28 h17), (loopF_to R_field_Hull_L25 h16), h15, (loopF_to R_field_Hull_L24 h14), (loopF_to R_field_Hull_L14 h13), (decide_eq_false h12), (loopF_to R_field_Hull_L4 h11), (c_math_bits_Len h10), (bfalse h8), (room_of (b := 16) (by kernel_rfl) (by decide) h9), (by intro e; rw [e] at h8; exact h8 rfl), (nef h7), (c_field_first h6), (c_field_mapped_g h5), (nef h4), ((c_field_first h3).le (.cons (.full _ _ _) (.nil)) (.refl _)), (c_field_when h2), (c_field_when h1), trivial⟩).le (LEs.refl _) (.tups (.cons (.lst _ _ _ _ _ nofun (.inl rfl)) (.cons (.refl _) (.nil))))
         ·replace h := jf h h29
          obtain ⟨h30, h⟩ := gd h; obtain ⟨t31, h31, h⟩ := bo h; obtain ⟨t32, h32, h⟩ := bo h; obtain ⟨t33, h33, h⟩ := bo h
          by_cases h34 : t33 = 0
          ·replace h := it h h34
           obtain rfl := oi h
           exact run (e_field_Hull_29 a0 t1 t2 t3 t5 t6 t10 t11 t14 t16 t17 t31 t32 t33) ⟨(nef h34), ((c_field_first h33).le (.cons (.full _ _ _) (.nil)) (.refl _)), (c_field_when h32), (c_field_when h31), (by unfold inI64; omega), (room_of (b := 16) (by kernel_rfl) (by decide) h30), (by unfold inI64; omega), (bfalse h29), (room_of (b := 16) (by kernel_rfl) (by decide) h28), (decide_eq_false h27), h26, (by unfold inI64; omega), (decide_eq_false h25), (by unfold inI64; omega), (decide_eq_false h25), h24, (by unfold inI64; omega), (decide_eq_false h23), h22, h21, h20, h19, h18, (loopF_to R_field_Hull_L28 h17), (loopF_to R_field_Hull_L25 h16), h15, (loopF_to R_field_Hull_L24 h14), (loopF_to R_field_Hull_L14 h13), (decide_eq_false h12), (loopF_to R_field_Hull_L4 h11), (c_math_bits_Len h10), (bfalse h8), (room_of (b := 16) (by kernel_rfl) (by decide) h9), (by intro e; rw [e] at h8; exact h8 rfl), (nef h7), (c_field_first h6), (c_field_mapped_g h5), (nef h4), ((c_field_first h3).le (.cons (.full _ _ _) (.nil)) (.refl _)), (c_field_when h2), (c_field_when h1), trivial⟩
          ·replace h := jf h h34
           obtain rfl := oi h
           exact (run (e_field_Hull_30 a0 t1 t2 t3 t5 t6 t10 t11 t14 t16 t17 t31 t32 t33) ⟨(net h34), ((c_field_first h33).le (.cons (.full _ _ _) (.nil)) (.refl _)), (c_field_when h32), (c_field_when h31), (by unfold inI64; omega), (room_of (b := 16) (by kernel_rfl) (by decide) h30), (by unfold inI64; omega), (bfalse h29), (room_of (b := 16) (by kernel_rfl) (by decide) h28), (decide_eq_false h27), h26, (by unfold inI64; omega), (decide_eq_false h25), (by unfold inI64; omega), (decide_eq_false h25), h24, (by unfold inI64; omega), (decide_eq_false h23), h22, h21, h20, h19, h18, (loopF_to R_field_Hull_L28 h17), (loopF_to R_field_Hull_L25 h16), h15, (loopF_to R_field_Hull_L24 h14), (loopF_to R_field_Hull_L14 h13), (decide_eq_false h12), (loopF_to R_field_Hull_L4 h11), (c_math_bits_Len h10), (bfalse h8), (room_of (b := 16) (by kernel_rfl) (by decide) h9), (by intro e; rw [e] at h8; exact h8 rfl), (nef h7), (c_field_first h6), (c_field_mapped_g h5), (nef h4), ((c_field_first h3).le (.cons (.full _ _ _) (.nil)) (.refl _)), (c_field_when h2), (c_field_when h1), trivial⟩).le (LEs.refl _) (.tups (.cons (.lst _ _ _ _ _ nofun (.inl rfl)) (.cons (.refl _) (.nil))))
  ·replace h := jf h h7
   obtain rfl := oi h
   exact (run (e_field_Hull_31 a0 t1 t2 t3 t5 t6) ⟨(net h7), (c_field_first h6), (c_field_mapped_g h5), (nef h4), ((c_field_first h3).le (.cons (.full _ _ _) (.nil)) (.refl _)), (c_field_when h2), (c_field_when h1), trivial⟩).le (LEs.refl _) (.tups (.cons (.lst _ _ _ _ _ nofun (.inl rfl)) (.cons (.refl _) (.nil))))
 ·replace h := jf h h4
  obtain rfl := oi h
  exact (run (e_field_Hull_32 a0 t1 t2 t3) ⟨(net h4), ((c_field_first h3).le (.cons (.full _ _ _) (.nil)) (.refl _)), (c_field_when h2), (c_field_when h1), trivial⟩).le (LEs.refl _) (.tups (.cons (.lst _ _ _ _ _ nofun (.inl rfl)) (.cons (.refl _) (.nil))))
def F_ref01_When (n : Nat) (a0 : Bool) (a1 : Int) : Option (Int) :=
 if a0 = true then
  some a1
 else
 some 0
theorem c_ref01_When {n : Nat} {a0 : Bool} {a1 : Int} {r : Int} (h : F_ref01_When n a0 a1 = some r) : Computes cx 34 [B a0, I a1] (I r) := by
 unfold F_ref01_When at h
 by_cases h1 : a0 = true
 ·replace h := it h h1
  obtain rfl := oi h
  exact run_fr (n := 100) (orc := [.br true]) (allC h1 allN) (by kernel_rfl)
 ·replace h := jf h h1
  obtain rfl := oi h
  exact run_fr (n := 100) (orc := [.br false]) (allC (bfalse h1) allN) (by kernel_rfl)
def F_ref01_First_L1 (n : Nat) (a0 : List D) (sa : (Int)) : Option (((Int)) ⊕ ((Int) ⊕ (Unit))) :=
 if sa < ((a0).length : Int) then
  (el un_i a0 sa).bind fun ta2 =>
  if ta2 = 0 then
  if inI64 (sa + 1) then
  some (.inl (sa + 1))
  else none
  else
  some (.inr (.inl ta2))
 else
 some (.inr (.inr ()))
noncomputable def T_ref01_First_L1 (a0 : List D) (sa : (Int)) : List (Nat × AV) := [(0, .d (.lst false 1 a0)), (3, .d (I sa))]
noncomputable def H_ref01_First_L1 (a0 : List D) (sa : (Int)) : List (Nat × Blk) := []
noncomputable def X_ref01_First_L1 (a0 : List D) (e : (Int) ⊕ (Unit)) : Ex := match e with
  | (.inl e) => .ret
  | (.inr e) => (.exit 0)
noncomputable def XT_ref01_First_L1 (a0 : List D) (e : (Int) ⊕ (Unit)) : List (Nat × AV) := match e with
  | (.inl e) => [(2, .d (I e))]
  | (.inr e) => []
noncomputable def XH_ref01_First_L1 (a0 : List D) (e : (Int) ⊕ (Unit)) : List (Nat × Blk) := match e with
  | (.inl e) => []
  | (.inr e) => []
theorem R_ref01_First_L1 {n : Nat} {a0 : List D} (sa : (Int)) (r) (h : F_ref01_First_L1 n a0 sa = some r) : Rd cx (loopAt cx.P 46 0) 19 0 false (T_ref01_First_L1 a0) (H_ref01_First_L1 a0) (X_ref01_First_L1 a0) (XT_ref01_First_L1 a0) (XH_ref01_First_L1 a0) sa r := by
 unfold F_ref01_First_L1 at h
 by_cases ha1 : sa < ((a0).length : Int)
 ·replace h := it h ha1
  obtain ⟨ta2, ha2, h⟩ := bo h
  by_cases ha3 : ta2 = 0
  ·replace h := it h ha3
   obtain ⟨ha4, h⟩ := gd h
   obtain rfl := oi h
   exact ⟨100, 2, [.br true, .el (enc_i ta2), .br false], [], [0, 3], [], round_fr (allC ha4 (allC (nef ha3) (allC (el_ok un_i_ok ha2).1 (allC (el_ok un_i_ok ha2).2 (allC (decide_eq_true ha1) allN))))) (by kernel_rfl)⟩
  ·replace h := jf h ha3
   obtain rfl := oi h
   exact ⟨⟨100, 2, [.br true, .el (enc_i ta2), .br true, .el (enc_i ta2)], [], [2], [], round_fr (allC (el_ok un_i_ok ha2).1 (allC (el_ok un_i_ok ha2).2 (allC (net ha3) (allC (el_ok un_i_ok ha2).1 (allC (el_ok un_i_ok ha2).2 (allC (decide_eq_true ha1) allN)))))) (by kernel_rfl)⟩, nofun⟩
 ·replace h := jf h ha1
  obtain rfl := oi h
  exact ⟨⟨100, 2, [.br false], [], [], [], round_fr (allC (decide_eq_false ha1) allN) (by kernel_rfl)⟩, nofun⟩
def F_ref01_First (n : Nat) (a0 : List D) : Option (Int) :=
 (loopF (F_ref01_First_L1 n a0) n 0).bind fun t1 => match t1 with
  | (.inl t1) => (
  some t1)
  | (.inr t1) => (
  some 0)
theorem c_ref01_First {n : Nat} {a0 : List D} {r : Int} (h : F_ref01_First n a0 = some r) : Computes cx 46 [.lst false 1 a0] (I r) := by
 unfold F_ref01_First at h
 obtain ⟨t1, h1, h⟩ := bo h
 rcases t1 with t1 | t1
 ·obtain rfl := oi h
  exact run_fr (n := 100) (orc := [.lp [] [0, 3] [] .ret [(2, .d (I t1))] [] 27]) (allC (loopF_to R_ref01_First_L1 h1) allN) (by kernel_rfl)
 ·obtain rfl := oi h
  exact run_fr (n := 100) (orc := [.lp [] [0, 3] [] (.exit 0) [] [] 27]) (allC (loopF_to R_ref01_First_L1 h1) allN) (by kernel_rfl)
def F_ref01_When_2 (n : Nat)  : Option (Int) :=
 some 3
theorem c_ref01_When_2 {n : Nat}  {r : Int} (h : F_ref01_When_2 n  = some r) : Computes cx 34 [B true, I 3] (I r) := by
 unfold F_ref01_When_2 at h
 obtain rfl := oi h
 exact run_fr (n := 100) (orc := [.no]) allN (by kernel_rfl)
def F_ref01_CheckRange (n : Nat) (a0 : Int) (a1 : Int) (a2 : Int) : Option (Int) :=
 if a0 < a1 then
  (F_ref01_When_2 n).bind fun t2 =>
  some t2
 else
 (F_ref01_When n (decide (a0 > a2)) 3).bind fun t2 =>
 some t2
theorem c_ref01_CheckRange {n : Nat} {a0 : Int} {a1 : Int} {a2 : Int} {r : Int} (h : F_ref01_CheckRange n a0 a1 a2 = some r) : Computes cx 6 [I a0, I a1, I a2] (I r) := by
 unfold F_ref01_CheckRange at h
 by_cases h1 : a0 < a1
 ·replace h := it h h1
  obtain ⟨t2, h2, h⟩ := bo h
  obtain rfl := oi h
  exact run_fr (n := 100) (orc := [.br true, .ret (I t2)]) (allC (c_ref01_When_2 h2) (allC (decide_eq_true h1) allN)) (by kernel_rfl)
 ·replace h := jf h h1
  obtain ⟨t2, h2, h⟩ := bo h
  obtain rfl := oi h
  exact run_fr (n := 100) (orc := [.br false, .ret (I t2)]) (allC (c_ref01_When h2) (allC (decide_eq_false h1) allN)) (by kernel_rfl)
def F_ref04_CheckPoint (n : Nat) (a0 : Int) (a1 : Int) : Option (Int) :=
 (F_ref01_CheckRange n a0 (-16777216) 16777216).bind fun t1 =>
 (F_ref01_CheckRange n a1 (-16777216) 16777216).bind fun t2 =>
 (F_ref01_First n ([I t1, I t2])).bind fun t3 =>
 some t3
theorem c_ref04_CheckPoint {n : Nat} {a0 : Int} {a1 : Int} {r : Int} (h : F_ref04_CheckPoint n a0 a1 = some r) : Computes cx 47 [.agg [I a0, I a1]] (I r) := by
 unfold F_ref04_CheckPoint at h
 obtain ⟨t1, h1, h⟩ := bo h; obtain ⟨t2, h2, h⟩ := bo h; obtain ⟨t3, h3, h⟩ := bo h
 obtain rfl := oi h
 exact run_fr (n := 100) (orc := [.ret (I t1), .ret (I t2), .ret (I t3)]) (allC (((c_ref01_First h3).le (.cons (.full _ _ _) (.nil)) (.refl _)) : Computes cx 46 [.lst true 1 [I t1, I t2]] (I t3)) (allC (c_ref01_CheckRange h2) (allC (c_ref01_CheckRange h1) allN))) (by kernel_rfl)
def F_ref04_next (n : Nat) (a0 : List D) (a1 : Int) : Option (Int × Int) :=
 if inI64 (a1 + 1) then
 if ((a0).length : Int) ≠ 0 then
 (el un_Ai2Z a0 (Int.tmod (a1 + 1) ((a0).length : Int))).bind fun t3 =>
 some (t3.1, t3.2)
 else none
 else none
theorem c_ref04_next {n : Nat} {a0 : List D} {a1 : Int} {r : Int × Int} (h : F_ref04_next n a0 a1 = some r) : Computes cx 85 [.lst false 2 a0, I a1] (.agg [I r.1, I r.2]) := by
 unfold F_ref04_next at h
 obtain ⟨h1, h⟩ := gd h; obtain ⟨h2, h⟩ := gd h; obtain ⟨t3, h3, h⟩ := bo h
 obtain rfl := oi h
 exact run_fr (n := 100) (orc := [.el (enc_Ai2Z t3)]) (allC (el_ok un_Ai2Z_ok h3).1 (allC (el_ok un_Ai2Z_ok h3).2 (allC h2 (allC h1 allN)))) (by kernel_rfl)
def F_ref04_Side (n : Nat) (a0 : Int) (a1 : Int) (a2 : Int) (a3 : Int) (a4 : Int) (a5 : Int) : Option (Int) :=
 if inI64 (a2 - a0) then
 if inI64 (a5 - a1) then
 if inI64 ((a2 - a0) * (a5 - a1)) then
 if inI64 (a3 - a1) then
 if inI64 (a4 - a0) then
 if inI64 ((a3 - a1) * (a4 - a0)) then
 if inI64 (((a2 - a0) * (a5 - a1)) - ((a3 - a1) * (a4 - a0))) then
 some (((a2 - a0) * (a5 - a1)) - ((a3 - a1) * (a4 - a0)))
 else none
 else none
 else none
 else none
 else none
 else none
 else none
theorem c_ref04_Side {n : Nat} {a0 : Int} {a1 : Int} {a2 : Int} {a3 : Int} {a4 : Int} {a5 : Int} {r : Int} (h : F_ref04_Side n a0 a1 a2 a3 a4 a5 = some r) : Computes cx 10 [.agg [I a0, I a1], .agg [I a2, I a3], .agg [I a4, I a5]] (I r) := by
 unfold F_ref04_Side at h
 obtain ⟨h1, h⟩ := gd h; obtain ⟨h2, h⟩ := gd h; obtain ⟨h3, h⟩ := gd h; obtain ⟨h4, h⟩ := gd h; obtain ⟨h5, h⟩ := gd h; obtain ⟨h6, h⟩ := gd h; obtain ⟨h7, h⟩ := gd h
 obtain rfl := oi h
 exact run_fr (n := 100) (orc := []) (allC h7 (allC h6 (allC h5 (allC h4 (allC h3 (allC h2 (allC h1 allN))))))) (by kernel_rfl)
def F_ref04_convex_L2 (n : Nat) (a0 : List D) (sa : Int) (sb : (Int)) : Option (((Int)) ⊕ ((Unit) ⊕ (Unit))) :=
 if sb < ((a0).length : Int) then
  if sb = sa then
  if inI64 (sb + 1) then
  some (.inl (sb + 1))
  else none
  else
  if inI64 (sa + 1) then
  if ((a0).length : Int) ≠ 0 then
  if sb = (Int.tmod (sa + 1) ((a0).length : Int)) then
  if inI64 (sb + 1) then
  some (.inl (sb + 1))
  else none
  else
  (el un_Ai2Z a0 sa).bind fun tb6 =>
  (F_ref04_next n a0 sa).bind fun tb7 =>
  (el un_Ai2Z a0 sb).bind fun tb8 =>
  (F_ref04_Side n tb6.1 tb6.2 tb7.1 tb7.2 tb8.1 tb8.2).bind fun tb9 =>
  if tb9 ≤ 0 then
  some (.inr (.inl ()))
  else
  if inI64 (sb + 1) then
  some (.inl (sb + 1))
  else none
  else none
  else none
 else
 some (.inr (.inr ()))
noncomputable def T_ref04_convex_L2 (a0 : List D) (sa : Int) (sb : (Int)) : List (Nat × AV) := [(0, .d (.lst false 2 a0)), (3, .d (I sa)), (4, .d (I sb))]
noncomputable def H_ref04_convex_L2 (a0 : List D) (sa : Int) (sb : (Int)) : List (Nat × Blk) := []
noncomputable def X_ref04_convex_L2 (a0 : List D) (sa : Int) (e : (Unit) ⊕ (Unit)) : Ex := match e with
  | (.inl e) => .ret
  | (.inr e) => (.exit 2)
noncomputable def XT_ref04_convex_L2 (a0 : List D) (sa : Int) (e : (Unit) ⊕ (Unit)) : List (Nat × AV) := match e with
  | (.inl e) => [(2, .d (B false))]
  | (.inr e) => [(0, .d (.lst false 2 a0)), (3, .d (I sa))]
noncomputable def XH_ref04_convex_L2 (a0 : List D) (sa : Int) (e : (Unit) ⊕ (Unit)) : List (Nat × Blk) := match e with
  | (.inl e) => []
  | (.inr e) => []
theorem R_ref04_convex_L2 {n : Nat} {a0 : List D} {sa : Int} (sb : (Int)) (r) (h : F_ref04_convex_L2 n a0 sa sb = some r) : Rd cx (loopAt cx.P 48 1) 44 0 false (T_ref04_convex_L2 a0 sa) (H_ref04_convex_L2 a0 sa) (X_ref04_convex_L2 a0 sa) (XT_ref04_convex_L2 a0 sa) (XH_ref04_convex_L2 a0 sa) sb r := by
 unfold F_ref04_convex_L2 at h
 by_cases hb1 : sb < ((a0).length : Int)
 ·replace h := it h hb1
  by_cases hb2 : sb = sa
  ·replace h := it h hb2
   obtain ⟨hb3, h⟩ := gd h
   obtain rfl := oi h
   exact ⟨100, 7, [.br true, .br false, .no, .no], [], [0, 3, 4], [], round_fr (allC hb3 (allC (nef hb2) (allC (decide_eq_true hb1) allN))) (by kernel_rfl)⟩
  ·replace h := jf h hb2
   obtain ⟨hb3, h⟩ := gd h; obtain ⟨hb4, h⟩ := gd h
   by_cases hb5 : sb = (Int.tmod (sa + 1) ((a0).length : Int))
   ·replace h := it h hb5
    obtain ⟨hb6, h⟩ := gd h
    obtain rfl := oi h
    exact ⟨100, 7, [.br true, .br true, .br false, .no], [], [0, 3, 4], [], round_fr (allC hb6 (allC (nef hb5) (allC hb4 (allC hb3 (allC (net hb2) (allC (decide_eq_true hb1) allN)))))) (by kernel_rfl)⟩
   ·replace h := jf h hb5
    obtain ⟨tb6, hb6, h⟩ := bo h; obtain ⟨tb7, hb7, h⟩ := bo h; obtain ⟨tb8, hb8, h⟩ := bo h; obtain ⟨tb9, hb9, h⟩ := bo h
    by_cases hb10 : tb9 ≤ 0
    ·replace h := it h hb10
     obtain rfl := oi h
     exact ⟨⟨100, 7, [.br true, .br true, .br true, .el (enc_Ai2Z tb6), .ret (.agg [I tb7.1, I tb7.2]), .el (enc_Ai2Z tb8), .ret (I tb9), .br true], [], [2], [], round_fr (allC (decide_eq_true hb10) (allC (c_ref04_Side hb9) (allC (el_ok un_Ai2Z_ok hb8).1 (allC (el_ok un_Ai2Z_ok hb8).2 (allC (c_ref04_next hb7) (allC (el_ok un_Ai2Z_ok hb6).1 (allC (el_ok un_Ai2Z_ok hb6).2 (allC (net hb5) (allC hb4 (allC hb3 (allC (net hb2) (allC (decide_eq_true hb1) allN)))))))))))) (by kernel_rfl)⟩, nofun⟩
    ·replace h := jf h hb10
     obtain ⟨hb11, h⟩ := gd h
     obtain rfl := oi h
     exact ⟨100, 7, [.br true, .br true, .br true, .el (enc_Ai2Z tb6), .ret (.agg [I tb7.1, I tb7.2]), .el (enc_Ai2Z tb8), .ret (I tb9), .br false], [], [0, 3, 4], [], round_fr (allC hb11 (allC (decide_eq_false hb10) (allC (c_ref04_Side hb9) (allC (el_ok un_Ai2Z_ok hb8).1 (allC (el_ok un_Ai2Z_ok hb8).2 (allC (c_ref04_next hb7) (allC (el_ok un_Ai2Z_ok hb6).1 (allC (el_ok un_Ai2Z_ok hb6).2 (allC (net hb5) (allC hb4 (allC hb3 (allC (net hb2) (allC (decide_eq_true hb1) allN))))))))))))) (by kernel_rfl)⟩
 ·replace h := jf h hb1
  obtain rfl := oi h
  exact ⟨⟨100, 7, [.br false], [], [0, 3], [], round_fr (allC (decide_eq_false hb1) allN) (by kernel_rfl)⟩, nofun⟩
def F_ref04_convex_L3 (n : Nat) (a0 : List D) (sa : (Int)) : Option (((Int)) ⊕ ((Unit) ⊕ (Unit))) :=
 if sa < ((a0).length : Int) then
  (loopF (F_ref04_convex_L2 n a0 sa) n 0).bind fun ta2 => match ta2 with
  | (.inl ta2) => (
   some (.inr (.inl ())))
  | (.inr ta2) => (
   if inI64 (sa + 1) then
   some (.inl (sa + 1))
   else none)
 else
 some (.inr (.inr ()))
noncomputable def T_ref04_convex_L3 (a0 : List D) (sa : (Int)) : List (Nat × AV) := [(0, .d (.lst false 2 a0)), (3, .d (I sa))]
noncomputable def H_ref04_convex_L3 (a0 : List D) (sa : (Int)) : List (Nat × Blk) := []
noncomputable def X_ref04_convex_L3 (a0 : List D) (e : (Unit) ⊕ (Unit)) : Ex := match e with
  | (.inl e) => .ret
  | (.inr e) => (.exit 0)
noncomputable def XT_ref04_convex_L3 (a0 : List D) (e : (Unit) ⊕ (Unit)) : List (Nat × AV) := match e with
  | (.inl e) => [(2, .d (B false))]
  | (.inr e) => []
noncomputable def XH_ref04_convex_L3 (a0 : List D) (e : (Unit) ⊕ (Unit)) : List (Nat × Blk) := match e with
  | (.inl e) => []
  | (.inr e) => []
theorem R_ref04_convex_L3 {n : Nat} {a0 : List D} (sa : (Int)) (r) (h : F_ref04_convex_L3 n a0 sa = some r) : Rd cx (loopAt cx.P 48 0) 44 0 false (T_ref04_convex_L3 a0) (H_ref04_convex_L3 a0) (X_ref04_convex_L3 a0) (XT_ref04_convex_L3 a0) (XH_ref04_convex_L3 a0) sa r := by
 unfold F_ref04_convex_L3 at h
 by_cases ha1 : sa < ((a0).length : Int)
 ·replace h := it h ha1
  obtain ⟨ta2, ha2, h⟩ := bo h
  rcases ta2 with ta2 | ta2
  ·obtain rfl := oi h
   exact ⟨⟨100, 2, [.br true, .lp [] [0, 3, 4] [] .ret [(2, .d (B false))] [] 52], [], [2], [], round_fr (allC (loopF_to R_ref04_convex_L2 ha2) (allC (decide_eq_true ha1) allN)) (by kernel_rfl)⟩, nofun⟩
  ·obtain ⟨ha3, h⟩ := gd h
   obtain rfl := oi h
   exact ⟨100, 2, [.br true, .lp [] [0, 3, 4] [] (.exit 2) [(0, .d (.lst false 2 a0)), (3, .d (I sa))] [] 52], [], [0, 3], [], round_fr (allC ha3 (allC (loopF_to R_ref04_convex_L2 ha2) (allC (decide_eq_true ha1) allN))) (by kernel_rfl)⟩
 ·replace h := jf h ha1
  obtain rfl := oi h
  exact ⟨⟨100, 2, [.br false], [], [], [], round_fr (allC (decide_eq_false ha1) allN) (by kernel_rfl)⟩, nofun⟩
def F_ref04_convex (n : Nat) (a0 : List D) : Option (Bool) :=
 (loopF (F_ref04_convex_L3 n a0) n 0).bind fun t1 => match t1 with
  | (.inl t1) => (
  some false)
  | (.inr t1) => (
  some true)
theorem c_ref04_convex {n : Nat} {a0 : List D} {r : Bool} (h : F_ref04_convex n a0 = some r) : Computes cx 48 [.lst false 2 a0] (B r) := by
 unfold F_ref04_convex at h
 obtain ⟨t1, h1, h⟩ := bo h
 rcases t1 with t1 | t1
 ·obtain rfl := oi h
  exact run_fr (n := 100) (orc := [.lp [] [0, 3] [] .ret [(2, .d (B false))] [] 66]) (allC (loopF_to R_ref04_convex_L3 h1) allN) (by kernel_rfl)
 ·obtain rfl := oi h
  exact run_fr (n := 100) (orc := [.lp [] [0, 3] [] (.exit 0) [] [] 66]) (allC (loopF_to R_ref04_convex_L3 h1) allN) (by kernel_rfl)
def F_ref04_CheckPolygon_L1 (n : Nat) (a0 : List D) (sa : (Int)) : Option (((Int)) ⊕ ((Int) ⊕ (Unit))) :=
 if sa < ((a0).length : Int) then
  (el un_Ai2Z a0 sa).bind fun ta2 =>
  (F_ref04_CheckPoint n ta2.1 ta2.2).bind fun ta3 =>
  if ta3 = 0 then
  if inI64 (sa + 1) then
  some (.inl (sa + 1))
  else none
  else
  some (.inr (.inl ta3))
 else
 some (.inr (.inr ()))
noncomputable def T_ref04_CheckPolygon_L1 (a0 : List D) (sa : (Int)) : List (Nat × AV) := [(0, .d (.lst false 2 a0)), (4, .d (I sa))]
noncomputable def H_ref04_CheckPolygon_L1 (a0 : List D) (sa : (Int)) : List (Nat × Blk) := []
noncomputable def X_ref04_CheckPolygon_L1 (a0 : List D) (e : (Int) ⊕ (Unit)) : Ex := match e with
  | (.inl e) => .ret
  | (.inr e) => (.exit 0)
noncomputable def XT_ref04_CheckPolygon_L1 (a0 : List D) (e : (Int) ⊕ (Unit)) : List (Nat × AV) := match e with
  | (.inl e) => [(2, .d (I e))]
  | (.inr e) => [(0, .d (.lst false 2 a0))]
noncomputable def XH_ref04_CheckPolygon_L1 (a0 : List D) (e : (Int) ⊕ (Unit)) : List (Nat × Blk) := match e with
  | (.inl e) => []
  | (.inr e) => []
theorem R_ref04_CheckPolygon_L1 {n : Nat} {a0 : List D} (sa : (Int)) (r) (h : F_ref04_CheckPolygon_L1 n a0 sa = some r) : Rd cx (loopAt cx.P 11 0) 37 0 false (T_ref04_CheckPolygon_L1 a0) (H_ref04_CheckPolygon_L1 a0) (X_ref04_CheckPolygon_L1 a0) (XT_ref04_CheckPolygon_L1 a0) (XH_ref04_CheckPolygon_L1 a0) sa r := by
 unfold F_ref04_CheckPolygon_L1 at h
 by_cases ha1 : sa < ((a0).length : Int)
 ·replace h := it h ha1
  obtain ⟨ta2, ha2, h⟩ := bo h; obtain ⟨ta3, ha3, h⟩ := bo h
  by_cases ha4 : ta3 = 0
  ·replace h := it h ha4
   obtain ⟨ha5, h⟩ := gd h
   obtain rfl := oi h
   exact ⟨100, 15, [.br true, .el (enc_Ai2Z ta2), .ret (I ta3), .br false], [], [0, 4], [], round_fr (allC ha5 (allC (nef ha4) (allC (c_ref04_CheckPoint ha3) (allC (el_ok un_Ai2Z_ok ha2).1 (allC (el_ok un_Ai2Z_ok ha2).2 (allC (decide_eq_true ha1) allN)))))) (by kernel_rfl)⟩
  ·replace h := jf h ha4
   obtain rfl := oi h
   exact ⟨⟨100, 15, [.br true, .el (enc_Ai2Z ta2), .ret (I ta3), .br true], [], [2], [], round_fr (allC (net ha4) (allC (c_ref04_CheckPoint ha3) (allC (el_ok un_Ai2Z_ok ha2).1 (allC (el_ok un_Ai2Z_ok ha2).2 (allC (decide_eq_true ha1) allN))))) (by kernel_rfl)⟩, nofun⟩
 ·replace h := jf h ha1
  obtain rfl := oi h
  exact ⟨⟨100, 15, [.br false], [], [0], [], round_fr (allC (decide_eq_false ha1) allN) (by kernel_rfl)⟩, nofun⟩
def F_ref04_CheckPolygon (n : Nat) (a0 : List D) : Option (Int) :=
 (F_ref01_When n (decide (((a0).length : Int) < 3)) 16).bind fun t1 =>
 (F_ref01_When n (decide (((a0).length : Int) > 16)) 5).bind fun t2 =>
 (F_ref01_First n ([I t1, I t2])).bind fun t3 =>
 if t3 = 0 then
  (loopF (F_ref04_CheckPolygon_L1 n a0) n 0).bind fun t5 => match t5 with
  | (.inl t5) => (
   some t5)
  | (.inr t5) => (
   (F_ref04_convex n a0).bind fun t6 =>
   (F_ref01_When n (!t6) 2).bind fun t7 =>
   some t7)
 else
 some t3
theorem c_ref04_CheckPolygon {n : Nat} {a0 : List D} {r : Int} (h : F_ref04_CheckPolygon n a0 = some r) : Computes cx 11 [.lst false 2 a0] (I r) := by
 unfold F_ref04_CheckPolygon at h
 obtain ⟨t1, h1, h⟩ := bo h; obtain ⟨t2, h2, h⟩ := bo h; obtain ⟨t3, h3, h⟩ := bo h
 by_cases h4 : t3 = 0
 ·replace h := it h h4
  obtain ⟨t5, h5, h⟩ := bo h
  rcases t5 with t5 | t5
  ·obtain rfl := oi h
   exact run_fr (n := 100) (orc := [.ret (I t1), .ret (I t2), .ret (I t3), .br false, .lp [] [0, 4] [] .ret [(2, .d (I t5))] [] 41]) (allC (loopF_to R_ref04_CheckPolygon_L1 h5) (allC (nef h4) (allC (((c_ref01_First h3).le (.cons (.full _ _ _) (.nil)) (.refl _)) : Computes cx 46 [.lst true 1 [I t1, I t2]] (I t3)) (allC (c_ref01_When h2) (allC (c_ref01_When h1) allN))))) (by kernel_rfl)
  ·obtain ⟨t6, h6, h⟩ := bo h; obtain ⟨t7, h7, h⟩ := bo h
   obtain rfl := oi h
   exact run_fr (n := 100) (orc := [.ret (I t1), .ret (I t2), .ret (I t3), .br false, .lp [] [0, 4] [] (.exit 0) [(0, .d (.lst false 2 a0))] [] 41, .ret (B t6), .ret (I t7)]) (allC (c_ref01_When h7) (allC (c_ref04_convex h6) (allC (loopF_to R_ref04_CheckPolygon_L1 h5) (allC (nef h4) (allC (((c_ref01_First h3).le (.cons (.full _ _ _) (.nil)) (.refl _)) : Computes cx 46 [.lst true 1 [I t1, I t2]] (I t3)) (allC (c_ref01_When h2) (allC (c_ref01_When h1) allN))))))) (by kernel_rfl)
 ·replace h := jf h h4
  obtain rfl := oi h
  exact run_fr (n := 100) (orc := [.ret (I t1), .ret (I t2), .ret (I t3), .br true]) (allC (net h4) (allC (((c_ref01_First h3).le (.cons (.full _ _ _) (.nil)) (.refl _)) : Computes cx 46 [.lst true 1 [I t1, I t2]] (I t3)) (allC (c_ref01_When h2) (allC (c_ref01_When h1) allN)))) (by kernel_rfl)
def F_field_edge (n : Nat) (a0 : List D) (a1 : Int) : Option (Int × Int × Int × Int) :=
 (el un_Ai2Z a0 a1).bind fun t1 =>
 if inI64 (a1 + 1) then
 if ((a0).length : Int) ≠ 0 then
 (el un_Ai2Z a0 (Int.tmod (a1 + 1) ((a0).length : Int))).bind fun t4 =>
 some (t1.1, t1.2, t4.1, t4.2)
 else none
 else none
theorem c_field_edge {n : Nat} {a0 : List D} {a1 : Int} {r : Int × Int × Int × Int} (h : F_field_edge n a0 a1 = some r) : Computes cx 49 [.lst false 2 a0, I a1] (.agg [I r.1, I r.2.1, I r.2.2.1, I r.2.2.2]) := by
 unfold F_field_edge at h
 obtain ⟨t1, h1, h⟩ := bo h; obtain ⟨h2, h⟩ := gd h; obtain ⟨h3, h⟩ := gd h; obtain ⟨t4, h4, h⟩ := bo h
 obtain rfl := oi h
 exact run_fr (n := 100) (orc := [.el (enc_Ai2Z t1), .el (enc_Ai2Z t4)]) (allC (el_ok un_Ai2Z_ok h4).1 (allC (el_ok un_Ai2Z_ok h4).2 (allC h3 (allC h2 (allC (el_ok un_Ai2Z_ok h1).1 (allC (el_ok un_Ai2Z_ok h1).2 allN)))))) (by kernel_rfl)
def F_field_CheckPolygon_L2 (n : Nat) (a0 : List D) (sa : Int) (ta2 : Int × Int × Int × Int) (sb : (Int)) : Option (((Int)) ⊕ ((Unit) ⊕ (Unit))) :=
 if sb < ((a0).length : Int) then
  (el un_Ai2Z a0 sb).bind fun tb2 =>
  if sb = sa then
  if inI64 (sb + 1) then
  some (.inl (sb + 1))
  else none
  else
  if inI64 (sa + 1) then
  if ((a0).length : Int) ≠ 0 then
  if sb = (Int.tmod (sa + 1) ((a0).length : Int)) then
  if inI64 (sb + 1) then
  some (.inl (sb + 1))
  else none
  else
  (F_field_left n ta2.1 ta2.2.1 ta2.2.2.1 ta2.2.2.2 tb2.1 tb2.2).bind fun tb7 =>
  if tb7 ≤ 0 then
  some (.inr (.inl ()))
  else
  if inI64 (sb + 1) then
  some (.inl (sb + 1))
  else none
  else none
  else none
 else
 some (.inr (.inr ()))
noncomputable def T_field_CheckPolygon_L2 (a0 : List D) (sa : Int) (ta2 : Int × Int × Int × Int) (sb : (Int)) : List (Nat × AV) := [(0, .d (.lst false 2 a0)), (5, .d (I sa)), (6, .ptr 29 0 0 0 0), (29, .d (I ((a0).length : Int))), (30, .d (I sa)), (36, .d (.lst false 2 a0)), (37, .d (I ((a0).length : Int))), (38, .d (I sb))]
noncomputable def H_field_CheckPolygon_L2 (a0 : List D) (sa : Int) (ta2 : Int × Int × Int × Int) (sb : (Int)) : List (Nat × Blk) := [(29, .box (.d (.agg [I ta2.1, I ta2.2.1, I ta2.2.2.1, I ta2.2.2.2])))]
noncomputable def X_field_CheckPolygon_L2 (a0 : List D) (sa : Int) (ta2 : Int × Int × Int × Int) (e : (Unit) ⊕ (Unit)) : Ex := match e with
  | (.inl e) => .ret
  | (.inr e) => (.exit 2)
noncomputable def XT_field_CheckPolygon_L2 (a0 : List D) (sa : Int) (ta2 : Int × Int × Int × Int) (e : (Unit) ⊕ (Unit)) : List (Nat × AV) := match e with
  | (.inl e) => [(2, .d (I 2))]
  | (.inr e) => [(0, .d (.lst false 2 a0)), (29, .d (I ((a0).length : Int))), (30, .d (I sa))]
noncomputable def XH_field_CheckPolygon_L2 (a0 : List D) (sa : Int) (ta2 : Int × Int × Int × Int) (e : (Unit) ⊕ (Unit)) : List (Nat × Blk) := match e with
  | (.inl e) => []
  | (.inr e) => []
theorem R_field_CheckPolygon_L2 {n : Nat} {a0 : List D} {sa : Int} {ta2 : Int × Int × Int × Int} (sb : (Int)) (r) (h : F_field_CheckPolygon_L2 n a0 sa ta2 sb = some r) : Rd cx (loopAt cx.P 12 1) 66 0 false (T_field_CheckPolygon_L2 a0 sa ta2) (H_field_CheckPolygon_L2 a0 sa ta2) (X_field_CheckPolygon_L2 a0 sa ta2) (XT_field_CheckPolygon_L2 a0 sa ta2) (XH_field_CheckPolygon_L2 a0 sa ta2) sb r := by
 unfold F_field_CheckPolygon_L2 at h
 by_cases hb1 : sb < ((a0).length : Int)
 ·replace h := it h hb1
  obtain ⟨tb2, hb2, h⟩ := bo h
  by_cases hb3 : sb = sa
  ·replace h := it h hb3
   obtain ⟨hb4, h⟩ := gd h
   obtain rfl := oi h
   exact ⟨100, 34, [.br true, .el (enc_Ai2Z tb2), .br false, .no, .no], [], [0, 5, 6, 29, 30, 36, 37, 38], [29], round_fr (allC hb4 (allC (nef hb3) (allC (el_ok un_Ai2Z_ok hb2).1 (allC (el_ok un_Ai2Z_ok hb2).2 (allC (decide_eq_true hb1) allN))))) (by kernel_rfl)⟩
  ·replace h := jf h hb3
   obtain ⟨hb4, h⟩ := gd h; obtain ⟨hb5, h⟩ := gd h
   by_cases hb6 : sb = (Int.tmod (sa + 1) ((a0).length : Int))
   ·replace h := it h hb6
    obtain ⟨hb7, h⟩ := gd h
    obtain rfl := oi h
    exact ⟨100, 34, [.br true, .el (enc_Ai2Z tb2), .br true, .br false, .no], [], [0, 5, 6, 29, 30, 36, 37, 38], [29], round_fr (allC hb7 (allC (nef hb6) (allC hb5 (allC hb4 (allC (net hb3) (allC (el_ok un_Ai2Z_ok hb2).1 (allC (el_ok un_Ai2Z_ok hb2).2 (allC (decide_eq_true hb1) allN)))))))) (by kernel_rfl)⟩
   ·replace h := jf h hb6
    obtain ⟨tb7, hb7, h⟩ := bo h
    by_cases hb8 : tb7 ≤ 0
    ·replace h := it h hb8
     obtain rfl := oi h
     exact ⟨⟨100, 34, [.br true, .el (enc_Ai2Z tb2), .br true, .br true, .ret (I tb7), .br true], [], [2], [], round_fr (allC (decide_eq_true hb8) (allC (c_field_left hb7) (allC (net hb6) (allC hb5 (allC hb4 (allC (net hb3) (allC (el_ok un_Ai2Z_ok hb2).1 (allC (el_ok un_Ai2Z_ok hb2).2 (allC (decide_eq_true hb1) allN))))))))) (by kernel_rfl)⟩, nofun⟩
    ·replace h := jf h hb8
     obtain ⟨hb9, h⟩ := gd h
     obtain rfl := oi h
     exact ⟨100, 34, [.br true, .el (enc_Ai2Z tb2), .br true, .br true, .ret (I tb7), .br false], [], [0, 5, 6, 29, 30, 36, 37, 38], [29], round_fr (allC hb9 (allC (decide_eq_false hb8) (allC (c_field_left hb7) (allC (net hb6) (allC hb5 (allC hb4 (allC (net hb3) (allC (el_ok un_Ai2Z_ok hb2).1 (allC (el_ok un_Ai2Z_ok hb2).2 (allC (decide_eq_true hb1) allN)))))))))) (by kernel_rfl)⟩
 ·replace h := jf h hb1
  obtain rfl := oi h
  exact ⟨⟨100, 34, [.br false], [], [0, 29, 30], [], round_fr (allC (decide_eq_false hb1) allN) (by kernel_rfl)⟩, nofun⟩
def F_field_CheckPolygon_L3 (n : Nat) (a0 : List D) (sa : (Int)) : Option (((Int)) ⊕ ((Unit) ⊕ (Unit))) :=
 if sa < ((a0).length : Int) then
  (F_field_edge n a0 sa).bind fun ta2 =>
  (loopF (F_field_CheckPolygon_L2 n a0 sa ta2) n 0).bind fun ta3 => match ta3 with
  | (.inl ta3) => (
   some (.inr (.inl ())))
  | (.inr ta3) => (
   if inI64 (sa + 1) then
   some (.inl (sa + 1))
   else none)
 else
 some (.inr (.inr ()))
noncomputable def T_field_CheckPolygon_L3 (a0 : List D) (sa : (Int)) : List (Nat × AV) := [(0, .d (.lst false 2 a0)), (29, .d (I ((a0).length : Int))), (30, .d (I sa))]
noncomputable def H_field_CheckPolygon_L3 (a0 : List D) (sa : (Int)) : List (Nat × Blk) := []
noncomputable def X_field_CheckPolygon_L3 (a0 : List D) (e : (Unit) ⊕ (Unit)) : Ex := match e with
  | (.inl e) => .ret
  | (.inr e) => (.exit 0)
noncomputable def XT_field_CheckPolygon_L3 (a0 : List D) (e : (Unit) ⊕ (Unit)) : List (Nat × AV) := match e with
  | (.inl e) => [(2, .d (I 2))]
  | (.inr e) => []
noncomputable def XH_field_CheckPolygon_L3 (a0 : List D) (e : (Unit) ⊕ (Unit)) : List (Nat × Blk) := match e with
  | (.inl e) => []
  | (.inr e) => []
theorem R_field_CheckPolygon_L3 {n : Nat} {a0 : List D} (sa : (Int)) (r) (h : F_field_CheckPolygon_L3 n a0 sa = some r) : Rd cx (loopAt cx.P 12 0) 66 0 false (T_field_CheckPolygon_L3 a0) (H_field_CheckPolygon_L3 a0) (X_field_CheckPolygon_L3 a0) (XT_field_CheckPolygon_L3 a0) (XH_field_CheckPolygon_L3 a0) sa r := by
 unfold F_field_CheckPolygon_L3 at h
 by_cases ha1 : sa < ((a0).length : Int)
 ·replace h := it h ha1
  obtain ⟨ta2, ha2, h⟩ := bo h; obtain ⟨ta3, ha3, h⟩ := bo h
  rcases ta3 with ta3 | ta3
  ·obtain rfl := oi h
   exact ⟨⟨100, 23, [.br true, .ret (.agg [I ta2.1, I ta2.2.1, I ta2.2.2.1, I ta2.2.2.2]), .lp [] [0, 5, 6, 29, 30, 36, 37, 38] [29] .ret [(2, .d (I 2))] [] 75], [], [2], [], round_fr (allC (loopF_to R_field_CheckPolygon_L2 ha3) (allC (c_field_edge ha2) (allC (decide_eq_true ha1) allN))) (by kernel_rfl)⟩, nofun⟩
  ·obtain ⟨ha4, h⟩ := gd h
   obtain rfl := oi h
   exact ⟨100, 23, [.br true, .ret (.agg [I ta2.1, I ta2.2.1, I ta2.2.2.1, I ta2.2.2.2]), .lp [] [0, 5, 6, 29, 30, 36, 37, 38] [29] (.exit 2) [(0, .d (.lst false 2 a0)), (29, .d (I ((a0).length : Int))), (30, .d (I sa))] [] 75], [], [0, 29, 30], [], round_fr (allC ha4 (allC (loopF_to R_field_CheckPolygon_L2 ha3) (allC (c_field_edge ha2) (allC (decide_eq_true ha1) allN)))) (by kernel_rfl)⟩
 ·replace h := jf h ha1
  obtain rfl := oi h
  exact ⟨⟨100, 23, [.br false], [], [], [], round_fr (allC (decide_eq_false ha1) allN) (by kernel_rfl)⟩, nofun⟩
def F_field_CheckPolygon (n : Nat) (a0 : List D) : Option (Int) :=
 (F_field_when n (decide (((a0).length : Int) < 3)) 16).bind fun t1 =>
 (F_field_when n (decide (((a0).length : Int) > 16)) 5).bind fun t2 =>
 (F_field_first n ([I t1, I t2])).bind fun t3 =>
 if t3 = 0 then
  (F_field_mapped_g n a0).bind fun t5 =>
  (F_field_first n t5).bind fun t6 =>
  if t6 = 0 then
  (loopF (F_field_CheckPolygon_L3 n a0) n 0).bind fun t8 => match t8 with
   | (.inl t8) => (
   some 2)
   | (.inr t8) => (
   some 0)
  else
  some t6
 else
 some t3
theorem c_field_CheckPolygon {n : Nat} {a0 : List D} {r : Int} (h : F_field_CheckPolygon n a0 = some r) : Computes cx 12 [.lst false 2 a0] (I r) := by
 unfold F_field_CheckPolygon at h
 obtain ⟨t1, h1, h⟩ := bo h; obtain ⟨t2, h2, h⟩ := bo h; obtain ⟨t3, h3, h⟩ := bo h
 by_cases h4 : t3 = 0
 ·replace h := it h h4
  obtain ⟨t5, h5, h⟩ := bo h; obtain ⟨t6, h6, h⟩ := bo h
  by_cases h7 : t6 = 0
  ·replace h := it h h7
   obtain ⟨t8, h8, h⟩ := bo h
   rcases t8 with t8 | t8
   ·obtain rfl := oi h
    exact run_fr (n := 100) (orc := [.ret (I t1), .ret (I t2), .ret (I t3), .br false, .ret (.lst false 1 t5), .ret (I t6), .br false, .lp [] [0, 29, 30] [] .ret [(2, .d (I 2))] [] 88]) (allC (loopF_to R_field_CheckPolygon_L3 h8) (allC (nef h7) (allC (c_field_first h6) (allC (c_field_mapped_g h5) (allC (nef h4) (allC (((c_field_first h3).le (.cons (.full _ _ _) (.nil)) (.refl _)) : Computes cx 35 [.lst true 1 [I t1, I t2]] (I t3)) (allC (c_field_when h2) (allC (c_field_when h1) allN)))))))) (by kernel_rfl)
   ·obtain rfl := oi h
    exact run_fr (n := 100) (orc := [.ret (I t1), .ret (I t2), .ret (I t3), .br false, .ret (.lst false 1 t5), .ret (I t6), .br false, .lp [] [0, 29, 30] [] (.exit 0) [] [] 88]) (allC (loopF_to R_field_CheckPolygon_L3 h8) (allC (nef h7) (allC (c_field_first h6) (allC (c_field_mapped_g h5) (allC (nef h4) (allC (((c_field_first h3).le (.cons (.full _ _ _) (.nil)) (.refl _)) : Computes cx 35 [.lst true 1 [I t1, I t2]] (I t3)) (allC (c_field_when h2) (allC (c_field_when h1) allN)))))))) (by kernel_rfl)
  ·replace h := jf h h7
   obtain rfl := oi h
   exact run_fr (n := 100) (orc := [.ret (I t1), .ret (I t2), .ret (I t3), .br false, .ret (.lst false 1 t5), .ret (I t6), .br true]) (allC (net h7) (allC (c_field_first h6) (allC (c_field_mapped_g h5) (allC (nef h4) (allC (((c_field_first h3).le (.cons (.full _ _ _) (.nil)) (.refl _)) : Computes cx 35 [.lst true 1 [I t1, I t2]] (I t3)) (allC (c_field_when h2) (allC (c_field_when h1) allN))))))) (by kernel_rfl)
 ·replace h := jf h h4
  obtain rfl := oi h
  exact run_fr (n := 100) (orc := [.ret (I t1), .ret (I t2), .ret (I t3), .br true]) (allC (net h4) (allC (((c_field_first h3).le (.cons (.full _ _ _) (.nil)) (.refl _)) : Computes cx 35 [.lst true 1 [I t1, I t2]] (I t3)) (allC (c_field_when h2) (allC (c_field_when h1) allN)))) (by kernel_rfl)
def F_field_Holds_L1 (n : Nat) (a0 : List D) (a1 : Int) (a2 : Int) (sa : (Int × Int)) : Option (((Int × Int)) ⊕ ((Int))) :=
 if sa.2 < ((a0).length : Int) then
  (F_field_edge n a0 sa.2).bind fun ta2 =>
  (F_field_left n ta2.1 ta2.2.1 ta2.2.2.1 ta2.2.2.2 a1 a2).bind fun ta3 =>
  (F_cmp_Compare_g n ta3 0).bind fun ta4 =>
  if inI64 (sa.2 + 1) then
  some (.inl ((minI sa.1 ta4), (sa.2 + 1)))
  else none
 else
 some (.inr sa.1)
noncomputable def T_field_Holds_L1 (a0 : List D) (a1 : Int) (a2 : Int) (sa : (Int × Int)) : List (Nat × AV) := [(0, .d (.lst false 2 a0)), (3, .ptr 0 0 0 0 0), (7, .d (I sa.1)), (20, .d (I ((a0).length : Int))), (21, .d (I sa.2))]
noncomputable def H_field_Holds_L1 (a0 : List D) (a1 : Int) (a2 : Int) (sa : (Int × Int)) : List (Nat × Blk) := [(0, .box (.d (.agg [I a1, I a2])))]
noncomputable def X_field_Holds_L1 (a0 : List D) (a1 : Int) (a2 : Int) (e : (Int)) : Ex := (.exit 0)
noncomputable def XT_field_Holds_L1 (a0 : List D) (a1 : Int) (a2 : Int) (e : (Int)) : List (Nat × AV) := [(7, .d (I e))]
noncomputable def XH_field_Holds_L1 (a0 : List D) (a1 : Int) (a2 : Int) (e : (Int)) : List (Nat × Blk) := []
theorem R_field_Holds_L1 {n : Nat} {a0 : List D} {a1 : Int} {a2 : Int} (sa : (Int × Int)) (r) (h : F_field_Holds_L1 n a0 a1 a2 sa = some r) : Rd cx (loopAt cx.P 13 0) 38 0 false (T_field_Holds_L1 a0 a1 a2) (H_field_Holds_L1 a0 a1 a2) (X_field_Holds_L1 a0 a1 a2) (XT_field_Holds_L1 a0 a1 a2) (XH_field_Holds_L1 a0 a1 a2) sa r := by
 unfold F_field_Holds_L1 at h
 by_cases ha1 : sa.2 < ((a0).length : Int)
 ·replace h := it h ha1
  obtain ⟨ta2, ha2, h⟩ := bo h; obtain ⟨ta3, ha3, h⟩ := bo h; obtain ⟨ta4, ha4, h⟩ := bo h; obtain ⟨ha5, h⟩ := gd h
  obtain rfl := oi h
  exact ⟨100, 16, [.br true, .ret (.agg [I ta2.1, I ta2.2.1, I ta2.2.2.1, I ta2.2.2.2]), .ret (I ta3), .ret (I ta4)], [], [0, 3, 7, 20, 21], [0], round_fr (allC ha5 (allC (c_cmp_Compare_g ha4) (allC (c_field_left ha3) (allC (c_field_edge ha2) (allC (decide_eq_true ha1) allN))))) (by kernel_rfl)⟩
 ·replace h := jf h ha1
  obtain rfl := oi h
  exact ⟨⟨100, 16, [.br false], [], [7], [], round_fr (allC (decide_eq_false ha1) allN) (by kernel_rfl)⟩, nofun⟩
def F_field_Holds (n : Nat) (a0 : List D) (a1 : Int) (a2 : Int) : Option (Int × Int) :=
 (F_field_CheckPolygon n a0).bind fun t1 =>
 (F_field_checkPoint n a1 a2).bind fun t2 =>
 (F_field_first n ([I t1, I t2])).bind fun t3 =>
 if t3 = 0 then
  (loopF (F_field_Holds_L1 n a0 a1 a2) n (1, 0)).bind fun t5 =>
  some (t5, 0)
 else
 some (0, t3)
theorem c_field_Holds {n : Nat} {a0 : List D} {a1 : Int} {a2 : Int} {r : Int × Int} (h : F_field_Holds n a0 a1 a2 = some r) : Computes cx 13 [.lst false 2 a0, .agg [I a1, I a2]] (.tup [I r.1, I r.2]) := by
 unfold F_field_Holds at h
 obtain ⟨t1, h1, h⟩ := bo h; obtain ⟨t2, h2, h⟩ := bo h; obtain ⟨t3, h3, h⟩ := bo h
 by_cases h4 : t3 = 0
 ·replace h := it h h4
  obtain ⟨t5, h5, h⟩ := bo h
  obtain rfl := oi h
  exact run_fr (n := 100) (orc := [.ret (I t1), .ret (I t2), .ret (I t3), .br false, .lp [] [0, 3, 7, 20, 21] [0] (.exit 0) [(7, .d (I t5))] [] 47]) (allC (loopF_to R_field_Holds_L1 h5) (allC (nef h4) (allC (((c_field_first h3).le (.cons (.full _ _ _) (.nil)) (.refl _)) : Computes cx 35 [.lst true 1 [I t1, I t2]] (I t3)) (allC (c_field_checkPoint h2) (allC (c_field_CheckPolygon h1) allN))))) (by kernel_rfl)
 ·replace h := jf h h4
  obtain rfl := oi h
  exact run_fr (n := 100) (orc := [.ret (I t1), .ret (I t2), .ret (I t3), .br true]) (allC (net h4) (allC (((c_field_first h3).le (.cons (.full _ _ _) (.nil)) (.refl _)) : Computes cx 35 [.lst true 1 [I t1, I t2]] (I t3)) (allC (c_field_checkPoint h2) (allC (c_field_CheckPolygon h1) allN)))) (by kernel_rfl)
def F_field_when_5 (n : Nat)  : Option (Int) :=
 some 0
theorem c_field_when_5 {n : Nat}  {r : Int} (h : F_field_when_5 n  = some r) : Computes cx 36 [B false, I 15] (I r) := by
 unfold F_field_when_5 at h
 obtain rfl := oi h
 exact run_fr (n := 100) (orc := [.no]) allN (by kernel_rfl)
def F_field_when_6 (n : Nat)  : Option (Int) :=
 some 15
theorem c_field_when_6 {n : Nat}  {r : Int} (h : F_field_when_6 n  = some r) : Computes cx 36 [B true, I 15] (I r) := by
 unfold F_field_when_6 at h
 obtain rfl := oi h
 exact run_fr (n := 100) (orc := [.no]) allN (by kernel_rfl)
def F_field_Apart_L1 (n : Nat) (a0 : List D) (a1 : List D) (ta2 : Int × Int × Int × Int) (sb : (Int)) : Option (((Int)) ⊕ ((Int) ⊕ (Unit))) :=
 if sb < ((a1).length : Int) then
  (el un_Ai2Z a1 sb).bind fun tb2 =>
  (F_field_left n ta2.1 ta2.2.1 ta2.2.2.1 ta2.2.2.2 tb2.1 tb2.2).bind fun tb3 =>
  if tb3 > 0 then
  some (.inr (.inl sb))
  else
  if inI64 (sb + 1) then
  some (.inl (sb + 1))
  else none
 else
 some (.inr (.inr ()))
noncomputable def T_field_Apart_L1 (a0 : List D) (a1 : List D) (ta2 : Int × Int × Int × Int) (sb : (Int)) : List (Nat × AV) := [(0, .d (.lst false 2 a1)), (1, .fn (.func 53) [] [.ptr 38 0 0 0 0]), (7, .d (I ((a1).length : Int))), (8, .d (I sb))]
noncomputable def H_field_Apart_L1 (a0 : List D) (a1 : List D) (ta2 : Int × Int × Int × Int) (sb : (Int)) : List (Nat × Blk) := [(0, .box (.d (.agg [I 0, I 0]))), (11, .box (.d (.agg [I 0, I 0]))), (24, .box (.d (.agg [.lst false 2 a0, .lst false 2 a1]))), (38, .box (.d (.agg [I ta2.1, I ta2.2.1, I ta2.2.2.1, I ta2.2.2.2])))]
noncomputable def X_field_Apart_L1 (a0 : List D) (a1 : List D) (ta2 : Int × Int × Int × Int) (e : (Int) ⊕ (Unit)) : Ex := match e with
  | (.inl e) => .ret
  | (.inr e) => (.exit 0)
noncomputable def XT_field_Apart_L1 (a0 : List D) (a1 : List D) (ta2 : Int × Int × Int × Int) (e : (Int) ⊕ (Unit)) : List (Nat × AV) := match e with
  | (.inl e) => [(4, .d (I e))]
  | (.inr e) => []
noncomputable def XH_field_Apart_L1 (a0 : List D) (a1 : List D) (ta2 : Int × Int × Int × Int) (e : (Int) ⊕ (Unit)) : List (Nat × Blk) := match e with
  | (.inl e) => [(0, .box (.d (.agg [I 0, I 0]))), (11, .box (.d (.agg [I 0, I 0]))), (24, .box (.d (.agg [.lst false 2 a0, .lst false 2 a1]))), (38, .box (.d (.agg [I ta2.1, I ta2.2.1, I ta2.2.2.1, I ta2.2.2.2])))]
  | (.inr e) => [(0, .box (.d (.agg [I 0, I 0]))), (11, .box (.d (.agg [I 0, I 0]))), (24, .box (.d (.agg [.lst false 2 a0, .lst false 2 a1]))), (38, .box (.d (.agg [I ta2.1, I ta2.2.1, I ta2.2.2.1, I ta2.2.2.2])))]
theorem R_field_Apart_L1 {n : Nat} {a0 : List D} {a1 : List D} {ta2 : Int × Int × Int × Int} (sb : (Int)) (r) (h : F_field_Apart_L1 n a0 a1 ta2 sb = some r) : Rd cx (loopAt cx.P 87 0) 19 51 false (T_field_Apart_L1 a0 a1 ta2) (H_field_Apart_L1 a0 a1 ta2) (X_field_Apart_L1 a0 a1 ta2) (XT_field_Apart_L1 a0 a1 ta2) (XH_field_Apart_L1 a0 a1 ta2) sb r := by
 unfold F_field_Apart_L1 at h
 by_cases hb1 : sb < ((a1).length : Int)
 ·replace h := it h hb1
  obtain ⟨tb2, hb2, h⟩ := bo h; obtain ⟨tb3, hb3, h⟩ := bo h
  by_cases hb4 : tb3 > 0
  ·replace h := it h hb4
   obtain rfl := oi h
   exact ⟨⟨100, 55, [.br true, .el (enc_Ai2Z tb2), .br true, .ret (I tb3), .br true], [], [4], [0, 11, 24, 38], round_fr (allC (decide_eq_true hb4) (allC (c_field_left hb3) (allC (el_ok un_Ai2Z_ok hb2).1 (allC (el_ok un_Ai2Z_ok hb2).2 (allC (decide_eq_true hb1) allN))))) (by kernel_rfl)⟩, nofun⟩
  ·replace h := jf h hb4
   obtain ⟨hb5, h⟩ := gd h
   obtain rfl := oi h
   exact ⟨100, 55, [.br true, .el (enc_Ai2Z tb2), .br true, .ret (I tb3), .br false], [], [0, 1, 7, 8], [0, 11, 24, 38], round_fr (allC hb5 (allC (decide_eq_false hb4) (allC (c_field_left hb3) (allC (el_ok un_Ai2Z_ok hb2).1 (allC (el_ok un_Ai2Z_ok hb2).2 (allC (decide_eq_true hb1) allN)))))) (by kernel_rfl)⟩
 ·replace h := jf h hb1
  obtain rfl := oi h
  exact ⟨⟨100, 55, [.br false], [], [], [0, 11, 24, 38], round_fr (allC (decide_eq_false hb1) allN) (by kernel_rfl)⟩, nofun⟩
def F_field_Apart_L2 (n : Nat) (a0 : List D) (a1 : List D) (sa : (Int)) : Option (((Int)) ⊕ ((Int) ⊕ (Unit))) :=
 if sa < ((a0).length : Int) then
  (F_field_edge n a0 sa).bind fun ta2 =>
  (loopF (F_field_Apart_L1 n a0 a1 ta2) n 0).bind fun ta3 => match ta3 with
  | (.inl ta3) => (
   if ta3 ≥ 0 then
   if inI64 (sa + 1) then
   some (.inl (sa + 1))
   else none
   else
   some (.inr (.inl sa)))
  | (.inr ta3) => (
   some (.inr (.inl sa)))
 else
 some (.inr (.inr ()))
noncomputable def T_field_Apart_L2 (a0 : List D) (a1 : List D) (sa : (Int)) : List (Nat × AV) := [(4, .ptr 0 0 0 0 0), (7, .ptr 11 0 0 0 0), (8, .d (B false)), (9, .d (I 0)), (10, .ptr 24 0 0 0 0), (29, .d (.agg [.lst false 2 a0, .lst false 2 a1, .lst false 2 a1, .lst false 2 a0])), (30, .d (I 0)), (36, .d (I ((a0).length : Int))), (37, .d (I sa))]
noncomputable def H_field_Apart_L2 (a0 : List D) (a1 : List D) (sa : (Int)) : List (Nat × Blk) := [(0, .box (.d (.agg [I 0, I 0]))), (11, .box (.d (.agg [I 0, I 0]))), (24, .box (.d (.agg [.lst false 2 a0, .lst false 2 a1])))]
noncomputable def X_field_Apart_L2 (a0 : List D) (a1 : List D) (e : (Int) ⊕ (Unit)) : Ex := match e with
  | (.inl e) => (.exit 0)
  | (.inr e) => (.exit 2)
noncomputable def XT_field_Apart_L2 (a0 : List D) (a1 : List D) (e : (Int) ⊕ (Unit)) : List (Nat × AV) := match e with
  | (.inl e) => [(4, .ptr 0 0 0 0 0), (7, .ptr 11 0 0 0 0), (8, .d (B true))]
  | (.inr e) => [(4, .ptr 0 0 0 0 0), (7, .ptr 11 0 0 0 0), (8, .d (B false)), (29, .d (.agg [.lst false 2 a0, .lst false 2 a1, .lst false 2 a1, .lst false 2 a0])), (30, .d (I 0))]
noncomputable def XH_field_Apart_L2 (a0 : List D) (a1 : List D) (e : (Int) ⊕ (Unit)) : List (Nat × Blk) := match e with
  | (.inl e) => [(0, .box (.d (.agg [I 0, I 0]))), (11, .box (.d (.agg [I 0, I e])))]
  | (.inr e) => [(0, .box (.d (.agg [I 0, I 0]))), (11, .box (.d (.agg [I 0, I 0])))]
theorem R_field_Apart_L2 {n : Nat} {a0 : List D} {a1 : List D} (sa : (Int)) (r) (h : F_field_Apart_L2 n a0 a1 sa = some r) : Rd cx (loopAt cx.P 15 1) 58 0 false (T_field_Apart_L2 a0 a1) (H_field_Apart_L2 a0 a1) (X_field_Apart_L2 a0 a1) (XT_field_Apart_L2 a0 a1) (XH_field_Apart_L2 a0 a1) sa r := by
 unfold F_field_Apart_L2 at h
 by_cases ha1 : sa < ((a0).length : Int)
 ·replace h := it h ha1
  obtain ⟨ta2, ha2, h⟩ := bo h; obtain ⟨ta3, ha3, h⟩ := bo h
  rcases ta3 with ta3 | ta3
  ·by_cases ha4 : ta3 ≥ 0
   ·replace h := it h ha4
    obtain ⟨ha5, h⟩ := gd h
    obtain rfl := oi h
    exact ⟨100, 31, [.br true, .ret (.agg [I ta2.1, I ta2.2.1, I ta2.2.2.1, I ta2.2.2.2]), .br true, .br true, .lp [] [0, 1, 7, 8] [0, 11, 24, 38] .ret [(4, .d (I ta3))] [(0, .box (.d (.agg [I 0, I 0]))), (11, .box (.d (.agg [I 0, I 0]))), (24, .box (.d (.agg [.lst false 2 a0, .lst false 2 a1]))), (38, .box (.d (.agg [I ta2.1, I ta2.2.1, I ta2.2.2.1, I ta2.2.2.2])))] 87, .br false], [], [4, 7, 8, 9, 10, 29, 30, 36, 37], [0, 11, 24], round_fr (allC ha5 (allC (notf (decide_eq_true ha4)) (allC (loopF_to R_field_Apart_L1 ha3) (allC (c_field_edge ha2) (allC (decide_eq_true ha1) allN))))) (by kernel_rfl)⟩
   ·replace h := jf h ha4
    obtain rfl := oi h
    exact ⟨⟨100, 31, [.br true, .ret (.agg [I ta2.1, I ta2.2.1, I ta2.2.2.1, I ta2.2.2.2]), .br true, .br true, .lp [] [0, 1, 7, 8] [0, 11, 24, 38] .ret [(4, .d (I ta3))] [(0, .box (.d (.agg [I 0, I 0]))), (11, .box (.d (.agg [I 0, I 0]))), (24, .box (.d (.agg [.lst false 2 a0, .lst false 2 a1]))), (38, .box (.d (.agg [I ta2.1, I ta2.2.1, I ta2.2.2.1, I ta2.2.2.2])))] 87, .br true], [], [4, 7, 8], [0, 11], round_fr (allC (nott (decide_eq_false ha4)) (allC (loopF_to R_field_Apart_L1 ha3) (allC (c_field_edge ha2) (allC (decide_eq_true ha1) allN)))) (by kernel_rfl)⟩, nofun⟩
  ·obtain rfl := oi h
   exact ⟨⟨100, 31, [.br true, .ret (.agg [I ta2.1, I ta2.2.1, I ta2.2.2.1, I ta2.2.2.2]), .br true, .br true, .lp [] [0, 1, 7, 8] [0, 11, 24, 38] (.exit 0) [] [(0, .box (.d (.agg [I 0, I 0]))), (11, .box (.d (.agg [I 0, I 0]))), (24, .box (.d (.agg [.lst false 2 a0, .lst false 2 a1]))), (38, .box (.d (.agg [I ta2.1, I ta2.2.1, I ta2.2.2.1, I ta2.2.2.2])))] 87, .no], [], [4, 7, 8], [0, 11], round_fr (allC (loopF_to R_field_Apart_L1 ha3) (allC (c_field_edge ha2) (allC (decide_eq_true ha1) allN))) (by kernel_rfl)⟩, nofun⟩
 ·replace h := jf h ha1
  obtain rfl := oi h
  exact ⟨⟨100, 31, [.br false], [], [4, 7, 8, 29, 30], [0, 11], round_fr (allC (decide_eq_false ha1) allN) (by kernel_rfl)⟩, nofun⟩
def F_field_Apart_L3 (n : Nat) (a0 : List D) (a1 : List D) (ta2 : Int × Int × Int × Int) (sb : (Int)) : Option (((Int)) ⊕ ((Int) ⊕ (Unit))) :=
 if sb < ((a0).length : Int) then
  (el un_Ai2Z a0 sb).bind fun tb2 =>
  (F_field_left n ta2.1 ta2.2.1 ta2.2.2.1 ta2.2.2.2 tb2.1 tb2.2).bind fun tb3 =>
  if tb3 > 0 then
  some (.inr (.inl sb))
  else
  if inI64 (sb + 1) then
  some (.inl (sb + 1))
  else none
 else
 some (.inr (.inr ()))
noncomputable def T_field_Apart_L3 (a0 : List D) (a1 : List D) (ta2 : Int × Int × Int × Int) (sb : (Int)) : List (Nat × AV) := [(0, .d (.lst false 2 a0)), (1, .fn (.func 53) [] [.ptr 123 0 0 0 0]), (7, .d (I ((a0).length : Int))), (8, .d (I sb))]
noncomputable def H_field_Apart_L3 (a0 : List D) (a1 : List D) (ta2 : Int × Int × Int × Int) (sb : (Int)) : List (Nat × Blk) := [(0, .box (.d (.agg [I 0, I 0]))), (11, .box (.d (.agg [I 0, I 0]))), (109, .box (.d (.agg [.lst false 2 a1, .lst false 2 a0]))), (123, .box (.d (.agg [I ta2.1, I ta2.2.1, I ta2.2.2.1, I ta2.2.2.2])))]
noncomputable def X_field_Apart_L3 (a0 : List D) (a1 : List D) (ta2 : Int × Int × Int × Int) (e : (Int) ⊕ (Unit)) : Ex := match e with
  | (.inl e) => .ret
  | (.inr e) => (.exit 0)
noncomputable def XT_field_Apart_L3 (a0 : List D) (a1 : List D) (ta2 : Int × Int × Int × Int) (e : (Int) ⊕ (Unit)) : List (Nat × AV) := match e with
  | (.inl e) => [(4, .d (I e))]
  | (.inr e) => []
noncomputable def XH_field_Apart_L3 (a0 : List D) (a1 : List D) (ta2 : Int × Int × Int × Int) (e : (Int) ⊕ (Unit)) : List (Nat × Blk) := match e with
  | (.inl e) => [(0, .box (.d (.agg [I 0, I 0]))), (11, .box (.d (.agg [I 0, I 0]))), (109, .box (.d (.agg [.lst false 2 a1, .lst false 2 a0]))), (123, .box (.d (.agg [I ta2.1, I ta2.2.1, I ta2.2.2.1, I ta2.2.2.2])))]
  | (.inr e) => [(0, .box (.d (.agg [I 0, I 0]))), (11, .box (.d (.agg [I 0, I 0]))), (109, .box (.d (.agg [.lst false 2 a1, .lst false 2 a0]))), (123, .box (.d (.agg [I ta2.1, I ta2.2.1, I ta2.2.2.1, I ta2.2.2.2])))]
theorem R_field_Apart_L3 {n : Nat} {a0 : List D} {a1 : List D} {ta2 : Int × Int × Int × Int} (sb : (Int)) (r) (h : F_field_Apart_L3 n a0 a1 ta2 sb = some r) : Rd cx (loopAt cx.P 87 0) 19 136 false (T_field_Apart_L3 a0 a1 ta2) (H_field_Apart_L3 a0 a1 ta2) (X_field_Apart_L3 a0 a1 ta2) (XT_field_Apart_L3 a0 a1 ta2) (XH_field_Apart_L3 a0 a1 ta2) sb r := by
 unfold F_field_Apart_L3 at h
 by_cases hb1 : sb < ((a0).length : Int)
 ·replace h := it h hb1
  obtain ⟨tb2, hb2, h⟩ := bo h; obtain ⟨tb3, hb3, h⟩ := bo h
  by_cases hb4 : tb3 > 0
  ·replace h := it h hb4
   obtain rfl := oi h
   exact ⟨⟨100, 140, [.br true, .el (enc_Ai2Z tb2), .br true, .ret (I tb3), .br true], [], [4], [0, 11, 109, 123], round_fr (allC (decide_eq_true hb4) (allC (c_field_left hb3) (allC (el_ok un_Ai2Z_ok hb2).1 (allC (el_ok un_Ai2Z_ok hb2).2 (allC (decide_eq_true hb1) allN))))) (by kernel_rfl)⟩, nofun⟩
  ·replace h := jf h hb4
   obtain ⟨hb5, h⟩ := gd h
   obtain rfl := oi h
   exact ⟨100, 140, [.br true, .el (enc_Ai2Z tb2), .br true, .ret (I tb3), .br false], [], [0, 1, 7, 8], [0, 11, 109, 123], round_fr (allC hb5 (allC (decide_eq_false hb4) (allC (c_field_left hb3) (allC (el_ok un_Ai2Z_ok hb2).1 (allC (el_ok un_Ai2Z_ok hb2).2 (allC (decide_eq_true hb1) allN)))))) (by kernel_rfl)⟩
 ·replace h := jf h hb1
  obtain rfl := oi h
  exact ⟨⟨100, 140, [.br false], [], [], [0, 11, 109, 123], round_fr (allC (decide_eq_false hb1) allN) (by kernel_rfl)⟩, nofun⟩
def F_field_Apart_L4 (n : Nat) (a0 : List D) (a1 : List D) (sa : (Int)) : Option (((Int)) ⊕ ((Int) ⊕ (Unit))) :=
 if sa < ((a1).length : Int) then
  (F_field_edge n a1 sa).bind fun ta2 =>
  (loopF (F_field_Apart_L3 n a0 a1 ta2) n 0).bind fun ta3 => match ta3 with
  | (.inl ta3) => (
   if ta3 ≥ 0 then
   if inI64 (sa + 1) then
   some (.inl (sa + 1))
   else none
   else
   some (.inr (.inl sa)))
  | (.inr ta3) => (
   some (.inr (.inl sa)))
 else
 some (.inr (.inr ()))
noncomputable def T_field_Apart_L4 (a0 : List D) (a1 : List D) (sa : (Int)) : List (Nat × AV) := [(4, .ptr 0 0 0 0 0), (7, .ptr 11 0 0 0 0), (8, .d (B false)), (9, .d (I 1)), (10, .ptr 109 0 0 0 0), (29, .d (.agg [.lst false 2 a0, .lst false 2 a1, .lst false 2 a1, .lst false 2 a0])), (30, .d (I 1)), (36, .d (I ((a1).length : Int))), (37, .d (I sa))]
noncomputable def H_field_Apart_L4 (a0 : List D) (a1 : List D) (sa : (Int)) : List (Nat × Blk) := [(0, .box (.d (.agg [I 0, I 0]))), (11, .box (.d (.agg [I 0, I 0]))), (109, .box (.d (.agg [.lst false 2 a1, .lst false 2 a0])))]
noncomputable def X_field_Apart_L4 (a0 : List D) (a1 : List D) (e : (Int) ⊕ (Unit)) : Ex := match e with
  | (.inl e) => (.exit 0)
  | (.inr e) => (.exit 2)
noncomputable def XT_field_Apart_L4 (a0 : List D) (a1 : List D) (e : (Int) ⊕ (Unit)) : List (Nat × AV) := match e with
  | (.inl e) => [(4, .ptr 0 0 0 0 0), (7, .ptr 11 0 0 0 0), (8, .d (B true))]
  | (.inr e) => [(4, .ptr 0 0 0 0 0), (7, .ptr 11 0 0 0 0), (8, .d (B false)), (29, .d (.agg [.lst false 2 a0, .lst false 2 a1, .lst false 2 a1, .lst false 2 a0])), (30, .d (I 1))]
noncomputable def XH_field_Apart_L4 (a0 : List D) (a1 : List D) (e : (Int) ⊕ (Unit)) : List (Nat × Blk) := match e with
  | (.inl e) => [(0, .box (.d (.agg [I 0, I 0]))), (11, .box (.d (.agg [I 1, I e])))]
  | (.inr e) => [(0, .box (.d (.agg [I 0, I 0]))), (11, .box (.d (.agg [I 0, I 0])))]
theorem R_field_Apart_L4 {n : Nat} {a0 : List D} {a1 : List D} (sa : (Int)) (r) (h : F_field_Apart_L4 n a0 a1 sa = some r) : Rd cx (loopAt cx.P 15 1) 58 0 false (T_field_Apart_L4 a0 a1) (H_field_Apart_L4 a0 a1) (X_field_Apart_L4 a0 a1) (XT_field_Apart_L4 a0 a1) (XH_field_Apart_L4 a0 a1) sa r := by
 unfold F_field_Apart_L4 at h
 by_cases ha1 : sa < ((a1).length : Int)
 ·replace h := it h ha1
  obtain ⟨ta2, ha2, h⟩ := bo h; obtain ⟨ta3, ha3, h⟩ := bo h
  rcases ta3 with ta3 | ta3
  ·by_cases ha4 : ta3 ≥ 0
   ·replace h := it h ha4
    obtain ⟨ha5, h⟩ := gd h
    obtain rfl := oi h
    exact ⟨100, 116, [.br true, .ret (.agg [I ta2.1, I ta2.2.1, I ta2.2.2.1, I ta2.2.2.2]), .br true, .br true, .lp [] [0, 1, 7, 8] [0, 11, 109, 123] .ret [(4, .d (I ta3))] [(0, .box (.d (.agg [I 0, I 0]))), (11, .box (.d (.agg [I 0, I 0]))), (109, .box (.d (.agg [.lst false 2 a1, .lst false 2 a0]))), (123, .box (.d (.agg [I ta2.1, I ta2.2.1, I ta2.2.2.1, I ta2.2.2.2])))] 172, .br false], [], [4, 7, 8, 9, 10, 29, 30, 36, 37], [0, 11, 109], round_fr (allC ha5 (allC (notf (decide_eq_true ha4)) (allC (loopF_to R_field_Apart_L3 ha3) (allC (c_field_edge ha2) (allC (decide_eq_true ha1) allN))))) (by kernel_rfl)⟩
   ·replace h := jf h ha4
    obtain rfl := oi h
    exact ⟨⟨100, 116, [.br true, .ret (.agg [I ta2.1, I ta2.2.1, I ta2.2.2.1, I ta2.2.2.2]), .br true, .br true, .lp [] [0, 1, 7, 8] [0, 11, 109, 123] .ret [(4, .d (I ta3))] [(0, .box (.d (.agg [I 0, I 0]))), (11, .box (.d (.agg [I 0, I 0]))), (109, .box (.d (.agg [.lst false 2 a1, .lst false 2 a0]))), (123, .box (.d (.agg [I ta2.1, I ta2.2.1, I ta2.2.2.1, I ta2.2.2.2])))] 172, .br true], [], [4, 7, 8], [0, 11], round_fr (allC (nott (decide_eq_false ha4)) (allC (loopF_to R_field_Apart_L3 ha3) (allC (c_field_edge ha2) (allC (decide_eq_true ha1) allN)))) (by kernel_rfl)⟩, nofun⟩
  ·obtain rfl := oi h
   exact ⟨⟨100, 116, [.br true, .ret (.agg [I ta2.1, I ta2.2.1, I ta2.2.2.1, I ta2.2.2.2]), .br true, .br true, .lp [] [0, 1, 7, 8] [0, 11, 109, 123] (.exit 0) [] [(0, .box (.d (.agg [I 0, I 0]))), (11, .box (.d (.agg [I 0, I 0]))), (109, .box (.d (.agg [.lst false 2 a1, .lst false 2 a0]))), (123, .box (.d (.agg [I ta2.1, I ta2.2.1, I ta2.2.2.1, I ta2.2.2.2])))] 172, .no], [], [4, 7, 8], [0, 11], round_fr (allC (loopF_to R_field_Apart_L3 ha3) (allC (c_field_edge ha2) (allC (decide_eq_true ha1) allN))) (by kernel_rfl)⟩, nofun⟩
 ·replace h := jf h ha1
  obtain rfl := oi h
  exact ⟨⟨100, 116, [.br false], [], [4, 7, 8, 29, 30], [0, 11], round_fr (allC (decide_eq_false ha1) allN) (by kernel_rfl)⟩, nofun⟩
end Go.Proofs.YtbjnjffckhdhgaaGreatDoor
