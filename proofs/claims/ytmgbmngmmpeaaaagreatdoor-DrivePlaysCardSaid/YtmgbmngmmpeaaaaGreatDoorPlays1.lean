/-
  Printed by gsx.py: functions of the program as Lean functions, and that the code computes them.
-/
import Derived.Test.YtmgbmngmmpeaaaaGreatDoorGen8
set_option linter.unusedVariables false
set_option linter.unusedSimpArgs false
set_option linter.unnecessarySimpa false
set_option maxRecDepth 10000
namespace Go.Proofs.YtmgbmngmmpeaaaaGreatDoor
open Go.SX
def enc_i28 (x : Int) : D := .v (.int .i8 x)
def un_i28 (d : D) : Option (Int) := un_int .i8 d
theorem un_i28_ok {d : D} {x : Int} (h : un_i28 d = some x) : d = enc_i28 x := un_int_ok h
def F_law03_DrivePlays_L1 (n : Nat) (a0 : Int) (a1 : Int) (a2 : Int) (a3 : Int) (a4 : Int) (a5 : Int) (a6 : List D) (sa : (Int × Int × Int × List D)) : Option (((Int × Int × Int × List D)) ⊕ ((Int × Int × List D))) :=
  if sa.2.2.1 < ((a6).length : Int) then
    (el un_i28 a6 sa.2.2.1).bind fun ta2 =>
    if inI64 (a0 - sa.2.1) then
    if inI64 (a1 - sa.2.1) then
    if roomP 8 ((sa.2.2.2).length + 1) then
    if inI64 (sa.2.1 + (maxI (a0 - sa.2.1) (minI (a1 - sa.2.1) (IntKind.wrap .i64 ta2)))) then
    if sa.1 > (sa.2.1 + (maxI (a0 - sa.2.1) (minI (a1 - sa.2.1) (IntKind.wrap .i64 ta2)))) then
      if inI64 ((sa.2.1 + (maxI (a0 - sa.2.1) (minI (a1 - sa.2.1) (IntKind.wrap .i64 ta2)))) - a2) then
      if (sa.2.1 + (maxI (a0 - sa.2.1) (minI (a1 - sa.2.1) (IntKind.wrap .i64 ta2)))) < ((sa.2.1 + (maxI (a0 - sa.2.1) (minI (a1 - sa.2.1) (IntKind.wrap .i64 ta2)))) - a2) then
        if inI64 (sa.2.2.1 + 1) then
        some (.inl (((sa.2.1 + (maxI (a0 - sa.2.1) (minI (a1 - sa.2.1) (IntKind.wrap .i64 ta2)))) - a2), (sa.2.1 + (maxI (a0 - sa.2.1) (minI (a1 - sa.2.1) (IntKind.wrap .i64 ta2)))), (sa.2.2.1 + 1), (sa.2.2.2 ++ ([I (maxI (a0 - sa.2.1) (minI (a1 - sa.2.1) (IntKind.wrap .i64 ta2)))] : List D))))
        else none
      else
      if inI64 (sa.2.2.1 + 1) then
      some (.inl ((sa.2.1 + (maxI (a0 - sa.2.1) (minI (a1 - sa.2.1) (IntKind.wrap .i64 ta2)))), (sa.2.1 + (maxI (a0 - sa.2.1) (minI (a1 - sa.2.1) (IntKind.wrap .i64 ta2)))), (sa.2.2.1 + 1), (sa.2.2.2 ++ ([I (maxI (a0 - sa.2.1) (minI (a1 - sa.2.1) (IntKind.wrap .i64 ta2)))] : List D))))
      else none
      else none
    else
    if inI64 ((sa.2.1 + (maxI (a0 - sa.2.1) (minI (a1 - sa.2.1) (IntKind.wrap .i64 ta2)))) - a2) then
    if sa.1 < ((sa.2.1 + (maxI (a0 - sa.2.1) (minI (a1 - sa.2.1) (IntKind.wrap .i64 ta2)))) - a2) then
      if inI64 (sa.2.2.1 + 1) then
      some (.inl (((sa.2.1 + (maxI (a0 - sa.2.1) (minI (a1 - sa.2.1) (IntKind.wrap .i64 ta2)))) - a2), (sa.2.1 + (maxI (a0 - sa.2.1) (minI (a1 - sa.2.1) (IntKind.wrap .i64 ta2)))), (sa.2.2.1 + 1), (sa.2.2.2 ++ ([I (maxI (a0 - sa.2.1) (minI (a1 - sa.2.1) (IntKind.wrap .i64 ta2)))] : List D))))
      else none
    else
    if inI64 (sa.2.2.1 + 1) then
    some (.inl (sa.1, (sa.2.1 + (maxI (a0 - sa.2.1) (minI (a1 - sa.2.1) (IntKind.wrap .i64 ta2)))), (sa.2.2.1 + 1), (sa.2.2.2 ++ ([I (maxI (a0 - sa.2.1) (minI (a1 - sa.2.1) (IntKind.wrap .i64 ta2)))] : List D))))
    else none
    else none
    else none
    else none
    else none
    else none
  else
  some (.inr (sa.1, sa.2.1, sa.2.2.2))
noncomputable def T_law03_DrivePlays_L1 (a0 : Int) (a1 : Int) (a2 : Int) (a3 : Int) (a4 : Int) (a5 : Int) (a6 : List D) (sa : (Int × Int × Int × List D)) : List (Nat × AV) := [(2, .d (.lst false 1 a6)), (3, .ptr 0 0 0 0 0), (4, .ptr 1 0 0 0 0), (7, .d (I sa.1)), (8, .d (I sa.2.1)), (9, .own 43 0), (61, .d (.lst false 1 a6)), (62, .d (I ((a6).length : Int))), (63, .d (I sa.2.2.1))]
noncomputable def H_law03_DrivePlays_L1 (a0 : Int) (a1 : Int) (a2 : Int) (a3 : Int) (a4 : Int) (a5 : Int) (a6 : List D) (sa : (Int × Int × Int × List D)) : List (Nat × Blk) := [(0, .box (.d (.agg [I a0, I a1, I a2]))), (1, .box (.d (.agg [I a3, I a4, I a5]))), (43, .row 0 1 sa.2.2.2)]
noncomputable def X_law03_DrivePlays_L1 (a0 : Int) (a1 : Int) (a2 : Int) (a3 : Int) (a4 : Int) (a5 : Int) (a6 : List D) (e : (Int × Int × List D)) : Ex := (.exit 0)
noncomputable def XT_law03_DrivePlays_L1 (a0 : Int) (a1 : Int) (a2 : Int) (a3 : Int) (a4 : Int) (a5 : Int) (a6 : List D) (e : (Int × Int × List D)) : List (Nat × AV) := [(2, .d (.lst false 1 a6)), (3, .ptr 0 0 0 0 0), (4, .ptr 1 0 0 0 0), (7, .d (I e.1)), (8, .d (I e.2.1)), (9, .own 43 0)]
noncomputable def XH_law03_DrivePlays_L1 (a0 : Int) (a1 : Int) (a2 : Int) (a3 : Int) (a4 : Int) (a5 : Int) (a6 : List D) (e : (Int × Int × List D)) : List (Nat × Blk) := [(0, .box (.d (.agg [I a0, I a1, I a2]))), (1, .box (.d (.agg [I a3, I a4, I a5]))), (43, .row 0 1 e.2.2)]
theorem R_law03_DrivePlays_L1 {n : Nat} {a0 : Int} {a1 : Int} {a2 : Int} {a3 : Int} {a4 : Int} {a5 : Int} {a6 : List D} (sa : (Int × Int × Int × List D)) (r) (h : F_law03_DrivePlays_L1 n a0 a1 a2 a3 a4 a5 a6 sa = some r) : Rd cx (loopAt cx.P 10 0) 280 0 false (T_law03_DrivePlays_L1 a0 a1 a2 a3 a4 a5 a6) (H_law03_DrivePlays_L1 a0 a1 a2 a3 a4 a5 a6) (X_law03_DrivePlays_L1 a0 a1 a2 a3 a4 a5 a6) (XT_law03_DrivePlays_L1 a0 a1 a2 a3 a4 a5 a6) (XH_law03_DrivePlays_L1 a0 a1 a2 a3 a4 a5 a6) sa r := by
  unfold F_law03_DrivePlays_L1 at h
  by_cases ha1 : sa.2.2.1 < ((a6).length : Int)
  · replace h := ite_t h ha1
    obtain ⟨ta2, ha2, h⟩ := bnd_of h
    obtain ⟨ha3, h⟩ := grd_of h
    obtain ⟨ha4, h⟩ := grd_of h
    obtain ⟨ha5, h⟩ := grd_of h
    obtain ⟨ha6, h⟩ := grd_of h
    by_cases ha7 : sa.1 > (sa.2.1 + (maxI (a0 - sa.2.1) (minI (a1 - sa.2.1) (IntKind.wrap .i64 ta2))))
    · replace h := ite_t h ha7
      obtain ⟨ha8, h⟩ := grd_of h
      by_cases ha9 : (sa.2.1 + (maxI (a0 - sa.2.1) (minI (a1 - sa.2.1) (IntKind.wrap .i64 ta2)))) < ((sa.2.1 + (maxI (a0 - sa.2.1) (minI (a1 - sa.2.1) (IntKind.wrap .i64 ta2)))) - a2)
      · replace h := ite_t h ha9
        obtain ⟨ha10, h⟩ := grd_of h
        replace h := Option.some.inj h
        subst h
        exact ⟨100, 44, [.br true, .el (.v (.int .i8 ta2)), .br true, .br true, .br true], [], [2, 3, 4, 7, 8, 9, 61, 62, 63], [0, 1, 43], round_of (ob := [inI64 (sa.2.2.1 + 1), inI64 ((sa.2.1 + (maxI (a0 - sa.2.1) (minI (a1 - sa.2.1) (IntKind.wrap .i64 ta2)))) - a2), (decide ((sa.2.1 + (maxI (a0 - sa.2.1) (minI (a1 - sa.2.1) (IntKind.wrap .i64 ta2)))) < ((sa.2.1 + (maxI (a0 - sa.2.1) (minI (a1 - sa.2.1) (IntKind.wrap .i64 ta2)))) - a2))) = true, inI64 ((sa.2.1 + (maxI (a0 - sa.2.1) (minI (a1 - sa.2.1) (IntKind.wrap .i64 ta2)))) - a2), (decide (sa.1 > (sa.2.1 + (maxI (a0 - sa.2.1) (minI (a1 - sa.2.1) (IntKind.wrap .i64 ta2)))))) = true, inI64 (sa.2.1 + (maxI (a0 - sa.2.1) (minI (a1 - sa.2.1) (IntKind.wrap .i64 ta2)))), room cx 3 ((sa.2.2.2).length + 1), inI64 (a1 - sa.2.1), inI64 (a0 - sa.2.1), (0 : Int) ≤ sa.2.2.1, nth (a6) (Int.toNat sa.2.2.1) = some (.v (.int .i8 ta2)), (decide (sa.2.2.1 < ((a6).length : Int))) = true]) (by kernel_rfl) ⟨ha10, ha8, (decide_eq_true ha9), ha8, (decide_eq_true ha7), ha6, (room_of (b := 8) (by kernel_rfl) (by decide) ha5), ha4, ha3, (el_ok un_i28_ok ha2).1, (el_ok un_i28_ok ha2).2, (decide_eq_true ha1), trivial⟩⟩
      · replace h := ite_f h ha9
        obtain ⟨ha10, h⟩ := grd_of h
        replace h := Option.some.inj h
        subst h
        exact ⟨100, 44, [.br true, .el (.v (.int .i8 ta2)), .br true, .br true, .br false], [], [2, 3, 4, 7, 8, 9, 61, 62, 63], [0, 1, 43], round_of (ob := [inI64 (sa.2.2.1 + 1), (decide ((sa.2.1 + (maxI (a0 - sa.2.1) (minI (a1 - sa.2.1) (IntKind.wrap .i64 ta2)))) < ((sa.2.1 + (maxI (a0 - sa.2.1) (minI (a1 - sa.2.1) (IntKind.wrap .i64 ta2)))) - a2))) = false, inI64 ((sa.2.1 + (maxI (a0 - sa.2.1) (minI (a1 - sa.2.1) (IntKind.wrap .i64 ta2)))) - a2), (decide (sa.1 > (sa.2.1 + (maxI (a0 - sa.2.1) (minI (a1 - sa.2.1) (IntKind.wrap .i64 ta2)))))) = true, inI64 (sa.2.1 + (maxI (a0 - sa.2.1) (minI (a1 - sa.2.1) (IntKind.wrap .i64 ta2)))), room cx 3 ((sa.2.2.2).length + 1), inI64 (a1 - sa.2.1), inI64 (a0 - sa.2.1), (0 : Int) ≤ sa.2.2.1, nth (a6) (Int.toNat sa.2.2.1) = some (.v (.int .i8 ta2)), (decide (sa.2.2.1 < ((a6).length : Int))) = true]) (by kernel_rfl) ⟨ha10, (decide_eq_false ha9), ha8, (decide_eq_true ha7), ha6, (room_of (b := 8) (by kernel_rfl) (by decide) ha5), ha4, ha3, (el_ok un_i28_ok ha2).1, (el_ok un_i28_ok ha2).2, (decide_eq_true ha1), trivial⟩⟩
    · replace h := ite_f h ha7
      obtain ⟨ha8, h⟩ := grd_of h
      by_cases ha9 : sa.1 < ((sa.2.1 + (maxI (a0 - sa.2.1) (minI (a1 - sa.2.1) (IntKind.wrap .i64 ta2)))) - a2)
      · replace h := ite_t h ha9
        obtain ⟨ha10, h⟩ := grd_of h
        replace h := Option.some.inj h
        subst h
        exact ⟨100, 44, [.br true, .el (.v (.int .i8 ta2)), .br true, .br false, .br true], [], [2, 3, 4, 7, 8, 9, 61, 62, 63], [0, 1, 43], round_of (ob := [inI64 (sa.2.2.1 + 1), inI64 ((sa.2.1 + (maxI (a0 - sa.2.1) (minI (a1 - sa.2.1) (IntKind.wrap .i64 ta2)))) - a2), (decide (sa.1 < ((sa.2.1 + (maxI (a0 - sa.2.1) (minI (a1 - sa.2.1) (IntKind.wrap .i64 ta2)))) - a2))) = true, inI64 ((sa.2.1 + (maxI (a0 - sa.2.1) (minI (a1 - sa.2.1) (IntKind.wrap .i64 ta2)))) - a2), (decide (sa.1 > (sa.2.1 + (maxI (a0 - sa.2.1) (minI (a1 - sa.2.1) (IntKind.wrap .i64 ta2)))))) = false, inI64 (sa.2.1 + (maxI (a0 - sa.2.1) (minI (a1 - sa.2.1) (IntKind.wrap .i64 ta2)))), room cx 3 ((sa.2.2.2).length + 1), inI64 (a1 - sa.2.1), inI64 (a0 - sa.2.1), (0 : Int) ≤ sa.2.2.1, nth (a6) (Int.toNat sa.2.2.1) = some (.v (.int .i8 ta2)), (decide (sa.2.2.1 < ((a6).length : Int))) = true]) (by kernel_rfl) ⟨ha10, ha8, (decide_eq_true ha9), ha8, (decide_eq_false ha7), ha6, (room_of (b := 8) (by kernel_rfl) (by decide) ha5), ha4, ha3, (el_ok un_i28_ok ha2).1, (el_ok un_i28_ok ha2).2, (decide_eq_true ha1), trivial⟩⟩
      · replace h := ite_f h ha9
        obtain ⟨ha10, h⟩ := grd_of h
        replace h := Option.some.inj h
        subst h
        exact ⟨100, 44, [.br true, .el (.v (.int .i8 ta2)), .br true, .br false, .br false], [], [2, 3, 4, 7, 8, 9, 61, 62, 63], [0, 1, 43], round_of (ob := [inI64 (sa.2.2.1 + 1), (decide (sa.1 < ((sa.2.1 + (maxI (a0 - sa.2.1) (minI (a1 - sa.2.1) (IntKind.wrap .i64 ta2)))) - a2))) = false, inI64 ((sa.2.1 + (maxI (a0 - sa.2.1) (minI (a1 - sa.2.1) (IntKind.wrap .i64 ta2)))) - a2), (decide (sa.1 > (sa.2.1 + (maxI (a0 - sa.2.1) (minI (a1 - sa.2.1) (IntKind.wrap .i64 ta2)))))) = false, inI64 (sa.2.1 + (maxI (a0 - sa.2.1) (minI (a1 - sa.2.1) (IntKind.wrap .i64 ta2)))), room cx 3 ((sa.2.2.2).length + 1), inI64 (a1 - sa.2.1), inI64 (a0 - sa.2.1), (0 : Int) ≤ sa.2.2.1, nth (a6) (Int.toNat sa.2.2.1) = some (.v (.int .i8 ta2)), (decide (sa.2.2.1 < ((a6).length : Int))) = true]) (by kernel_rfl) ⟨ha10, (decide_eq_false ha9), ha8, (decide_eq_false ha7), ha6, (room_of (b := 8) (by kernel_rfl) (by decide) ha5), ha4, ha3, (el_ok un_i28_ok ha2).1, (el_ok un_i28_ok ha2).2, (decide_eq_true ha1), trivial⟩⟩
  · replace h := ite_f h ha1
    replace h := Option.some.inj h
    subst h
    exact ⟨⟨100, 44, [.br false], [], [2, 3, 4, 7, 8, 9], [0, 1, 43], round_of (ob := [(decide (sa.2.2.1 < ((a6).length : Int))) = false]) (by kernel_rfl) ⟨(decide_eq_false ha1), trivial⟩⟩, nofun⟩
/- spillage/spillagelaw03.DrivePlays: .agg [I a0, I a1, I a2], .agg [I a3, I a4, I a5], .lst false 1 a6 -/
def F_law03_DrivePlays (n : Nat) (a0 : Int) (a1 : Int) (a2 : Int) (a3 : Int) (a4 : Int) (a5 : Int) (a6 : List D) : Option (Bool) :=
  (F_ref03_CheckState n a0 a1 a2 a3 a4 a5).bind fun t1 =>
  if t1 = 0 then
    if ((a6).length : Int) < 1 then
      (F_law03_awake n).bind fun t4 =>
      some t4
    else
    if ((a6).length : Int) > 8 then
      (F_law03_awake n).bind fun t5 =>
      some t5
    else
    (el un_i28 a6 0).bind fun t5 =>
    if inI64 ((IntKind.wrap .i64 t5) + 128) then
    if inI64 (a5 - a4) then
    if inI64 ((a5 - a4) + 1) then
    if ((a5 - a4) + 1) ≠ 0 then
    if inI64 (a4 + (Int.tmod ((IntKind.wrap .i64 t5) + 128) ((a5 - a4) + 1))) then
    (loopF (F_law03_DrivePlays_L1 n a0 a1 a2 a3 a4 a5 a6) n ((a4 + (Int.tmod ((IntKind.wrap .i64 t5) + 128) ((a5 - a4) + 1))), a3, 0, [])).bind fun t11 =>
    (F_law03_ints n t11.2.2).bind fun t12 =>
    (F_drive_Moved n a0 a1 a2 a3 a4 a5 t12).bind fun t13 =>
    if t13.2.2.2 = 0 then
      if t13.1 = t11.2.1 then
        if t11.1 < t13.2.1 then
          none /- false -/
        else
        if t11.1 > t13.2.2.1 then
          none /- false -/
        else
        (F_drive_CheckState n a0 a1 a2 t13.1 t13.2.1 t13.2.2.1).bind fun t18 =>
        if t18 = 0 then
          (F_drive_Referenced n a0 a1 a2 t13.1 t13.2.1 t13.2.2.1).bind fun t20 =>
          if inI64 (a0 + a2) then
          if (a0 + a2) > a1 then
            if t20.2.2.2.2 = 20 then
              (F_law03_awake n).bind fun t24 =>
              some t24
            else
            none /- false -/
          else
          if t20.2.2.2.2 = 0 then
            if ((t20.2.1 == a0) && ((t20.2.2.1 == a0) && true)) = true then
              if t20.1 = (a0 + a2) then
                if inI64 (a0 - t11.2.1) then
                (F_ref01_SameInts n t20.2.2.2.1 ([I (a0 - t11.2.1), I a2])).bind fun t27 =>
                if t27 = true then
                  (F_law03_ints n t20.2.2.2.1).bind fun t29 =>
                  (F_drive_Moved n a0 a1 a2 t13.1 t13.2.1 t13.2.2.1 t29).bind fun t30 =>
                  if inI64 (a1 - t20.1) then
                  if inI64 (((a6).length : Int) - 1) then
                  (el un_i28 a6 (((a6).length : Int) - 1)).bind fun t33 =>
                  if inI64 ((IntKind.wrap .i64 t33) + 128) then
                  (F_drive_Moved n a0 a1 a2 t20.1 t20.2.1 t20.2.2.1 ([I (minI (a1 - t20.1) (Int.tmod ((IntKind.wrap .i64 t5) + 128) 30))])).bind fun t35 =>
                  (F_drive_Moved n a0 a1 a2 t20.1 t20.2.1 t20.2.2.1 ([I (minI (a1 - t20.1) (Int.tmod ((IntKind.wrap .i64 t5) + 128) 30)), I (IntKind.wrap .i64 (0 - (minI a2 (Int.tmod ((IntKind.wrap .i64 t33) + 128) 51))))])).bind fun t36 =>
                  if t30.2.2.2 = 0 then
                    if ((t30.1 == t20.1) && (((t30.2.1 == t20.2.1) && ((t30.2.2.1 == t20.2.2.1) && true)) && true)) = true then
                      if t35.2.2.2 = 0 then
                        if t36.2.2.2 = 0 then
                          if ((t36.2.1 == t35.2.1) && ((t36.2.2.1 == t35.2.2.1) && true)) = true then
                            if inI64 (a0 + (minI (a1 - t20.1) (Int.tmod ((IntKind.wrap .i64 t5) + 128) 30))) then
                            if ((t35.2.1 == (a0 + (minI (a1 - t20.1) (Int.tmod ((IntKind.wrap .i64 t5) + 128) 30)))) && ((t35.2.2.1 == (a0 + (minI (a1 - t20.1) (Int.tmod ((IntKind.wrap .i64 t5) + 128) 30)))) && true)) = true then
                              (F_law03_awake n).bind fun t44 =>
                              some t44
                            else
                            none /- false -/
                            else none
                          else
                          none /- false -/
                        else
                        none /- false -/
                      else
                      none /- false -/
                    else
                    none /- false -/
                  else
                  none /- false -/
                  else none
                  else none
                  else none
                else
                none /- false -/
                else none
              else
              none /- false -/
            else
            none /- false -/
          else
          none /- false -/
          else none
        else
        none /- false -/
      else
      none /- false -/
    else
    none /- false -/
    else none
    else none
    else none
    else none
    else none
  else
  (F_law03_awake n).bind fun t3 =>
  some t3
theorem c_law03_DrivePlays {n : Nat} {a0 : Int} {a1 : Int} {a2 : Int} {a3 : Int} {a4 : Int} {a5 : Int} {a6 : List D} {r : Bool} (h : F_law03_DrivePlays n a0 a1 a2 a3 a4 a5 a6 = some r) : Computes cx 10 [.agg [I a0, I a1, I a2], .agg [I a3, I a4, I a5], .lst false 1 a6] (B r) := by
  unfold F_law03_DrivePlays at h
  obtain ⟨t1, h1, h⟩ := bnd_of h
  by_cases h2 : t1 = 0
  · replace h := ite_t h h2
    by_cases h3 : ((a6).length : Int) < 1
    · replace h := ite_t h h3
      obtain ⟨t4, h4, h⟩ := bnd_of h
      replace h := Option.some.inj h
      subst h
      exact run (n := 100) (f := 10) (args := [.agg [I a0, I a1, I a2], .agg [I a3, I a4, I a5], .lst false 1 a6]) (orc := [.ret (I t1), .br false, .br true, .no, .ret (B t4)]) (r := B t4) (ob := [Computes cx 19 [] (B t4), (decide (((a6).length : Int) < 1)) = true, (t1 != 0) = false, Computes cx 23 [.agg [I a0, I a1, I a2], .agg [I a3, I a4, I a5]] (I t1)]) (by kernel_rfl) ⟨(c_law03_awake h4), (decide_eq_true h3), (nef h2), (c_ref03_CheckState h1), trivial⟩
    · replace h := ite_f h h3
      by_cases h4 : ((a6).length : Int) > 8
      · replace h := ite_t h h4
        obtain ⟨t5, h5, h⟩ := bnd_of h
        replace h := Option.some.inj h
        subst h
        exact run (n := 100) (f := 10) (args := [.agg [I a0, I a1, I a2], .agg [I a3, I a4, I a5], .lst false 1 a6]) (orc := [.ret (I t1), .br false, .br false, .br true, .ret (B t5)]) (r := B t5) (ob := [Computes cx 19 [] (B t5), (decide (((a6).length : Int) > 8)) = true, (decide (((a6).length : Int) < 1)) = false, (t1 != 0) = false, Computes cx 23 [.agg [I a0, I a1, I a2], .agg [I a3, I a4, I a5]] (I t1)]) (by kernel_rfl) ⟨(c_law03_awake h5), (decide_eq_true h4), (decide_eq_false h3), (nef h2), (c_ref03_CheckState h1), trivial⟩
      · replace h := ite_f h h4
        obtain ⟨t5, h5, h⟩ := bnd_of h
        obtain ⟨h6, h⟩ := grd_of h
        obtain ⟨h7, h⟩ := grd_of h
        obtain ⟨h8, h⟩ := grd_of h
        obtain ⟨h9, h⟩ := grd_of h
        obtain ⟨h10, h⟩ := grd_of h
        obtain ⟨t11, h11, h⟩ := bnd_of h
        obtain ⟨t12, h12, h⟩ := bnd_of h
        obtain ⟨t13, h13, h⟩ := bnd_of h
        by_cases h14 : t13.2.2.2 = 0
        · replace h := ite_t h h14
          by_cases h15 : t13.1 = t11.2.1
          · replace h := ite_t h h15
            by_cases h16 : t11.1 < t13.2.1
            · replace h := ite_t h h16
              cases h
            · replace h := ite_f h h16
              by_cases h17 : t11.1 > t13.2.2.1
              · replace h := ite_t h h17
                cases h
              · replace h := ite_f h h17
                obtain ⟨t18, h18, h⟩ := bnd_of h
                by_cases h19 : t18 = 0
                · replace h := ite_t h h19
                  obtain ⟨t20, h20, h⟩ := bnd_of h
                  obtain ⟨h21, h⟩ := grd_of h
                  by_cases h22 : (a0 + a2) > a1
                  · replace h := ite_t h h22
                    by_cases h23 : t20.2.2.2.2 = 20
                    · replace h := ite_t h h23
                      obtain ⟨t24, h24, h⟩ := bnd_of h
                      replace h := Option.some.inj h
                      subst h
                      exact run (n := 100) (f := 10) (args := [.agg [I a0, I a1, I a2], .agg [I a3, I a4, I a5], .lst false 1 a6]) (orc := [.ret (I t1), .br false, .br false, .br false, .el (.v (.int .i8 t5)), .lp [9, 1] [2, 3, 4, 7, 8, 9, 61, 62, 63] [0, 1, 43] (.exit 0) [(2, .d (.lst false 1 a6)), (3, .ptr 0 0 0 0 0), (4, .ptr 1 0 0 0 0), (7, .d (I t11.1)), (8, .d (I t11.2.1)), (9, .own 43 0)] [(0, .box (.d (.agg [I a0, I a1, I a2]))), (1, .box (.d (.agg [I a3, I a4, I a5]))), (43, .row 0 1 t11.2.2)] 99, .lp [] [] [43] .ret [] [] 0, .ret (.lst false 1 t12), .ret (.tup [.agg [I t13.1, I t13.2.1, I t13.2.2.1], I t13.2.2.2]), .br false, .br false, .br false, .br false, .ret (I t18), .br false, .ret (.tup [.agg [I t20.1, I t20.2.1, I t20.2.2.1], .lst false 1 t20.2.2.2.1, I t20.2.2.2.2]), .br true, .br true, .ret (B t24)]) (r := B t24) (ob := [Computes cx 19 [] (B t24), (t20.2.2.2.2 == 20) = true, (decide ((a0 + a2) > a1)) = true, inI64 (a0 + a2), Computes cx 22 [.agg [I a0, I a1, I a2], .agg [I t13.1, I t13.2.1, I t13.2.2.1]] (.tup [.agg [I t20.1, I t20.2.1, I t20.2.2.1], .lst false 1 t20.2.2.2.1, I t20.2.2.2.2]), (t18 != 0) = false, Computes cx 30 [.agg [I a0, I a1, I a2], .agg [I t13.1, I t13.2.1, I t13.2.2.1]] (I t18), (decide (t11.1 > t13.2.2.1)) = false, (decide (t11.1 < t13.2.1)) = false, (t13.1 != t11.2.1) = false, (t13.2.2.2 != 0) = false, Computes cx 20 [.agg [I a0, I a1, I a2], .agg [I a3, I a4, I a5], .lst false 1 t12] (.tup [.agg [I t13.1, I t13.2.1, I t13.2.2.1], I t13.2.2.2]), Computes cx 21 [.lst false 1 t11.2.2] (.lst false 1 t12), LoopN cx (loopAt cx.P 10 0) 280 0 false [(2, .d (.lst false 1 a6)), (3, .ptr 0 0 0 0 0), (4, .ptr 1 0 0 0 0), (7, .d (I (a4 + (Int.tmod ((IntKind.wrap .i64 t5) + 128) ((a5 - a4) + 1))))), (8, .d (I a3)), (9, .own 43 0), (61, .d (.lst false 1 a6)), (62, .d (I ((a6).length : Int))), (63, .d (I 0))] [(0, .box (.d (.agg [I a0, I a1, I a2]))), (1, .box (.d (.agg [I a3, I a4, I a5]))), (43, .row 0 1 [])] (.exit 0) [(2, .d (.lst false 1 a6)), (3, .ptr 0 0 0 0 0), (4, .ptr 1 0 0 0 0), (7, .d (I t11.1)), (8, .d (I t11.2.1)), (9, .own 43 0)] [(0, .box (.d (.agg [I a0, I a1, I a2]))), (1, .box (.d (.agg [I a3, I a4, I a5]))), (43, .row 0 1 t11.2.2)], inI64 (a4 + (Int.tmod ((IntKind.wrap .i64 t5) + 128) ((a5 - a4) + 1))), ((a5 - a4) + 1) ≠ 0, inI64 ((a5 - a4) + 1), inI64 (a5 - a4), inI64 ((IntKind.wrap .i64 t5) + 128), (0 : Int) ≤ 0, nth (a6) (Int.toNat 0) = some (.v (.int .i8 t5)), (decide (((a6).length : Int) > 8)) = false, (decide (((a6).length : Int) < 1)) = false, (t1 != 0) = false, Computes cx 23 [.agg [I a0, I a1, I a2], .agg [I a3, I a4, I a5]] (I t1)]) (by kernel_rfl) ⟨(c_law03_awake h24), (eqt h23), (decide_eq_true h22), h21, (c_drive_Referenced h20), (nef h19), (c_drive_CheckState h18), (decide_eq_false h17), (decide_eq_false h16), (nef h15), (nef h14), (c_drive_Moved h13), (c_law03_ints h12), (loopF_to R_law03_DrivePlays_L1 h11), h10, h9, h8, h7, h6, (el_ok un_i28_ok h5).1, (el_ok un_i28_ok h5).2, (decide_eq_false h4), (decide_eq_false h3), (nef h2), (c_ref03_CheckState h1), trivial⟩
                    · replace h := ite_f h h23
                      cases h
                  · replace h := ite_f h h22
                    by_cases h23 : t20.2.2.2.2 = 0
                    · replace h := ite_t h h23
                      by_cases h24 : ((t20.2.1 == a0) && ((t20.2.2.1 == a0) && true)) = true
                      · replace h := ite_t h h24
                        by_cases h25 : t20.1 = (a0 + a2)
                        · replace h := ite_t h h25
                          obtain ⟨h26, h⟩ := grd_of h
                          obtain ⟨t27, h27, h⟩ := bnd_of h
                          by_cases h28 : t27 = true
                          · replace h := ite_t h h28
                            obtain ⟨t29, h29, h⟩ := bnd_of h
                            obtain ⟨t30, h30, h⟩ := bnd_of h
                            obtain ⟨h31, h⟩ := grd_of h
                            obtain ⟨h32, h⟩ := grd_of h
                            obtain ⟨t33, h33, h⟩ := bnd_of h
                            obtain ⟨h34, h⟩ := grd_of h
                            obtain ⟨t35, h35, h⟩ := bnd_of h
                            obtain ⟨t36, h36, h⟩ := bnd_of h
                            by_cases h37 : t30.2.2.2 = 0
                            · replace h := ite_t h h37
                              by_cases h38 : ((t30.1 == t20.1) && (((t30.2.1 == t20.2.1) && ((t30.2.2.1 == t20.2.2.1) && true)) && true)) = true
                              · replace h := ite_t h h38
                                by_cases h39 : t35.2.2.2 = 0
                                · replace h := ite_t h h39
                                  by_cases h40 : t36.2.2.2 = 0
                                  · replace h := ite_t h h40
                                    by_cases h41 : ((t36.2.1 == t35.2.1) && ((t36.2.2.1 == t35.2.2.1) && true)) = true
                                    · replace h := ite_t h h41
                                      obtain ⟨h42, h⟩ := grd_of h
                                      by_cases h43 : ((t35.2.1 == (a0 + (minI (a1 - t20.1) (Int.tmod ((IntKind.wrap .i64 t5) + 128) 30)))) && ((t35.2.2.1 == (a0 + (minI (a1 - t20.1) (Int.tmod ((IntKind.wrap .i64 t5) + 128) 30)))) && true)) = true
                                      · replace h := ite_t h h43
                                        obtain ⟨t44, h44, h⟩ := bnd_of h
                                        replace h := Option.some.inj h
                                        subst h
                                        exact run (n := 100) (f := 10) (args := [.agg [I a0, I a1, I a2], .agg [I a3, I a4, I a5], .lst false 1 a6]) (orc := [.ret (I t1), .br false, .br false, .br false, .el (.v (.int .i8 t5)), .lp [9, 1] [2, 3, 4, 7, 8, 9, 61, 62, 63] [0, 1, 43] (.exit 0) [(2, .d (.lst false 1 a6)), (3, .ptr 0 0 0 0 0), (4, .ptr 1 0 0 0 0), (7, .d (I t11.1)), (8, .d (I t11.2.1)), (9, .own 43 0)] [(0, .box (.d (.agg [I a0, I a1, I a2]))), (1, .box (.d (.agg [I a3, I a4, I a5]))), (43, .row 0 1 t11.2.2)] 99, .lp [] [] [43] .ret [] [] 0, .ret (.lst false 1 t12), .ret (.tup [.agg [I t13.1, I t13.2.1, I t13.2.2.1], I t13.2.2.2]), .br false, .br false, .br false, .br false, .ret (I t18), .br false, .ret (.tup [.agg [I t20.1, I t20.2.1, I t20.2.2.1], .lst false 1 t20.2.2.2.1, I t20.2.2.2.2]), .br false, .br false, .br false, .br false, .ret (B t27), .br false, .ret (.lst false 1 t29), .ret (.tup [.agg [I t30.1, I t30.2.1, I t30.2.2.1], I t30.2.2.2]), .el (.v (.int .i8 t5)), .el (.v (.int .i8 t33)), .ret (.tup [.agg [I t35.1, I t35.2.1, I t35.2.2.1], I t35.2.2.2]), .ret (.tup [.agg [I t36.1, I t36.2.1, I t36.2.2.1], I t36.2.2.2]), .br true, .br true, .br true, .br true, .br true, .br true, .ret (B t44)]) (r := B t44) (ob := [Computes cx 19 [] (B t44), ((t35.2.1 == (a0 + (minI (a1 - t20.1) (Int.tmod ((IntKind.wrap .i64 t5) + 128) 30)))) && ((t35.2.2.1 == (a0 + (minI (a1 - t20.1) (Int.tmod ((IntKind.wrap .i64 t5) + 128) 30)))) && true)) = true, inI64 (a0 + (minI (a1 - t20.1) (Int.tmod ((IntKind.wrap .i64 t5) + 128) 30))), inI64 (a0 + (minI (a1 - t20.1) (Int.tmod ((IntKind.wrap .i64 t5) + 128) 30))), ((t36.2.1 == t35.2.1) && ((t36.2.2.1 == t35.2.2.1) && true)) = true, (t36.2.2.2 == 0) = true, (t35.2.2.2 == 0) = true, ((t30.1 == t20.1) && (((t30.2.1 == t20.2.1) && ((t30.2.2.1 == t20.2.2.1) && true)) && true)) = true, (t30.2.2.2 == 0) = true, Computes cx 20 [.agg [I a0, I a1, I a2], .agg [I t20.1, I t20.2.1, I t20.2.2.1], .lst true 1 [I (minI (a1 - t20.1) (Int.tmod ((IntKind.wrap .i64 t5) + 128) 30)), I (IntKind.wrap .i64 (0 - (minI a2 (Int.tmod ((IntKind.wrap .i64 t33) + 128) 51))))]] (.tup [.agg [I t36.1, I t36.2.1, I t36.2.2.1], I t36.2.2.2]), Computes cx 20 [.agg [I a0, I a1, I a2], .agg [I t20.1, I t20.2.1, I t20.2.2.1], .lst true 1 [I (minI (a1 - t20.1) (Int.tmod ((IntKind.wrap .i64 t5) + 128) 30))]] (.tup [.agg [I t35.1, I t35.2.1, I t35.2.2.1], I t35.2.2.2]), (51 : Int) ≠ 0, inI64 ((IntKind.wrap .i64 t33) + 128), (0 : Int) ≤ (((a6).length : Int) - 1), nth (a6) (Int.toNat (((a6).length : Int) - 1)) = some (.v (.int .i8 t33)), inI64 (((a6).length : Int) - 1), (30 : Int) ≠ 0, inI64 ((IntKind.wrap .i64 t5) + 128), (0 : Int) ≤ 0, nth (a6) (Int.toNat 0) = some (.v (.int .i8 t5)), inI64 (a1 - t20.1), Computes cx 20 [.agg [I a0, I a1, I a2], .agg [I t13.1, I t13.2.1, I t13.2.2.1], .lst false 1 t29] (.tup [.agg [I t30.1, I t30.2.1, I t30.2.2.1], I t30.2.2.2]), Computes cx 21 [.lst false 1 t20.2.2.2.1] (.lst false 1 t29), (!t27) = false, Computes cx 31 [.lst false 1 t20.2.2.2.1, .lst true 1 [I (a0 - t11.2.1), I a2]] (B t27), inI64 (a0 - t11.2.1), (t20.1 != (a0 + a2)) = false, inI64 (a0 + a2), (!((t20.2.1 == a0) && ((t20.2.2.1 == a0) && true))) = false, (t20.2.2.2.2 != 0) = false, (decide ((a0 + a2) > a1)) = false, inI64 (a0 + a2), Computes cx 22 [.agg [I a0, I a1, I a2], .agg [I t13.1, I t13.2.1, I t13.2.2.1]] (.tup [.agg [I t20.1, I t20.2.1, I t20.2.2.1], .lst false 1 t20.2.2.2.1, I t20.2.2.2.2]), (t18 != 0) = false, Computes cx 30 [.agg [I a0, I a1, I a2], .agg [I t13.1, I t13.2.1, I t13.2.2.1]] (I t18), (decide (t11.1 > t13.2.2.1)) = false, (decide (t11.1 < t13.2.1)) = false, (t13.1 != t11.2.1) = false, (t13.2.2.2 != 0) = false, Computes cx 20 [.agg [I a0, I a1, I a2], .agg [I a3, I a4, I a5], .lst false 1 t12] (.tup [.agg [I t13.1, I t13.2.1, I t13.2.2.1], I t13.2.2.2]), Computes cx 21 [.lst false 1 t11.2.2] (.lst false 1 t12), LoopN cx (loopAt cx.P 10 0) 280 0 false [(2, .d (.lst false 1 a6)), (3, .ptr 0 0 0 0 0), (4, .ptr 1 0 0 0 0), (7, .d (I (a4 + (Int.tmod ((IntKind.wrap .i64 t5) + 128) ((a5 - a4) + 1))))), (8, .d (I a3)), (9, .own 43 0), (61, .d (.lst false 1 a6)), (62, .d (I ((a6).length : Int))), (63, .d (I 0))] [(0, .box (.d (.agg [I a0, I a1, I a2]))), (1, .box (.d (.agg [I a3, I a4, I a5]))), (43, .row 0 1 [])] (.exit 0) [(2, .d (.lst false 1 a6)), (3, .ptr 0 0 0 0 0), (4, .ptr 1 0 0 0 0), (7, .d (I t11.1)), (8, .d (I t11.2.1)), (9, .own 43 0)] [(0, .box (.d (.agg [I a0, I a1, I a2]))), (1, .box (.d (.agg [I a3, I a4, I a5]))), (43, .row 0 1 t11.2.2)], inI64 (a4 + (Int.tmod ((IntKind.wrap .i64 t5) + 128) ((a5 - a4) + 1))), ((a5 - a4) + 1) ≠ 0, inI64 ((a5 - a4) + 1), inI64 (a5 - a4), inI64 ((IntKind.wrap .i64 t5) + 128), (0 : Int) ≤ 0, nth (a6) (Int.toNat 0) = some (.v (.int .i8 t5)), (decide (((a6).length : Int) > 8)) = false, (decide (((a6).length : Int) < 1)) = false, (t1 != 0) = false, Computes cx 23 [.agg [I a0, I a1, I a2], .agg [I a3, I a4, I a5]] (I t1)]) (by kernel_rfl) ⟨(c_law03_awake h44), h43, h42, h42, h41, (eqt h40), (eqt h39), h38, (eqt h37), ((c_drive_Moved h36).le (.cons (.refl _) (.cons (.refl _) (.cons (.full _ _ _) (.nil)))) (.refl _)), ((c_drive_Moved h35).le (.cons (.refl _) (.cons (.refl _) (.cons (.full _ _ _) (.nil)))) (.refl _)), (by decide), h34, (el_ok un_i28_ok h33).1, (el_ok un_i28_ok h33).2, h32, (by decide), h6, (el_ok un_i28_ok h5).1, (el_ok un_i28_ok h5).2, h31, (c_drive_Moved h30), (c_law03_ints h29), (notf h28), ((c_ref01_SameInts h27).le (.cons (.refl _) (.cons (.full _ _ _) (.nil))) (.refl _)), h26, (nef h25), h21, (notf h24), (nef h23), (decide_eq_false h22), h21, (c_drive_Referenced h20), (nef h19), (c_drive_CheckState h18), (decide_eq_false h17), (decide_eq_false h16), (nef h15), (nef h14), (c_drive_Moved h13), (c_law03_ints h12), (loopF_to R_law03_DrivePlays_L1 h11), h10, h9, h8, h7, h6, (el_ok un_i28_ok h5).1, (el_ok un_i28_ok h5).2, (decide_eq_false h4), (decide_eq_false h3), (nef h2), (c_ref03_CheckState h1), trivial⟩
                                      · replace h := ite_f h h43
                                        cases h
                                    · replace h := ite_f h h41
                                      cases h
                                  · replace h := ite_f h h40
                                    cases h
                                · replace h := ite_f h h39
                                  cases h
                              · replace h := ite_f h h38
                                cases h
                            · replace h := ite_f h h37
                              cases h
                          · replace h := ite_f h h28
                            cases h
                        · replace h := ite_f h h25
                          cases h
                      · replace h := ite_f h h24
                        cases h
                    · replace h := ite_f h h23
                      cases h
                · replace h := ite_f h h19
                  cases h
          · replace h := ite_f h h15
            cases h
        · replace h := ite_f h h14
          cases h
  · replace h := ite_f h h2
    obtain ⟨t3, h3, h⟩ := bnd_of h
    replace h := Option.some.inj h
    subst h
    exact run (n := 100) (f := 10) (args := [.agg [I a0, I a1, I a2], .agg [I a3, I a4, I a5], .lst false 1 a6]) (orc := [.ret (I t1), .br true, .no, .no, .ret (B t3)]) (r := B t3) (ob := [Computes cx 19 [] (B t3), (t1 != 0) = true, Computes cx 23 [.agg [I a0, I a1, I a2], .agg [I a3, I a4, I a5]] (I t1)]) (by kernel_rfl) ⟨(c_law03_awake h3), (net h2), (c_ref03_CheckState h1), trivial⟩
end Go.Proofs.YtmgbmngmmpeaaaaGreatDoor
