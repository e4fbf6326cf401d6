/-
  Printed by gsx.py: functions of the program as Lean functions, and that the code computes them.
-/
import Derived.Test.YtmgbmngmmpeaaaaGreatDoorGen8
set_option linter.unusedVariables false
set_option linter.unusedSimpArgs false
set_option linter.unnecessarySimpa false
set_option maxRecDepth 10000
namespace Go.Proofs.YtmgbmngmmpeaaaaGreatDoor
open Go.SX
/- spillage/spillageref03.ShortSteps: .lst false 1 a0 -/
def F_ref03_ShortSteps (n : Nat) (a0 : List D) : Option (Bool) :=
  if ((a0).length : Int) ≤ 8 then
    some true
  else
  some (((a0).length : Int) == 257)
theorem c_ref03_ShortSteps {n : Nat} {a0 : List D} {r : Bool} (h : F_ref03_ShortSteps n a0 = some r) : Computes cx 18 [.lst false 1 a0] (B r) := by
  unfold F_ref03_ShortSteps at h
  by_cases h1 : ((a0).length : Int) ≤ 8
  · replace h := ite_t h h1
    replace h := Option.some.inj h
    subst h
    exact run (n := 100) (f := 18) (args := [.lst false 1 a0]) (orc := [.br true]) (r := B true) (ob := [(decide (((a0).length : Int) ≤ 8)) = true]) (by kernel_rfl) ⟨(decide_eq_true h1), trivial⟩
  · replace h := ite_f h h1
    replace h := Option.some.inj h
    subst h
    exact run (n := 100) (f := 18) (args := [.lst false 1 a0]) (orc := [.br false]) (r := B (((a0).length : Int) == 257)) (ob := [(decide (((a0).length : Int) ≤ 8)) = false]) (by kernel_rfl) ⟨(decide_eq_false h1), trivial⟩
def F_ref03_Moved_L1 (n : Nat) (a0 : Int) (a1 : Int) (a2 : Int) (a6 : List D) (sa : (Int × Int × Int × Int)) : Option (((Int × Int × Int × Int)) ⊕ ((Unit) ⊕ (Int × Int × Int))) :=
  if sa.1 < ((a6).length : Int) then
    (el un_i a6 sa.1).bind fun ta2 =>
    if inI64 (a1 - sa.2.1) then
    if ta2 > (a1 - sa.2.1) then
      some (.inr (.inl ()))
    else
    if inI64 (a0 - sa.2.1) then
    if ta2 < (a0 - sa.2.1) then
      some (.inr (.inl ()))
    else
    if inI64 (sa.2.1 + ta2) then
    (F_ref03_Stepped n a0 a1 a2 sa.2.1 sa.2.2.1 sa.2.2.2 (sa.2.1 + ta2)).bind fun ta8 =>
    if inI64 (sa.1 + 1) then
    some (.inl ((sa.1 + 1), ta8.1, ta8.2.1, ta8.2.2))
    else none
    else none
    else none
    else none
  else
  some (.inr (.inr (sa.2.1, sa.2.2.1, sa.2.2.2)))
noncomputable def T_ref03_Moved_L1 (a0 : Int) (a1 : Int) (a2 : Int) (a6 : List D) (sa : (Int × Int × Int × Int)) : List (Nat × AV) := [(2, .d (.lst false 1 a6)), (3, .ptr 0 0 0 0 0), (4, .ptr 1 0 0 0 0), (6, .ptr 2 0 0 0 0), (8, .d (I sa.1))]
noncomputable def H_ref03_Moved_L1 (a0 : Int) (a1 : Int) (a2 : Int) (a6 : List D) (sa : (Int × Int × Int × Int)) : List (Nat × Blk) := [(0, .box (.d (.agg [I a0, I a1, I a2]))), (1, .box (.d (.agg [I sa.2.1, I sa.2.2.1, I sa.2.2.2]))), (2, .box (.d (.agg [I 0, I 0, I 0])))]
noncomputable def X_ref03_Moved_L1 (a0 : Int) (a1 : Int) (a2 : Int) (a6 : List D) (e : (Unit) ⊕ (Int × Int × Int)) : Ex := match e with
  | (.inl e) => .ret
  | (.inr e) => (.exit 0)
noncomputable def XT_ref03_Moved_L1 (a0 : Int) (a1 : Int) (a2 : Int) (a6 : List D) (e : (Unit) ⊕ (Int × Int × Int)) : List (Nat × AV) := match e with
  | (.inl e) => [(6, .ptr 2 0 0 0 0), (7, .d (I 20))]
  | (.inr e) => [(4, .ptr 1 0 0 0 0), (6, .ptr 2 0 0 0 0)]
noncomputable def XH_ref03_Moved_L1 (a0 : Int) (a1 : Int) (a2 : Int) (a6 : List D) (e : (Unit) ⊕ (Int × Int × Int)) : List (Nat × Blk) := match e with
  | (.inl e) => [(2, .box (.d (.agg [I 0, I 0, I 0])))]
  | (.inr e) => [(1, .box (.d (.agg [I e.1, I e.2.1, I e.2.2]))), (2, .box (.d (.agg [I 0, I 0, I 0])))]
theorem R_ref03_Moved_L1 {n : Nat} {a0 : Int} {a1 : Int} {a2 : Int} {a6 : List D} (sa : (Int × Int × Int × Int)) (r) (h : F_ref03_Moved_L1 n a0 a1 a2 a6 sa = some r) : Rd cx (loopAt cx.P 26 0) 49 0 false (T_ref03_Moved_L1 a0 a1 a2 a6) (H_ref03_Moved_L1 a0 a1 a2 a6) (X_ref03_Moved_L1 a0 a1 a2 a6) (XT_ref03_Moved_L1 a0 a1 a2 a6) (XH_ref03_Moved_L1 a0 a1 a2 a6) sa r := by
  unfold F_ref03_Moved_L1 at h
  by_cases ha1 : sa.1 < ((a6).length : Int)
  · replace h := ite_t h ha1
    obtain ⟨ta2, ha2, h⟩ := bnd_of h
    obtain ⟨ha3, h⟩ := grd_of h
    by_cases ha4 : ta2 > (a1 - sa.2.1)
    · replace h := ite_t h ha4
      replace h := Option.some.inj h
      subst h
      exact ⟨⟨100, 5, [.br true, .el (I ta2), .br true, .no], [], [6, 7], [2], round_of (ob := [(decide (ta2 > (a1 - sa.2.1))) = true, inI64 (a1 - sa.2.1), (0 : Int) ≤ sa.1, nth (a6) (Int.toNat sa.1) = some (I ta2), (decide (sa.1 < ((a6).length : Int))) = true]) (by kernel_rfl) ⟨(decide_eq_true ha4), ha3, (el_ok un_i_ok ha2).1, (el_ok un_i_ok ha2).2, (decide_eq_true ha1), trivial⟩⟩, nofun⟩
    · replace h := ite_f h ha4
      obtain ⟨ha5, h⟩ := grd_of h
      by_cases ha6 : ta2 < (a0 - sa.2.1)
      · replace h := ite_t h ha6
        replace h := Option.some.inj h
        subst h
        exact ⟨⟨100, 5, [.br true, .el (I ta2), .br false, .el (I ta2), .br true], [], [6, 7], [2], round_of (ob := [(decide (ta2 < (a0 - sa.2.1))) = true, inI64 (a0 - sa.2.1), (0 : Int) ≤ sa.1, nth (a6) (Int.toNat sa.1) = some (I ta2), (decide (ta2 > (a1 - sa.2.1))) = false, inI64 (a1 - sa.2.1), (0 : Int) ≤ sa.1, nth (a6) (Int.toNat sa.1) = some (I ta2), (decide (sa.1 < ((a6).length : Int))) = true]) (by kernel_rfl) ⟨(decide_eq_true ha6), ha5, (el_ok un_i_ok ha2).1, (el_ok un_i_ok ha2).2, (decide_eq_false ha4), ha3, (el_ok un_i_ok ha2).1, (el_ok un_i_ok ha2).2, (decide_eq_true ha1), trivial⟩⟩, nofun⟩
      · replace h := ite_f h ha6
        obtain ⟨ha7, h⟩ := grd_of h
        obtain ⟨ta8, ha8, h⟩ := bnd_of h
        obtain ⟨ha9, h⟩ := grd_of h
        replace h := Option.some.inj h
        subst h
        exact ⟨100, 5, [.br true, .el (I ta2), .br false, .el (I ta2), .br false, .el (I ta2), .ret (.agg [I ta8.1, I ta8.2.1, I ta8.2.2])], [], [2, 3, 4, 6, 8], [0, 1, 2], round_of (ob := [inI64 (sa.1 + 1), Computes cx 87 [.agg [I a0, I a1, I a2], .agg [I sa.2.1, I sa.2.2.1, I sa.2.2.2], I (sa.2.1 + ta2)] (.agg [I ta8.1, I ta8.2.1, I ta8.2.2]), inI64 (sa.2.1 + ta2), (0 : Int) ≤ sa.1, nth (a6) (Int.toNat sa.1) = some (I ta2), (decide (ta2 < (a0 - sa.2.1))) = false, inI64 (a0 - sa.2.1), (0 : Int) ≤ sa.1, nth (a6) (Int.toNat sa.1) = some (I ta2), (decide (ta2 > (a1 - sa.2.1))) = false, inI64 (a1 - sa.2.1), (0 : Int) ≤ sa.1, nth (a6) (Int.toNat sa.1) = some (I ta2), (decide (sa.1 < ((a6).length : Int))) = true]) (by kernel_rfl) ⟨ha9, (c_ref03_Stepped ha8), ha7, (el_ok un_i_ok ha2).1, (el_ok un_i_ok ha2).2, (decide_eq_false ha6), ha5, (el_ok un_i_ok ha2).1, (el_ok un_i_ok ha2).2, (decide_eq_false ha4), ha3, (el_ok un_i_ok ha2).1, (el_ok un_i_ok ha2).2, (decide_eq_true ha1), trivial⟩⟩
  · replace h := ite_f h ha1
    replace h := Option.some.inj h
    subst h
    exact ⟨⟨100, 5, [.br false], [], [4, 6], [1, 2], round_of (ob := [(decide (sa.1 < ((a6).length : Int))) = false]) (by kernel_rfl) ⟨(decide_eq_false ha1), trivial⟩⟩, nofun⟩
/- spillage/spillageref03.Moved: .agg [I a0, I a1, I a2], .agg [I a3, I a4, I a5], .lst false 1 a6 -/
def F_ref03_Moved (n : Nat) (a0 : Int) (a1 : Int) (a2 : Int) (a3 : Int) (a4 : Int) (a5 : Int) (a6 : List D) : Option (Int × Int × Int × Int) :=
  (loopF (F_ref03_Moved_L1 n a0 a1 a2 a6) n (0, a3, a4, a5)).bind fun t1 => match t1 with
    | (.inl t1) => (
      some (0, 0, 0, 20))
    | (.inr t1) => (
      some (t1.1, t1.2.1, t1.2.2, 0))
theorem c_ref03_Moved {n : Nat} {a0 : Int} {a1 : Int} {a2 : Int} {a3 : Int} {a4 : Int} {a5 : Int} {a6 : List D} {r : Int × Int × Int × Int} (h : F_ref03_Moved n a0 a1 a2 a3 a4 a5 a6 = some r) : Computes cx 26 [.agg [I a0, I a1, I a2], .agg [I a3, I a4, I a5], .lst false 1 a6] (.tup [.agg [I r.1, I r.2.1, I r.2.2.1], I r.2.2.2]) := by
  unfold F_ref03_Moved at h
  obtain ⟨t1, h1, h⟩ := bnd_of h
  rcases t1 with t1 | t1
  · replace h := Option.some.inj h
    subst h
    exact run (n := 100) (f := 26) (args := [.agg [I a0, I a1, I a2], .agg [I a3, I a4, I a5], .lst false 1 a6]) (orc := [.lp [] [2, 3, 4, 6, 8] [0, 1, 2] .ret [(6, .ptr 2 0 0 0 0), (7, .d (I 20))] [(2, .box (.d (.agg [I 0, I 0, I 0])))] 56]) (r := .tup [.agg [I 0, I 0, I 0], I 20]) (ob := [LoopN cx (loopAt cx.P 26 0) 49 0 false [(2, .d (.lst false 1 a6)), (3, .ptr 0 0 0 0 0), (4, .ptr 1 0 0 0 0), (6, .ptr 2 0 0 0 0), (8, .d (I 0))] [(0, .box (.d (.agg [I a0, I a1, I a2]))), (1, .box (.d (.agg [I a3, I a4, I a5]))), (2, .box (.d (.agg [I 0, I 0, I 0])))] .ret [(6, .ptr 2 0 0 0 0), (7, .d (I 20))] [(2, .box (.d (.agg [I 0, I 0, I 0])))]]) (by kernel_rfl) ⟨(loopF_to R_ref03_Moved_L1 h1), trivial⟩
  · replace h := Option.some.inj h
    subst h
    exact run (n := 100) (f := 26) (args := [.agg [I a0, I a1, I a2], .agg [I a3, I a4, I a5], .lst false 1 a6]) (orc := [.lp [] [2, 3, 4, 6, 8] [0, 1, 2] (.exit 0) [(4, .ptr 1 0 0 0 0), (6, .ptr 2 0 0 0 0)] [(1, .box (.d (.agg [I t1.1, I t1.2.1, I t1.2.2]))), (2, .box (.d (.agg [I 0, I 0, I 0])))] 56]) (r := .tup [.agg [I t1.1, I t1.2.1, I t1.2.2], I 0]) (ob := [LoopN cx (loopAt cx.P 26 0) 49 0 false [(2, .d (.lst false 1 a6)), (3, .ptr 0 0 0 0 0), (4, .ptr 1 0 0 0 0), (6, .ptr 2 0 0 0 0), (8, .d (I 0))] [(0, .box (.d (.agg [I a0, I a1, I a2]))), (1, .box (.d (.agg [I a3, I a4, I a5]))), (2, .box (.d (.agg [I 0, I 0, I 0])))] (.exit 0) [(4, .ptr 1 0 0 0 0), (6, .ptr 2 0 0 0 0)] [(1, .box (.d (.agg [I t1.1, I t1.2.1, I t1.2.2]))), (2, .box (.d (.agg [I 0, I 0, I 0])))]]) (by kernel_rfl) ⟨(loopF_to R_ref03_Moved_L1 h1), trivial⟩
/- spillage/spillageref03.Referenced: .agg [I a0, I a1, I a2], .agg [I a3, I a4, I a5] -/
def F_ref03_Referenced (n : Nat) (a0 : Int) (a1 : Int) (a2 : Int) (a3 : Int) (a4 : Int) (a5 : Int) : Option (List D × Int) :=
  if inI64 (a0 + a2) then
  if (a0 + a2) > a1 then
    some ([], 20)
  else
  if inI64 (a0 - a3) then
  some ([I (a0 - a3), I a2], 0)
  else none
  else none
theorem c_ref03_Referenced {n : Nat} {a0 : Int} {a1 : Int} {a2 : Int} {a3 : Int} {a4 : Int} {a5 : Int} {r : List D × Int} (h : F_ref03_Referenced n a0 a1 a2 a3 a4 a5 = some r) : Computes cx 27 [.agg [I a0, I a1, I a2], .agg [I a3, I a4, I a5]] (.tup [.lst false 1 r.1, I r.2]) := by
  unfold F_ref03_Referenced at h
  obtain ⟨h1, h⟩ := grd_of h
  by_cases h2 : (a0 + a2) > a1
  · replace h := ite_t h h2
    replace h := Option.some.inj h
    subst h
    exact (run (n := 100) (f := 27) (args := [.agg [I a0, I a1, I a2], .agg [I a3, I a4, I a5]]) (orc := [.br true]) (r := .tup [.lst true 0 [], I 20]) (ob := [(decide ((a0 + a2) > a1)) = true, inI64 (a0 + a2)]) (by kernel_rfl) ⟨(decide_eq_true h2), h1, trivial⟩).le (LEs.refl _) (.tups (.cons (.lst _ _ _ _ _ nofun (.inl rfl)) (.cons (.refl _) (.nil))))
  · replace h := ite_f h h2
    obtain ⟨h3, h⟩ := grd_of h
    replace h := Option.some.inj h
    subst h
    exact (run (n := 100) (f := 27) (args := [.agg [I a0, I a1, I a2], .agg [I a3, I a4, I a5]]) (orc := [.br false]) (r := .tup [.lst true 1 [I (a0 - a3), I a2], I 0]) (ob := [inI64 (a0 - a3), (decide ((a0 + a2) > a1)) = false, inI64 (a0 + a2)]) (by kernel_rfl) ⟨h3, (decide_eq_false h2), h1, trivial⟩).le (LEs.refl _) (.tups (.cons (.full _ _ _) (.cons (.refl _) (.nil))))
/- spillage/spillagelaw03.DriveMoves: .agg [I a0, I a1, I a2], .agg [I a3, I a4, I a5], .lst false 1 a6 -/
def F_law03_DriveMoves (n : Nat) (a0 : Int) (a1 : Int) (a2 : Int) (a3 : Int) (a4 : Int) (a5 : Int) (a6 : List D) : Option (Bool) :=
  (F_ref03_ShortSteps n a6).bind fun t1 =>
  if t1 = true then
    (F_law03_ints n a6).bind fun t3 =>
    (F_drive_Moved n a0 a1 a2 a3 a4 a5 t3).bind fun t4 =>
    (F_drive_Referenced n a0 a1 a2 a3 a4 a5).bind fun t5 =>
    (F_ref03_CheckState n a0 a1 a2 a3 a4 a5).bind fun t6 =>
    (F_ref01_When_2 n (decide (((a6).length : Int) > 256)) 5).bind fun t7 =>
    (F_ref01_First n ([I t6, I t7])).bind fun t8 =>
    if t8 = 0 then
      (F_ref03_Moved n a0 a1 a2 a3 a4 a5 a6).bind fun t10 =>
      if t6 = 0 then
        (F_ref03_Referenced n a0 a1 a2 a3 a4 a5).bind fun t12 =>
        if t12.2 = 0 then
          (F_ref03_Moved n a0 a1 a2 a3 a4 a5 t12.1).bind fun t14 =>
          (F_drive_CheckAxis n a0 a1 a2).bind fun t15 =>
          (F_ref03_CheckAxis n a0 a1 a2).bind fun t16 =>
          if t15 = t16 then
            (F_drive_CheckState n a0 a1 a2 a3 a4 a5).bind fun t18 =>
            if t18 = t6 then
              if ((t4.1 == t10.1) && (((t4.2.1 == t10.2.1) && ((t4.2.2.1 == t10.2.2.1) && true)) && true)) = true then
                if t4.2.2.2 = t10.2.2.2 then
                  if ((t5.1 == t14.1) && (((t5.2.1 == t14.2.1) && ((t5.2.2.1 == t14.2.2.1) && true)) && true)) = true then
                    (F_ref01_SameInts n t5.2.2.2.1 t12.1).bind fun t23 =>
                    if t23 = true then
                      if t5.2.2.2.2 = t14.2.2.2 then
                        (F_law03_awake n).bind fun t26 =>
                        some t26
                      else
                      none /- false -/
                    else
                    none /- false -/
                  else
                  none /- false -/
                else
                none /- false -/
              else
              none /- false -/
            else
            none /- false -/
          else
          none /- false -/
        else
        (F_drive_CheckAxis n a0 a1 a2).bind fun t14 =>
        (F_ref03_CheckAxis n a0 a1 a2).bind fun t15 =>
        if t14 = t15 then
          (F_drive_CheckState n a0 a1 a2 a3 a4 a5).bind fun t17 =>
          if t17 = t6 then
            if ((t4.1 == t10.1) && (((t4.2.1 == t10.2.1) && ((t4.2.2.1 == t10.2.2.1) && true)) && true)) = true then
              if t4.2.2.2 = t10.2.2.2 then
                if ((t5.1 == 0) && (((t5.2.1 == 0) && ((t5.2.2.1 == 0) && true)) && true)) = true then
                  (F_ref01_SameInts n t5.2.2.2.1 t12.1).bind fun t22 =>
                  if t22 = true then
                    if t5.2.2.2.2 = t12.2 then
                      (F_law03_awake n).bind fun t25 =>
                      some t25
                    else
                    none /- false -/
                  else
                  none /- false -/
                else
                none /- false -/
              else
              none /- false -/
            else
            none /- false -/
          else
          none /- false -/
        else
        none /- false -/
      else
      (F_drive_CheckAxis n a0 a1 a2).bind fun t12 =>
      (F_ref03_CheckAxis n a0 a1 a2).bind fun t13 =>
      if t12 = t13 then
        (F_drive_CheckState n a0 a1 a2 a3 a4 a5).bind fun t15 =>
        if t15 = t6 then
          if ((t4.1 == t10.1) && (((t4.2.1 == t10.2.1) && ((t4.2.2.1 == t10.2.2.1) && true)) && true)) = true then
            if t4.2.2.2 = t10.2.2.2 then
              if ((t5.1 == 0) && (((t5.2.1 == 0) && ((t5.2.2.1 == 0) && true)) && true)) = true then
                (F_ref01_SameInts n t5.2.2.2.1 ([])).bind fun t20 =>
                if t20 = true then
                  if t5.2.2.2.2 = t6 then
                    (F_law03_awake n).bind fun t23 =>
                    some t23
                  else
                  none /- false -/
                else
                none /- false -/
              else
              none /- false -/
            else
            none /- false -/
          else
          none /- false -/
        else
        none /- false -/
      else
      none /- false -/
    else
    if t6 = 0 then
      (F_ref03_Referenced n a0 a1 a2 a3 a4 a5).bind fun t11 =>
      if t11.2 = 0 then
        (F_ref03_Moved n a0 a1 a2 a3 a4 a5 t11.1).bind fun t13 =>
        (F_drive_CheckAxis n a0 a1 a2).bind fun t14 =>
        (F_ref03_CheckAxis n a0 a1 a2).bind fun t15 =>
        if t14 = t15 then
          (F_drive_CheckState n a0 a1 a2 a3 a4 a5).bind fun t17 =>
          if t17 = t6 then
            if ((t4.1 == 0) && (((t4.2.1 == 0) && ((t4.2.2.1 == 0) && true)) && true)) = true then
              if t4.2.2.2 = t8 then
                if ((t5.1 == t13.1) && (((t5.2.1 == t13.2.1) && ((t5.2.2.1 == t13.2.2.1) && true)) && true)) = true then
                  (F_ref01_SameInts n t5.2.2.2.1 t11.1).bind fun t22 =>
                  if t22 = true then
                    if t5.2.2.2.2 = t13.2.2.2 then
                      (F_law03_awake n).bind fun t25 =>
                      some t25
                    else
                    none /- false -/
                  else
                  none /- false -/
                else
                none /- false -/
              else
              none /- false -/
            else
            none /- false -/
          else
          none /- false -/
        else
        none /- false -/
      else
      (F_drive_CheckAxis n a0 a1 a2).bind fun t13 =>
      (F_ref03_CheckAxis n a0 a1 a2).bind fun t14 =>
      if t13 = t14 then
        (F_drive_CheckState n a0 a1 a2 a3 a4 a5).bind fun t16 =>
        if t16 = t6 then
          if ((t4.1 == 0) && (((t4.2.1 == 0) && ((t4.2.2.1 == 0) && true)) && true)) = true then
            if t4.2.2.2 = t8 then
              if ((t5.1 == 0) && (((t5.2.1 == 0) && ((t5.2.2.1 == 0) && true)) && true)) = true then
                (F_ref01_SameInts n t5.2.2.2.1 t11.1).bind fun t21 =>
                if t21 = true then
                  if t5.2.2.2.2 = t11.2 then
                    (F_law03_awake n).bind fun t24 =>
                    some t24
                  else
                  none /- false -/
                else
                none /- false -/
              else
              none /- false -/
            else
            none /- false -/
          else
          none /- false -/
        else
        none /- false -/
      else
      none /- false -/
    else
    (F_drive_CheckAxis n a0 a1 a2).bind fun t11 =>
    (F_ref03_CheckAxis n a0 a1 a2).bind fun t12 =>
    if t11 = t12 then
      (F_drive_CheckState n a0 a1 a2 a3 a4 a5).bind fun t14 =>
      if t14 = t6 then
        if ((t4.1 == 0) && (((t4.2.1 == 0) && ((t4.2.2.1 == 0) && true)) && true)) = true then
          if t4.2.2.2 = t8 then
            if ((t5.1 == 0) && (((t5.2.1 == 0) && ((t5.2.2.1 == 0) && true)) && true)) = true then
              (F_ref01_SameInts n t5.2.2.2.1 ([])).bind fun t19 =>
              if t19 = true then
                if t5.2.2.2.2 = t6 then
                  (F_law03_awake n).bind fun t22 =>
                  some t22
                else
                none /- false -/
              else
              none /- false -/
            else
            none /- false -/
          else
          none /- false -/
        else
        none /- false -/
      else
      none /- false -/
    else
    none /- false -/
  else
  (F_law03_awake n).bind fun t3 =>
  some t3
theorem c_law03_DriveMoves {n : Nat} {a0 : Int} {a1 : Int} {a2 : Int} {a3 : Int} {a4 : Int} {a5 : Int} {a6 : List D} {r : Bool} (h : F_law03_DriveMoves n a0 a1 a2 a3 a4 a5 a6 = some r) : Computes cx 3 [.agg [I a0, I a1, I a2], .agg [I a3, I a4, I a5], .lst false 1 a6] (B r) := by
  unfold F_law03_DriveMoves at h
  obtain ⟨t1, h1, h⟩ := bnd_of h
  by_cases h2 : t1 = true
  · replace h := ite_t h h2
    obtain ⟨t3, h3, h⟩ := bnd_of h
    obtain ⟨t4, h4, h⟩ := bnd_of h
    obtain ⟨t5, h5, h⟩ := bnd_of h
    obtain ⟨t6, h6, h⟩ := bnd_of h
    obtain ⟨t7, h7, h⟩ := bnd_of h
    obtain ⟨t8, h8, h⟩ := bnd_of h
    by_cases h9 : t8 = 0
    · replace h := ite_t h h9
      obtain ⟨t10, h10, h⟩ := bnd_of h
      by_cases h11 : t6 = 0
      · replace h := ite_t h h11
        obtain ⟨t12, h12, h⟩ := bnd_of h
        by_cases h13 : t12.2 = 0
        · replace h := ite_t h h13
          obtain ⟨t14, h14, h⟩ := bnd_of h
          obtain ⟨t15, h15, h⟩ := bnd_of h
          obtain ⟨t16, h16, h⟩ := bnd_of h
          by_cases h17 : t15 = t16
          · replace h := ite_t h h17
            obtain ⟨t18, h18, h⟩ := bnd_of h
            by_cases h19 : t18 = t6
            · replace h := ite_t h h19
              by_cases h20 : ((t4.1 == t10.1) && (((t4.2.1 == t10.2.1) && ((t4.2.2.1 == t10.2.2.1) && true)) && true)) = true
              · replace h := ite_t h h20
                by_cases h21 : t4.2.2.2 = t10.2.2.2
                · replace h := ite_t h h21
                  by_cases h22 : ((t5.1 == t14.1) && (((t5.2.1 == t14.2.1) && ((t5.2.2.1 == t14.2.2.1) && true)) && true)) = true
                  · replace h := ite_t h h22
                    obtain ⟨t23, h23, h⟩ := bnd_of h
                    by_cases h24 : t23 = true
                    · replace h := ite_t h h24
                      by_cases h25 : t5.2.2.2.2 = t14.2.2.2
                      · replace h := ite_t h h25
                        obtain ⟨t26, h26, h⟩ := bnd_of h
                        replace h := Option.some.inj h
                        subst h
                        exact run (n := 100) (f := 3) (args := [.agg [I a0, I a1, I a2], .agg [I a3, I a4, I a5], .lst false 1 a6]) (orc := [.ret (B t1), .br false, .ret (.lst false 1 t3), .ret (.tup [.agg [I t4.1, I t4.2.1, I t4.2.2.1], I t4.2.2.2]), .ret (.tup [.agg [I t5.1, I t5.2.1, I t5.2.2.1], .lst false 1 t5.2.2.2.1, I t5.2.2.2.2]), .ret (I t6), .ret (I t7), .ret (I t8), .br true, .ret (.tup [.agg [I t10.1, I t10.2.1, I t10.2.2.1], I t10.2.2.2]), .br true, .ret (.tup [.lst false 1 t12.1, I t12.2]), .br true, .ret (.tup [.agg [I t14.1, I t14.2.1, I t14.2.2.1], I t14.2.2.2]), .ret (I t15), .ret (I t16), .br true, .ret (I t18), .br true, .br true, .br true, .br true, .ret (B t23), .br true, .br true, .ret (B t26)]) (r := B t26) (ob := [Computes cx 19 [] (B t26), (t5.2.2.2.2 == t14.2.2.2) = true, t23 = true, Computes cx 31 [.lst false 1 t5.2.2.2.1, .lst false 1 t12.1] (B t23), ((t5.1 == t14.1) && (((t5.2.1 == t14.2.1) && ((t5.2.2.1 == t14.2.2.1) && true)) && true)) = true, (t4.2.2.2 == t10.2.2.2) = true, ((t4.1 == t10.1) && (((t4.2.1 == t10.2.1) && ((t4.2.2.1 == t10.2.2.1) && true)) && true)) = true, (t18 == t6) = true, Computes cx 30 [.agg [I a0, I a1, I a2], .agg [I a3, I a4, I a5]] (I t18), (t15 == t16) = true, Computes cx 29 [.agg [I a0, I a1, I a2]] (I t16), Computes cx 28 [.agg [I a0, I a1, I a2]] (I t15), Computes cx 26 [.agg [I a0, I a1, I a2], .agg [I a3, I a4, I a5], .lst false 1 t12.1] (.tup [.agg [I t14.1, I t14.2.1, I t14.2.2.1], I t14.2.2.2]), (t12.2 == 0) = true, Computes cx 27 [.agg [I a0, I a1, I a2], .agg [I a3, I a4, I a5]] (.tup [.lst false 1 t12.1, I t12.2]), (t6 == 0) = true, Computes cx 26 [.agg [I a0, I a1, I a2], .agg [I a3, I a4, I a5], .lst false 1 a6] (.tup [.agg [I t10.1, I t10.2.1, I t10.2.2.1], I t10.2.2.2]), (t8 == 0) = true, Computes cx 24 [.lst true 1 [I t6, I t7]] (I t8), Computes cx 25 [B (decide (((a6).length : Int) > 256)), I 5] (I t7), Computes cx 23 [.agg [I a0, I a1, I a2], .agg [I a3, I a4, I a5]] (I t6), Computes cx 22 [.agg [I a0, I a1, I a2], .agg [I a3, I a4, I a5]] (.tup [.agg [I t5.1, I t5.2.1, I t5.2.2.1], .lst false 1 t5.2.2.2.1, I t5.2.2.2.2]), Computes cx 20 [.agg [I a0, I a1, I a2], .agg [I a3, I a4, I a5], .lst false 1 t3] (.tup [.agg [I t4.1, I t4.2.1, I t4.2.2.1], I t4.2.2.2]), Computes cx 21 [.lst false 1 a6] (.lst false 1 t3), (!t1) = false, Computes cx 18 [.lst false 1 a6] (B t1)]) (by kernel_rfl) ⟨(c_law03_awake h26), (eqt h25), h24, (c_ref01_SameInts h23), h22, (eqt h21), h20, (eqt h19), (c_drive_CheckState h18), (eqt h17), (c_ref03_CheckAxis h16), (c_drive_CheckAxis h15), (c_ref03_Moved h14), (eqt h13), (c_ref03_Referenced h12), (eqt h11), (c_ref03_Moved h10), (eqt h9), ((c_ref01_First h8).le (.cons (.full _ _ _) (.nil)) (.refl _)), (c_ref01_When_2 h7), (c_ref03_CheckState h6), (c_drive_Referenced h5), (c_drive_Moved h4), (c_law03_ints h3), (notf h2), (c_ref03_ShortSteps h1), trivial⟩
                      · replace h := ite_f h h25
                        cases h
                    · replace h := ite_f h h24
                      cases h
                  · replace h := ite_f h h22
                    cases h
                · replace h := ite_f h h21
                  cases h
              · replace h := ite_f h h20
                cases h
            · replace h := ite_f h h19
              cases h
          · replace h := ite_f h h17
            cases h
        · replace h := ite_f h h13
          obtain ⟨t14, h14, h⟩ := bnd_of h
          obtain ⟨t15, h15, h⟩ := bnd_of h
          by_cases h16 : t14 = t15
          · replace h := ite_t h h16
            obtain ⟨t17, h17, h⟩ := bnd_of h
            by_cases h18 : t17 = t6
            · replace h := ite_t h h18
              by_cases h19 : ((t4.1 == t10.1) && (((t4.2.1 == t10.2.1) && ((t4.2.2.1 == t10.2.2.1) && true)) && true)) = true
              · replace h := ite_t h h19
                by_cases h20 : t4.2.2.2 = t10.2.2.2
                · replace h := ite_t h h20
                  by_cases h21 : ((t5.1 == 0) && (((t5.2.1 == 0) && ((t5.2.2.1 == 0) && true)) && true)) = true
                  · replace h := ite_t h h21
                    obtain ⟨t22, h22, h⟩ := bnd_of h
                    by_cases h23 : t22 = true
                    · replace h := ite_t h h23
                      by_cases h24 : t5.2.2.2.2 = t12.2
                      · replace h := ite_t h h24
                        obtain ⟨t25, h25, h⟩ := bnd_of h
                        replace h := Option.some.inj h
                        subst h
                        exact run (n := 100) (f := 3) (args := [.agg [I a0, I a1, I a2], .agg [I a3, I a4, I a5], .lst false 1 a6]) (orc := [.ret (B t1), .br false, .ret (.lst false 1 t3), .ret (.tup [.agg [I t4.1, I t4.2.1, I t4.2.2.1], I t4.2.2.2]), .ret (.tup [.agg [I t5.1, I t5.2.1, I t5.2.2.1], .lst false 1 t5.2.2.2.1, I t5.2.2.2.2]), .ret (I t6), .ret (I t7), .ret (I t8), .br true, .ret (.tup [.agg [I t10.1, I t10.2.1, I t10.2.2.1], I t10.2.2.2]), .br true, .ret (.tup [.lst false 1 t12.1, I t12.2]), .br false, .ret (I t14), .ret (I t15), .br true, .ret (I t17), .br true, .br true, .br true, .br true, .ret (B t22), .br true, .br true, .ret (B t25)]) (r := B t25) (ob := [Computes cx 19 [] (B t25), (t5.2.2.2.2 == t12.2) = true, t22 = true, Computes cx 31 [.lst false 1 t5.2.2.2.1, .lst false 1 t12.1] (B t22), ((t5.1 == 0) && (((t5.2.1 == 0) && ((t5.2.2.1 == 0) && true)) && true)) = true, (t4.2.2.2 == t10.2.2.2) = true, ((t4.1 == t10.1) && (((t4.2.1 == t10.2.1) && ((t4.2.2.1 == t10.2.2.1) && true)) && true)) = true, (t17 == t6) = true, Computes cx 30 [.agg [I a0, I a1, I a2], .agg [I a3, I a4, I a5]] (I t17), (t14 == t15) = true, Computes cx 29 [.agg [I a0, I a1, I a2]] (I t15), Computes cx 28 [.agg [I a0, I a1, I a2]] (I t14), (t12.2 == 0) = false, Computes cx 27 [.agg [I a0, I a1, I a2], .agg [I a3, I a4, I a5]] (.tup [.lst false 1 t12.1, I t12.2]), (t6 == 0) = true, Computes cx 26 [.agg [I a0, I a1, I a2], .agg [I a3, I a4, I a5], .lst false 1 a6] (.tup [.agg [I t10.1, I t10.2.1, I t10.2.2.1], I t10.2.2.2]), (t8 == 0) = true, Computes cx 24 [.lst true 1 [I t6, I t7]] (I t8), Computes cx 25 [B (decide (((a6).length : Int) > 256)), I 5] (I t7), Computes cx 23 [.agg [I a0, I a1, I a2], .agg [I a3, I a4, I a5]] (I t6), Computes cx 22 [.agg [I a0, I a1, I a2], .agg [I a3, I a4, I a5]] (.tup [.agg [I t5.1, I t5.2.1, I t5.2.2.1], .lst false 1 t5.2.2.2.1, I t5.2.2.2.2]), Computes cx 20 [.agg [I a0, I a1, I a2], .agg [I a3, I a4, I a5], .lst false 1 t3] (.tup [.agg [I t4.1, I t4.2.1, I t4.2.2.1], I t4.2.2.2]), Computes cx 21 [.lst false 1 a6] (.lst false 1 t3), (!t1) = false, Computes cx 18 [.lst false 1 a6] (B t1)]) (by kernel_rfl) ⟨(c_law03_awake h25), (eqt h24), h23, (c_ref01_SameInts h22), h21, (eqt h20), h19, (eqt h18), (c_drive_CheckState h17), (eqt h16), (c_ref03_CheckAxis h15), (c_drive_CheckAxis h14), (eqf h13), (c_ref03_Referenced h12), (eqt h11), (c_ref03_Moved h10), (eqt h9), ((c_ref01_First h8).le (.cons (.full _ _ _) (.nil)) (.refl _)), (c_ref01_When_2 h7), (c_ref03_CheckState h6), (c_drive_Referenced h5), (c_drive_Moved h4), (c_law03_ints h3), (notf h2), (c_ref03_ShortSteps h1), trivial⟩
                      · replace h := ite_f h h24
                        cases h
                    · replace h := ite_f h h23
                      cases h
                  · replace h := ite_f h h21
                    cases h
                · replace h := ite_f h h20
                  cases h
              · replace h := ite_f h h19
                cases h
            · replace h := ite_f h h18
              cases h
          · replace h := ite_f h h16
            cases h
      · replace h := ite_f h h11
        obtain ⟨t12, h12, h⟩ := bnd_of h
        obtain ⟨t13, h13, h⟩ := bnd_of h
        by_cases h14 : t12 = t13
        · replace h := ite_t h h14
          obtain ⟨t15, h15, h⟩ := bnd_of h
          by_cases h16 : t15 = t6
          · replace h := ite_t h h16
            by_cases h17 : ((t4.1 == t10.1) && (((t4.2.1 == t10.2.1) && ((t4.2.2.1 == t10.2.2.1) && true)) && true)) = true
            · replace h := ite_t h h17
              by_cases h18 : t4.2.2.2 = t10.2.2.2
              · replace h := ite_t h h18
                by_cases h19 : ((t5.1 == 0) && (((t5.2.1 == 0) && ((t5.2.2.1 == 0) && true)) && true)) = true
                · replace h := ite_t h h19
                  obtain ⟨t20, h20, h⟩ := bnd_of h
                  by_cases h21 : t20 = true
                  · replace h := ite_t h h21
                    by_cases h22 : t5.2.2.2.2 = t6
                    · replace h := ite_t h h22
                      obtain ⟨t23, h23, h⟩ := bnd_of h
                      replace h := Option.some.inj h
                      subst h
                      exact run (n := 100) (f := 3) (args := [.agg [I a0, I a1, I a2], .agg [I a3, I a4, I a5], .lst false 1 a6]) (orc := [.ret (B t1), .br false, .ret (.lst false 1 t3), .ret (.tup [.agg [I t4.1, I t4.2.1, I t4.2.2.1], I t4.2.2.2]), .ret (.tup [.agg [I t5.1, I t5.2.1, I t5.2.2.1], .lst false 1 t5.2.2.2.1, I t5.2.2.2.2]), .ret (I t6), .ret (I t7), .ret (I t8), .br true, .ret (.tup [.agg [I t10.1, I t10.2.1, I t10.2.2.1], I t10.2.2.2]), .br false, .br false, .ret (I t12), .ret (I t13), .br true, .ret (I t15), .br true, .br true, .br true, .br true, .ret (B t20), .br true, .br true, .ret (B t23)]) (r := B t23) (ob := [Computes cx 19 [] (B t23), (t5.2.2.2.2 == t6) = true, t20 = true, Computes cx 31 [.lst false 1 t5.2.2.2.1, .lst true 0 []] (B t20), ((t5.1 == 0) && (((t5.2.1 == 0) && ((t5.2.2.1 == 0) && true)) && true)) = true, (t4.2.2.2 == t10.2.2.2) = true, ((t4.1 == t10.1) && (((t4.2.1 == t10.2.1) && ((t4.2.2.1 == t10.2.2.1) && true)) && true)) = true, (t15 == t6) = true, Computes cx 30 [.agg [I a0, I a1, I a2], .agg [I a3, I a4, I a5]] (I t15), (t12 == t13) = true, Computes cx 29 [.agg [I a0, I a1, I a2]] (I t13), Computes cx 28 [.agg [I a0, I a1, I a2]] (I t12), (t6 == 0) = false, (t6 == 0) = false, Computes cx 26 [.agg [I a0, I a1, I a2], .agg [I a3, I a4, I a5], .lst false 1 a6] (.tup [.agg [I t10.1, I t10.2.1, I t10.2.2.1], I t10.2.2.2]), (t8 == 0) = true, Computes cx 24 [.lst true 1 [I t6, I t7]] (I t8), Computes cx 25 [B (decide (((a6).length : Int) > 256)), I 5] (I t7), Computes cx 23 [.agg [I a0, I a1, I a2], .agg [I a3, I a4, I a5]] (I t6), Computes cx 22 [.agg [I a0, I a1, I a2], .agg [I a3, I a4, I a5]] (.tup [.agg [I t5.1, I t5.2.1, I t5.2.2.1], .lst false 1 t5.2.2.2.1, I t5.2.2.2.2]), Computes cx 20 [.agg [I a0, I a1, I a2], .agg [I a3, I a4, I a5], .lst false 1 t3] (.tup [.agg [I t4.1, I t4.2.1, I t4.2.2.1], I t4.2.2.2]), Computes cx 21 [.lst false 1 a6] (.lst false 1 t3), (!t1) = false, Computes cx 18 [.lst false 1 a6] (B t1)]) (by kernel_rfl) ⟨(c_law03_awake h23), (eqt h22), h21, ((c_ref01_SameInts h20).le (.cons (.refl _) (.cons (.lst _ _ _ _ _ nofun (.inl rfl)) (.nil))) (.refl _)), h19, (eqt h18), h17, (eqt h16), (c_drive_CheckState h15), (eqt h14), (c_ref03_CheckAxis h13), (c_drive_CheckAxis h12), (eqf h11), (eqf h11), (c_ref03_Moved h10), (eqt h9), ((c_ref01_First h8).le (.cons (.full _ _ _) (.nil)) (.refl _)), (c_ref01_When_2 h7), (c_ref03_CheckState h6), (c_drive_Referenced h5), (c_drive_Moved h4), (c_law03_ints h3), (notf h2), (c_ref03_ShortSteps h1), trivial⟩
                    · replace h := ite_f h h22
                      cases h
                  · replace h := ite_f h h21
                    cases h
                · replace h := ite_f h h19
                  cases h
              · replace h := ite_f h h18
                cases h
            · replace h := ite_f h h17
              cases h
          · replace h := ite_f h h16
            cases h
        · replace h := ite_f h h14
          cases h
    · replace h := ite_f h h9
      by_cases h10 : t6 = 0
      · replace h := ite_t h h10
        obtain ⟨t11, h11, h⟩ := bnd_of h
        by_cases h12 : t11.2 = 0
        · replace h := ite_t h h12
          obtain ⟨t13, h13, h⟩ := bnd_of h
          obtain ⟨t14, h14, h⟩ := bnd_of h
          obtain ⟨t15, h15, h⟩ := bnd_of h
          by_cases h16 : t14 = t15
          · replace h := ite_t h h16
            obtain ⟨t17, h17, h⟩ := bnd_of h
            by_cases h18 : t17 = t6
            · replace h := ite_t h h18
              by_cases h19 : ((t4.1 == 0) && (((t4.2.1 == 0) && ((t4.2.2.1 == 0) && true)) && true)) = true
              · replace h := ite_t h h19
                by_cases h20 : t4.2.2.2 = t8
                · replace h := ite_t h h20
                  by_cases h21 : ((t5.1 == t13.1) && (((t5.2.1 == t13.2.1) && ((t5.2.2.1 == t13.2.2.1) && true)) && true)) = true
                  · replace h := ite_t h h21
                    obtain ⟨t22, h22, h⟩ := bnd_of h
                    by_cases h23 : t22 = true
                    · replace h := ite_t h h23
                      by_cases h24 : t5.2.2.2.2 = t13.2.2.2
                      · replace h := ite_t h h24
                        obtain ⟨t25, h25, h⟩ := bnd_of h
                        replace h := Option.some.inj h
                        subst h
                        exact run (n := 100) (f := 3) (args := [.agg [I a0, I a1, I a2], .agg [I a3, I a4, I a5], .lst false 1 a6]) (orc := [.ret (B t1), .br false, .ret (.lst false 1 t3), .ret (.tup [.agg [I t4.1, I t4.2.1, I t4.2.2.1], I t4.2.2.2]), .ret (.tup [.agg [I t5.1, I t5.2.1, I t5.2.2.1], .lst false 1 t5.2.2.2.1, I t5.2.2.2.2]), .ret (I t6), .ret (I t7), .ret (I t8), .br false, .br true, .ret (.tup [.lst false 1 t11.1, I t11.2]), .br true, .ret (.tup [.agg [I t13.1, I t13.2.1, I t13.2.2.1], I t13.2.2.2]), .ret (I t14), .ret (I t15), .br true, .ret (I t17), .br true, .br true, .br true, .br true, .ret (B t22), .br true, .br true, .ret (B t25)]) (r := B t25) (ob := [Computes cx 19 [] (B t25), (t5.2.2.2.2 == t13.2.2.2) = true, t22 = true, Computes cx 31 [.lst false 1 t5.2.2.2.1, .lst false 1 t11.1] (B t22), ((t5.1 == t13.1) && (((t5.2.1 == t13.2.1) && ((t5.2.2.1 == t13.2.2.1) && true)) && true)) = true, (t4.2.2.2 == t8) = true, ((t4.1 == 0) && (((t4.2.1 == 0) && ((t4.2.2.1 == 0) && true)) && true)) = true, (t17 == t6) = true, Computes cx 30 [.agg [I a0, I a1, I a2], .agg [I a3, I a4, I a5]] (I t17), (t14 == t15) = true, Computes cx 29 [.agg [I a0, I a1, I a2]] (I t15), Computes cx 28 [.agg [I a0, I a1, I a2]] (I t14), Computes cx 26 [.agg [I a0, I a1, I a2], .agg [I a3, I a4, I a5], .lst false 1 t11.1] (.tup [.agg [I t13.1, I t13.2.1, I t13.2.2.1], I t13.2.2.2]), (t11.2 == 0) = true, Computes cx 27 [.agg [I a0, I a1, I a2], .agg [I a3, I a4, I a5]] (.tup [.lst false 1 t11.1, I t11.2]), (t6 == 0) = true, (t8 == 0) = false, Computes cx 24 [.lst true 1 [I t6, I t7]] (I t8), Computes cx 25 [B (decide (((a6).length : Int) > 256)), I 5] (I t7), Computes cx 23 [.agg [I a0, I a1, I a2], .agg [I a3, I a4, I a5]] (I t6), Computes cx 22 [.agg [I a0, I a1, I a2], .agg [I a3, I a4, I a5]] (.tup [.agg [I t5.1, I t5.2.1, I t5.2.2.1], .lst false 1 t5.2.2.2.1, I t5.2.2.2.2]), Computes cx 20 [.agg [I a0, I a1, I a2], .agg [I a3, I a4, I a5], .lst false 1 t3] (.tup [.agg [I t4.1, I t4.2.1, I t4.2.2.1], I t4.2.2.2]), Computes cx 21 [.lst false 1 a6] (.lst false 1 t3), (!t1) = false, Computes cx 18 [.lst false 1 a6] (B t1)]) (by kernel_rfl) ⟨(c_law03_awake h25), (eqt h24), h23, (c_ref01_SameInts h22), h21, (eqt h20), h19, (eqt h18), (c_drive_CheckState h17), (eqt h16), (c_ref03_CheckAxis h15), (c_drive_CheckAxis h14), (c_ref03_Moved h13), (eqt h12), (c_ref03_Referenced h11), (eqt h10), (eqf h9), ((c_ref01_First h8).le (.cons (.full _ _ _) (.nil)) (.refl _)), (c_ref01_When_2 h7), (c_ref03_CheckState h6), (c_drive_Referenced h5), (c_drive_Moved h4), (c_law03_ints h3), (notf h2), (c_ref03_ShortSteps h1), trivial⟩
                      · replace h := ite_f h h24
                        cases h
                    · replace h := ite_f h h23
                      cases h
                  · replace h := ite_f h h21
                    cases h
                · replace h := ite_f h h20
                  cases h
              · replace h := ite_f h h19
                cases h
            · replace h := ite_f h h18
              cases h
          · replace h := ite_f h h16
            cases h
        · replace h := ite_f h h12
          obtain ⟨t13, h13, h⟩ := bnd_of h
          obtain ⟨t14, h14, h⟩ := bnd_of h
          by_cases h15 : t13 = t14
          · replace h := ite_t h h15
            obtain ⟨t16, h16, h⟩ := bnd_of h
            by_cases h17 : t16 = t6
            · replace h := ite_t h h17
              by_cases h18 : ((t4.1 == 0) && (((t4.2.1 == 0) && ((t4.2.2.1 == 0) && true)) && true)) = true
              · replace h := ite_t h h18
                by_cases h19 : t4.2.2.2 = t8
                · replace h := ite_t h h19
                  by_cases h20 : ((t5.1 == 0) && (((t5.2.1 == 0) && ((t5.2.2.1 == 0) && true)) && true)) = true
                  · replace h := ite_t h h20
                    obtain ⟨t21, h21, h⟩ := bnd_of h
                    by_cases h22 : t21 = true
                    · replace h := ite_t h h22
                      by_cases h23 : t5.2.2.2.2 = t11.2
                      · replace h := ite_t h h23
                        obtain ⟨t24, h24, h⟩ := bnd_of h
                        replace h := Option.some.inj h
                        subst h
                        exact run (n := 100) (f := 3) (args := [.agg [I a0, I a1, I a2], .agg [I a3, I a4, I a5], .lst false 1 a6]) (orc := [.ret (B t1), .br false, .ret (.lst false 1 t3), .ret (.tup [.agg [I t4.1, I t4.2.1, I t4.2.2.1], I t4.2.2.2]), .ret (.tup [.agg [I t5.1, I t5.2.1, I t5.2.2.1], .lst false 1 t5.2.2.2.1, I t5.2.2.2.2]), .ret (I t6), .ret (I t7), .ret (I t8), .br false, .br true, .ret (.tup [.lst false 1 t11.1, I t11.2]), .br false, .ret (I t13), .ret (I t14), .br true, .ret (I t16), .br true, .br true, .br true, .br true, .ret (B t21), .br true, .br true, .ret (B t24)]) (r := B t24) (ob := [Computes cx 19 [] (B t24), (t5.2.2.2.2 == t11.2) = true, t21 = true, Computes cx 31 [.lst false 1 t5.2.2.2.1, .lst false 1 t11.1] (B t21), ((t5.1 == 0) && (((t5.2.1 == 0) && ((t5.2.2.1 == 0) && true)) && true)) = true, (t4.2.2.2 == t8) = true, ((t4.1 == 0) && (((t4.2.1 == 0) && ((t4.2.2.1 == 0) && true)) && true)) = true, (t16 == t6) = true, Computes cx 30 [.agg [I a0, I a1, I a2], .agg [I a3, I a4, I a5]] (I t16), (t13 == t14) = true, Computes cx 29 [.agg [I a0, I a1, I a2]] (I t14), Computes cx 28 [.agg [I a0, I a1, I a2]] (I t13), (t11.2 == 0) = false, Computes cx 27 [.agg [I a0, I a1, I a2], .agg [I a3, I a4, I a5]] (.tup [.lst false 1 t11.1, I t11.2]), (t6 == 0) = true, (t8 == 0) = false, Computes cx 24 [.lst true 1 [I t6, I t7]] (I t8), Computes cx 25 [B (decide (((a6).length : Int) > 256)), I 5] (I t7), Computes cx 23 [.agg [I a0, I a1, I a2], .agg [I a3, I a4, I a5]] (I t6), Computes cx 22 [.agg [I a0, I a1, I a2], .agg [I a3, I a4, I a5]] (.tup [.agg [I t5.1, I t5.2.1, I t5.2.2.1], .lst false 1 t5.2.2.2.1, I t5.2.2.2.2]), Computes cx 20 [.agg [I a0, I a1, I a2], .agg [I a3, I a4, I a5], .lst false 1 t3] (.tup [.agg [I t4.1, I t4.2.1, I t4.2.2.1], I t4.2.2.2]), Computes cx 21 [.lst false 1 a6] (.lst false 1 t3), (!t1) = false, Computes cx 18 [.lst false 1 a6] (B t1)]) (by kernel_rfl) ⟨(c_law03_awake h24), (eqt h23), h22, (c_ref01_SameInts h21), h20, (eqt h19), h18, (eqt h17), (c_drive_CheckState h16), (eqt h15), (c_ref03_CheckAxis h14), (c_drive_CheckAxis h13), (eqf h12), (c_ref03_Referenced h11), (eqt h10), (eqf h9), ((c_ref01_First h8).le (.cons (.full _ _ _) (.nil)) (.refl _)), (c_ref01_When_2 h7), (c_ref03_CheckState h6), (c_drive_Referenced h5), (c_drive_Moved h4), (c_law03_ints h3), (notf h2), (c_ref03_ShortSteps h1), trivial⟩
                      · replace h := ite_f h h23
                        cases h
                    · replace h := ite_f h h22
                      cases h
                  · replace h := ite_f h h20
                    cases h
                · replace h := ite_f h h19
                  cases h
              · replace h := ite_f h h18
                cases h
            · replace h := ite_f h h17
              cases h
          · replace h := ite_f h h15
            cases h
      · replace h := ite_f h h10
        obtain ⟨t11, h11, h⟩ := bnd_of h
        obtain ⟨t12, h12, h⟩ := bnd_of h
        by_cases h13 : t11 = t12
        · replace h := ite_t h h13
          obtain ⟨t14, h14, h⟩ := bnd_of h
          by_cases h15 : t14 = t6
          · replace h := ite_t h h15
            by_cases h16 : ((t4.1 == 0) && (((t4.2.1 == 0) && ((t4.2.2.1 == 0) && true)) && true)) = true
            · replace h := ite_t h h16
              by_cases h17 : t4.2.2.2 = t8
              · replace h := ite_t h h17
                by_cases h18 : ((t5.1 == 0) && (((t5.2.1 == 0) && ((t5.2.2.1 == 0) && true)) && true)) = true
                · replace h := ite_t h h18
                  obtain ⟨t19, h19, h⟩ := bnd_of h
                  by_cases h20 : t19 = true
                  · replace h := ite_t h h20
                    by_cases h21 : t5.2.2.2.2 = t6
                    · replace h := ite_t h h21
                      obtain ⟨t22, h22, h⟩ := bnd_of h
                      replace h := Option.some.inj h
                      subst h
                      exact run (n := 100) (f := 3) (args := [.agg [I a0, I a1, I a2], .agg [I a3, I a4, I a5], .lst false 1 a6]) (orc := [.ret (B t1), .br false, .ret (.lst false 1 t3), .ret (.tup [.agg [I t4.1, I t4.2.1, I t4.2.2.1], I t4.2.2.2]), .ret (.tup [.agg [I t5.1, I t5.2.1, I t5.2.2.1], .lst false 1 t5.2.2.2.1, I t5.2.2.2.2]), .ret (I t6), .ret (I t7), .ret (I t8), .br false, .br false, .br false, .ret (I t11), .ret (I t12), .br true, .ret (I t14), .br true, .br true, .br true, .br true, .ret (B t19), .br true, .br true, .ret (B t22)]) (r := B t22) (ob := [Computes cx 19 [] (B t22), (t5.2.2.2.2 == t6) = true, t19 = true, Computes cx 31 [.lst false 1 t5.2.2.2.1, .lst true 0 []] (B t19), ((t5.1 == 0) && (((t5.2.1 == 0) && ((t5.2.2.1 == 0) && true)) && true)) = true, (t4.2.2.2 == t8) = true, ((t4.1 == 0) && (((t4.2.1 == 0) && ((t4.2.2.1 == 0) && true)) && true)) = true, (t14 == t6) = true, Computes cx 30 [.agg [I a0, I a1, I a2], .agg [I a3, I a4, I a5]] (I t14), (t11 == t12) = true, Computes cx 29 [.agg [I a0, I a1, I a2]] (I t12), Computes cx 28 [.agg [I a0, I a1, I a2]] (I t11), (t6 == 0) = false, (t6 == 0) = false, (t8 == 0) = false, Computes cx 24 [.lst true 1 [I t6, I t7]] (I t8), Computes cx 25 [B (decide (((a6).length : Int) > 256)), I 5] (I t7), Computes cx 23 [.agg [I a0, I a1, I a2], .agg [I a3, I a4, I a5]] (I t6), Computes cx 22 [.agg [I a0, I a1, I a2], .agg [I a3, I a4, I a5]] (.tup [.agg [I t5.1, I t5.2.1, I t5.2.2.1], .lst false 1 t5.2.2.2.1, I t5.2.2.2.2]), Computes cx 20 [.agg [I a0, I a1, I a2], .agg [I a3, I a4, I a5], .lst false 1 t3] (.tup [.agg [I t4.1, I t4.2.1, I t4.2.2.1], I t4.2.2.2]), Computes cx 21 [.lst false 1 a6] (.lst false 1 t3), (!t1) = false, Computes cx 18 [.lst false 1 a6] (B t1)]) (by kernel_rfl) ⟨(c_law03_awake h22), (eqt h21), h20, ((c_ref01_SameInts h19).le (.cons (.refl _) (.cons (.lst _ _ _ _ _ nofun (.inl rfl)) (.nil))) (.refl _)), h18, (eqt h17), h16, (eqt h15), (c_drive_CheckState h14), (eqt h13), (c_ref03_CheckAxis h12), (c_drive_CheckAxis h11), (eqf h10), (eqf h10), (eqf h9), ((c_ref01_First h8).le (.cons (.full _ _ _) (.nil)) (.refl _)), (c_ref01_When_2 h7), (c_ref03_CheckState h6), (c_drive_Referenced h5), (c_drive_Moved h4), (c_law03_ints h3), (notf h2), (c_ref03_ShortSteps h1), trivial⟩
                    · replace h := ite_f h h21
                      cases h
                  · replace h := ite_f h h20
                    cases h
                · replace h := ite_f h h18
                  cases h
              · replace h := ite_f h h17
                cases h
            · replace h := ite_f h h16
              cases h
          · replace h := ite_f h h15
            cases h
        · replace h := ite_f h h13
          cases h
  · replace h := ite_f h h2
    obtain ⟨t3, h3, h⟩ := bnd_of h
    replace h := Option.some.inj h
    subst h
    exact run (n := 100) (f := 3) (args := [.agg [I a0, I a1, I a2], .agg [I a3, I a4, I a5], .lst false 1 a6]) (orc := [.ret (B t1), .br true, .ret (B t3)]) (r := B t3) (ob := [Computes cx 19 [] (B t3), (!t1) = true, Computes cx 18 [.lst false 1 a6] (B t1)]) (by kernel_rfl) ⟨(c_law03_awake h3), (nott (bfalse h2)), (c_ref03_ShortSteps h1), trivial⟩
end Go.Proofs.YtmgbmngmmpeaaaaGreatDoor
