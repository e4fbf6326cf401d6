/-
  Printed by gsx.py: functions of the program as Lean functions, and that the code computes them.
-/
import Derived.Test.YtmgbmngmmpeaaaaGreatDoorGen8
set_option linter.unusedVariables false
set_option linter.unusedSimpArgs false
set_option linter.unnecessarySimpa false
set_option maxRecDepth 10000
namespace Go.Proofs.YtmgbmngmmpeaaaaGreatDoor
open Go.SX
def F_ref03_Refined_L1 (n : Nat) (a0 : List D) (a1 : Int) (a2 : Int) (a3 : Int) (sa : (Int × List D)) : Option (((Int × List D)) ⊕ ((List D))) :=
  if sa.1 < ((a0).length : Int) then
    (el un_Ai3Z a0 sa.1).bind fun ta2 =>
    (F_ref03_permitted n ta2.1 ta2.2.1 ta2.2.2 a1 a2 a3).bind fun ta3 =>
    if ta3.2.1 ≤ ta3.2.2 then
      if roomP 24 ((sa.2).length + 1) then
      if inI64 (sa.1 + 1) then
      some (.inl ((sa.1 + 1), (sa.2 ++ ([.agg [I ta3.1, I ta3.2.1, I ta3.2.2]] : List D))))
      else none
      else none
    else
    if inI64 (sa.1 + 1) then
    some (.inl ((sa.1 + 1), sa.2))
    else none
  else
  some (.inr sa.2)
noncomputable def T_ref03_Refined_L1 (a0 : List D) (a1 : Int) (a2 : Int) (a3 : Int) (sa : (Int × List D)) : List (Nat × AV) := [(0, .d (.lst false 3 a0)), (3, .ptr 0 0 0 0 0), (6, .own 5 0), (7, .d (I sa.1))]
noncomputable def H_ref03_Refined_L1 (a0 : List D) (a1 : Int) (a2 : Int) (a3 : Int) (sa : (Int × List D)) : List (Nat × Blk) := [(0, .box (.d (.agg [I a1, I a2, I a3]))), (5, .row 0 3 sa.2)]
noncomputable def X_ref03_Refined_L1 (a0 : List D) (a1 : Int) (a2 : Int) (a3 : Int) (e : (List D)) : Ex := (.exit 0)
noncomputable def XT_ref03_Refined_L1 (a0 : List D) (a1 : Int) (a2 : Int) (a3 : Int) (e : (List D)) : List (Nat × AV) := [(6, .own 5 0)]
noncomputable def XH_ref03_Refined_L1 (a0 : List D) (a1 : Int) (a2 : Int) (a3 : Int) (e : (List D)) : List (Nat × Blk) := [(5, .row 0 3 e)]
theorem R_ref03_Refined_L1 {n : Nat} {a0 : List D} {a1 : Int} {a2 : Int} {a3 : Int} (sa : (Int × List D)) (r) (h : F_ref03_Refined_L1 n a0 a1 a2 a3 sa = some r) : Rd cx (loopAt cx.P 51 0) 36 0 false (T_ref03_Refined_L1 a0 a1 a2 a3) (H_ref03_Refined_L1 a0 a1 a2 a3) (X_ref03_Refined_L1 a0 a1 a2 a3) (XT_ref03_Refined_L1 a0 a1 a2 a3) (XH_ref03_Refined_L1 a0 a1 a2 a3) sa r := by
  unfold F_ref03_Refined_L1 at h
  by_cases ha1 : sa.1 < ((a0).length : Int)
  · replace h := ite_t h ha1
    obtain ⟨ta2, ha2, h⟩ := bnd_of h
    obtain ⟨ta3, ha3, h⟩ := bnd_of h
    by_cases ha4 : ta3.2.1 ≤ ta3.2.2
    · replace h := ite_t h ha4
      obtain ⟨ha5, h⟩ := grd_of h
      obtain ⟨ha6, h⟩ := grd_of h
      replace h := Option.some.inj h
      subst h
      exact ⟨100, 6, [.br true, .el (.agg [I ta2.1, I ta2.2.1, I ta2.2.2]), .ret (.agg [I ta3.1, I ta3.2.1, I ta3.2.2]), .br true, .br true], [], [0, 3, 6, 7], [0, 5], round_of (ob := [inI64 (sa.1 + 1), room cx 126 ((sa.2).length + 1), (decide (ta3.2.1 ≤ ta3.2.2)) = true, Computes cx 94 [.agg [I ta2.1, I ta2.2.1, I ta2.2.2], .agg [I a1, I a2, I a3]] (.agg [I ta3.1, I ta3.2.1, I ta3.2.2]), (0 : Int) ≤ sa.1, nth (a0) (Int.toNat sa.1) = some (.agg [I ta2.1, I ta2.2.1, I ta2.2.2]), (decide (sa.1 < ((a0).length : Int))) = true]) (by kernel_rfl) ⟨ha6, (room_of (b := 24) (by kernel_rfl) (by decide) ha5), (decide_eq_true ha4), (c_ref03_permitted ha3), (el_ok un_Ai3Z_ok ha2).1, (el_ok un_Ai3Z_ok ha2).2, (decide_eq_true ha1), trivial⟩⟩
    · replace h := ite_f h ha4
      obtain ⟨ha5, h⟩ := grd_of h
      replace h := Option.some.inj h
      subst h
      exact ⟨100, 6, [.br true, .el (.agg [I ta2.1, I ta2.2.1, I ta2.2.2]), .ret (.agg [I ta3.1, I ta3.2.1, I ta3.2.2]), .br false], [], [0, 3, 6, 7], [0, 5], round_of (ob := [inI64 (sa.1 + 1), (decide (ta3.2.1 ≤ ta3.2.2)) = false, Computes cx 94 [.agg [I ta2.1, I ta2.2.1, I ta2.2.2], .agg [I a1, I a2, I a3]] (.agg [I ta3.1, I ta3.2.1, I ta3.2.2]), (0 : Int) ≤ sa.1, nth (a0) (Int.toNat sa.1) = some (.agg [I ta2.1, I ta2.2.1, I ta2.2.2]), (decide (sa.1 < ((a0).length : Int))) = true]) (by kernel_rfl) ⟨ha5, (decide_eq_false ha4), (c_ref03_permitted ha3), (el_ok un_Ai3Z_ok ha2).1, (el_ok un_Ai3Z_ok ha2).2, (decide_eq_true ha1), trivial⟩⟩
  · replace h := ite_f h ha1
    replace h := Option.some.inj h
    subst h
    exact ⟨⟨100, 6, [.br false], [], [6], [5], round_of (ob := [(decide (sa.1 < ((a0).length : Int))) = false]) (by kernel_rfl) ⟨(decide_eq_false ha1), trivial⟩⟩, nofun⟩
/- spillage/spillageref03.Refined: .lst false 3 a0, .agg [I a1, I a2, I a3] -/
def F_ref03_Refined (n : Nat) (a0 : List D) (a1 : Int) (a2 : Int) (a3 : Int) : Option (List D × Int) :=
  (loopF (F_ref03_Refined_L1 n a0 a1 a2 a3) n (0, [])).bind fun t1 =>
  if ((t1).length : Int) = 0 then
    some ([], 18)
  else
  some (t1, 0)
theorem c_ref03_Refined {n : Nat} {a0 : List D} {a1 : Int} {a2 : Int} {a3 : Int} {r : List D × Int} (h : F_ref03_Refined n a0 a1 a2 a3 = some r) : Computes cx 51 [.lst false 3 a0, .agg [I a1, I a2, I a3]] (.tup [.lst false 3 r.1, I r.2]) := by
  unfold F_ref03_Refined at h
  obtain ⟨t1, h1, h⟩ := bnd_of h
  by_cases h2 : ((t1).length : Int) = 0
  · replace h := ite_t h h2
    replace h := Option.some.inj h
    subst h
    exact (run (n := 100) (f := 51) (args := [.lst false 3 a0, .agg [I a1, I a2, I a3]]) (orc := [.lp [6, 3] [0, 3, 6, 7] [0, 5] (.exit 0) [(6, .own 5 0)] [(5, .row 0 3 t1)] 44, .br true]) (r := .tup [.lst true 0 [], I 18]) (ob := [(((t1).length : Int) == 0) = true, LoopN cx (loopAt cx.P 51 0) 36 0 false [(0, .d (.lst false 3 a0)), (3, .ptr 0 0 0 0 0), (6, .own 5 0), (7, .d (I 0))] [(0, .box (.d (.agg [I a1, I a2, I a3]))), (5, .row 0 3 [])] (.exit 0) [(6, .own 5 0)] [(5, .row 0 3 t1)]]) (by kernel_rfl) ⟨(eqt h2), (loopF_to R_ref03_Refined_L1 h1), trivial⟩).le (LEs.refl _) (.tups (.cons (.lst _ _ _ _ _ nofun (.inl rfl)) (.cons (.refl _) (.nil))))
  · replace h := ite_f h h2
    replace h := Option.some.inj h
    subst h
    exact run (n := 100) (f := 51) (args := [.lst false 3 a0, .agg [I a1, I a2, I a3]]) (orc := [.lp [6, 3] [0, 3, 6, 7] [0, 5] (.exit 0) [(6, .own 5 0)] [(5, .row 0 3 t1)] 44, .br false]) (r := .tup [.lst false 3 t1, I 0]) (ob := [(((t1).length : Int) == 0) = false, LoopN cx (loopAt cx.P 51 0) 36 0 false [(0, .d (.lst false 3 a0)), (3, .ptr 0 0 0 0 0), (6, .own 5 0), (7, .d (I 0))] [(0, .box (.d (.agg [I a1, I a2, I a3]))), (5, .row 0 3 [])] (.exit 0) [(6, .own 5 0)] [(5, .row 0 3 t1)]]) (by kernel_rfl) ⟨(eqf h2), (loopF_to R_ref03_Refined_L1 h1), trivial⟩
def F_ref03_Drifted_L1 (n : Nat) (a0 : List D) (a1 : Int) (a2 : Int) (sa : (Int × List D)) : Option (((Int × List D)) ⊕ ((Unit) ⊕ (List D))) :=
  if sa.1 < ((a0).length : Int) then
    (el un_Ai3Z a0 sa.1).bind fun ta2 =>
    if inI64 (ta2.2.1 + a1) then
    if inI64 (ta2.2.2 + a2) then
    if (ta2.2.1 + a1) < (-2000000) then
      some (.inr (.inl ()))
    else
    if (ta2.2.2 + a2) > 2000000 then
      some (.inr (.inl ()))
    else
    if roomP 24 ((sa.2).length + 1) then
    if inI64 (sa.1 + 1) then
    some (.inl ((sa.1 + 1), (sa.2 ++ ([.agg [I ta2.1, I (ta2.2.1 + a1), I (ta2.2.2 + a2)]] : List D))))
    else none
    else none
    else none
    else none
  else
  some (.inr (.inr sa.2))
noncomputable def T_ref03_Drifted_L1 (a0 : List D) (a1 : Int) (a2 : Int) (sa : (Int × List D)) : List (Nat × AV) := [(0, .d (.lst false 3 a0)), (3, .ptr 0 0 0 0 0), (6, .own 5 0), (7, .d (I sa.1))]
noncomputable def H_ref03_Drifted_L1 (a0 : List D) (a1 : Int) (a2 : Int) (sa : (Int × List D)) : List (Nat × Blk) := [(0, .box (.d (.agg [I a1, I a2]))), (5, .row 0 3 sa.2)]
noncomputable def X_ref03_Drifted_L1 (a0 : List D) (a1 : Int) (a2 : Int) (e : (Unit) ⊕ (List D)) : Ex := match e with
  | (.inl e) => .ret
  | (.inr e) => (.exit 0)
noncomputable def XT_ref03_Drifted_L1 (a0 : List D) (a1 : Int) (a2 : Int) (e : (Unit) ⊕ (List D)) : List (Nat × AV) := match e with
  | (.inl e) => [(4, .d (.lst true 0 [])), (5, .d (I 4))]
  | (.inr e) => [(6, .own 5 0)]
noncomputable def XH_ref03_Drifted_L1 (a0 : List D) (a1 : Int) (a2 : Int) (e : (Unit) ⊕ (List D)) : List (Nat × Blk) := match e with
  | (.inl e) => []
  | (.inr e) => [(5, .row 0 3 e)]
theorem R_ref03_Drifted_L1 {n : Nat} {a0 : List D} {a1 : Int} {a2 : Int} (sa : (Int × List D)) (r) (h : F_ref03_Drifted_L1 n a0 a1 a2 sa = some r) : Rd cx (loopAt cx.P 52 0) 55 0 false (T_ref03_Drifted_L1 a0 a1 a2) (H_ref03_Drifted_L1 a0 a1 a2) (X_ref03_Drifted_L1 a0 a1 a2) (XT_ref03_Drifted_L1 a0 a1 a2) (XH_ref03_Drifted_L1 a0 a1 a2) sa r := by
  unfold F_ref03_Drifted_L1 at h
  by_cases ha1 : sa.1 < ((a0).length : Int)
  · replace h := ite_t h ha1
    obtain ⟨ta2, ha2, h⟩ := bnd_of h
    obtain ⟨ha3, h⟩ := grd_of h
    obtain ⟨ha4, h⟩ := grd_of h
    by_cases ha5 : (ta2.2.1 + a1) < (-2000000)
    · replace h := ite_t h ha5
      replace h := Option.some.inj h
      subst h
      exact ⟨⟨100, 6, [.br true, .el (.agg [I ta2.1, I ta2.2.1, I ta2.2.2]), .el (.agg [I ta2.1, I ta2.2.1, I ta2.2.2]), .el (.agg [I ta2.1, I ta2.2.1, I ta2.2.2]), .br true, .no], [], [4, 5], [], round_of (ob := [(decide ((ta2.2.1 + a1) < (-2000000))) = true, inI64 (ta2.2.2 + a2), (0 : Int) ≤ sa.1, nth (a0) (Int.toNat sa.1) = some (.agg [I ta2.1, I ta2.2.1, I ta2.2.2]), inI64 (ta2.2.1 + a1), (0 : Int) ≤ sa.1, nth (a0) (Int.toNat sa.1) = some (.agg [I ta2.1, I ta2.2.1, I ta2.2.2]), (0 : Int) ≤ sa.1, nth (a0) (Int.toNat sa.1) = some (.agg [I ta2.1, I ta2.2.1, I ta2.2.2]), (decide (sa.1 < ((a0).length : Int))) = true]) (by kernel_rfl) ⟨(decide_eq_true ha5), ha4, (el_ok un_Ai3Z_ok ha2).1, (el_ok un_Ai3Z_ok ha2).2, ha3, (el_ok un_Ai3Z_ok ha2).1, (el_ok un_Ai3Z_ok ha2).2, (el_ok un_Ai3Z_ok ha2).1, (el_ok un_Ai3Z_ok ha2).2, (decide_eq_true ha1), trivial⟩⟩, nofun⟩
    · replace h := ite_f h ha5
      by_cases ha6 : (ta2.2.2 + a2) > 2000000
      · replace h := ite_t h ha6
        replace h := Option.some.inj h
        subst h
        exact ⟨⟨100, 6, [.br true, .el (.agg [I ta2.1, I ta2.2.1, I ta2.2.2]), .el (.agg [I ta2.1, I ta2.2.1, I ta2.2.2]), .el (.agg [I ta2.1, I ta2.2.1, I ta2.2.2]), .br false, .br true], [], [4, 5], [], round_of (ob := [(decide ((ta2.2.2 + a2) > 2000000)) = true, (decide ((ta2.2.1 + a1) < (-2000000))) = false, inI64 (ta2.2.2 + a2), (0 : Int) ≤ sa.1, nth (a0) (Int.toNat sa.1) = some (.agg [I ta2.1, I ta2.2.1, I ta2.2.2]), inI64 (ta2.2.1 + a1), (0 : Int) ≤ sa.1, nth (a0) (Int.toNat sa.1) = some (.agg [I ta2.1, I ta2.2.1, I ta2.2.2]), (0 : Int) ≤ sa.1, nth (a0) (Int.toNat sa.1) = some (.agg [I ta2.1, I ta2.2.1, I ta2.2.2]), (decide (sa.1 < ((a0).length : Int))) = true]) (by kernel_rfl) ⟨(decide_eq_true ha6), (decide_eq_false ha5), ha4, (el_ok un_Ai3Z_ok ha2).1, (el_ok un_Ai3Z_ok ha2).2, ha3, (el_ok un_Ai3Z_ok ha2).1, (el_ok un_Ai3Z_ok ha2).2, (el_ok un_Ai3Z_ok ha2).1, (el_ok un_Ai3Z_ok ha2).2, (decide_eq_true ha1), trivial⟩⟩, nofun⟩
      · replace h := ite_f h ha6
        obtain ⟨ha7, h⟩ := grd_of h
        obtain ⟨ha8, h⟩ := grd_of h
        replace h := Option.some.inj h
        subst h
        exact ⟨100, 6, [.br true, .el (.agg [I ta2.1, I ta2.2.1, I ta2.2.2]), .el (.agg [I ta2.1, I ta2.2.1, I ta2.2.2]), .el (.agg [I ta2.1, I ta2.2.1, I ta2.2.2]), .br false, .br false, .br true], [], [0, 3, 6, 7], [0, 5], round_of (ob := [inI64 (sa.1 + 1), room cx 126 ((sa.2).length + 1), (decide ((ta2.2.2 + a2) > 2000000)) = false, (decide ((ta2.2.1 + a1) < (-2000000))) = false, inI64 (ta2.2.2 + a2), (0 : Int) ≤ sa.1, nth (a0) (Int.toNat sa.1) = some (.agg [I ta2.1, I ta2.2.1, I ta2.2.2]), inI64 (ta2.2.1 + a1), (0 : Int) ≤ sa.1, nth (a0) (Int.toNat sa.1) = some (.agg [I ta2.1, I ta2.2.1, I ta2.2.2]), (0 : Int) ≤ sa.1, nth (a0) (Int.toNat sa.1) = some (.agg [I ta2.1, I ta2.2.1, I ta2.2.2]), (decide (sa.1 < ((a0).length : Int))) = true]) (by kernel_rfl) ⟨ha8, (room_of (b := 24) (by kernel_rfl) (by decide) ha7), (decide_eq_false ha6), (decide_eq_false ha5), ha4, (el_ok un_Ai3Z_ok ha2).1, (el_ok un_Ai3Z_ok ha2).2, ha3, (el_ok un_Ai3Z_ok ha2).1, (el_ok un_Ai3Z_ok ha2).2, (el_ok un_Ai3Z_ok ha2).1, (el_ok un_Ai3Z_ok ha2).2, (decide_eq_true ha1), trivial⟩⟩
  · replace h := ite_f h ha1
    replace h := Option.some.inj h
    subst h
    exact ⟨⟨100, 6, [.br false], [], [6], [5], round_of (ob := [(decide (sa.1 < ((a0).length : Int))) = false]) (by kernel_rfl) ⟨(decide_eq_false ha1), trivial⟩⟩, nofun⟩
/- spillage/spillageref03.Drifted: .lst false 3 a0, .agg [I a1, I a2] -/
def F_ref03_Drifted (n : Nat) (a0 : List D) (a1 : Int) (a2 : Int) : Option (List D × Int) :=
  (loopF (F_ref03_Drifted_L1 n a0 a1 a2) n (0, [])).bind fun t1 => match t1 with
    | (.inl t1) => (
      some ([], 4))
    | (.inr t1) => (
      some (t1, 0))
theorem c_ref03_Drifted {n : Nat} {a0 : List D} {a1 : Int} {a2 : Int} {r : List D × Int} (h : F_ref03_Drifted n a0 a1 a2 = some r) : Computes cx 52 [.lst false 3 a0, .agg [I a1, I a2]] (.tup [.lst false 3 r.1, I r.2]) := by
  unfold F_ref03_Drifted at h
  obtain ⟨t1, h1, h⟩ := bnd_of h
  rcases t1 with t1 | t1
  · replace h := Option.some.inj h
    subst h
    exact (run (n := 100) (f := 52) (args := [.lst false 3 a0, .agg [I a1, I a2]]) (orc := [.lp [6, 3] [0, 3, 6, 7] [0, 5] .ret [(4, .d (.lst true 0 [])), (5, .d (I 4))] [] 66]) (r := .tup [.lst true 0 [], I 4]) (ob := [LoopN cx (loopAt cx.P 52 0) 55 0 false [(0, .d (.lst false 3 a0)), (3, .ptr 0 0 0 0 0), (6, .own 5 0), (7, .d (I 0))] [(0, .box (.d (.agg [I a1, I a2]))), (5, .row 0 3 [])] .ret [(4, .d (.lst true 0 [])), (5, .d (I 4))] []]) (by kernel_rfl) ⟨(loopF_to R_ref03_Drifted_L1 h1), trivial⟩).le (LEs.refl _) (.tups (.cons (.lst _ _ _ _ _ nofun (.inl rfl)) (.cons (.refl _) (.nil))))
  · replace h := Option.some.inj h
    subst h
    exact run (n := 100) (f := 52) (args := [.lst false 3 a0, .agg [I a1, I a2]]) (orc := [.lp [6, 3] [0, 3, 6, 7] [0, 5] (.exit 0) [(6, .own 5 0)] [(5, .row 0 3 t1)] 66]) (r := .tup [.lst false 3 t1, I 0]) (ob := [LoopN cx (loopAt cx.P 52 0) 55 0 false [(0, .d (.lst false 3 a0)), (3, .ptr 0 0 0 0 0), (6, .own 5 0), (7, .d (I 0))] [(0, .box (.d (.agg [I a1, I a2]))), (5, .row 0 3 [])] (.exit 0) [(6, .own 5 0)] [(5, .row 0 3 t1)]]) (by kernel_rfl) ⟨(loopF_to R_ref03_Drifted_L1 h1), trivial⟩
/- spillage/spillagelaw03.DriveModels: .lst false 3 a0, .agg [I a1, I a2, I a3], .agg [I a4, I a5] -/
def F_law03_DriveModels (n : Nat) (a0 : List D) (a1 : Int) (a2 : Int) (a3 : Int) (a4 : Int) (a5 : Int) : Option (Bool) :=
  (F_ref03_ShortModel n a0).bind fun t1 =>
  if t1 = true then
    (F_law03_given n a0).bind fun t3 =>
    (F_drive_Refined n t3 a1 a2 a3).bind fun t4 =>
    (F_drive_Drifted n t3 a4 a5).bind fun t5 =>
    (F_ref03_CheckModel n a0).bind fun t6 =>
    (F_ref03_CheckSpot n a1 a2 a3).bind fun t7 =>
    (F_ref01_First n ([I t6, I t7])).bind fun t8 =>
    (F_ref03_CheckInterval n a4 a5 (-1000000) 1000000).bind fun t9 =>
    (F_ref01_First n ([I t6, I t9])).bind fun t10 =>
    if t8 = 0 then
      (F_ref03_Refined n a0 a1 a2 a3).bind fun t12 =>
      if t10 = 0 then
        (F_ref03_Drifted n a0 a4 a5).bind fun t14 =>
        (F_drive_CheckModel n t3).bind fun t15 =>
        if t15 = t6 then
          (F_law03_bands n t4.1).bind fun t17 =>
          (F_ref03_SameModel n t17 t12.1).bind fun t18 =>
          if t18 = true then
            if t4.2 = t12.2 then
              (F_law03_bands n t5.1).bind fun t21 =>
              (F_ref03_SameModel n t21 t14.1).bind fun t22 =>
              if t22 = true then
                if t5.2 = t14.2 then
                  (F_law03_awake n).bind fun t25 =>
                  some t25
                else
                none /- false -/
              else
              none /- false -/
            else
            none /- false -/
          else
          none /- false -/
        else
        none /- false -/
      else
      (F_drive_CheckModel n t3).bind fun t14 =>
      if t14 = t6 then
        (F_law03_bands n t4.1).bind fun t16 =>
        (F_ref03_SameModel n t16 t12.1).bind fun t17 =>
        if t17 = true then
          if t4.2 = t12.2 then
            (F_law03_bands n t5.1).bind fun t20 =>
            (F_ref03_SameModel n t20 ([])).bind fun t21 =>
            if t21 = true then
              if t5.2 = t10 then
                (F_law03_awake n).bind fun t24 =>
                some t24
              else
              none /- false -/
            else
            none /- false -/
          else
          none /- false -/
        else
        none /- false -/
      else
      none /- false -/
    else
    if t10 = 0 then
      (F_ref03_Drifted n a0 a4 a5).bind fun t13 =>
      (F_drive_CheckModel n t3).bind fun t14 =>
      if t14 = t6 then
        (F_law03_bands n t4.1).bind fun t16 =>
        (F_ref03_SameModel n t16 ([])).bind fun t17 =>
        if t17 = true then
          if t4.2 = t8 then
            (F_law03_bands n t5.1).bind fun t20 =>
            (F_ref03_SameModel n t20 t13.1).bind fun t21 =>
            if t21 = true then
              if t5.2 = t13.2 then
                (F_law03_awake n).bind fun t24 =>
                some t24
              else
              none /- false -/
            else
            none /- false -/
          else
          none /- false -/
        else
        none /- false -/
      else
      none /- false -/
    else
    (F_drive_CheckModel n t3).bind fun t13 =>
    if t13 = t6 then
      (F_law03_bands n t4.1).bind fun t15 =>
      (F_ref03_SameModel n t15 ([])).bind fun t16 =>
      if t16 = true then
        if t4.2 = t8 then
          (F_law03_bands n t5.1).bind fun t19 =>
          (F_ref03_SameModel n t19 ([])).bind fun t20 =>
          if t20 = true then
            if t5.2 = t10 then
              (F_law03_awake n).bind fun t23 =>
              some t23
            else
            none /- false -/
          else
          none /- false -/
        else
        none /- false -/
      else
      none /- false -/
    else
    none /- false -/
  else
  (F_law03_awake n).bind fun t3 =>
  some t3
theorem c_law03_DriveModels {n : Nat} {a0 : List D} {a1 : Int} {a2 : Int} {a3 : Int} {a4 : Int} {a5 : Int} {r : Bool} (h : F_law03_DriveModels n a0 a1 a2 a3 a4 a5 = some r) : Computes cx 6 [.lst false 3 a0, .agg [I a1, I a2, I a3], .agg [I a4, I a5]] (B r) := by
  unfold F_law03_DriveModels at h
  obtain ⟨t1, h1, h⟩ := bnd_of h
  by_cases h2 : t1 = true
  · replace h := ite_t h h2
    obtain ⟨t3, h3, h⟩ := bnd_of h
    obtain ⟨t4, h4, h⟩ := bnd_of h
    obtain ⟨t5, h5, h⟩ := bnd_of h
    obtain ⟨t6, h6, h⟩ := bnd_of h
    obtain ⟨t7, h7, h⟩ := bnd_of h
    obtain ⟨t8, h8, h⟩ := bnd_of h
    obtain ⟨t9, h9, h⟩ := bnd_of h
    obtain ⟨t10, h10, h⟩ := bnd_of h
    by_cases h11 : t8 = 0
    · replace h := ite_t h h11
      obtain ⟨t12, h12, h⟩ := bnd_of h
      by_cases h13 : t10 = 0
      · replace h := ite_t h h13
        obtain ⟨t14, h14, h⟩ := bnd_of h
        obtain ⟨t15, h15, h⟩ := bnd_of h
        by_cases h16 : t15 = t6
        · replace h := ite_t h h16
          obtain ⟨t17, h17, h⟩ := bnd_of h
          obtain ⟨t18, h18, h⟩ := bnd_of h
          by_cases h19 : t18 = true
          · replace h := ite_t h h19
            by_cases h20 : t4.2 = t12.2
            · replace h := ite_t h h20
              obtain ⟨t21, h21, h⟩ := bnd_of h
              obtain ⟨t22, h22, h⟩ := bnd_of h
              by_cases h23 : t22 = true
              · replace h := ite_t h h23
                by_cases h24 : t5.2 = t14.2
                · replace h := ite_t h h24
                  obtain ⟨t25, h25, h⟩ := bnd_of h
                  replace h := Option.some.inj h
                  subst h
                  exact run (n := 100) (f := 6) (args := [.lst false 3 a0, .agg [I a1, I a2, I a3], .agg [I a4, I a5]]) (orc := [.ret (B t1), .br false, .ret (.lst false 3 t3), .ret (.tup [.lst false 3 t4.1, I t4.2]), .ret (.lst false 3 t3), .ret (.tup [.lst false 3 t5.1, I t5.2]), .ret (I t6), .ret (I t7), .ret (I t8), .ret (I t6), .ret (I t9), .ret (I t10), .br true, .ret (.tup [.lst false 3 t12.1, I t12.2]), .br true, .ret (.tup [.lst false 3 t14.1, I t14.2]), .ret (.lst false 3 t3), .ret (I t15), .ret (I t6), .br true, .ret (.lst false 3 t17), .ret (B t18), .br true, .br true, .ret (.lst false 3 t21), .ret (B t22), .br true, .br true, .ret (B t25)]) (r := B t25) (ob := [Computes cx 19 [] (B t25), (t5.2 == t14.2) = true, t22 = true, Computes cx 43 [.lst false 3 t21, .lst false 3 t14.1] (B t22), Computes cx 44 [.lst false 3 t5.1] (.lst false 3 t21), (t4.2 == t12.2) = true, t18 = true, Computes cx 43 [.lst false 3 t17, .lst false 3 t12.1] (B t18), Computes cx 44 [.lst false 3 t4.1] (.lst false 3 t17), (t15 == t6) = true, Computes cx 49 [.lst false 3 a0] (I t6), Computes cx 53 [.lst false 3 t3] (I t15), Computes cx 47 [.lst false 3 a0] (.lst false 3 t3), Computes cx 52 [.lst false 3 a0, .agg [I a4, I a5]] (.tup [.lst false 3 t14.1, I t14.2]), (t10 == 0) = true, Computes cx 51 [.lst false 3 a0, .agg [I a1, I a2, I a3]] (.tup [.lst false 3 t12.1, I t12.2]), (t8 == 0) = true, Computes cx 24 [.lst true 1 [I t6, I t9]] (I t10), Computes cx 40 [.agg [I a4, I a5], I (-1000000), I 1000000] (I t9), Computes cx 49 [.lst false 3 a0] (I t6), Computes cx 24 [.lst true 1 [I t6, I t7]] (I t8), Computes cx 50 [.agg [I a1, I a2, I a3]] (I t7), Computes cx 49 [.lst false 3 a0] (I t6), Computes cx 48 [.lst false 3 t3, .agg [I a4, I a5]] (.tup [.lst false 3 t5.1, I t5.2]), Computes cx 47 [.lst false 3 a0] (.lst false 3 t3), Computes cx 46 [.lst false 3 t3, .agg [I a1, I a2, I a3]] (.tup [.lst false 3 t4.1, I t4.2]), Computes cx 47 [.lst false 3 a0] (.lst false 3 t3), (!t1) = false, Computes cx 45 [.lst false 3 a0] (B t1)]) (by kernel_rfl) ⟨(c_law03_awake h25), (eqt h24), h23, (c_ref03_SameModel h22), (c_law03_bands h21), (eqt h20), h19, (c_ref03_SameModel h18), (c_law03_bands h17), (eqt h16), (c_ref03_CheckModel h6), (c_drive_CheckModel h15), (c_law03_given h3), (c_ref03_Drifted h14), (eqt h13), (c_ref03_Refined h12), (eqt h11), ((c_ref01_First h10).le (.cons (.full _ _ _) (.nil)) (.refl _)), (c_ref03_CheckInterval h9), (c_ref03_CheckModel h6), ((c_ref01_First h8).le (.cons (.full _ _ _) (.nil)) (.refl _)), (c_ref03_CheckSpot h7), (c_ref03_CheckModel h6), (c_drive_Drifted h5), (c_law03_given h3), (c_drive_Refined h4), (c_law03_given h3), (notf h2), (c_ref03_ShortModel h1), trivial⟩
                · replace h := ite_f h h24
                  cases h
              · replace h := ite_f h h23
                cases h
            · replace h := ite_f h h20
              cases h
          · replace h := ite_f h h19
            cases h
        · replace h := ite_f h h16
          cases h
      · replace h := ite_f h h13
        obtain ⟨t14, h14, h⟩ := bnd_of h
        by_cases h15 : t14 = t6
        · replace h := ite_t h h15
          obtain ⟨t16, h16, h⟩ := bnd_of h
          obtain ⟨t17, h17, h⟩ := bnd_of h
          by_cases h18 : t17 = true
          · replace h := ite_t h h18
            by_cases h19 : t4.2 = t12.2
            · replace h := ite_t h h19
              obtain ⟨t20, h20, h⟩ := bnd_of h
              obtain ⟨t21, h21, h⟩ := bnd_of h
              by_cases h22 : t21 = true
              · replace h := ite_t h h22
                by_cases h23 : t5.2 = t10
                · replace h := ite_t h h23
                  obtain ⟨t24, h24, h⟩ := bnd_of h
                  replace h := Option.some.inj h
                  subst h
                  exact run (n := 100) (f := 6) (args := [.lst false 3 a0, .agg [I a1, I a2, I a3], .agg [I a4, I a5]]) (orc := [.ret (B t1), .br false, .ret (.lst false 3 t3), .ret (.tup [.lst false 3 t4.1, I t4.2]), .ret (.lst false 3 t3), .ret (.tup [.lst false 3 t5.1, I t5.2]), .ret (I t6), .ret (I t7), .ret (I t8), .ret (I t6), .ret (I t9), .ret (I t10), .br true, .ret (.tup [.lst false 3 t12.1, I t12.2]), .br false, .ret (.lst false 3 t3), .ret (I t14), .ret (I t6), .br true, .ret (.lst false 3 t16), .ret (B t17), .br true, .br true, .ret (.lst false 3 t20), .ret (B t21), .br true, .br true, .ret (B t24)]) (r := B t24) (ob := [Computes cx 19 [] (B t24), (t5.2 == t10) = true, t21 = true, Computes cx 43 [.lst false 3 t20, .lst true 0 []] (B t21), Computes cx 44 [.lst false 3 t5.1] (.lst false 3 t20), (t4.2 == t12.2) = true, t17 = true, Computes cx 43 [.lst false 3 t16, .lst false 3 t12.1] (B t17), Computes cx 44 [.lst false 3 t4.1] (.lst false 3 t16), (t14 == t6) = true, Computes cx 49 [.lst false 3 a0] (I t6), Computes cx 53 [.lst false 3 t3] (I t14), Computes cx 47 [.lst false 3 a0] (.lst false 3 t3), (t10 == 0) = false, Computes cx 51 [.lst false 3 a0, .agg [I a1, I a2, I a3]] (.tup [.lst false 3 t12.1, I t12.2]), (t8 == 0) = true, Computes cx 24 [.lst true 1 [I t6, I t9]] (I t10), Computes cx 40 [.agg [I a4, I a5], I (-1000000), I 1000000] (I t9), Computes cx 49 [.lst false 3 a0] (I t6), Computes cx 24 [.lst true 1 [I t6, I t7]] (I t8), Computes cx 50 [.agg [I a1, I a2, I a3]] (I t7), Computes cx 49 [.lst false 3 a0] (I t6), Computes cx 48 [.lst false 3 t3, .agg [I a4, I a5]] (.tup [.lst false 3 t5.1, I t5.2]), Computes cx 47 [.lst false 3 a0] (.lst false 3 t3), Computes cx 46 [.lst false 3 t3, .agg [I a1, I a2, I a3]] (.tup [.lst false 3 t4.1, I t4.2]), Computes cx 47 [.lst false 3 a0] (.lst false 3 t3), (!t1) = false, Computes cx 45 [.lst false 3 a0] (B t1)]) (by kernel_rfl) ⟨(c_law03_awake h24), (eqt h23), h22, ((c_ref03_SameModel h21).le (.cons (.refl _) (.cons (.lst _ _ _ _ _ nofun (.inl rfl)) (.nil))) (.refl _)), (c_law03_bands h20), (eqt h19), h18, (c_ref03_SameModel h17), (c_law03_bands h16), (eqt h15), (c_ref03_CheckModel h6), (c_drive_CheckModel h14), (c_law03_given h3), (eqf h13), (c_ref03_Refined h12), (eqt h11), ((c_ref01_First h10).le (.cons (.full _ _ _) (.nil)) (.refl _)), (c_ref03_CheckInterval h9), (c_ref03_CheckModel h6), ((c_ref01_First h8).le (.cons (.full _ _ _) (.nil)) (.refl _)), (c_ref03_CheckSpot h7), (c_ref03_CheckModel h6), (c_drive_Drifted h5), (c_law03_given h3), (c_drive_Refined h4), (c_law03_given h3), (notf h2), (c_ref03_ShortModel h1), trivial⟩
                · replace h := ite_f h h23
                  cases h
              · replace h := ite_f h h22
                cases h
            · replace h := ite_f h h19
              cases h
          · replace h := ite_f h h18
            cases h
        · replace h := ite_f h h15
          cases h
    · replace h := ite_f h h11
      by_cases h12 : t10 = 0
      · replace h := ite_t h h12
        obtain ⟨t13, h13, h⟩ := bnd_of h
        obtain ⟨t14, h14, h⟩ := bnd_of h
        by_cases h15 : t14 = t6
        · replace h := ite_t h h15
          obtain ⟨t16, h16, h⟩ := bnd_of h
          obtain ⟨t17, h17, h⟩ := bnd_of h
          by_cases h18 : t17 = true
          · replace h := ite_t h h18
            by_cases h19 : t4.2 = t8
            · replace h := ite_t h h19
              obtain ⟨t20, h20, h⟩ := bnd_of h
              obtain ⟨t21, h21, h⟩ := bnd_of h
              by_cases h22 : t21 = true
              · replace h := ite_t h h22
                by_cases h23 : t5.2 = t13.2
                · replace h := ite_t h h23
                  obtain ⟨t24, h24, h⟩ := bnd_of h
                  replace h := Option.some.inj h
                  subst h
                  exact run (n := 100) (f := 6) (args := [.lst false 3 a0, .agg [I a1, I a2, I a3], .agg [I a4, I a5]]) (orc := [.ret (B t1), .br false, .ret (.lst false 3 t3), .ret (.tup [.lst false 3 t4.1, I t4.2]), .ret (.lst false 3 t3), .ret (.tup [.lst false 3 t5.1, I t5.2]), .ret (I t6), .ret (I t7), .ret (I t8), .ret (I t6), .ret (I t9), .ret (I t10), .br false, .br true, .ret (.tup [.lst false 3 t13.1, I t13.2]), .ret (.lst false 3 t3), .ret (I t14), .ret (I t6), .br true, .ret (.lst false 3 t16), .ret (B t17), .br true, .br true, .ret (.lst false 3 t20), .ret (B t21), .br true, .br true, .ret (B t24)]) (r := B t24) (ob := [Computes cx 19 [] (B t24), (t5.2 == t13.2) = true, t21 = true, Computes cx 43 [.lst false 3 t20, .lst false 3 t13.1] (B t21), Computes cx 44 [.lst false 3 t5.1] (.lst false 3 t20), (t4.2 == t8) = true, t17 = true, Computes cx 43 [.lst false 3 t16, .lst true 0 []] (B t17), Computes cx 44 [.lst false 3 t4.1] (.lst false 3 t16), (t14 == t6) = true, Computes cx 49 [.lst false 3 a0] (I t6), Computes cx 53 [.lst false 3 t3] (I t14), Computes cx 47 [.lst false 3 a0] (.lst false 3 t3), Computes cx 52 [.lst false 3 a0, .agg [I a4, I a5]] (.tup [.lst false 3 t13.1, I t13.2]), (t10 == 0) = true, (t8 == 0) = false, Computes cx 24 [.lst true 1 [I t6, I t9]] (I t10), Computes cx 40 [.agg [I a4, I a5], I (-1000000), I 1000000] (I t9), Computes cx 49 [.lst false 3 a0] (I t6), Computes cx 24 [.lst true 1 [I t6, I t7]] (I t8), Computes cx 50 [.agg [I a1, I a2, I a3]] (I t7), Computes cx 49 [.lst false 3 a0] (I t6), Computes cx 48 [.lst false 3 t3, .agg [I a4, I a5]] (.tup [.lst false 3 t5.1, I t5.2]), Computes cx 47 [.lst false 3 a0] (.lst false 3 t3), Computes cx 46 [.lst false 3 t3, .agg [I a1, I a2, I a3]] (.tup [.lst false 3 t4.1, I t4.2]), Computes cx 47 [.lst false 3 a0] (.lst false 3 t3), (!t1) = false, Computes cx 45 [.lst false 3 a0] (B t1)]) (by kernel_rfl) ⟨(c_law03_awake h24), (eqt h23), h22, (c_ref03_SameModel h21), (c_law03_bands h20), (eqt h19), h18, ((c_ref03_SameModel h17).le (.cons (.refl _) (.cons (.lst _ _ _ _ _ nofun (.inl rfl)) (.nil))) (.refl _)), (c_law03_bands h16), (eqt h15), (c_ref03_CheckModel h6), (c_drive_CheckModel h14), (c_law03_given h3), (c_ref03_Drifted h13), (eqt h12), (eqf h11), ((c_ref01_First h10).le (.cons (.full _ _ _) (.nil)) (.refl _)), (c_ref03_CheckInterval h9), (c_ref03_CheckModel h6), ((c_ref01_First h8).le (.cons (.full _ _ _) (.nil)) (.refl _)), (c_ref03_CheckSpot h7), (c_ref03_CheckModel h6), (c_drive_Drifted h5), (c_law03_given h3), (c_drive_Refined h4), (c_law03_given h3), (notf h2), (c_ref03_ShortModel h1), trivial⟩
                · replace h := ite_f h h23
                  cases h
              · replace h := ite_f h h22
                cases h
            · replace h := ite_f h h19
              cases h
          · replace h := ite_f h h18
            cases h
        · replace h := ite_f h h15
          cases h
      · replace h := ite_f h h12
        obtain ⟨t13, h13, h⟩ := bnd_of h
        by_cases h14 : t13 = t6
        · replace h := ite_t h h14
          obtain ⟨t15, h15, h⟩ := bnd_of h
          obtain ⟨t16, h16, h⟩ := bnd_of h
          by_cases h17 : t16 = true
          · replace h := ite_t h h17
            by_cases h18 : t4.2 = t8
            · replace h := ite_t h h18
              obtain ⟨t19, h19, h⟩ := bnd_of h
              obtain ⟨t20, h20, h⟩ := bnd_of h
              by_cases h21 : t20 = true
              · replace h := ite_t h h21
                by_cases h22 : t5.2 = t10
                · replace h := ite_t h h22
                  obtain ⟨t23, h23, h⟩ := bnd_of h
                  replace h := Option.some.inj h
                  subst h
                  exact run (n := 100) (f := 6) (args := [.lst false 3 a0, .agg [I a1, I a2, I a3], .agg [I a4, I a5]]) (orc := [.ret (B t1), .br false, .ret (.lst false 3 t3), .ret (.tup [.lst false 3 t4.1, I t4.2]), .ret (.lst false 3 t3), .ret (.tup [.lst false 3 t5.1, I t5.2]), .ret (I t6), .ret (I t7), .ret (I t8), .ret (I t6), .ret (I t9), .ret (I t10), .br false, .br false, .ret (.lst false 3 t3), .ret (I t13), .ret (I t6), .br true, .ret (.lst false 3 t15), .ret (B t16), .br true, .br true, .ret (.lst false 3 t19), .ret (B t20), .br true, .br true, .ret (B t23)]) (r := B t23) (ob := [Computes cx 19 [] (B t23), (t5.2 == t10) = true, t20 = true, Computes cx 43 [.lst false 3 t19, .lst true 0 []] (B t20), Computes cx 44 [.lst false 3 t5.1] (.lst false 3 t19), (t4.2 == t8) = true, t16 = true, Computes cx 43 [.lst false 3 t15, .lst true 0 []] (B t16), Computes cx 44 [.lst false 3 t4.1] (.lst false 3 t15), (t13 == t6) = true, Computes cx 49 [.lst false 3 a0] (I t6), Computes cx 53 [.lst false 3 t3] (I t13), Computes cx 47 [.lst false 3 a0] (.lst false 3 t3), (t10 == 0) = false, (t8 == 0) = false, Computes cx 24 [.lst true 1 [I t6, I t9]] (I t10), Computes cx 40 [.agg [I a4, I a5], I (-1000000), I 1000000] (I t9), Computes cx 49 [.lst false 3 a0] (I t6), Computes cx 24 [.lst true 1 [I t6, I t7]] (I t8), Computes cx 50 [.agg [I a1, I a2, I a3]] (I t7), Computes cx 49 [.lst false 3 a0] (I t6), Computes cx 48 [.lst false 3 t3, .agg [I a4, I a5]] (.tup [.lst false 3 t5.1, I t5.2]), Computes cx 47 [.lst false 3 a0] (.lst false 3 t3), Computes cx 46 [.lst false 3 t3, .agg [I a1, I a2, I a3]] (.tup [.lst false 3 t4.1, I t4.2]), Computes cx 47 [.lst false 3 a0] (.lst false 3 t3), (!t1) = false, Computes cx 45 [.lst false 3 a0] (B t1)]) (by kernel_rfl) ⟨(c_law03_awake h23), (eqt h22), h21, ((c_ref03_SameModel h20).le (.cons (.refl _) (.cons (.lst _ _ _ _ _ nofun (.inl rfl)) (.nil))) (.refl _)), (c_law03_bands h19), (eqt h18), h17, ((c_ref03_SameModel h16).le (.cons (.refl _) (.cons (.lst _ _ _ _ _ nofun (.inl rfl)) (.nil))) (.refl _)), (c_law03_bands h15), (eqt h14), (c_ref03_CheckModel h6), (c_drive_CheckModel h13), (c_law03_given h3), (eqf h12), (eqf h11), ((c_ref01_First h10).le (.cons (.full _ _ _) (.nil)) (.refl _)), (c_ref03_CheckInterval h9), (c_ref03_CheckModel h6), ((c_ref01_First h8).le (.cons (.full _ _ _) (.nil)) (.refl _)), (c_ref03_CheckSpot h7), (c_ref03_CheckModel h6), (c_drive_Drifted h5), (c_law03_given h3), (c_drive_Refined h4), (c_law03_given h3), (notf h2), (c_ref03_ShortModel h1), trivial⟩
                · replace h := ite_f h h22
                  cases h
              · replace h := ite_f h h21
                cases h
            · replace h := ite_f h h18
              cases h
          · replace h := ite_f h h17
            cases h
        · replace h := ite_f h h14
          cases h
  · replace h := ite_f h h2
    obtain ⟨t3, h3, h⟩ := bnd_of h
    replace h := Option.some.inj h
    subst h
    exact run (n := 100) (f := 6) (args := [.lst false 3 a0, .agg [I a1, I a2, I a3], .agg [I a4, I a5]]) (orc := [.ret (B t1), .br true, .ret (B t3)]) (r := B t3) (ob := [Computes cx 19 [] (B t3), (!t1) = true, Computes cx 45 [.lst false 3 a0] (B t1)]) (by kernel_rfl) ⟨(c_law03_awake h3), (nott (bfalse h2)), (c_ref03_ShortModel h1), trivial⟩
end Go.Proofs.YtmgbmngmmpeaaaaGreatDoor
