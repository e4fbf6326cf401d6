/-
  Printed by gsx.py: functions of the program as Lean functions, and that the code computes them.
-/
import Derived.Test.YtmgbmngmmpeaaaaGreatDoorGen1
set_option linter.unusedVariables false
set_option linter.unusedSimpArgs false
set_option linter.unnecessarySimpa false
set_option maxRecDepth 10000
namespace Go.Proofs.YtmgbmngmmpeaaaaGreatDoor
open Go.SX
/- spillage/drive.CheckModel: .lst false 3 a0 -/
def F_drive_CheckModel (n : Nat) (a0 : List D) : Option (Int) :=
  (F_drive_when_2 n (((a0).length : Int) == 0) 12).bind fun t1 =>
  (F_drive_when_2 n (decide (((a0).length : Int) > 64)) 5).bind fun t2 =>
  (F_drive_first n ([I t1, I t2])).bind fun t3 =>
  if t3 = 0 then
    (loopF (F_drive_CheckModel_L1 n a0) n ((-1001), 0)).bind fun t5 => match t5 with
      | (.inl t5) => (
        some t5)
      | (.inr t5) => (
        some 0)
  else
  some t3
theorem c_drive_CheckModel {n : Nat} {a0 : List D} {r : Int} (h : F_drive_CheckModel n a0 = some r) : Computes cx 53 [.lst false 3 a0] (I r) := by
  unfold F_drive_CheckModel at h
  obtain ⟨t1, h1, h⟩ := bnd_of h
  obtain ⟨t2, h2, h⟩ := bnd_of h
  obtain ⟨t3, h3, h⟩ := bnd_of h
  by_cases h4 : t3 = 0
  · replace h := ite_t h h4
    obtain ⟨t5, h5, h⟩ := bnd_of h
    rcases t5 with t5 | t5
    · replace h := Option.some.inj h
      subst h
      exact run (n := 100) (f := 53) (args := [.lst false 3 a0]) (orc := [.ret (I t1), .ret (I t2), .ret (I t3), .br false, .lp [] [4, 21, 22, 23] [] .ret [(2, .d (I t5))] [] 55]) (r := I t5) (ob := [LoopN cx (loopAt cx.P 53 0) 46 0 false [(4, .d (I (-1001))), (21, .d (.lst false 3 a0)), (22, .d (I ((a0).length : Int))), (23, .d (I 0))] [] .ret [(2, .d (I t5))] [], (t3 != 0) = false, Computes cx 84 [.lst true 1 [I t1, I t2]] (I t3), Computes cx 85 [B (decide (((a0).length : Int) > 64)), I 5] (I t2), Computes cx 85 [B (((a0).length : Int) == 0), I 12] (I t1)]) (by kernel_rfl) ⟨(loopF_to R_drive_CheckModel_L1 h5), (nef h4), ((c_drive_first h3).le (.cons (.full _ _ _) (.nil)) (.refl _)), (c_drive_when_2 h2), (c_drive_when_2 h1), trivial⟩
    · replace h := Option.some.inj h
      subst h
      exact run (n := 100) (f := 53) (args := [.lst false 3 a0]) (orc := [.ret (I t1), .ret (I t2), .ret (I t3), .br false, .lp [] [4, 21, 22, 23] [] (.exit 0) [] [] 55]) (r := I 0) (ob := [LoopN cx (loopAt cx.P 53 0) 46 0 false [(4, .d (I (-1001))), (21, .d (.lst false 3 a0)), (22, .d (I ((a0).length : Int))), (23, .d (I 0))] [] (.exit 0) [] [], (t3 != 0) = false, Computes cx 84 [.lst true 1 [I t1, I t2]] (I t3), Computes cx 85 [B (decide (((a0).length : Int) > 64)), I 5] (I t2), Computes cx 85 [B (((a0).length : Int) == 0), I 12] (I t1)]) (by kernel_rfl) ⟨(loopF_to R_drive_CheckModel_L1 h5), (nef h4), ((c_drive_first h3).le (.cons (.full _ _ _) (.nil)) (.refl _)), (c_drive_when_2 h2), (c_drive_when_2 h1), trivial⟩
  · replace h := ite_f h h4
    replace h := Option.some.inj h
    subst h
    exact run (n := 100) (f := 53) (args := [.lst false 3 a0]) (orc := [.ret (I t1), .ret (I t2), .ret (I t3), .br true]) (r := I t3) (ob := [(t3 != 0) = true, Computes cx 84 [.lst true 1 [I t1, I t2]] (I t3), Computes cx 85 [B (decide (((a0).length : Int) > 64)), I 5] (I t2), Computes cx 85 [B (((a0).length : Int) == 0), I 12] (I t1)]) (by kernel_rfl) ⟨(net h4), ((c_drive_first h3).le (.cons (.full _ _ _) (.nil)) (.refl _)), (c_drive_when_2 h2), (c_drive_when_2 h1), trivial⟩
def F_drive_Refined_L1 (n : Nat) (a0 : List D) (a1 : Int) (a2 : Int) (a3 : Int) (sa : (Int × List D)) : Option (((Int × List D)) ⊕ ((List D))) :=
  if sa.1 < ((a0).length : Int) then
    (el un_Ai3Z a0 sa.1).bind fun ta2 =>
    (F_drive_Band_seen_2 n ta2.1 ta2.2.1 ta2.2.2 a1 a2 a3).bind fun ta3 =>
    if ta3.2.2.2 = true then
      if roomP 24 ((sa.2).length + 1) then
      if inI64 (sa.1 + 1) then
      some (.inl ((sa.1 + 1), (sa.2 ++ ([.agg [I ta3.1, I ta3.2.1, I ta3.2.2.1]] : List D))))
      else none
      else none
    else
    if inI64 (sa.1 + 1) then
    some (.inl ((sa.1 + 1), sa.2))
    else none
  else
  some (.inr sa.2)
noncomputable def T_drive_Refined_L1 (a0 : List D) (a1 : Int) (a2 : Int) (a3 : Int) (sa : (Int × List D)) : List (Nat × AV) := [(3, .ptr 0 0 0 0 0), (7, .own 16 0), (21, .d (.lst false 3 a0)), (22, .d (I ((a0).length : Int))), (23, .d (I sa.1))]
noncomputable def H_drive_Refined_L1 (a0 : List D) (a1 : Int) (a2 : Int) (a3 : Int) (sa : (Int × List D)) : List (Nat × Blk) := [(0, .box (.d (.agg [I a1, I a2, I a3]))), (16, .row 0 3 sa.2)]
noncomputable def X_drive_Refined_L1 (a0 : List D) (a1 : Int) (a2 : Int) (a3 : Int) (e : (List D)) : Ex := (.exit 0)
noncomputable def XT_drive_Refined_L1 (a0 : List D) (a1 : Int) (a2 : Int) (a3 : Int) (e : (List D)) : List (Nat × AV) := [(7, .own 16 0)]
noncomputable def XH_drive_Refined_L1 (a0 : List D) (a1 : Int) (a2 : Int) (a3 : Int) (e : (List D)) : List (Nat × Blk) := [(16, .row 0 3 e)]
theorem R_drive_Refined_L1 {n : Nat} {a0 : List D} {a1 : Int} {a2 : Int} {a3 : Int} (sa : (Int × List D)) (r) (h : F_drive_Refined_L1 n a0 a1 a2 a3 sa = some r) : Rd cx (loopAt cx.P 46 0) 43 0 false (T_drive_Refined_L1 a0 a1 a2 a3) (H_drive_Refined_L1 a0 a1 a2 a3) (X_drive_Refined_L1 a0 a1 a2 a3) (XT_drive_Refined_L1 a0 a1 a2 a3) (XH_drive_Refined_L1 a0 a1 a2 a3) sa r := by
  unfold F_drive_Refined_L1 at h
  by_cases ha1 : sa.1 < ((a0).length : Int)
  · replace h := ite_t h ha1
    obtain ⟨ta2, ha2, h⟩ := bnd_of h
    obtain ⟨ta3, ha3, h⟩ := bnd_of h
    by_cases ha4 : ta3.2.2.2 = true
    · replace h := ite_t h ha4
      obtain ⟨ha5, h⟩ := grd_of h
      obtain ⟨ha6, h⟩ := grd_of h
      replace h := Option.some.inj h
      subst h
      exact ⟨100, 17, [.br true, .el (.agg [I ta2.1, I ta2.2.1, I ta2.2.2]), .ret (.tup [.agg [I ta3.1, I ta3.2.1, I ta3.2.2.1], B ta3.2.2.2]), .br true, .br true], [], [3, 7, 21, 22, 23], [0, 16], round_of (ob := [inI64 (sa.1 + 1), room cx 142 ((sa.2).length + 1), ta3.2.2.2 = true, Computes cx 93 [.agg [I ta2.1, I ta2.2.1, I ta2.2.2], .agg [I a1, I a2, I a3]] (.tup [.agg [I ta3.1, I ta3.2.1, I ta3.2.2.1], B ta3.2.2.2]), (0 : Int) ≤ sa.1, nth (a0) (Int.toNat sa.1) = some (.agg [I ta2.1, I ta2.2.1, I ta2.2.2]), (decide (sa.1 < ((a0).length : Int))) = true]) (by kernel_rfl) ⟨ha6, (room_of (b := 24) (by kernel_rfl) (by decide) ha5), ha4, (c_drive_Band_seen_2 ha3), (el_ok un_Ai3Z_ok ha2).1, (el_ok un_Ai3Z_ok ha2).2, (decide_eq_true ha1), trivial⟩⟩
    · replace h := ite_f h ha4
      obtain ⟨ha5, h⟩ := grd_of h
      replace h := Option.some.inj h
      subst h
      exact ⟨100, 17, [.br true, .el (.agg [I ta2.1, I ta2.2.1, I ta2.2.2]), .ret (.tup [.agg [I ta3.1, I ta3.2.1, I ta3.2.2.1], B ta3.2.2.2]), .br false], [], [3, 7, 21, 22, 23], [0, 16], round_of (ob := [inI64 (sa.1 + 1), ta3.2.2.2 = false, Computes cx 93 [.agg [I ta2.1, I ta2.2.1, I ta2.2.2], .agg [I a1, I a2, I a3]] (.tup [.agg [I ta3.1, I ta3.2.1, I ta3.2.2.1], B ta3.2.2.2]), (0 : Int) ≤ sa.1, nth (a0) (Int.toNat sa.1) = some (.agg [I ta2.1, I ta2.2.1, I ta2.2.2]), (decide (sa.1 < ((a0).length : Int))) = true]) (by kernel_rfl) ⟨ha5, (bfalse ha4), (c_drive_Band_seen_2 ha3), (el_ok un_Ai3Z_ok ha2).1, (el_ok un_Ai3Z_ok ha2).2, (decide_eq_true ha1), trivial⟩⟩
  · replace h := ite_f h ha1
    replace h := Option.some.inj h
    subst h
    exact ⟨⟨100, 17, [.br false], [], [7], [16], round_of (ob := [(decide (sa.1 < ((a0).length : Int))) = false]) (by kernel_rfl) ⟨(decide_eq_false ha1), trivial⟩⟩, nofun⟩
/- spillage/drive.Refined: .lst false 3 a0, .agg [I a1, I a2, I a3] -/
def F_drive_Refined (n : Nat) (a0 : List D) (a1 : Int) (a2 : Int) (a3 : Int) : Option (List D × Int) :=
  (F_drive_CheckModel n a0).bind fun t1 =>
  (F_drive_Spot_check_3 n a1 a2 a3).bind fun t2 =>
  (F_drive_first n ([I t1, I t2])).bind fun t3 =>
  if t3 = 0 then
    (loopF (F_drive_Refined_L1 n a0 a1 a2 a3) n (0, [])).bind fun t5 =>
    if ((t5).length : Int) = 0 then
      some ([], 18)
    else
    some (t5, 0)
  else
  some ([], t3)
theorem c_drive_Refined {n : Nat} {a0 : List D} {a1 : Int} {a2 : Int} {a3 : Int} {r : List D × Int} (h : F_drive_Refined n a0 a1 a2 a3 = some r) : Computes cx 46 [.lst false 3 a0, .agg [I a1, I a2, I a3]] (.tup [.lst false 3 r.1, I r.2]) := by
  unfold F_drive_Refined at h
  obtain ⟨t1, h1, h⟩ := bnd_of h
  obtain ⟨t2, h2, h⟩ := bnd_of h
  obtain ⟨t3, h3, h⟩ := bnd_of h
  by_cases h4 : t3 = 0
  · replace h := ite_t h h4
    obtain ⟨t5, h5, h⟩ := bnd_of h
    by_cases h6 : ((t5).length : Int) = 0
    · replace h := ite_t h h6
      replace h := Option.some.inj h
      subst h
      exact (run (n := 100) (f := 46) (args := [.lst false 3 a0, .agg [I a1, I a2, I a3]]) (orc := [.ret (I t1), .ret (I t2), .ret (I t3), .br false, .lp [7, 3] [3, 7, 21, 22, 23] [0, 16] (.exit 0) [(7, .own 16 0)] [(16, .row 0 3 t5)] 50, .br true]) (r := .tup [.lst true 0 [], I 18]) (ob := [(((t5).length : Int) == 0) = true, LoopN cx (loopAt cx.P 46 0) 43 0 false [(3, .ptr 0 0 0 0 0), (7, .own 16 0), (21, .d (.lst false 3 a0)), (22, .d (I ((a0).length : Int))), (23, .d (I 0))] [(0, .box (.d (.agg [I a1, I a2, I a3]))), (16, .row 0 3 [])] (.exit 0) [(7, .own 16 0)] [(16, .row 0 3 t5)], (t3 != 0) = false, Computes cx 84 [.lst true 1 [I t1, I t2]] (I t3), Computes cx 96 [.agg [I a1, I a2, I a3]] (I t2), Computes cx 53 [.lst false 3 a0] (I t1)]) (by kernel_rfl) ⟨(eqt h6), (loopF_to R_drive_Refined_L1 h5), (nef h4), ((c_drive_first h3).le (.cons (.full _ _ _) (.nil)) (.refl _)), (c_drive_Spot_check_3 h2), (c_drive_CheckModel h1), trivial⟩).le (LEs.refl _) (.tups (.cons (.lst _ _ _ _ _ nofun (.inl rfl)) (.cons (.refl _) (.nil))))
    · replace h := ite_f h h6
      replace h := Option.some.inj h
      subst h
      exact run (n := 100) (f := 46) (args := [.lst false 3 a0, .agg [I a1, I a2, I a3]]) (orc := [.ret (I t1), .ret (I t2), .ret (I t3), .br false, .lp [7, 3] [3, 7, 21, 22, 23] [0, 16] (.exit 0) [(7, .own 16 0)] [(16, .row 0 3 t5)] 50, .br false]) (r := .tup [.lst false 3 t5, I 0]) (ob := [(((t5).length : Int) == 0) = false, LoopN cx (loopAt cx.P 46 0) 43 0 false [(3, .ptr 0 0 0 0 0), (7, .own 16 0), (21, .d (.lst false 3 a0)), (22, .d (I ((a0).length : Int))), (23, .d (I 0))] [(0, .box (.d (.agg [I a1, I a2, I a3]))), (16, .row 0 3 [])] (.exit 0) [(7, .own 16 0)] [(16, .row 0 3 t5)], (t3 != 0) = false, Computes cx 84 [.lst true 1 [I t1, I t2]] (I t3), Computes cx 96 [.agg [I a1, I a2, I a3]] (I t2), Computes cx 53 [.lst false 3 a0] (I t1)]) (by kernel_rfl) ⟨(eqf h6), (loopF_to R_drive_Refined_L1 h5), (nef h4), ((c_drive_first h3).le (.cons (.full _ _ _) (.nil)) (.refl _)), (c_drive_Spot_check_3 h2), (c_drive_CheckModel h1), trivial⟩
  · replace h := ite_f h h4
    replace h := Option.some.inj h
    subst h
    exact (run (n := 100) (f := 46) (args := [.lst false 3 a0, .agg [I a1, I a2, I a3]]) (orc := [.ret (I t1), .ret (I t2), .ret (I t3), .br true]) (r := .tup [.lst true 0 [], I t3]) (ob := [(t3 != 0) = true, Computes cx 84 [.lst true 1 [I t1, I t2]] (I t3), Computes cx 96 [.agg [I a1, I a2, I a3]] (I t2), Computes cx 53 [.lst false 3 a0] (I t1)]) (by kernel_rfl) ⟨(net h4), ((c_drive_first h3).le (.cons (.full _ _ _) (.nil)) (.refl _)), (c_drive_Spot_check_3 h2), (c_drive_CheckModel h1), trivial⟩).le (LEs.refl _) (.tups (.cons (.lst _ _ _ _ _ nofun (.inl rfl)) (.cons (.refl _) (.nil))))
def F_drive_Drifted_L1 (n : Nat) (a0 : List D) (a1 : Int) (a2 : Int) (sa : (Int × List D)) : Option (((Int × List D)) ⊕ ((Unit) ⊕ (List D))) :=
  if sa.1 < (((a0.take ((List.replicate (Int.toNat ((a0).length : Int)) (.agg [I 0, I 0, I 0] : D)) : List D).length ++ (List.replicate (Int.toNat ((a0).length : Int)) (.agg [I 0, I 0, I 0] : D)).drop (a0).length)).length : Int) then
    if 0 ≤ sa.1 ∧ sa.1 < ((sa.2).length : Int) then
    ((nth (sa.2) (Int.toNat sa.1)).bind un_Ai3Z).bind fun ta3 =>
    if inI64 (ta3.2.1 + a1) then
    if inI64 (ta3.2.2 + a2) then
    if 0 ≤ sa.1 ∧ sa.1 < (((List.set sa.2 (Int.toNat sa.1) (.agg [I ta3.1, I (ta3.2.1 + a1), I (ta3.2.2 + a2)] : D)) : List D).length : Int) then
    ((nth ((List.set sa.2 (Int.toNat sa.1) (.agg [I ta3.1, I (ta3.2.1 + a1), I (ta3.2.2 + a2)] : D)) : List D) (Int.toNat sa.1)).bind un_Ai3Z).bind fun ta7 =>
    (F_drive_checkEnds n ta7.2.1 ta7.2.2 2000000).bind fun ta8 =>
    if ta8 = 0 then
      if inI64 (sa.1 + 1) then
      some (.inl ((sa.1 + 1), (List.set sa.2 (Int.toNat sa.1) (.agg [I ta3.1, I (ta3.2.1 + a1), I (ta3.2.2 + a2)] : D))))
      else none
    else
    some (.inr (.inl ()))
    else none
    else none
    else none
    else none
  else
  some (.inr (.inr sa.2))
noncomputable def T_drive_Drifted_L1 (a0 : List D) (a1 : Int) (a2 : Int) (sa : (Int × List D)) : List (Nat × AV) := [(3, .ptr 0 0 0 0 0), (7, .own 14 0), (26, .d (I (((a0.take ((List.replicate (Int.toNat ((a0).length : Int)) (.agg [I 0, I 0, I 0] : D)) : List D).length ++ (List.replicate (Int.toNat ((a0).length : Int)) (.agg [I 0, I 0, I 0] : D)).drop (a0).length)).length : Int))), (27, .d (I sa.1))]
noncomputable def H_drive_Drifted_L1 (a0 : List D) (a1 : Int) (a2 : Int) (sa : (Int × List D)) : List (Nat × Blk) := [(0, .box (.d (.agg [I a1, I a2]))), (14, .row 0 3 sa.2)]
noncomputable def X_drive_Drifted_L1 (a0 : List D) (a1 : Int) (a2 : Int) (e : (Unit) ⊕ (List D)) : Ex := match e with
  | (.inl e) => .ret
  | (.inr e) => (.exit 0)
noncomputable def XT_drive_Drifted_L1 (a0 : List D) (a1 : Int) (a2 : Int) (e : (Unit) ⊕ (List D)) : List (Nat × AV) := match e with
  | (.inl e) => [(4, .d (.lst true 0 [])), (5, .d (I 4))]
  | (.inr e) => [(7, .own 14 0)]
noncomputable def XH_drive_Drifted_L1 (a0 : List D) (a1 : Int) (a2 : Int) (e : (Unit) ⊕ (List D)) : List (Nat × Blk) := match e with
  | (.inl e) => []
  | (.inr e) => [(14, .row 0 3 e)]
theorem R_drive_Drifted_L1 {n : Nat} {a0 : List D} {a1 : Int} {a2 : Int} (sa : (Int × List D)) (r) (h : F_drive_Drifted_L1 n a0 a1 a2 sa = some r) : Rd cx (loopAt cx.P 48 0) 59 0 false (T_drive_Drifted_L1 a0 a1 a2) (H_drive_Drifted_L1 a0 a1 a2) (X_drive_Drifted_L1 a0 a1 a2) (XT_drive_Drifted_L1 a0 a1 a2) (XH_drive_Drifted_L1 a0 a1 a2) sa r := by
  unfold F_drive_Drifted_L1 at h
  by_cases ha1 : sa.1 < (((a0.take ((List.replicate (Int.toNat ((a0).length : Int)) (.agg [I 0, I 0, I 0] : D)) : List D).length ++ (List.replicate (Int.toNat ((a0).length : Int)) (.agg [I 0, I 0, I 0] : D)).drop (a0).length)).length : Int)
  · replace h := ite_t h ha1
    obtain ⟨ha2, h⟩ := grd_of h
    obtain ⟨ta3, ha3, h⟩ := bnd_of h
    obtain ⟨ha4, h⟩ := grd_of h
    obtain ⟨ha5, h⟩ := grd_of h
    obtain ⟨ha6, h⟩ := grd_of h
    obtain ⟨ta7, ha7, h⟩ := bnd_of h
    obtain ⟨ta8, ha8, h⟩ := bnd_of h
    by_cases ha9 : ta8 = 0
    · replace h := ite_t h ha9
      obtain ⟨ha10, h⟩ := grd_of h
      replace h := Option.some.inj h
      subst h
      exact ⟨100, 22, [.br true, .br true, .el (.agg [I ta3.1, I ta3.2.1, I ta3.2.2]), .br true, .el (.agg [I ta3.1, I ta3.2.1, I ta3.2.2]), .br true, .el (.agg [I ta7.1, I ta7.2.1, I ta7.2.2]), .ret (I ta8), .br false], [], [3, 7, 26, 27], [0, 14], round_of (ob := [inI64 (sa.1 + 1), (ta8 != 0) = false, Computes cx 88 [.agg [I ta7.2.1, I ta7.2.2], I 2000000] (I ta8), nth ((List.set sa.2 (Int.toNat sa.1) (.agg [I ta3.1, I (ta3.2.1 + a1), I (ta3.2.2 + a2)] : D)) : List D) (Int.toNat sa.1) = some (.agg [I ta7.1, I ta7.2.1, I ta7.2.2]), 0 ≤ sa.1 ∧ sa.1 < (((List.set sa.2 (Int.toNat sa.1) (.agg [I ta3.1, I (ta3.2.1 + a1), I (ta3.2.2 + a2)] : D)) : List D).length : Int), nth (sa.2) (Int.toNat sa.1) = some (.agg [I ta3.1, I ta3.2.1, I ta3.2.2]), 0 ≤ sa.1 ∧ sa.1 < ((sa.2).length : Int), inI64 (ta3.2.2 + a2), inI64 (ta3.2.1 + a1), nth (sa.2) (Int.toNat sa.1) = some (.agg [I ta3.1, I ta3.2.1, I ta3.2.2]), 0 ≤ sa.1 ∧ sa.1 < ((sa.2).length : Int), (decide (sa.1 < (((a0.take ((List.replicate (Int.toNat ((a0).length : Int)) (.agg [I 0, I 0, I 0] : D)) : List D).length ++ (List.replicate (Int.toNat ((a0).length : Int)) (.agg [I 0, I 0, I 0] : D)).drop (a0).length)).length : Int))) = true]) (by kernel_rfl) ⟨ha10, (nef ha9), (c_drive_checkEnds ha8), nel_ok un_Ai3Z_ok ha7, ha6, nel_ok un_Ai3Z_ok ha3, ha2, ha5, ha4, nel_ok un_Ai3Z_ok ha3, ha2, (decide_eq_true ha1), trivial⟩⟩
    · replace h := ite_f h ha9
      replace h := Option.some.inj h
      subst h
      exact ⟨⟨100, 22, [.br true, .br true, .el (.agg [I ta3.1, I ta3.2.1, I ta3.2.2]), .br true, .el (.agg [I ta3.1, I ta3.2.1, I ta3.2.2]), .br true, .el (.agg [I ta7.1, I ta7.2.1, I ta7.2.2]), .ret (I ta8), .br true], [], [4, 5], [], round_of (ob := [(ta8 != 0) = true, Computes cx 88 [.agg [I ta7.2.1, I ta7.2.2], I 2000000] (I ta8), nth ((List.set sa.2 (Int.toNat sa.1) (.agg [I ta3.1, I (ta3.2.1 + a1), I (ta3.2.2 + a2)] : D)) : List D) (Int.toNat sa.1) = some (.agg [I ta7.1, I ta7.2.1, I ta7.2.2]), 0 ≤ sa.1 ∧ sa.1 < (((List.set sa.2 (Int.toNat sa.1) (.agg [I ta3.1, I (ta3.2.1 + a1), I (ta3.2.2 + a2)] : D)) : List D).length : Int), nth (sa.2) (Int.toNat sa.1) = some (.agg [I ta3.1, I ta3.2.1, I ta3.2.2]), 0 ≤ sa.1 ∧ sa.1 < ((sa.2).length : Int), inI64 (ta3.2.2 + a2), inI64 (ta3.2.1 + a1), nth (sa.2) (Int.toNat sa.1) = some (.agg [I ta3.1, I ta3.2.1, I ta3.2.2]), 0 ≤ sa.1 ∧ sa.1 < ((sa.2).length : Int), (decide (sa.1 < (((a0.take ((List.replicate (Int.toNat ((a0).length : Int)) (.agg [I 0, I 0, I 0] : D)) : List D).length ++ (List.replicate (Int.toNat ((a0).length : Int)) (.agg [I 0, I 0, I 0] : D)).drop (a0).length)).length : Int))) = true]) (by kernel_rfl) ⟨(net ha9), (c_drive_checkEnds ha8), nel_ok un_Ai3Z_ok ha7, ha6, nel_ok un_Ai3Z_ok ha3, ha2, ha5, ha4, nel_ok un_Ai3Z_ok ha3, ha2, (decide_eq_true ha1), trivial⟩⟩, nofun⟩
  · replace h := ite_f h ha1
    replace h := Option.some.inj h
    subst h
    exact ⟨⟨100, 22, [.br false], [], [7], [14], round_of (ob := [(decide (sa.1 < (((a0.take ((List.replicate (Int.toNat ((a0).length : Int)) (.agg [I 0, I 0, I 0] : D)) : List D).length ++ (List.replicate (Int.toNat ((a0).length : Int)) (.agg [I 0, I 0, I 0] : D)).drop (a0).length)).length : Int))) = false]) (by kernel_rfl) ⟨(decide_eq_false ha1), trivial⟩⟩, nofun⟩
/- spillage/drive.Drifted: .lst false 3 a0, .agg [I a1, I a2] -/
def F_drive_Drifted (n : Nat) (a0 : List D) (a1 : Int) (a2 : Int) : Option (List D × Int) :=
  (F_drive_CheckModel n a0).bind fun t1 =>
  (F_drive_checkEnds n a1 a2 1000000).bind fun t2 =>
  (F_drive_first n ([I t1, I t2])).bind fun t3 =>
  if t3 = 0 then
    if 0 ≤ ((a0).length : Int) ∧ ((a0).length : Int) ≤ ((a0).length : Int) ∧ 24 * ((a0).length : Int) ≤ 281474976710656 ∧ ((a0).length : Int) ≤ 9223372036854775807 then
    (loopF (F_drive_Drifted_L1 n a0 a1 a2) n (0, (a0.take ((List.replicate (Int.toNat ((a0).length : Int)) (.agg [I 0, I 0, I 0] : D)) : List D).length ++ (List.replicate (Int.toNat ((a0).length : Int)) (.agg [I 0, I 0, I 0] : D)).drop (a0).length))).bind fun t6 => match t6 with
      | (.inl t6) => (
        some ([], 4))
      | (.inr t6) => (
        some (t6, 0))
    else none
  else
  some ([], t3)
theorem c_drive_Drifted {n : Nat} {a0 : List D} {a1 : Int} {a2 : Int} {r : List D × Int} (h : F_drive_Drifted n a0 a1 a2 = some r) : Computes cx 48 [.lst false 3 a0, .agg [I a1, I a2]] (.tup [.lst false 3 r.1, I r.2]) := by
  unfold F_drive_Drifted at h
  obtain ⟨t1, h1, h⟩ := bnd_of h
  obtain ⟨t2, h2, h⟩ := bnd_of h
  obtain ⟨t3, h3, h⟩ := bnd_of h
  by_cases h4 : t3 = 0
  · replace h := ite_t h h4
    obtain ⟨h5, h⟩ := grd_of h
    obtain ⟨t6, h6, h⟩ := bnd_of h
    rcases t6 with t6 | t6
    · replace h := Option.some.inj h
      subst h
      exact (run (n := 100) (f := 48) (args := [.lst false 3 a0, .agg [I a1, I a2]]) (orc := [.ret (I t1), .ret (I t2), .ret (I t3), .br false, .br true, .lp [] [3, 7, 26, 27] [0, 14] .ret [(4, .d (.lst true 0 [])), (5, .d (I 4))] [] 68]) (r := .tup [.lst true 0 [], I 4]) (ob := [LoopN cx (loopAt cx.P 48 0) 59 0 false [(3, .ptr 0 0 0 0 0), (7, .own 14 0), (26, .d (I (((a0.take ((List.replicate (Int.toNat ((a0).length : Int)) (.agg [I 0, I 0, I 0] : D)) : List D).length ++ (List.replicate (Int.toNat ((a0).length : Int)) (.agg [I 0, I 0, I 0] : D)).drop (a0).length)).length : Int))), (27, .d (I 0))] [(0, .box (.d (.agg [I a1, I a2]))), (14, .row 0 3 (a0.take ((List.replicate (Int.toNat ((a0).length : Int)) (.agg [I 0, I 0, I 0] : D)) : List D).length ++ (List.replicate (Int.toNat ((a0).length : Int)) (.agg [I 0, I 0, I 0] : D)).drop (a0).length))] .ret [(4, .d (.lst true 0 [])), (5, .d (I 4))] [], 0 ≤ ((a0).length : Int) ∧ ((a0).length : Int) ≤ ((a0).length : Int) ∧ 24 * ((a0).length : Int) ≤ 281474976710656 ∧ ((a0).length : Int) ≤ 9223372036854775807, (t3 != 0) = false, Computes cx 84 [.lst true 1 [I t1, I t2]] (I t3), Computes cx 88 [.agg [I a1, I a2], I 1000000] (I t2), Computes cx 53 [.lst false 3 a0] (I t1)]) (by kernel_rfl) ⟨(loopF_to R_drive_Drifted_L1 h6), h5, (nef h4), ((c_drive_first h3).le (.cons (.full _ _ _) (.nil)) (.refl _)), (c_drive_checkEnds h2), (c_drive_CheckModel h1), trivial⟩).le (LEs.refl _) (.tups (.cons (.lst _ _ _ _ _ nofun (.inl rfl)) (.cons (.refl _) (.nil))))
    · replace h := Option.some.inj h
      subst h
      exact run (n := 100) (f := 48) (args := [.lst false 3 a0, .agg [I a1, I a2]]) (orc := [.ret (I t1), .ret (I t2), .ret (I t3), .br false, .br true, .lp [] [3, 7, 26, 27] [0, 14] (.exit 0) [(7, .own 14 0)] [(14, .row 0 3 t6)] 68]) (r := .tup [.lst false 3 t6, I 0]) (ob := [LoopN cx (loopAt cx.P 48 0) 59 0 false [(3, .ptr 0 0 0 0 0), (7, .own 14 0), (26, .d (I (((a0.take ((List.replicate (Int.toNat ((a0).length : Int)) (.agg [I 0, I 0, I 0] : D)) : List D).length ++ (List.replicate (Int.toNat ((a0).length : Int)) (.agg [I 0, I 0, I 0] : D)).drop (a0).length)).length : Int))), (27, .d (I 0))] [(0, .box (.d (.agg [I a1, I a2]))), (14, .row 0 3 (a0.take ((List.replicate (Int.toNat ((a0).length : Int)) (.agg [I 0, I 0, I 0] : D)) : List D).length ++ (List.replicate (Int.toNat ((a0).length : Int)) (.agg [I 0, I 0, I 0] : D)).drop (a0).length))] (.exit 0) [(7, .own 14 0)] [(14, .row 0 3 t6)], 0 ≤ ((a0).length : Int) ∧ ((a0).length : Int) ≤ ((a0).length : Int) ∧ 24 * ((a0).length : Int) ≤ 281474976710656 ∧ ((a0).length : Int) ≤ 9223372036854775807, (t3 != 0) = false, Computes cx 84 [.lst true 1 [I t1, I t2]] (I t3), Computes cx 88 [.agg [I a1, I a2], I 1000000] (I t2), Computes cx 53 [.lst false 3 a0] (I t1)]) (by kernel_rfl) ⟨(loopF_to R_drive_Drifted_L1 h6), h5, (nef h4), ((c_drive_first h3).le (.cons (.full _ _ _) (.nil)) (.refl _)), (c_drive_checkEnds h2), (c_drive_CheckModel h1), trivial⟩
  · replace h := ite_f h h4
    replace h := Option.some.inj h
    subst h
    exact (run (n := 100) (f := 48) (args := [.lst false 3 a0, .agg [I a1, I a2]]) (orc := [.ret (I t1), .ret (I t2), .ret (I t3), .br true]) (r := .tup [.lst true 0 [], I t3]) (ob := [(t3 != 0) = true, Computes cx 84 [.lst true 1 [I t1, I t2]] (I t3), Computes cx 88 [.agg [I a1, I a2], I 1000000] (I t2), Computes cx 53 [.lst false 3 a0] (I t1)]) (by kernel_rfl) ⟨(net h4), ((c_drive_first h3).le (.cons (.full _ _ _) (.nil)) (.refl _)), (c_drive_checkEnds h2), (c_drive_CheckModel h1), trivial⟩).le (LEs.refl _) (.tups (.cons (.lst _ _ _ _ _ nofun (.inl rfl)) (.cons (.refl _) (.nil))))
def F_drive_Pairs_L1 (n : Nat) (a0 : List D) (sa : (Int × Int)) : Option (((Int × Int)) ⊕ ((Int))) :=
  if sa.2 < ((a0).length : Int) then
    (el un_Ai3Z a0 sa.2).bind fun ta2 =>
    if inI64 (ta2.2.2 - ta2.2.1) then
    if inI64 ((ta2.2.2 - ta2.2.1) + 1) then
    if inI64 (sa.1 + ((ta2.2.2 - ta2.2.1) + 1)) then
    if inI64 (sa.2 + 1) then
    some (.inl ((sa.1 + ((ta2.2.2 - ta2.2.1) + 1)), (sa.2 + 1)))
    else none
    else none
    else none
    else none
  else
  some (.inr sa.1)
noncomputable def T_drive_Pairs_L1 (a0 : List D) (sa : (Int × Int)) : List (Nat × AV) := [(5, .d (I sa.1)), (13, .d (.lst false 3 a0)), (14, .d (I ((a0).length : Int))), (15, .d (I sa.2))]
noncomputable def H_drive_Pairs_L1 (a0 : List D) (sa : (Int × Int)) : List (Nat × Blk) := []
noncomputable def X_drive_Pairs_L1 (a0 : List D) (e : (Int)) : Ex := (.exit 0)
noncomputable def XT_drive_Pairs_L1 (a0 : List D) (e : (Int)) : List (Nat × AV) := [(5, .d (I e))]
noncomputable def XH_drive_Pairs_L1 (a0 : List D) (e : (Int)) : List (Nat × Blk) := []
theorem R_drive_Pairs_L1 {n : Nat} {a0 : List D} (sa : (Int × Int)) (r) (h : F_drive_Pairs_L1 n a0 sa = some r) : Rd cx (loopAt cx.P 72 0) 31 0 false (T_drive_Pairs_L1 a0) (H_drive_Pairs_L1 a0) (X_drive_Pairs_L1 a0) (XT_drive_Pairs_L1 a0) (XH_drive_Pairs_L1 a0) sa r := by
  unfold F_drive_Pairs_L1 at h
  by_cases ha1 : sa.2 < ((a0).length : Int)
  · replace h := ite_t h ha1
    obtain ⟨ta2, ha2, h⟩ := bnd_of h
    obtain ⟨ha3, h⟩ := grd_of h
    obtain ⟨ha4, h⟩ := grd_of h
    obtain ⟨ha5, h⟩ := grd_of h
    obtain ⟨ha6, h⟩ := grd_of h
    replace h := Option.some.inj h
    subst h
    exact ⟨100, 11, [.br true, .el (.agg [I ta2.1, I ta2.2.1, I ta2.2.2])], [], [5, 13, 14, 15], [], round_of (ob := [inI64 (sa.2 + 1), inI64 (sa.1 + ((ta2.2.2 - ta2.2.1) + 1)), inI64 ((ta2.2.2 - ta2.2.1) + 1), inI64 (ta2.2.2 - ta2.2.1), (0 : Int) ≤ sa.2, nth (a0) (Int.toNat sa.2) = some (.agg [I ta2.1, I ta2.2.1, I ta2.2.2]), (decide (sa.2 < ((a0).length : Int))) = true]) (by kernel_rfl) ⟨ha6, ha5, ha4, ha3, (el_ok un_Ai3Z_ok ha2).1, (el_ok un_Ai3Z_ok ha2).2, (decide_eq_true ha1), trivial⟩⟩
  · replace h := ite_f h ha1
    replace h := Option.some.inj h
    subst h
    exact ⟨⟨100, 11, [.br false], [], [5], [], round_of (ob := [(decide (sa.2 < ((a0).length : Int))) = false]) (by kernel_rfl) ⟨(decide_eq_false ha1), trivial⟩⟩, nofun⟩
/- spillage/drive.Pairs: .lst false 3 a0 -/
def F_drive_Pairs (n : Nat) (a0 : List D) : Option (Int × Int) :=
  (F_drive_CheckModel n a0).bind fun t1 =>
  if t1 = 0 then
    (loopF (F_drive_Pairs_L1 n a0) n (0, 0)).bind fun t3 =>
    some (t3, 0)
  else
  some (0, t1)
theorem c_drive_Pairs {n : Nat} {a0 : List D} {r : Int × Int} (h : F_drive_Pairs n a0 = some r) : Computes cx 72 [.lst false 3 a0] (.tup [I r.1, I r.2]) := by
  unfold F_drive_Pairs at h
  obtain ⟨t1, h1, h⟩ := bnd_of h
  by_cases h2 : t1 = 0
  · replace h := ite_t h h2
    obtain ⟨t3, h3, h⟩ := bnd_of h
    replace h := Option.some.inj h
    subst h
    exact run (n := 100) (f := 72) (args := [.lst false 3 a0]) (orc := [.ret (I t1), .br false, .lp [] [5, 13, 14, 15] [] (.exit 0) [(5, .d (I t3))] [] 40]) (r := .tup [I t3, I 0]) (ob := [LoopN cx (loopAt cx.P 72 0) 31 0 false [(5, .d (I 0)), (13, .d (.lst false 3 a0)), (14, .d (I ((a0).length : Int))), (15, .d (I 0))] [] (.exit 0) [(5, .d (I t3))] [], (t1 != 0) = false, Computes cx 53 [.lst false 3 a0] (I t1)]) (by kernel_rfl) ⟨(loopF_to R_drive_Pairs_L1 h3), (nef h2), (c_drive_CheckModel h1), trivial⟩
  · replace h := ite_f h h2
    replace h := Option.some.inj h
    subst h
    exact run (n := 100) (f := 72) (args := [.lst false 3 a0]) (orc := [.ret (I t1), .br true]) (r := .tup [I 0, I t1]) (ob := [(t1 != 0) = true, Computes cx 53 [.lst false 3 a0] (I t1)]) (by kernel_rfl) ⟨(net h2), (c_drive_CheckModel h1), trivial⟩
/- spillage/drive.end: .agg [I a0, I a1], .agg [I a2, I a3] -/
def F_drive_end (n : Nat) (a0 : Int) (a1 : Int) (a2 : Int) (a3 : Int) : Option (Int) :=
  if inI64 (a2 * a0) then
  if inI64 (a3 * a1) then
  if inI64 ((a2 * a0) + (a3 * a1)) then
  some ((a2 * a0) + (a3 * a1))
  else none
  else none
  else none
theorem c_drive_end {n : Nat} {a0 : Int} {a1 : Int} {a2 : Int} {a3 : Int} {r : Int} (h : F_drive_end n a0 a1 a2 a3 = some r) : Computes cx 124 [.agg [I a0, I a1], .agg [I a2, I a3]] (I r) := by
  unfold F_drive_end at h
  obtain ⟨h1, h⟩ := grd_of h
  obtain ⟨h2, h⟩ := grd_of h
  obtain ⟨h3, h⟩ := grd_of h
  replace h := Option.some.inj h
  subst h
  exact run (n := 100) (f := 124) (args := [.agg [I a0, I a1], .agg [I a2, I a3]]) (orc := []) (r := I ((a2 * a0) + (a3 * a1))) (ob := [inI64 ((a2 * a0) + (a3 * a1)), inI64 (a3 * a1), inI64 (a2 * a0)]) (by kernel_rfl) ⟨h3, h2, h1, trivial⟩
def F_slices_Min_g_2_L1 (n : Nat) (a0 : List D) (sa : (Int × Int)) : Option (((Int × Int)) ⊕ ((Int))) :=
  if sa.2 < ((a0).length : Int) then
    (el un_i a0 sa.2).bind fun ta2 =>
    if inI64 (sa.2 + 1) then
    some (.inl ((minI sa.1 ta2), (sa.2 + 1)))
    else none
  else
  some (.inr sa.1)
noncomputable def T_slices_Min_g_2_L1 (a0 : List D) (sa : (Int × Int)) : List (Nat × AV) := [(0, .d (.lst false 1 a0)), (3, .d (I sa.1)), (4, .d (I sa.2))]
noncomputable def H_slices_Min_g_2_L1 (a0 : List D) (sa : (Int × Int)) : List (Nat × Blk) := []
noncomputable def X_slices_Min_g_2_L1 (a0 : List D) (e : (Int)) : Ex := (.exit 0)
noncomputable def XT_slices_Min_g_2_L1 (a0 : List D) (e : (Int)) : List (Nat × AV) := [(3, .d (I e))]
noncomputable def XH_slices_Min_g_2_L1 (a0 : List D) (e : (Int)) : List (Nat × Blk) := []
theorem R_slices_Min_g_2_L1 {n : Nat} {a0 : List D} (sa : (Int × Int)) (r) (h : F_slices_Min_g_2_L1 n a0 sa = some r) : Rd cx (loopAt cx.P 125 0) 25 0 false (T_slices_Min_g_2_L1 a0) (H_slices_Min_g_2_L1 a0) (X_slices_Min_g_2_L1 a0) (XT_slices_Min_g_2_L1 a0) (XH_slices_Min_g_2_L1 a0) sa r := by
  unfold F_slices_Min_g_2_L1 at h
  by_cases ha1 : sa.2 < ((a0).length : Int)
  · replace h := ite_t h ha1
    obtain ⟨ta2, ha2, h⟩ := bnd_of h
    obtain ⟨ha3, h⟩ := grd_of h
    replace h := Option.some.inj h
    subst h
    exact ⟨100, 9, [.br true, .el (I ta2)], [], [0, 3, 4], [], round_of (ob := [inI64 (sa.2 + 1), (0 : Int) ≤ sa.2, nth (a0) (Int.toNat sa.2) = some (I ta2), (decide (sa.2 < ((a0).length : Int))) = true]) (by kernel_rfl) ⟨ha3, (el_ok un_i_ok ha2).1, (el_ok un_i_ok ha2).2, (decide_eq_true ha1), trivial⟩⟩
  · replace h := ite_f h ha1
    replace h := Option.some.inj h
    subst h
    exact ⟨⟨100, 9, [.br false], [], [3], [], round_of (ob := [(decide (sa.2 < ((a0).length : Int))) = false]) (by kernel_rfl) ⟨(decide_eq_false ha1), trivial⟩⟩, nofun⟩
/- slices.Min[[]int,int]: .lst false 1 a0 -/
def F_slices_Min_g_2 (n : Nat) (a0 : List D) : Option (Int) :=
  if ((a0).length : Int) < 1 then
    none /- operation makeInterface at sort.go:67 -/
  else
  (el un_i a0 0).bind fun t2 =>
  (loopF (F_slices_Min_g_2_L1 n a0) n (t2, 1)).bind fun t3 =>
  some t3
theorem c_slices_Min_g_2 {n : Nat} {a0 : List D} {r : Int} (h : F_slices_Min_g_2 n a0 = some r) : Computes cx 125 [.lst false 1 a0] (I r) := by
  unfold F_slices_Min_g_2 at h
  by_cases h1 : ((a0).length : Int) < 1
  · replace h := ite_t h h1
    cases h
  · replace h := ite_f h h1
    obtain ⟨t2, h2, h⟩ := bnd_of h
    obtain ⟨t3, h3, h⟩ := bnd_of h
    replace h := Option.some.inj h
    subst h
    exact run (n := 100) (f := 125) (args := [.lst false 1 a0]) (orc := [.br false, .el (I t2), .lp [] [0, 3, 4] [] (.exit 0) [(3, .d (I t3))] [] 34]) (r := I t3) (ob := [LoopN cx (loopAt cx.P 125 0) 25 0 false [(0, .d (.lst false 1 a0)), (3, .d (I t2)), (4, .d (I 1))] [] (.exit 0) [(3, .d (I t3))] [], (0 : Int) ≤ 0, nth (a0) (Int.toNat 0) = some (I t2), (decide (((a0).length : Int) < 1)) = false]) (by kernel_rfl) ⟨(loopF_to R_slices_Min_g_2_L1 h3), (el_ok un_i_ok h2).1, (el_ok un_i_ok h2).2, (decide_eq_false h1), trivial⟩
def F_slices_Max_g_2_L1 (n : Nat) (a0 : List D) (sa : (Int × Int)) : Option (((Int × Int)) ⊕ ((Int))) :=
  if sa.2 < ((a0).length : Int) then
    (el un_i a0 sa.2).bind fun ta2 =>
    if inI64 (sa.2 + 1) then
    some (.inl ((maxI sa.1 ta2), (sa.2 + 1)))
    else none
  else
  some (.inr sa.1)
noncomputable def T_slices_Max_g_2_L1 (a0 : List D) (sa : (Int × Int)) : List (Nat × AV) := [(0, .d (.lst false 1 a0)), (3, .d (I sa.1)), (4, .d (I sa.2))]
noncomputable def H_slices_Max_g_2_L1 (a0 : List D) (sa : (Int × Int)) : List (Nat × Blk) := []
noncomputable def X_slices_Max_g_2_L1 (a0 : List D) (e : (Int)) : Ex := (.exit 0)
noncomputable def XT_slices_Max_g_2_L1 (a0 : List D) (e : (Int)) : List (Nat × AV) := [(3, .d (I e))]
noncomputable def XH_slices_Max_g_2_L1 (a0 : List D) (e : (Int)) : List (Nat × Blk) := []
theorem R_slices_Max_g_2_L1 {n : Nat} {a0 : List D} (sa : (Int × Int)) (r) (h : F_slices_Max_g_2_L1 n a0 sa = some r) : Rd cx (loopAt cx.P 126 0) 25 0 false (T_slices_Max_g_2_L1 a0) (H_slices_Max_g_2_L1 a0) (X_slices_Max_g_2_L1 a0) (XT_slices_Max_g_2_L1 a0) (XH_slices_Max_g_2_L1 a0) sa r := by
  unfold F_slices_Max_g_2_L1 at h
  by_cases ha1 : sa.2 < ((a0).length : Int)
  · replace h := ite_t h ha1
    obtain ⟨ta2, ha2, h⟩ := bnd_of h
    obtain ⟨ha3, h⟩ := grd_of h
    replace h := Option.some.inj h
    subst h
    exact ⟨100, 9, [.br true, .el (I ta2)], [], [0, 3, 4], [], round_of (ob := [inI64 (sa.2 + 1), (0 : Int) ≤ sa.2, nth (a0) (Int.toNat sa.2) = some (I ta2), (decide (sa.2 < ((a0).length : Int))) = true]) (by kernel_rfl) ⟨ha3, (el_ok un_i_ok ha2).1, (el_ok un_i_ok ha2).2, (decide_eq_true ha1), trivial⟩⟩
  · replace h := ite_f h ha1
    replace h := Option.some.inj h
    subst h
    exact ⟨⟨100, 9, [.br false], [], [3], [], round_of (ob := [(decide (sa.2 < ((a0).length : Int))) = false]) (by kernel_rfl) ⟨(decide_eq_false ha1), trivial⟩⟩, nofun⟩
/- slices.Max[[]int,int]: .lst false 1 a0 -/
def F_slices_Max_g_2 (n : Nat) (a0 : List D) : Option (Int) :=
  if ((a0).length : Int) < 1 then
    none /- operation makeInterface at sort.go:97 -/
  else
  (el un_i a0 0).bind fun t2 =>
  (loopF (F_slices_Max_g_2_L1 n a0) n (t2, 1)).bind fun t3 =>
  some t3
theorem c_slices_Max_g_2 {n : Nat} {a0 : List D} {r : Int} (h : F_slices_Max_g_2 n a0 = some r) : Computes cx 126 [.lst false 1 a0] (I r) := by
  unfold F_slices_Max_g_2 at h
  by_cases h1 : ((a0).length : Int) < 1
  · replace h := ite_t h h1
    cases h
  · replace h := ite_f h h1
    obtain ⟨t2, h2, h⟩ := bnd_of h
    obtain ⟨t3, h3, h⟩ := bnd_of h
    replace h := Option.some.inj h
    subst h
    exact run (n := 100) (f := 126) (args := [.lst false 1 a0]) (orc := [.br false, .el (I t2), .lp [] [0, 3, 4] [] (.exit 0) [(3, .d (I t3))] [] 34]) (r := I t3) (ob := [LoopN cx (loopAt cx.P 126 0) 25 0 false [(0, .d (.lst false 1 a0)), (3, .d (I t2)), (4, .d (I 1))] [] (.exit 0) [(3, .d (I t3))] [], (0 : Int) ≤ 0, nth (a0) (Int.toNat 0) = some (I t2), (decide (((a0).length : Int) < 1)) = false]) (by kernel_rfl) ⟨(loopF_to R_slices_Max_g_2_L1 h3), (el_ok un_i_ok h2).1, (el_ok un_i_ok h2).2, (decide_eq_false h1), trivial⟩
def F_drive_places_L1 (n : Nat) (a0 : List D) (a1 : Int) (a2 : Int) (sa : (Unit) ⊕ (Int × List D)) : Option (((Unit) ⊕ (Int × List D)) ⊕ ((Unit) ⊕ (List D))) := match sa with
  | (.inl sa) => (
    if 0 < ((a0).length : Int) then
      (el un_Ai3Z a0 0).bind fun ta2 =>
      (F_drive_end n ta2.2.1 ta2.2.2 1 0).bind fun ta3 =>
      (F_drive_end n a1 a2 1 0).bind fun ta4 =>
      if inI64 (ta2.1 * ta4) then
      if inI64 (ta3 + (ta2.1 * ta4)) then
      (F_drive_end n a1 a2 0 1).bind fun ta7 =>
      if inI64 (ta2.1 * ta7) then
      if inI64 (ta3 + (ta2.1 * ta7)) then
      (F_drive_end n ta2.2.1 ta2.2.2 0 1).bind fun ta10 =>
      if inI64 (ta10 + (ta2.1 * ta4)) then
      if inI64 (ta10 + (ta2.1 * ta7)) then
      some (.inl (.inr (1, [I (ta3 + (ta2.1 * ta4)), I (ta3 + (ta2.1 * ta7)), I (ta10 + (ta2.1 * ta4)), I (ta10 + (ta2.1 * ta7))])))
      else none
      else none
      else none
      else none
      else none
      else none
    else
    some (.inr (.inl ())))
  | (.inr sa) => (
    if sa.1 < ((a0).length : Int) then
      (el un_Ai3Z a0 sa.1).bind fun ta2 =>
      (F_drive_end n ta2.2.1 ta2.2.2 1 0).bind fun ta3 =>
      (F_drive_end n a1 a2 1 0).bind fun ta4 =>
      if inI64 (ta2.1 * ta4) then
      if inI64 (ta3 + (ta2.1 * ta4)) then
      if roomP 8 ((sa.2).length + 1) then
      (F_drive_end n a1 a2 0 1).bind fun ta8 =>
      if inI64 (ta2.1 * ta8) then
      if inI64 (ta3 + (ta2.1 * ta8)) then
      if roomP 8 (((sa.2 ++ ([I (ta3 + (ta2.1 * ta4))] : List D)) : List D).length + 1) then
      (F_drive_end n ta2.2.1 ta2.2.2 0 1).bind fun ta12 =>
      if inI64 (ta12 + (ta2.1 * ta4)) then
      if roomP 8 ((((sa.2 ++ ([I (ta3 + (ta2.1 * ta4))] : List D)) ++ ([I (ta3 + (ta2.1 * ta8))] : List D)) : List D).length + 1) then
      if inI64 (ta12 + (ta2.1 * ta8)) then
      if roomP 8 (((((sa.2 ++ ([I (ta3 + (ta2.1 * ta4))] : List D)) ++ ([I (ta3 + (ta2.1 * ta8))] : List D)) ++ ([I (ta12 + (ta2.1 * ta4))] : List D)) : List D).length + 1) then
      if inI64 (sa.1 + 1) then
      some (.inl (.inr ((sa.1 + 1), ((((sa.2 ++ ([I (ta3 + (ta2.1 * ta4))] : List D)) ++ ([I (ta3 + (ta2.1 * ta8))] : List D)) ++ ([I (ta12 + (ta2.1 * ta4))] : List D)) ++ ([I (ta12 + (ta2.1 * ta8))] : List D)))))
      else none
      else none
      else none
      else none
      else none
      else none
      else none
      else none
      else none
      else none
      else none
    else
    some (.inr (.inr sa.2)))
noncomputable def T_drive_places_L1 (a0 : List D) (a1 : Int) (a2 : Int) (sa : (Unit) ⊕ (Int × List D)) : List (Nat × AV) := match sa with
  | (.inl sa) => [(0, .own 9 0), (7, .d (.lst false 3 a0)), (8, .d (I ((a0).length : Int))), (9, .d (I 0))]
  | (.inr sa) => [(0, .own 9 0), (7, .d (.lst false 3 a0)), (8, .d (I ((a0).length : Int))), (9, .d (I sa.1))]
noncomputable def H_drive_places_L1 (a0 : List D) (a1 : Int) (a2 : Int) (sa : (Unit) ⊕ (Int × List D)) : List (Nat × Blk) := match sa with
  | (.inl sa) => [(0, .box (.d (.agg [I a1, I a2]))), (1, .box (.d (.agg [I 0, I 0]))), (2, .box (.d (.lst true 0 []))), (5, .box (.d (.lst false 3 a0))), (9, .loop true [(10, .fn (.func 149) [] [.ptr 5 0 0 0 0]), (9, .d (.lst false 3 a0)), (5, .ptr 2 0 0 0 0), (4, .ptr 1 0 0 0 0), (3, .ptr 0 0 0 0 0), (1, .d (.agg [I a1, I a2])), (0, .d (.lst false 3 a0))] [11] (rangeAt cx.P 97 0).1 (rangeAt cx.P 97 0).2 34)]
  | (.inr sa) => [(0, .box (.d (.agg [I a1, I a2]))), (1, .box (.d (.agg [I 0, I 0]))), (2, .box (.own 53 0)), (5, .box (.d (.lst false 3 a0))), (9, .loop true [(10, .fn (.func 149) [] [.ptr 5 0 0 0 0]), (9, .d (.lst false 3 a0)), (5, .ptr 2 0 0 0 0), (4, .ptr 1 0 0 0 0), (3, .ptr 0 0 0 0 0), (1, .d (.agg [I a1, I a2])), (0, .d (.lst false 3 a0))] [11] (rangeAt cx.P 97 0).1 (rangeAt cx.P 97 0).2 34), (53, .row 0 1 sa.2)]
noncomputable def X_drive_places_L1 (a0 : List D) (a1 : Int) (a2 : Int) (e : (Unit) ⊕ (List D)) : Ex := match e with
  | (.inl e) => (.exit 0)
  | (.inr e) => (.exit 0)
noncomputable def XT_drive_places_L1 (a0 : List D) (a1 : Int) (a2 : Int) (e : (Unit) ⊕ (List D)) : List (Nat × AV) := match e with
  | (.inl e) => []
  | (.inr e) => []
noncomputable def XH_drive_places_L1 (a0 : List D) (a1 : Int) (a2 : Int) (e : (Unit) ⊕ (List D)) : List (Nat × Blk) := match e with
  | (.inl e) => [(0, .box (.d (.agg [I a1, I a2]))), (1, .box (.d (.agg [I 0, I 0]))), (2, .box (.d (.lst true 0 []))), (5, .box (.d (.lst false 3 a0))), (9, .loop true [(10, .fn (.func 149) [] [.ptr 5 0 0 0 0]), (9, .d (.lst false 3 a0)), (5, .ptr 2 0 0 0 0), (4, .ptr 1 0 0 0 0), (3, .ptr 0 0 0 0 0), (1, .d (.agg [I a1, I a2])), (0, .d (.lst false 3 a0))] [11] (rangeAt cx.P 97 0).1 (rangeAt cx.P 97 0).2 34)]
  | (.inr e) => [(0, .box (.d (.agg [I a1, I a2]))), (1, .box (.d (.agg [I 0, I 0]))), (2, .box (.own 53 0)), (5, .box (.d (.lst false 3 a0))), (9, .loop true [(10, .fn (.func 149) [] [.ptr 5 0 0 0 0]), (9, .d (.lst false 3 a0)), (5, .ptr 2 0 0 0 0), (4, .ptr 1 0 0 0 0), (3, .ptr 0 0 0 0 0), (1, .d (.agg [I a1, I a2])), (0, .d (.lst false 3 a0))] [11] (rangeAt cx.P 97 0).1 (rangeAt cx.P 97 0).2 34), (53, .row 0 1 e)]
theorem R_drive_places_L1 {n : Nat} {a0 : List D} {a1 : Int} {a2 : Int} (sa : (Unit) ⊕ (Int × List D)) (r) (h : F_drive_places_L1 n a0 a1 a2 sa = some r) : Rd cx (loopAt cx.P 149 0) 29 10 false (T_drive_places_L1 a0 a1 a2) (H_drive_places_L1 a0 a1 a2) (X_drive_places_L1 a0 a1 a2) (XT_drive_places_L1 a0 a1 a2) (XH_drive_places_L1 a0 a1 a2) sa r := by
  unfold F_drive_places_L1 at h
  rcases sa with sa | sa
  · by_cases ha1 : 0 < ((a0).length : Int)
    · replace h := ite_t h ha1
      obtain ⟨ta2, ha2, h⟩ := bnd_of h
      obtain ⟨ta3, ha3, h⟩ := bnd_of h
      obtain ⟨ta4, ha4, h⟩ := bnd_of h
      obtain ⟨ha5, h⟩ := grd_of h
      obtain ⟨ha6, h⟩ := grd_of h
      obtain ⟨ta7, ha7, h⟩ := bnd_of h
      obtain ⟨ha8, h⟩ := grd_of h
      obtain ⟨ha9, h⟩ := grd_of h
      obtain ⟨ta10, ha10, h⟩ := bnd_of h
      obtain ⟨ha11, h⟩ := grd_of h
      obtain ⟨ha12, h⟩ := grd_of h
      replace h := Option.some.inj h
      subst h
      exact ⟨100, 13, [.br true, .el (.agg [I ta2.1, I ta2.2.1, I ta2.2.2]), .no, .no, .ret (I ta3), .no, .no, .ret (I ta4), .no, .no, .no, .no, .ret (I ta7), .no, .no, .no, .no, .no, .no, .ret (I ta10), .no, .no, .ret (I ta4), .no, .no, .no, .ret (I ta7), .no, .no, .no, .no, .no, .no], [], [0, 7, 8, 9], [0, 1, 2, 5, 9, 53], round_of (ob := [inI64 1, inI64 2, inI64 2, inI64 (ta10 + (ta2.1 * ta7)), inI64 (ta2.1 * ta7), Computes cx 124 [.agg [I a1, I a2], .agg [I 0, I 1]] (I ta7), inI64 1, inI64 (ta10 + (ta2.1 * ta4)), inI64 (ta2.1 * ta4), Computes cx 124 [.agg [I a1, I a2], .agg [I 1, I 0]] (I ta4), Computes cx 124 [.agg [I ta2.2.1, I ta2.2.2], .agg [I 0, I 1]] (I ta10), inI64 1, inI64 2, inI64 (ta3 + (ta2.1 * ta7)), inI64 (ta2.1 * ta7), Computes cx 124 [.agg [I a1, I a2], .agg [I 0, I 1]] (I ta7), inI64 1, inI64 (ta3 + (ta2.1 * ta4)), inI64 (ta2.1 * ta4), Computes cx 124 [.agg [I a1, I a2], .agg [I 1, I 0]] (I ta4), Computes cx 124 [.agg [I ta2.2.1, I ta2.2.2], .agg [I 1, I 0]] (I ta3), (0 : Int) ≤ 0, nth (a0) (Int.toNat 0) = some (.agg [I ta2.1, I ta2.2.1, I ta2.2.2]), (decide (0 < ((a0).length : Int))) = true]) (by kernel_rfl) ⟨(by unfold inI64; omega), (by unfold inI64; omega), (by unfold inI64; omega), ha12, ha8, (c_drive_end ha7), (by unfold inI64; omega), ha11, ha5, (c_drive_end ha4), (c_drive_end ha10), (by unfold inI64; omega), (by unfold inI64; omega), ha9, ha8, (c_drive_end ha7), (by unfold inI64; omega), ha6, ha5, (c_drive_end ha4), (c_drive_end ha3), (el_ok un_Ai3Z_ok ha2).1, (el_ok un_Ai3Z_ok ha2).2, (decide_eq_true ha1), trivial⟩⟩
    · replace h := ite_f h ha1
      replace h := Option.some.inj h
      subst h
      exact ⟨⟨100, 13, [.br false], [], [], [0, 1, 2, 5, 9], round_of (ob := [(decide (0 < ((a0).length : Int))) = false]) (by kernel_rfl) ⟨(decide_eq_false ha1), trivial⟩⟩, nofun⟩
  · by_cases ha1 : sa.1 < ((a0).length : Int)
    · replace h := ite_t h ha1
      obtain ⟨ta2, ha2, h⟩ := bnd_of h
      obtain ⟨ta3, ha3, h⟩ := bnd_of h
      obtain ⟨ta4, ha4, h⟩ := bnd_of h
      obtain ⟨ha5, h⟩ := grd_of h
      obtain ⟨ha6, h⟩ := grd_of h
      obtain ⟨ha7, h⟩ := grd_of h
      obtain ⟨ta8, ha8, h⟩ := bnd_of h
      obtain ⟨ha9, h⟩ := grd_of h
      obtain ⟨ha10, h⟩ := grd_of h
      obtain ⟨ha11, h⟩ := grd_of h
      obtain ⟨ta12, ha12, h⟩ := bnd_of h
      obtain ⟨ha13, h⟩ := grd_of h
      obtain ⟨ha14, h⟩ := grd_of h
      obtain ⟨ha15, h⟩ := grd_of h
      obtain ⟨ha16, h⟩ := grd_of h
      obtain ⟨ha17, h⟩ := grd_of h
      replace h := Option.some.inj h
      subst h
      exact ⟨100, 54, [.br true, .el (.agg [I ta2.1, I ta2.2.1, I ta2.2.2]), .no, .no, .ret (I ta3), .no, .no, .ret (I ta4), .br true, .no, .no, .ret (I ta8), .br true, .no, .no, .no, .no, .no, .ret (I ta12), .no, .no, .ret (I ta4), .br true, .no, .no, .ret (I ta8), .br true, .no, .no, .no, .no, .no], [], [0, 7, 8, 9], [0, 1, 2, 5, 9, 53], round_of (ob := [inI64 (sa.1 + 1), inI64 2, inI64 2, room cx 3 (((((sa.2 ++ ([I (ta3 + (ta2.1 * ta4))] : List D)) ++ ([I (ta3 + (ta2.1 * ta8))] : List D)) ++ ([I (ta12 + (ta2.1 * ta4))] : List D)) : List D).length + 1), inI64 (ta12 + (ta2.1 * ta8)), inI64 (ta2.1 * ta8), Computes cx 124 [.agg [I a1, I a2], .agg [I 0, I 1]] (I ta8), inI64 1, room cx 3 ((((sa.2 ++ ([I (ta3 + (ta2.1 * ta4))] : List D)) ++ ([I (ta3 + (ta2.1 * ta8))] : List D)) : List D).length + 1), inI64 (ta12 + (ta2.1 * ta4)), inI64 (ta2.1 * ta4), Computes cx 124 [.agg [I a1, I a2], .agg [I 1, I 0]] (I ta4), Computes cx 124 [.agg [I ta2.2.1, I ta2.2.2], .agg [I 0, I 1]] (I ta12), inI64 1, inI64 2, room cx 3 (((sa.2 ++ ([I (ta3 + (ta2.1 * ta4))] : List D)) : List D).length + 1), inI64 (ta3 + (ta2.1 * ta8)), inI64 (ta2.1 * ta8), Computes cx 124 [.agg [I a1, I a2], .agg [I 0, I 1]] (I ta8), inI64 1, room cx 3 ((sa.2).length + 1), inI64 (ta3 + (ta2.1 * ta4)), inI64 (ta2.1 * ta4), Computes cx 124 [.agg [I a1, I a2], .agg [I 1, I 0]] (I ta4), Computes cx 124 [.agg [I ta2.2.1, I ta2.2.2], .agg [I 1, I 0]] (I ta3), (0 : Int) ≤ sa.1, nth (a0) (Int.toNat sa.1) = some (.agg [I ta2.1, I ta2.2.1, I ta2.2.2]), (decide (sa.1 < ((a0).length : Int))) = true]) (by kernel_rfl) ⟨ha17, (by unfold inI64; omega), (by unfold inI64; omega), (room_of (b := 8) (by kernel_rfl) (by decide) ha16), ha15, ha9, (c_drive_end ha8), (by unfold inI64; omega), (room_of (b := 8) (by kernel_rfl) (by decide) ha14), ha13, ha5, (c_drive_end ha4), (c_drive_end ha12), (by unfold inI64; omega), (by unfold inI64; omega), (room_of (b := 8) (by kernel_rfl) (by decide) ha11), ha10, ha9, (c_drive_end ha8), (by unfold inI64; omega), (room_of (b := 8) (by kernel_rfl) (by decide) ha7), ha6, ha5, (c_drive_end ha4), (c_drive_end ha3), (el_ok un_Ai3Z_ok ha2).1, (el_ok un_Ai3Z_ok ha2).2, (decide_eq_true ha1), trivial⟩⟩
    · replace h := ite_f h ha1
      replace h := Option.some.inj h
      subst h
      exact ⟨⟨100, 54, [.br false], [], [], [0, 1, 2, 5, 9, 53], round_of (ob := [(decide (sa.1 < ((a0).length : Int))) = false]) (by kernel_rfl) ⟨(decide_eq_false ha1), trivial⟩⟩, nofun⟩
/- spillage/drive.places: .lst false 3 a0, .agg [I a1, I a2] -/
def F_drive_places (n : Nat) (a0 : List D) (a1 : Int) (a2 : Int) : Option (Int × Int) :=
  (loopF (F_drive_places_L1 n a0 a1 a2) n (.inl ())).bind fun t1 => match t1 with
    | (.inl t1) => (
      (F_slices_Min_g_2 n ([])).bind fun t2 =>
      (F_slices_Max_g_2 n ([])).bind fun t3 =>
      some (t2, t3))
    | (.inr t1) => (
      (F_slices_Min_g_2 n t1).bind fun t2 =>
      (F_slices_Max_g_2 n t1).bind fun t3 =>
      some (t2, t3))
theorem c_drive_places {n : Nat} {a0 : List D} {a1 : Int} {a2 : Int} {r : Int × Int} (h : F_drive_places n a0 a1 a2 = some r) : Computes cx 97 [.lst false 3 a0, .agg [I a1, I a2]] (.agg [I r.1, I r.2]) := by
  unfold F_drive_places at h
  obtain ⟨t1, h1, h⟩ := bnd_of h
  rcases t1 with t1 | t1
  · obtain ⟨t2, h2, h⟩ := bnd_of h
    obtain ⟨t3, h3, h⟩ := bnd_of h
    replace h := Option.some.inj h
    subst h
    exact run (n := 100) (f := 97) (args := [.lst false 3 a0, .agg [I a1, I a2]]) (orc := [.br true, .lp [] [0, 7, 8, 9] [0, 1, 2, 5, 9] (.exit 0) [] [(0, .box (.d (.agg [I a1, I a2]))), (1, .box (.d (.agg [I 0, I 0]))), (2, .box (.d (.lst true 0 []))), (5, .box (.d (.lst false 3 a0))), (9, .loop true [(10, .fn (.func 149) [] [.ptr 5 0 0 0 0]), (9, .d (.lst false 3 a0)), (5, .ptr 2 0 0 0 0), (4, .ptr 1 0 0 0 0), (3, .ptr 0 0 0 0 0), (1, .d (.agg [I a1, I a2])), (0, .d (.lst false 3 a0))] [11] (rangeAt cx.P 97 0).1 (rangeAt cx.P 97 0).2 34)] 193, .ret (I t2), .ret (I t3)]) (r := .agg [I t2, I t3]) (ob := [Computes cx 126 [.lst true 0 []] (I t3), Computes cx 125 [.lst true 0 []] (I t2), LoopN cx (loopAt cx.P 149 0) 29 10 false [(0, .own 9 0), (7, .d (.lst false 3 a0)), (8, .d (I ((a0).length : Int))), (9, .d (I 0))] [(0, .box (.d (.agg [I a1, I a2]))), (1, .box (.d (.agg [I 0, I 0]))), (2, .box (.d (.lst true 0 []))), (5, .box (.d (.lst false 3 a0))), (9, .loop true [(10, .fn (.func 149) [] [.ptr 5 0 0 0 0]), (9, .d (.lst false 3 a0)), (5, .ptr 2 0 0 0 0), (4, .ptr 1 0 0 0 0), (3, .ptr 0 0 0 0 0), (1, .d (.agg [I a1, I a2])), (0, .d (.lst false 3 a0))] [11] (rangeAt cx.P 97 0).1 (rangeAt cx.P 97 0).2 34)] (.exit 0) [] [(0, .box (.d (.agg [I a1, I a2]))), (1, .box (.d (.agg [I 0, I 0]))), (2, .box (.d (.lst true 0 []))), (5, .box (.d (.lst false 3 a0))), (9, .loop true [(10, .fn (.func 149) [] [.ptr 5 0 0 0 0]), (9, .d (.lst false 3 a0)), (5, .ptr 2 0 0 0 0), (4, .ptr 1 0 0 0 0), (3, .ptr 0 0 0 0 0), (1, .d (.agg [I a1, I a2])), (0, .d (.lst false 3 a0))] [11] (rangeAt cx.P 97 0).1 (rangeAt cx.P 97 0).2 34)]]) (by kernel_rfl) ⟨((c_slices_Max_g_2 h3).le (.cons (.lst _ _ _ _ _ nofun (.inl rfl)) (.nil)) (.refl _)), ((c_slices_Min_g_2 h2).le (.cons (.lst _ _ _ _ _ nofun (.inl rfl)) (.nil)) (.refl _)), (loopF_to R_drive_places_L1 h1), trivial⟩
  · obtain ⟨t2, h2, h⟩ := bnd_of h
    obtain ⟨t3, h3, h⟩ := bnd_of h
    replace h := Option.some.inj h
    subst h
    exact run (n := 100) (f := 97) (args := [.lst false 3 a0, .agg [I a1, I a2]]) (orc := [.br true, .lp [] [0, 7, 8, 9] [0, 1, 2, 5, 9] (.exit 0) [] [(0, .box (.d (.agg [I a1, I a2]))), (1, .box (.d (.agg [I 0, I 0]))), (2, .box (.own 53 0)), (5, .box (.d (.lst false 3 a0))), (9, .loop true [(10, .fn (.func 149) [] [.ptr 5 0 0 0 0]), (9, .d (.lst false 3 a0)), (5, .ptr 2 0 0 0 0), (4, .ptr 1 0 0 0 0), (3, .ptr 0 0 0 0 0), (1, .d (.agg [I a1, I a2])), (0, .d (.lst false 3 a0))] [11] (rangeAt cx.P 97 0).1 (rangeAt cx.P 97 0).2 34), (53, .row 0 1 t1)] 193, .lp [] [] [53] .ret [] [] 0, .ret (I t2), .ret (I t3)]) (r := .agg [I t2, I t3]) (ob := [Computes cx 126 [.lst false 1 t1] (I t3), Computes cx 125 [.lst false 1 t1] (I t2), LoopN cx (loopAt cx.P 149 0) 29 10 false [(0, .own 9 0), (7, .d (.lst false 3 a0)), (8, .d (I ((a0).length : Int))), (9, .d (I 0))] [(0, .box (.d (.agg [I a1, I a2]))), (1, .box (.d (.agg [I 0, I 0]))), (2, .box (.d (.lst true 0 []))), (5, .box (.d (.lst false 3 a0))), (9, .loop true [(10, .fn (.func 149) [] [.ptr 5 0 0 0 0]), (9, .d (.lst false 3 a0)), (5, .ptr 2 0 0 0 0), (4, .ptr 1 0 0 0 0), (3, .ptr 0 0 0 0 0), (1, .d (.agg [I a1, I a2])), (0, .d (.lst false 3 a0))] [11] (rangeAt cx.P 97 0).1 (rangeAt cx.P 97 0).2 34)] (.exit 0) [] [(0, .box (.d (.agg [I a1, I a2]))), (1, .box (.d (.agg [I 0, I 0]))), (2, .box (.own 53 0)), (5, .box (.d (.lst false 3 a0))), (9, .loop true [(10, .fn (.func 149) [] [.ptr 5 0 0 0 0]), (9, .d (.lst false 3 a0)), (5, .ptr 2 0 0 0 0), (4, .ptr 1 0 0 0 0), (3, .ptr 0 0 0 0 0), (1, .d (.agg [I a1, I a2])), (0, .d (.lst false 3 a0))] [11] (rangeAt cx.P 97 0).1 (rangeAt cx.P 97 0).2 34), (53, .row 0 1 t1)]]) (by kernel_rfl) ⟨(c_slices_Max_g_2 h3), (c_slices_Min_g_2 h2), (loopF_to R_drive_places_L1 h1), trivial⟩
/- spillage/drive.Within: .lst false 3 a0, .agg [I a1, I a2] -/
def F_drive_Within (n : Nat) (a0 : List D) (a1 : Int) (a2 : Int) : Option (Int × Int × Int) :=
  (F_drive_CheckModel n a0).bind fun t1 =>
  (F_drive_checkEnds n a1 a2 1000).bind fun t2 =>
  (F_drive_first n ([I t1, I t2])).bind fun t3 =>
  if t3 = 0 then
    (F_drive_places n a0 a1 a2).bind fun t5 =>
    some (t5.1, t5.2, 0)
  else
  some (0, 0, t3)
theorem c_drive_Within {n : Nat} {a0 : List D} {a1 : Int} {a2 : Int} {r : Int × Int × Int} (h : F_drive_Within n a0 a1 a2 = some r) : Computes cx 54 [.lst false 3 a0, .agg [I a1, I a2]] (.tup [.agg [I r.1, I r.2.1], I r.2.2]) := by
  unfold F_drive_Within at h
  obtain ⟨t1, h1, h⟩ := bnd_of h
  obtain ⟨t2, h2, h⟩ := bnd_of h
  obtain ⟨t3, h3, h⟩ := bnd_of h
  by_cases h4 : t3 = 0
  · replace h := ite_t h h4
    obtain ⟨t5, h5, h⟩ := bnd_of h
    replace h := Option.some.inj h
    subst h
    exact run (n := 100) (f := 54) (args := [.lst false 3 a0, .agg [I a1, I a2]]) (orc := [.ret (I t1), .ret (I t2), .ret (I t3), .br false, .ret (.agg [I t5.1, I t5.2])]) (r := .tup [.agg [I t5.1, I t5.2], I 0]) (ob := [Computes cx 97 [.lst false 3 a0, .agg [I a1, I a2]] (.agg [I t5.1, I t5.2]), (t3 != 0) = false, Computes cx 84 [.lst true 1 [I t1, I t2]] (I t3), Computes cx 88 [.agg [I a1, I a2], I 1000] (I t2), Computes cx 53 [.lst false 3 a0] (I t1)]) (by kernel_rfl) ⟨(c_drive_places h5), (nef h4), ((c_drive_first h3).le (.cons (.full _ _ _) (.nil)) (.refl _)), (c_drive_checkEnds h2), (c_drive_CheckModel h1), trivial⟩
  · replace h := ite_f h h4
    replace h := Option.some.inj h
    subst h
    exact run (n := 100) (f := 54) (args := [.lst false 3 a0, .agg [I a1, I a2]]) (orc := [.ret (I t1), .ret (I t2), .ret (I t3), .br true]) (r := .tup [.agg [I 0, I 0], I t3]) (ob := [(t3 != 0) = true, Computes cx 84 [.lst true 1 [I t1, I t2]] (I t3), Computes cx 88 [.agg [I a1, I a2], I 1000] (I t2), Computes cx 53 [.lst false 3 a0] (I t1)]) (by kernel_rfl) ⟨(net h4), ((c_drive_first h3).le (.cons (.full _ _ _) (.nil)) (.refl _)), (c_drive_checkEnds h2), (c_drive_CheckModel h1), trivial⟩
def F_ref01_SameInts_L1 (n : Nat) (a0 : List D) (a1 : List D) (sa : (Int)) : Option (((Int)) ⊕ ((Unit) ⊕ (Unit))) :=
  if sa < ((a0).length : Int) then
    (el un_i a0 sa).bind fun ta2 =>
    (el un_i a1 sa).bind fun ta3 =>
    if ta2 = ta3 then
      if inI64 (sa + 1) then
      some (.inl (sa + 1))
      else none
    else
    some (.inr (.inl ()))
  else
  some (.inr (.inr ()))
noncomputable def T_ref01_SameInts_L1 (a0 : List D) (a1 : List D) (sa : (Int)) : List (Nat × AV) := [(0, .d (.lst false 1 a0)), (1, .d (.lst false 1 a1)), (5, .d (I sa))]
noncomputable def H_ref01_SameInts_L1 (a0 : List D) (a1 : List D) (sa : (Int)) : List (Nat × Blk) := []
noncomputable def X_ref01_SameInts_L1 (a0 : List D) (a1 : List D) (e : (Unit) ⊕ (Unit)) : Ex := match e with
  | (.inl e) => .ret
  | (.inr e) => (.exit 0)
noncomputable def XT_ref01_SameInts_L1 (a0 : List D) (a1 : List D) (e : (Unit) ⊕ (Unit)) : List (Nat × AV) := match e with
  | (.inl e) => [(4, .d (B false))]
  | (.inr e) => []
noncomputable def XH_ref01_SameInts_L1 (a0 : List D) (a1 : List D) (e : (Unit) ⊕ (Unit)) : List (Nat × Blk) := match e with
  | (.inl e) => []
  | (.inr e) => []
theorem R_ref01_SameInts_L1 {n : Nat} {a0 : List D} {a1 : List D} (sa : (Int)) (r) (h : F_ref01_SameInts_L1 n a0 a1 sa = some r) : Rd cx (loopAt cx.P 31 0) 26 0 false (T_ref01_SameInts_L1 a0 a1) (H_ref01_SameInts_L1 a0 a1) (X_ref01_SameInts_L1 a0 a1) (XT_ref01_SameInts_L1 a0 a1) (XH_ref01_SameInts_L1 a0 a1) sa r := by
  unfold F_ref01_SameInts_L1 at h
  by_cases ha1 : sa < ((a0).length : Int)
  · replace h := ite_t h ha1
    obtain ⟨ta2, ha2, h⟩ := bnd_of h
    obtain ⟨ta3, ha3, h⟩ := bnd_of h
    by_cases ha4 : ta2 = ta3
    · replace h := ite_t h ha4
      obtain ⟨ha5, h⟩ := grd_of h
      replace h := Option.some.inj h
      subst h
      exact ⟨100, 7, [.br true, .el (I ta2), .el (I ta3), .br false], [], [0, 1, 5], [], round_of (ob := [inI64 (sa + 1), (ta2 != ta3) = false, (0 : Int) ≤ sa, nth (a1) (Int.toNat sa) = some (I ta3), (0 : Int) ≤ sa, nth (a0) (Int.toNat sa) = some (I ta2), (decide (sa < ((a0).length : Int))) = true]) (by kernel_rfl) ⟨ha5, (nef ha4), (el_ok un_i_ok ha3).1, (el_ok un_i_ok ha3).2, (el_ok un_i_ok ha2).1, (el_ok un_i_ok ha2).2, (decide_eq_true ha1), trivial⟩⟩
    · replace h := ite_f h ha4
      replace h := Option.some.inj h
      subst h
      exact ⟨⟨100, 7, [.br true, .el (I ta2), .el (I ta3), .br true], [], [4], [], round_of (ob := [(ta2 != ta3) = true, (0 : Int) ≤ sa, nth (a1) (Int.toNat sa) = some (I ta3), (0 : Int) ≤ sa, nth (a0) (Int.toNat sa) = some (I ta2), (decide (sa < ((a0).length : Int))) = true]) (by kernel_rfl) ⟨(net ha4), (el_ok un_i_ok ha3).1, (el_ok un_i_ok ha3).2, (el_ok un_i_ok ha2).1, (el_ok un_i_ok ha2).2, (decide_eq_true ha1), trivial⟩⟩, nofun⟩
  · replace h := ite_f h ha1
    replace h := Option.some.inj h
    subst h
    exact ⟨⟨100, 7, [.br false], [], [], [], round_of (ob := [(decide (sa < ((a0).length : Int))) = false]) (by kernel_rfl) ⟨(decide_eq_false ha1), trivial⟩⟩, nofun⟩
/- spillage/spillageref01.SameInts: .lst false 1 a0, .lst false 1 a1 -/
def F_ref01_SameInts (n : Nat) (a0 : List D) (a1 : List D) : Option (Bool) :=
  if ((a0).length : Int) = ((a1).length : Int) then
    (loopF (F_ref01_SameInts_L1 n a0 a1) n 0).bind fun t2 => match t2 with
      | (.inl t2) => (
        some false)
      | (.inr t2) => (
        some true)
  else
  some false
theorem c_ref01_SameInts {n : Nat} {a0 : List D} {a1 : List D} {r : Bool} (h : F_ref01_SameInts n a0 a1 = some r) : Computes cx 31 [.lst false 1 a0, .lst false 1 a1] (B r) := by
  unfold F_ref01_SameInts at h
  by_cases h1 : ((a0).length : Int) = ((a1).length : Int)
  · replace h := ite_t h h1
    obtain ⟨t2, h2, h⟩ := bnd_of h
    rcases t2 with t2 | t2
    · replace h := Option.some.inj h
      subst h
      exact run (n := 100) (f := 31) (args := [.lst false 1 a0, .lst false 1 a1]) (orc := [.br false, .lp [] [0, 1, 5] [] .ret [(4, .d (B false))] [] 34]) (r := B false) (ob := [LoopN cx (loopAt cx.P 31 0) 26 0 false [(0, .d (.lst false 1 a0)), (1, .d (.lst false 1 a1)), (5, .d (I 0))] [] .ret [(4, .d (B false))] [], (((a0).length : Int) != ((a1).length : Int)) = false]) (by kernel_rfl) ⟨(loopF_to R_ref01_SameInts_L1 h2), (nef h1), trivial⟩
    · replace h := Option.some.inj h
      subst h
      exact run (n := 100) (f := 31) (args := [.lst false 1 a0, .lst false 1 a1]) (orc := [.br false, .lp [] [0, 1, 5] [] (.exit 0) [] [] 34]) (r := B true) (ob := [LoopN cx (loopAt cx.P 31 0) 26 0 false [(0, .d (.lst false 1 a0)), (1, .d (.lst false 1 a1)), (5, .d (I 0))] [] (.exit 0) [] [], (((a0).length : Int) != ((a1).length : Int)) = false]) (by kernel_rfl) ⟨(loopF_to R_ref01_SameInts_L1 h2), (nef h1), trivial⟩
  · replace h := ite_f h h1
    replace h := Option.some.inj h
    subst h
    exact run (n := 100) (f := 31) (args := [.lst false 1 a0, .lst false 1 a1]) (orc := [.br true]) (r := B false) (ob := [(((a0).length : Int) != ((a1).length : Int)) = true]) (by kernel_rfl) ⟨(net h1), trivial⟩
def F_law03_bands_L1 (n : Nat) (a0 : List D) (sa : (Int × List D)) : Option (((Int × List D)) ⊕ ((List D))) :=
  if sa.1 < ((a0).length : Int) then
    (el un_Ai3Z a0 sa.1).bind fun ta2 =>
    if roomP 24 ((sa.2).length + 1) then
    if inI64 (sa.1 + 1) then
    some (.inl ((sa.1 + 1), (sa.2 ++ ([.agg [I ta2.1, I ta2.2.1, I ta2.2.2]] : List D))))
    else none
    else none
  else
  some (.inr sa.2)
noncomputable def T_law03_bands_L1 (a0 : List D) (sa : (Int × List D)) : List (Nat × AV) := [(3, .own 5 0), (6, .d (.lst false 3 a0)), (7, .d (I ((a0).length : Int))), (8, .d (I sa.1))]
noncomputable def H_law03_bands_L1 (a0 : List D) (sa : (Int × List D)) : List (Nat × Blk) := [(5, .row 0 3 sa.2)]
noncomputable def X_law03_bands_L1 (a0 : List D) (e : (List D)) : Ex := (.exit 0)
noncomputable def XT_law03_bands_L1 (a0 : List D) (e : (List D)) : List (Nat × AV) := [(3, .own 5 0)]
noncomputable def XH_law03_bands_L1 (a0 : List D) (e : (List D)) : List (Nat × Blk) := [(5, .row 0 3 e)]
theorem R_law03_bands_L1 {n : Nat} {a0 : List D} (sa : (Int × List D)) (r) (h : F_law03_bands_L1 n a0 sa = some r) : Rd cx (loopAt cx.P 44 0) 18 0 false (T_law03_bands_L1 a0) (H_law03_bands_L1 a0) (X_law03_bands_L1 a0) (XT_law03_bands_L1 a0) (XH_law03_bands_L1 a0) sa r := by
  unfold F_law03_bands_L1 at h
  by_cases ha1 : sa.1 < ((a0).length : Int)
  · replace h := ite_t h ha1
    obtain ⟨ta2, ha2, h⟩ := bnd_of h
    obtain ⟨ha3, h⟩ := grd_of h
    obtain ⟨ha4, h⟩ := grd_of h
    replace h := Option.some.inj h
    subst h
    exact ⟨100, 6, [.br true, .el (.agg [I ta2.1, I ta2.2.1, I ta2.2.2]), .br true], [], [3, 6, 7, 8], [5], round_of (ob := [inI64 (sa.1 + 1), room cx 126 ((sa.2).length + 1), (0 : Int) ≤ sa.1, nth (a0) (Int.toNat sa.1) = some (.agg [I ta2.1, I ta2.2.1, I ta2.2.2]), (decide (sa.1 < ((a0).length : Int))) = true]) (by kernel_rfl) ⟨ha4, (room_of (b := 24) (by kernel_rfl) (by decide) ha3), (el_ok un_Ai3Z_ok ha2).1, (el_ok un_Ai3Z_ok ha2).2, (decide_eq_true ha1), trivial⟩⟩
  · replace h := ite_f h ha1
    replace h := Option.some.inj h
    subst h
    exact ⟨⟨100, 6, [.br false], [], [3], [5], round_of (ob := [(decide (sa.1 < ((a0).length : Int))) = false]) (by kernel_rfl) ⟨(decide_eq_false ha1), trivial⟩⟩, nofun⟩
end Go.Proofs.YtmgbmngmmpeaaaaGreatDoor
