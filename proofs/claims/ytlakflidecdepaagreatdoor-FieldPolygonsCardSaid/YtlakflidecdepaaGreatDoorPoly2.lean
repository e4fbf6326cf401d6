/-
  Printed by gsx.py: functions of the program as Lean functions, and that the code computes them.
-/
import Derived.Test.YtlakflidecdepaaGreatDoorPoly1
set_option linter.unusedVariables false
set_option linter.unusedSimpArgs false
set_option linter.unnecessarySimpa false
set_option maxRecDepth 10000
namespace Go.Proofs.YtlakflidecdepaaGreatDoor
open Go.SX
def F_ref04_Area_L1 (n : Nat) (a0 : List D) (sa : (Int × Int)) : Option (((Int × Int)) ⊕ ((Int))) :=
  if sa.2 < ((a0).length : Int) then
    (F_ref04_next n a0 sa.2).bind fun ta2 =>
    (el un_Ai2Z a0 sa.2).bind fun ta3 =>
    if inI64 (ta3.1 * ta2.2) then
    if inI64 (sa.1 + (ta3.1 * ta2.2)) then
    if inI64 (ta3.2 * ta2.1) then
    if inI64 ((sa.1 + (ta3.1 * ta2.2)) - (ta3.2 * ta2.1)) then
    if inI64 (sa.2 + 1) then
    some (.inl (((sa.1 + (ta3.1 * ta2.2)) - (ta3.2 * ta2.1)), (sa.2 + 1)))
    else none
    else none
    else none
    else none
    else none
  else
  some (.inr sa.1)
noncomputable def T_ref04_Area_L1 (a0 : List D) (sa : (Int × Int)) : List (Nat × AV) := [(0, .d (.lst false 2 a0)), (3, .d (I sa.1)), (4, .d (I sa.2))]
noncomputable def H_ref04_Area_L1 (a0 : List D) (sa : (Int × Int)) : List (Nat × Blk) := []
noncomputable def X_ref04_Area_L1 (a0 : List D) (e : (Int)) : Ex := (.exit 0)
noncomputable def XT_ref04_Area_L1 (a0 : List D) (e : (Int)) : List (Nat × AV) := [(3, .d (I e))]
noncomputable def XH_ref04_Area_L1 (a0 : List D) (e : (Int)) : List (Nat × Blk) := []
theorem R_ref04_Area_L1 {n : Nat} {a0 : List D} (sa : (Int × Int)) (r) (h : F_ref04_Area_L1 n a0 sa = some r) : Rd cx (loopAt cx.P 12 0) 35 0 false (T_ref04_Area_L1 a0) (H_ref04_Area_L1 a0) (X_ref04_Area_L1 a0) (XT_ref04_Area_L1 a0) (XH_ref04_Area_L1 a0) sa r := by
  unfold F_ref04_Area_L1 at h
  by_cases ha1 : sa.2 < ((a0).length : Int)
  · replace h := ite_t h ha1
    obtain ⟨ta2, ha2, h⟩ := bnd_of h
    obtain ⟨ta3, ha3, h⟩ := bnd_of h
    obtain ⟨ha4, h⟩ := grd_of h
    obtain ⟨ha5, h⟩ := grd_of h
    obtain ⟨ha6, h⟩ := grd_of h
    obtain ⟨ha7, h⟩ := grd_of h
    obtain ⟨ha8, h⟩ := grd_of h
    replace h := Option.some.inj h
    subst h
    exact ⟨100, 3, [.br true, .ret (.agg [I ta2.1, I ta2.2]), .el (.agg [I ta3.1, I ta3.2]), .el (.agg [I ta3.1, I ta3.2])], [], [0, 3, 4], [], round_of (ob := [inI64 (sa.2 + 1), inI64 ((sa.1 + (ta3.1 * ta2.2)) - (ta3.2 * ta2.1)), inI64 (ta3.2 * ta2.1), (0 : Int) ≤ sa.2, nth (a0) (Int.toNat sa.2) = some (.agg [I ta3.1, I ta3.2]), inI64 (sa.1 + (ta3.1 * ta2.2)), inI64 (ta3.1 * ta2.2), (0 : Int) ≤ sa.2, nth (a0) (Int.toNat sa.2) = some (.agg [I ta3.1, I ta3.2]), Computes cx 45 [.lst false 2 a0, I sa.2] (.agg [I ta2.1, I ta2.2]), (decide (sa.2 < ((a0).length : Int))) = true]) (by kernel_rfl) ⟨ha8, ha7, ha6, (el_ok un_Ai2Z_ok ha3).1, (el_ok un_Ai2Z_ok ha3).2, ha5, ha4, (el_ok un_Ai2Z_ok ha3).1, (el_ok un_Ai2Z_ok ha3).2, (c_ref04_next ha2), (decide_eq_true ha1), trivial⟩⟩
  · replace h := ite_f h ha1
    replace h := Option.some.inj h
    subst h
    exact ⟨⟨100, 3, [.br false], [], [3], [], round_of (ob := [(decide (sa.2 < ((a0).length : Int))) = false]) (by kernel_rfl) ⟨(decide_eq_false ha1), trivial⟩⟩, nofun⟩
/- spillage/spillageref04.Area: .lst false 2 a0 -/
def F_ref04_Area (n : Nat) (a0 : List D) : Option (Int) :=
  (loopF (F_ref04_Area_L1 n a0) n (0, 0)).bind fun t1 =>
  some t1
theorem c_ref04_Area {n : Nat} {a0 : List D} {r : Int} (h : F_ref04_Area n a0 = some r) : Computes cx 12 [.lst false 2 a0] (I r) := by
  unfold F_ref04_Area at h
  obtain ⟨t1, h1, h⟩ := bnd_of h
  replace h := Option.some.inj h
  subst h
  exact run (n := 100) (f := 12) (args := [.lst false 2 a0]) (orc := [.lp [] [0, 3, 4] [] (.exit 0) [(3, .d (I t1))] [] 46]) (r := I t1) (ob := [LoopN cx (loopAt cx.P 12 0) 35 0 false [(0, .d (.lst false 2 a0)), (3, .d (I 0)), (4, .d (I 0))] [] (.exit 0) [(3, .d (I t1))] []]) (by kernel_rfl) ⟨(loopF_to R_ref04_Area_L1 h1), trivial⟩
def F_ref04_Holds_L1 (n : Nat) (a0 : List D) (a1 : Int) (a2 : Int) (sa : (Int × Int)) : Option (((Int × Int)) ⊕ ((Unit) ⊕ (Int))) :=
  if sa.2 < ((a0).length : Int) then
    (el un_Ai2Z a0 sa.2).bind fun ta2 =>
    (F_ref04_next n a0 sa.2).bind fun ta3 =>
    (F_ref04_Side n ta2.1 ta2.2 ta3.1 ta3.2 a1 a2).bind fun ta4 =>
    if ta4 < 0 then
      some (.inr (.inl ()))
    else
    if ta4 = 0 then
      if inI64 (sa.2 + 1) then
      some (.inl (0, (sa.2 + 1)))
      else none
    else
    if inI64 (sa.2 + 1) then
    some (.inl (sa.1, (sa.2 + 1)))
    else none
  else
  some (.inr (.inr sa.1))
noncomputable def T_ref04_Holds_L1 (a0 : List D) (a1 : Int) (a2 : Int) (sa : (Int × Int)) : List (Nat × AV) := [(0, .d (.lst false 2 a0)), (3, .ptr 0 0 0 0 0), (5, .d (I sa.1)), (6, .d (I sa.2))]
noncomputable def H_ref04_Holds_L1 (a0 : List D) (a1 : Int) (a2 : Int) (sa : (Int × Int)) : List (Nat × Blk) := [(0, .box (.d (.agg [I a1, I a2])))]
noncomputable def X_ref04_Holds_L1 (a0 : List D) (a1 : Int) (a2 : Int) (e : (Unit) ⊕ (Int)) : Ex := match e with
  | (.inl e) => .ret
  | (.inr e) => (.exit 0)
noncomputable def XT_ref04_Holds_L1 (a0 : List D) (a1 : Int) (a2 : Int) (e : (Unit) ⊕ (Int)) : List (Nat × AV) := match e with
  | (.inl e) => [(4, .d (I (-1)))]
  | (.inr e) => [(5, .d (I e))]
noncomputable def XH_ref04_Holds_L1 (a0 : List D) (a1 : Int) (a2 : Int) (e : (Unit) ⊕ (Int)) : List (Nat × Blk) := match e with
  | (.inl e) => []
  | (.inr e) => []
theorem R_ref04_Holds_L1 {n : Nat} {a0 : List D} {a1 : Int} {a2 : Int} (sa : (Int × Int)) (r) (h : F_ref04_Holds_L1 n a0 a1 a2 sa = some r) : Rd cx (loopAt cx.P 13 0) 28 0 false (T_ref04_Holds_L1 a0 a1 a2) (H_ref04_Holds_L1 a0 a1 a2) (X_ref04_Holds_L1 a0 a1 a2) (XT_ref04_Holds_L1 a0 a1 a2) (XH_ref04_Holds_L1 a0 a1 a2) sa r := by
  unfold F_ref04_Holds_L1 at h
  by_cases ha1 : sa.2 < ((a0).length : Int)
  · replace h := ite_t h ha1
    obtain ⟨ta2, ha2, h⟩ := bnd_of h
    obtain ⟨ta3, ha3, h⟩ := bnd_of h
    obtain ⟨ta4, ha4, h⟩ := bnd_of h
    by_cases ha5 : ta4 < 0
    · replace h := ite_t h ha5
      replace h := Option.some.inj h
      subst h
      exact ⟨⟨100, 4, [.br true, .el (.agg [I ta2.1, I ta2.2]), .ret (.agg [I ta3.1, I ta3.2]), .ret (I ta4), .br true], [], [4], [], round_of (ob := [(decide (ta4 < 0)) = true, Computes cx 46 [.agg [I ta2.1, I ta2.2], .agg [I ta3.1, I ta3.2], .agg [I a1, I a2]] (I ta4), Computes cx 45 [.lst false 2 a0, I sa.2] (.agg [I ta3.1, I ta3.2]), (0 : Int) ≤ sa.2, nth (a0) (Int.toNat sa.2) = some (.agg [I ta2.1, I ta2.2]), (decide (sa.2 < ((a0).length : Int))) = true]) (by kernel_rfl) ⟨(decide_eq_true ha5), (c_ref04_Side ha4), (c_ref04_next ha3), (el_ok un_Ai2Z_ok ha2).1, (el_ok un_Ai2Z_ok ha2).2, (decide_eq_true ha1), trivial⟩⟩, nofun⟩
    · replace h := ite_f h ha5
      by_cases ha6 : ta4 = 0
      · replace h := ite_t h ha6
        obtain ⟨ha7, h⟩ := grd_of h
        replace h := Option.some.inj h
        subst h
        exact ⟨100, 4, [.br true, .el (.agg [I ta2.1, I ta2.2]), .ret (.agg [I ta3.1, I ta3.2]), .ret (I ta4), .br false, .br true], [], [0, 3, 5, 6], [0], round_of (ob := [inI64 (sa.2 + 1), (ta4 == 0) = true, (decide (ta4 < 0)) = false, Computes cx 46 [.agg [I ta2.1, I ta2.2], .agg [I ta3.1, I ta3.2], .agg [I a1, I a2]] (I ta4), Computes cx 45 [.lst false 2 a0, I sa.2] (.agg [I ta3.1, I ta3.2]), (0 : Int) ≤ sa.2, nth (a0) (Int.toNat sa.2) = some (.agg [I ta2.1, I ta2.2]), (decide (sa.2 < ((a0).length : Int))) = true]) (by kernel_rfl) ⟨ha7, (eqt ha6), (decide_eq_false ha5), (c_ref04_Side ha4), (c_ref04_next ha3), (el_ok un_Ai2Z_ok ha2).1, (el_ok un_Ai2Z_ok ha2).2, (decide_eq_true ha1), trivial⟩⟩
      · replace h := ite_f h ha6
        obtain ⟨ha7, h⟩ := grd_of h
        replace h := Option.some.inj h
        subst h
        exact ⟨100, 4, [.br true, .el (.agg [I ta2.1, I ta2.2]), .ret (.agg [I ta3.1, I ta3.2]), .ret (I ta4), .br false, .br false], [], [0, 3, 5, 6], [0], round_of (ob := [inI64 (sa.2 + 1), (ta4 == 0) = false, (decide (ta4 < 0)) = false, Computes cx 46 [.agg [I ta2.1, I ta2.2], .agg [I ta3.1, I ta3.2], .agg [I a1, I a2]] (I ta4), Computes cx 45 [.lst false 2 a0, I sa.2] (.agg [I ta3.1, I ta3.2]), (0 : Int) ≤ sa.2, nth (a0) (Int.toNat sa.2) = some (.agg [I ta2.1, I ta2.2]), (decide (sa.2 < ((a0).length : Int))) = true]) (by kernel_rfl) ⟨ha7, (eqf ha6), (decide_eq_false ha5), (c_ref04_Side ha4), (c_ref04_next ha3), (el_ok un_Ai2Z_ok ha2).1, (el_ok un_Ai2Z_ok ha2).2, (decide_eq_true ha1), trivial⟩⟩
  · replace h := ite_f h ha1
    replace h := Option.some.inj h
    subst h
    exact ⟨⟨100, 4, [.br false], [], [5], [], round_of (ob := [(decide (sa.2 < ((a0).length : Int))) = false]) (by kernel_rfl) ⟨(decide_eq_false ha1), trivial⟩⟩, nofun⟩
/- spillage/spillageref04.Holds: .lst false 2 a0, .agg [I a1, I a2] -/
def F_ref04_Holds (n : Nat) (a0 : List D) (a1 : Int) (a2 : Int) : Option (Int) :=
  (loopF (F_ref04_Holds_L1 n a0 a1 a2) n (1, 0)).bind fun t1 => match t1 with
    | (.inl t1) => (
      some (-1))
    | (.inr t1) => (
      some t1)
theorem c_ref04_Holds {n : Nat} {a0 : List D} {a1 : Int} {a2 : Int} {r : Int} (h : F_ref04_Holds n a0 a1 a2 = some r) : Computes cx 13 [.lst false 2 a0, .agg [I a1, I a2]] (I r) := by
  unfold F_ref04_Holds at h
  obtain ⟨t1, h1, h⟩ := bnd_of h
  rcases t1 with t1 | t1
  · replace h := Option.some.inj h
    subst h
    exact run (n := 100) (f := 13) (args := [.lst false 2 a0, .agg [I a1, I a2]]) (orc := [.lp [] [0, 3, 5, 6] [0] .ret [(4, .d (I (-1)))] [] 37]) (r := I (-1)) (ob := [LoopN cx (loopAt cx.P 13 0) 28 0 false [(0, .d (.lst false 2 a0)), (3, .ptr 0 0 0 0 0), (5, .d (I 1)), (6, .d (I 0))] [(0, .box (.d (.agg [I a1, I a2])))] .ret [(4, .d (I (-1)))] []]) (by kernel_rfl) ⟨(loopF_to R_ref04_Holds_L1 h1), trivial⟩
  · replace h := Option.some.inj h
    subst h
    exact run (n := 100) (f := 13) (args := [.lst false 2 a0, .agg [I a1, I a2]]) (orc := [.lp [] [0, 3, 5, 6] [0] (.exit 0) [(5, .d (I t1))] [] 37]) (r := I t1) (ob := [LoopN cx (loopAt cx.P 13 0) 28 0 false [(0, .d (.lst false 2 a0)), (3, .ptr 0 0 0 0 0), (5, .d (I 1)), (6, .d (I 0))] [(0, .box (.d (.agg [I a1, I a2])))] (.exit 0) [(5, .d (I t1))] []]) (by kernel_rfl) ⟨(loopF_to R_ref04_Holds_L1 h1), trivial⟩
/- spillage/spillagelaw04.number: I a0, I a1, I a2, I a3 -/
def F_law04_number (n : Nat) (a0 : Int) (a1 : Int) (a2 : Int) (a3 : Int) : Option (Bool) :=
  if a1 = a2 then
    if a2 = 0 then
      some (a0 == a3)
    else
    if a0 = 0 then
      some true
    else
    some false
  else
  some false
theorem c_law04_number {n : Nat} {a0 : Int} {a1 : Int} {a2 : Int} {a3 : Int} {r : Bool} (h : F_law04_number n a0 a1 a2 a3 = some r) : Computes cx 15 [I a0, I a1, I a2, I a3] (B r) := by
  unfold F_law04_number at h
  by_cases h1 : a1 = a2
  · replace h := ite_t h h1
    by_cases h2 : a2 = 0
    · replace h := ite_t h h2
      replace h := Option.some.inj h
      subst h
      exact run (n := 100) (f := 15) (args := [I a0, I a1, I a2, I a3]) (orc := [.br true, .br false, .no, .br true]) (r := B (a0 == a3)) (ob := [(a2 == 0) = true, (a2 != 0) = false, (a1 == a2) = true]) (by kernel_rfl) ⟨(eqt h2), (nef h2), (eqt h1), trivial⟩
    · replace h := ite_f h h2
      by_cases h3 : a0 = 0
      · replace h := ite_t h h3
        replace h := Option.some.inj h
        subst h
        exact run (n := 100) (f := 15) (args := [I a0, I a1, I a2, I a3]) (orc := [.br true, .br true, .br true]) (r := B true) (ob := [(a0 == 0) = true, (a2 != 0) = true, (a1 == a2) = true]) (by kernel_rfl) ⟨(eqt h3), (net h2), (eqt h1), trivial⟩
      · replace h := ite_f h h3
        replace h := Option.some.inj h
        subst h
        exact run (n := 100) (f := 15) (args := [I a0, I a1, I a2, I a3]) (orc := [.br true, .br true, .br false, .br false]) (r := B false) (ob := [(a2 == 0) = false, (a0 == 0) = false, (a2 != 0) = true, (a1 == a2) = true]) (by kernel_rfl) ⟨(eqf h2), (eqf h3), (net h2), (eqt h1), trivial⟩
  · replace h := ite_f h h1
    replace h := Option.some.inj h
    subst h
    exact run (n := 100) (f := 15) (args := [I a0, I a1, I a2, I a3]) (orc := [.br false]) (r := B false) (ob := [(a1 == a2) = false]) (by kernel_rfl) ⟨(eqf h1), trivial⟩
/- spillage/spillagelaw04.FieldPolygons: .lst false 2 a0, .agg [I a1, I a2] -/
def F_law04_FieldPolygons (n : Nat) (a0 : List D) (a1 : Int) (a2 : Int) : Option (Bool) :=
  (F_law04_awake n).bind fun t1 =>
  if t1 = true then
    (F_ref04_ShortPoints n a0).bind fun t3 =>
    if t3 = true then
      (F_law04_points n a0).bind fun t5 =>
      (F_field_Area n t5).bind fun t6 =>
      (F_field_Holds n t5 a1 a2).bind fun t7 =>
      (F_ref04_CheckPolygon n a0).bind fun t8 =>
      (F_ref04_CheckPoint n a1 a2).bind fun t9 =>
      (F_ref01_First n ([I t8, I t9])).bind fun t10 =>
      if t8 = 0 then
        (F_ref04_Area n a0).bind fun t12 =>
        if t10 = 0 then
          (F_ref04_Holds n a0 a1 a2).bind fun t14 =>
          (F_field_CheckPolygon n t5).bind fun t15 =>
          if t15 = t8 then
            (F_law04_number n t6.1 t6.2 t8 t12).bind fun t17 =>
            if t17 = true then
              (F_law04_number n t7.1 t7.2 t10 t14).bind fun t19 =>
              some t19
            else
            none /- false -/
          else
          none /- false -/
        else
        (F_field_CheckPolygon n t5).bind fun t14 =>
        if t14 = t8 then
          (F_law04_number n t6.1 t6.2 t8 t12).bind fun t16 =>
          if t16 = true then
            (F_law04_number n t7.1 t7.2 t10 0).bind fun t18 =>
            some t18
          else
          none /- false -/
        else
        none /- false -/
      else
      if t10 = 0 then
        (F_ref04_Holds n a0 a1 a2).bind fun t13 =>
        (F_field_CheckPolygon n t5).bind fun t14 =>
        if t14 = t8 then
          (F_law04_number n t6.1 t6.2 t8 0).bind fun t16 =>
          if t16 = true then
            (F_law04_number n t7.1 t7.2 t10 t13).bind fun t18 =>
            some t18
          else
          none /- false -/
        else
        none /- false -/
      else
      (F_field_CheckPolygon n t5).bind fun t13 =>
      if t13 = t8 then
        (F_law04_number n t6.1 t6.2 t8 0).bind fun t15 =>
        if t15 = true then
          (F_law04_number n t7.1 t7.2 t10 0).bind fun t17 =>
          some t17
        else
        none /- false -/
      else
      none /- false -/
    else
    some t1
  else
  some t1
theorem c_law04_FieldPolygons {n : Nat} {a0 : List D} {a1 : Int} {a2 : Int} {r : Bool} (h : F_law04_FieldPolygons n a0 a1 a2 = some r) : Computes cx 3 [.lst false 2 a0, .agg [I a1, I a2]] (B r) := by
  unfold F_law04_FieldPolygons at h
  obtain ⟨t1, h1, h⟩ := bnd_of h
  by_cases h2 : t1 = true
  · replace h := ite_t h h2
    obtain ⟨t3, h3, h⟩ := bnd_of h
    by_cases h4 : t3 = true
    · replace h := ite_t h h4
      obtain ⟨t5, h5, h⟩ := bnd_of h
      obtain ⟨t6, h6, h⟩ := bnd_of h
      obtain ⟨t7, h7, h⟩ := bnd_of h
      obtain ⟨t8, h8, h⟩ := bnd_of h
      obtain ⟨t9, h9, h⟩ := bnd_of h
      obtain ⟨t10, h10, h⟩ := bnd_of h
      by_cases h11 : t8 = 0
      · replace h := ite_t h h11
        obtain ⟨t12, h12, h⟩ := bnd_of h
        by_cases h13 : t10 = 0
        · replace h := ite_t h h13
          obtain ⟨t14, h14, h⟩ := bnd_of h
          obtain ⟨t15, h15, h⟩ := bnd_of h
          by_cases h16 : t15 = t8
          · replace h := ite_t h h16
            obtain ⟨t17, h17, h⟩ := bnd_of h
            by_cases h18 : t17 = true
            · replace h := ite_t h h18
              obtain ⟨t19, h19, h⟩ := bnd_of h
              replace h := Option.some.inj h
              subst h
              exact run (n := 100) (f := 3) (args := [.lst false 2 a0, .agg [I a1, I a2]]) (orc := [.ret (B t1), .br false, .ret (B t3), .br false, .ret (.lst false 2 t5), .ret (.tup [I t6.1, I t6.2]), .ret (.lst false 2 t5), .ret (.tup [I t7.1, I t7.2]), .ret (I t8), .ret (I t9), .ret (I t10), .br true, .ret (I t12), .br true, .ret (I t14), .ret (.lst false 2 t5), .ret (I t15), .br true, .ret (B t17), .br true, .ret (B t19)]) (r := B t19) (ob := [Computes cx 15 [I t7.1, I t7.2, I t10, I t14] (B t19), t17 = true, Computes cx 15 [I t6.1, I t6.2, I t8, I t12] (B t17), (t15 == t8) = true, Computes cx 14 [.lst false 2 t5] (I t15), Computes cx 7 [.lst false 2 a0] (.lst false 2 t5), Computes cx 13 [.lst false 2 a0, .agg [I a1, I a2]] (I t14), (t10 == 0) = true, Computes cx 12 [.lst false 2 a0] (I t12), (t8 == 0) = true, Computes cx 10 [.lst true 1 [I t8, I t9]] (I t10), Computes cx 11 [.agg [I a1, I a2]] (I t9), Computes cx 9 [.lst false 2 a0] (I t8), Computes cx 8 [.lst false 2 t5, .agg [I a1, I a2]] (.tup [I t7.1, I t7.2]), Computes cx 7 [.lst false 2 a0] (.lst false 2 t5), Computes cx 6 [.lst false 2 t5] (.tup [I t6.1, I t6.2]), Computes cx 7 [.lst false 2 a0] (.lst false 2 t5), (!t3) = false, Computes cx 5 [.lst false 2 a0] (B t3), (!t1) = false, Computes cx 4 [] (B t1)]) (by kernel_rfl) ⟨(c_law04_number h19), h18, (c_law04_number h17), (eqt h16), (c_field_CheckPolygon h15), (c_law04_points h5), (c_ref04_Holds h14), (eqt h13), (c_ref04_Area h12), (eqt h11), ((c_ref01_First h10).le (.cons (.full _ _ _) (.nil)) (.refl _)), (c_ref04_CheckPoint h9), (c_ref04_CheckPolygon h8), (c_field_Holds h7), (c_law04_points h5), (c_field_Area h6), (c_law04_points h5), (notf h4), (c_ref04_ShortPoints h3), (notf h2), (c_law04_awake h1), trivial⟩
            · replace h := ite_f h h18
              cases h
          · replace h := ite_f h h16
            cases h
        · replace h := ite_f h h13
          obtain ⟨t14, h14, h⟩ := bnd_of h
          by_cases h15 : t14 = t8
          · replace h := ite_t h h15
            obtain ⟨t16, h16, h⟩ := bnd_of h
            by_cases h17 : t16 = true
            · replace h := ite_t h h17
              obtain ⟨t18, h18, h⟩ := bnd_of h
              replace h := Option.some.inj h
              subst h
              exact run (n := 100) (f := 3) (args := [.lst false 2 a0, .agg [I a1, I a2]]) (orc := [.ret (B t1), .br false, .ret (B t3), .br false, .ret (.lst false 2 t5), .ret (.tup [I t6.1, I t6.2]), .ret (.lst false 2 t5), .ret (.tup [I t7.1, I t7.2]), .ret (I t8), .ret (I t9), .ret (I t10), .br true, .ret (I t12), .br false, .ret (.lst false 2 t5), .ret (I t14), .br true, .ret (B t16), .br true, .ret (B t18)]) (r := B t18) (ob := [Computes cx 15 [I t7.1, I t7.2, I t10, I 0] (B t18), t16 = true, Computes cx 15 [I t6.1, I t6.2, I t8, I t12] (B t16), (t14 == t8) = true, Computes cx 14 [.lst false 2 t5] (I t14), Computes cx 7 [.lst false 2 a0] (.lst false 2 t5), (t10 == 0) = false, Computes cx 12 [.lst false 2 a0] (I t12), (t8 == 0) = true, Computes cx 10 [.lst true 1 [I t8, I t9]] (I t10), Computes cx 11 [.agg [I a1, I a2]] (I t9), Computes cx 9 [.lst false 2 a0] (I t8), Computes cx 8 [.lst false 2 t5, .agg [I a1, I a2]] (.tup [I t7.1, I t7.2]), Computes cx 7 [.lst false 2 a0] (.lst false 2 t5), Computes cx 6 [.lst false 2 t5] (.tup [I t6.1, I t6.2]), Computes cx 7 [.lst false 2 a0] (.lst false 2 t5), (!t3) = false, Computes cx 5 [.lst false 2 a0] (B t3), (!t1) = false, Computes cx 4 [] (B t1)]) (by kernel_rfl) ⟨(c_law04_number h18), h17, (c_law04_number h16), (eqt h15), (c_field_CheckPolygon h14), (c_law04_points h5), (eqf h13), (c_ref04_Area h12), (eqt h11), ((c_ref01_First h10).le (.cons (.full _ _ _) (.nil)) (.refl _)), (c_ref04_CheckPoint h9), (c_ref04_CheckPolygon h8), (c_field_Holds h7), (c_law04_points h5), (c_field_Area h6), (c_law04_points h5), (notf h4), (c_ref04_ShortPoints h3), (notf h2), (c_law04_awake h1), trivial⟩
            · replace h := ite_f h h17
              cases h
          · replace h := ite_f h h15
            cases h
      · replace h := ite_f h h11
        by_cases h12 : t10 = 0
        · replace h := ite_t h h12
          obtain ⟨t13, h13, h⟩ := bnd_of h
          obtain ⟨t14, h14, h⟩ := bnd_of h
          by_cases h15 : t14 = t8
          · replace h := ite_t h h15
            obtain ⟨t16, h16, h⟩ := bnd_of h
            by_cases h17 : t16 = true
            · replace h := ite_t h h17
              obtain ⟨t18, h18, h⟩ := bnd_of h
              replace h := Option.some.inj h
              subst h
              exact run (n := 100) (f := 3) (args := [.lst false 2 a0, .agg [I a1, I a2]]) (orc := [.ret (B t1), .br false, .ret (B t3), .br false, .ret (.lst false 2 t5), .ret (.tup [I t6.1, I t6.2]), .ret (.lst false 2 t5), .ret (.tup [I t7.1, I t7.2]), .ret (I t8), .ret (I t9), .ret (I t10), .br false, .br true, .ret (I t13), .ret (.lst false 2 t5), .ret (I t14), .br true, .ret (B t16), .br true, .ret (B t18)]) (r := B t18) (ob := [Computes cx 15 [I t7.1, I t7.2, I t10, I t13] (B t18), t16 = true, Computes cx 15 [I t6.1, I t6.2, I t8, I 0] (B t16), (t14 == t8) = true, Computes cx 14 [.lst false 2 t5] (I t14), Computes cx 7 [.lst false 2 a0] (.lst false 2 t5), Computes cx 13 [.lst false 2 a0, .agg [I a1, I a2]] (I t13), (t10 == 0) = true, (t8 == 0) = false, Computes cx 10 [.lst true 1 [I t8, I t9]] (I t10), Computes cx 11 [.agg [I a1, I a2]] (I t9), Computes cx 9 [.lst false 2 a0] (I t8), Computes cx 8 [.lst false 2 t5, .agg [I a1, I a2]] (.tup [I t7.1, I t7.2]), Computes cx 7 [.lst false 2 a0] (.lst false 2 t5), Computes cx 6 [.lst false 2 t5] (.tup [I t6.1, I t6.2]), Computes cx 7 [.lst false 2 a0] (.lst false 2 t5), (!t3) = false, Computes cx 5 [.lst false 2 a0] (B t3), (!t1) = false, Computes cx 4 [] (B t1)]) (by kernel_rfl) ⟨(c_law04_number h18), h17, (c_law04_number h16), (eqt h15), (c_field_CheckPolygon h14), (c_law04_points h5), (c_ref04_Holds h13), (eqt h12), (eqf h11), ((c_ref01_First h10).le (.cons (.full _ _ _) (.nil)) (.refl _)), (c_ref04_CheckPoint h9), (c_ref04_CheckPolygon h8), (c_field_Holds h7), (c_law04_points h5), (c_field_Area h6), (c_law04_points h5), (notf h4), (c_ref04_ShortPoints h3), (notf h2), (c_law04_awake h1), trivial⟩
            · replace h := ite_f h h17
              cases h
          · replace h := ite_f h h15
            cases h
        · replace h := ite_f h h12
          obtain ⟨t13, h13, h⟩ := bnd_of h
          by_cases h14 : t13 = t8
          · replace h := ite_t h h14
            obtain ⟨t15, h15, h⟩ := bnd_of h
            by_cases h16 : t15 = true
            · replace h := ite_t h h16
              obtain ⟨t17, h17, h⟩ := bnd_of h
              replace h := Option.some.inj h
              subst h
              exact run (n := 100) (f := 3) (args := [.lst false 2 a0, .agg [I a1, I a2]]) (orc := [.ret (B t1), .br false, .ret (B t3), .br false, .ret (.lst false 2 t5), .ret (.tup [I t6.1, I t6.2]), .ret (.lst false 2 t5), .ret (.tup [I t7.1, I t7.2]), .ret (I t8), .ret (I t9), .ret (I t10), .br false, .br false, .ret (.lst false 2 t5), .ret (I t13), .br true, .ret (B t15), .br true, .ret (B t17)]) (r := B t17) (ob := [Computes cx 15 [I t7.1, I t7.2, I t10, I 0] (B t17), t15 = true, Computes cx 15 [I t6.1, I t6.2, I t8, I 0] (B t15), (t13 == t8) = true, Computes cx 14 [.lst false 2 t5] (I t13), Computes cx 7 [.lst false 2 a0] (.lst false 2 t5), (t10 == 0) = false, (t8 == 0) = false, Computes cx 10 [.lst true 1 [I t8, I t9]] (I t10), Computes cx 11 [.agg [I a1, I a2]] (I t9), Computes cx 9 [.lst false 2 a0] (I t8), Computes cx 8 [.lst false 2 t5, .agg [I a1, I a2]] (.tup [I t7.1, I t7.2]), Computes cx 7 [.lst false 2 a0] (.lst false 2 t5), Computes cx 6 [.lst false 2 t5] (.tup [I t6.1, I t6.2]), Computes cx 7 [.lst false 2 a0] (.lst false 2 t5), (!t3) = false, Computes cx 5 [.lst false 2 a0] (B t3), (!t1) = false, Computes cx 4 [] (B t1)]) (by kernel_rfl) ⟨(c_law04_number h17), h16, (c_law04_number h15), (eqt h14), (c_field_CheckPolygon h13), (c_law04_points h5), (eqf h12), (eqf h11), ((c_ref01_First h10).le (.cons (.full _ _ _) (.nil)) (.refl _)), (c_ref04_CheckPoint h9), (c_ref04_CheckPolygon h8), (c_field_Holds h7), (c_law04_points h5), (c_field_Area h6), (c_law04_points h5), (notf h4), (c_ref04_ShortPoints h3), (notf h2), (c_law04_awake h1), trivial⟩
            · replace h := ite_f h h16
              cases h
          · replace h := ite_f h h14
            cases h
    · replace h := ite_f h h4
      replace h := Option.some.inj h
      subst h
      exact run (n := 100) (f := 3) (args := [.lst false 2 a0, .agg [I a1, I a2]]) (orc := [.ret (B t1), .br false, .ret (B t3), .br true, .ret (B t1)]) (r := B t1) (ob := [Computes cx 4 [] (B t1), (!t3) = true, Computes cx 5 [.lst false 2 a0] (B t3), (!t1) = false, Computes cx 4 [] (B t1)]) (by kernel_rfl) ⟨(c_law04_awake h1), (nott (bfalse h4)), (c_ref04_ShortPoints h3), (notf h2), (c_law04_awake h1), trivial⟩
  · replace h := ite_f h h2
    replace h := Option.some.inj h
    subst h
    exact run (n := 100) (f := 3) (args := [.lst false 2 a0, .agg [I a1, I a2]]) (orc := [.ret (B t1), .br true, .no, .ret (B t1)]) (r := B t1) (ob := [Computes cx 4 [] (B t1), (!t1) = true, Computes cx 4 [] (B t1)]) (by kernel_rfl) ⟨(c_law04_awake h1), (nott (bfalse h2)), (c_law04_awake h1), trivial⟩
end Go.Proofs.YtlakflidecdepaaGreatDoor
