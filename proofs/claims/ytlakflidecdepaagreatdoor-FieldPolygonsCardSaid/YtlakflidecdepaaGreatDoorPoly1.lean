/-
  Printed by gsx.py: functions of the program as Lean functions, and that the code computes them.
-/
import Derived.Test.YtlakflidecdepaaGreatDoorWake
set_option linter.unusedVariables false
set_option linter.unusedSimpArgs false
set_option linter.unnecessarySimpa false
set_option maxRecDepth 10000
namespace Go.Proofs.YtlakflidecdepaaGreatDoor
open Go.SX
/- spillage/spillageref04.ShortPoints: .lst false 2 a0 -/
def F_ref04_ShortPoints (n : Nat) (a0 : List D) : Option (Bool) :=
  if ((a0).length : Int) ≤ 12 then
    some true
  else
  if ((a0).length : Int) = 17 then
    some true
  else
  some (((a0).length : Int) == 65)
theorem c_ref04_ShortPoints {n : Nat} {a0 : List D} {r : Bool} (h : F_ref04_ShortPoints n a0 = some r) : Computes cx 5 [.lst false 2 a0] (B r) := by
  unfold F_ref04_ShortPoints at h
  by_cases h1 : ((a0).length : Int) ≤ 12
  · replace h := ite_t h h1
    replace h := Option.some.inj h
    subst h
    exact run (n := 100) (f := 5) (args := [.lst false 2 a0]) (orc := [.br true, .no]) (r := B true) (ob := [(decide (((a0).length : Int) ≤ 12)) = true]) (by kernel_rfl) ⟨(decide_eq_true h1), trivial⟩
  · replace h := ite_f h h1
    by_cases h2 : ((a0).length : Int) = 17
    · replace h := ite_t h h2
      replace h := Option.some.inj h
      subst h
      exact run (n := 100) (f := 5) (args := [.lst false 2 a0]) (orc := [.br false, .br true]) (r := B true) (ob := [(((a0).length : Int) == 17) = true, (decide (((a0).length : Int) ≤ 12)) = false]) (by kernel_rfl) ⟨(eqt h2), (decide_eq_false h1), trivial⟩
    · replace h := ite_f h h2
      replace h := Option.some.inj h
      subst h
      exact run (n := 100) (f := 5) (args := [.lst false 2 a0]) (orc := [.br false, .br false]) (r := B (((a0).length : Int) == 65)) (ob := [(((a0).length : Int) == 17) = false, (decide (((a0).length : Int) ≤ 12)) = false]) (by kernel_rfl) ⟨(eqf h2), (decide_eq_false h1), trivial⟩
/- spillage/spillagelaw04.points: .lst false 2 a0 -/
def F_law04_points (n : Nat) (a0 : List D) : Option (List D) :=
  if roomP 16 (0 + (a0).length) then
  if isNilL a0 = true then
    some []
  else
  some a0
  else none
theorem c_law04_points {n : Nat} {a0 : List D} {r : List D} (h : F_law04_points n a0 = some r) : Computes cx 7 [.lst false 2 a0] (.lst false 2 r) := by
  unfold F_law04_points at h
  obtain ⟨h1, h⟩ := grd_of h
  by_cases h2 : isNilL a0 = true
  · replace h := ite_t h h2
    replace h := Option.some.inj h
    subst h
    exact run (n := 100) (f := 7) (args := [.lst false 2 a0]) (orc := [.br true, .br true]) (r := .lst false 2 []) (ob := [isNilL a0 = true, room cx 24 (0 + (a0).length)]) (by kernel_rfl) ⟨h2, (room_of (b := 16) (by kernel_rfl) (by decide) h1), trivial⟩
  · replace h := ite_f h h2
    replace h := Option.some.inj h
    subst h
    exact run (n := 100) (f := 7) (args := [.lst false 2 a0]) (orc := [.br true, .br false]) (r := .lst false 2 a0) (ob := [isNilL a0 = false, room cx 24 (0 + (a0).length)]) (by kernel_rfl) ⟨(bfalse h2), (room_of (b := 16) (by kernel_rfl) (by decide) h1), trivial⟩
def enc_Ai2Z (x : Int × Int) : D := .agg [I x.1, I x.2]
def un_Ai2Z : D → Option (Int × Int)
  | .agg [c0, c1] => (un_int .i64 c0).bind fun y0 => (un_int .i64 c1).bind fun y1 => some (y0, y1)
  | _ => none
theorem un_Ai2Z_ok {d : D} {x : Int × Int} (h : un_Ai2Z d = some x) : d = enc_Ai2Z x := by
  unfold un_Ai2Z at h
  split at h
  case h_2 => cases h
  obtain ⟨y0, h0, h⟩ := bnd_of h
  obtain ⟨y1, h1, h⟩ := bnd_of h
  cases h
  have e0 := un_int_ok h0
  have e1 := un_int_ok h1
  rw [e0, e1]; rfl
/- spillage/field.checkPoint: .agg [I a0, I a1] -/
def F_field_checkPoint (n : Nat) (a0 : Int) (a1 : Int) : Option (Int) :=
  (F_field_within n a0 (-16777216) 16777216).bind fun t1 =>
  (F_field_within n a1 (-16777216) 16777216).bind fun t2 =>
  (F_field_first n ([I t1, I t2])).bind fun t3 =>
  some t3
theorem c_field_checkPoint {n : Nat} {a0 : Int} {a1 : Int} {r : Int} (h : F_field_checkPoint n a0 a1 = some r) : Computes cx 39 [.agg [I a0, I a1]] (I r) := by
  unfold F_field_checkPoint at h
  obtain ⟨t1, h1, h⟩ := bnd_of h
  obtain ⟨t2, h2, h⟩ := bnd_of h
  obtain ⟨t3, h3, h⟩ := bnd_of h
  replace h := Option.some.inj h
  subst h
  exact run (n := 100) (f := 39) (args := [.agg [I a0, I a1]]) (orc := [.ret (I t1), .ret (I t2), .ret (I t3)]) (r := I t3) (ob := [Computes cx 38 [.lst true 1 [I t1, I t2]] (I t3), Computes cx 75 [I a1, I (-16777216), I 16777216] (I t2), Computes cx 75 [I a0, I (-16777216), I 16777216] (I t1)]) (by kernel_rfl) ⟨((c_field_first h3).le (.cons (.full _ _ _) (.nil)) (.refl _)), (c_field_within h2), (c_field_within h1), trivial⟩
def F_field_mapped_g_L1 (n : Nat) (a0 : List D) (sa : (Int × List D)) : Option (((Int × List D)) ⊕ ((List D))) :=
  if sa.1 < ((a0).length : Int) then
    (el un_Ai2Z a0 sa.1).bind fun ta2 =>
    (F_field_checkPoint n ta2.1 ta2.2).bind fun ta3 =>
    if roomP 8 ((sa.2).length + 1) then
    if inI64 (sa.1 + 1) then
    some (.inl ((sa.1 + 1), (sa.2 ++ ([I ta3] : List D))))
    else none
    else none
  else
  some (.inr sa.2)
noncomputable def T_field_mapped_g_L1 (a0 : List D) (sa : (Int × List D)) : List (Nat × AV) := [(1, .d (.fn (.func 39) [] [])), (5, .own 5 0), (8, .d (.lst false 2 a0)), (9, .d (I ((a0).length : Int))), (10, .d (I sa.1))]
noncomputable def H_field_mapped_g_L1 (a0 : List D) (sa : (Int × List D)) : List (Nat × Blk) := [(5, .row 0 1 sa.2)]
noncomputable def X_field_mapped_g_L1 (a0 : List D) (e : (List D)) : Ex := (.exit 0)
noncomputable def XT_field_mapped_g_L1 (a0 : List D) (e : (List D)) : List (Nat × AV) := [(5, .own 5 0)]
noncomputable def XH_field_mapped_g_L1 (a0 : List D) (e : (List D)) : List (Nat × Blk) := [(5, .row 0 1 e)]
theorem R_field_mapped_g_L1 {n : Nat} {a0 : List D} (sa : (Int × List D)) (r) (h : F_field_mapped_g_L1 n a0 sa = some r) : Rd cx (loopAt cx.P 48 0) 22 0 false (T_field_mapped_g_L1 a0) (H_field_mapped_g_L1 a0) (X_field_mapped_g_L1 a0) (XT_field_mapped_g_L1 a0) (XH_field_mapped_g_L1 a0) sa r := by
  unfold F_field_mapped_g_L1 at h
  by_cases ha1 : sa.1 < ((a0).length : Int)
  · replace h := ite_t h ha1
    obtain ⟨ta2, ha2, h⟩ := bnd_of h
    obtain ⟨ta3, ha3, h⟩ := bnd_of h
    obtain ⟨ha4, h⟩ := grd_of h
    obtain ⟨ha5, h⟩ := grd_of h
    replace h := Option.some.inj h
    subst h
    exact ⟨100, 6, [.br true, .el (.agg [I ta2.1, I ta2.2]), .ret (I ta3), .br true], [], [1, 5, 8, 9, 10], [5], round_of (ob := [inI64 (sa.1 + 1), room cx 27 ((sa.2).length + 1), Computes cx 39 [.agg [I ta2.1, I ta2.2]] (I ta3), (0 : Int) ≤ sa.1, nth (a0) (Int.toNat sa.1) = some (.agg [I ta2.1, I ta2.2]), (decide (sa.1 < ((a0).length : Int))) = true]) (by kernel_rfl) ⟨ha5, (room_of (b := 8) (by kernel_rfl) (by decide) ha4), (c_field_checkPoint ha3), (el_ok un_Ai2Z_ok ha2).1, (el_ok un_Ai2Z_ok ha2).2, (decide_eq_true ha1), trivial⟩⟩
  · replace h := ite_f h ha1
    replace h := Option.some.inj h
    subst h
    exact ⟨⟨100, 6, [.br false], [], [5], [5], round_of (ob := [(decide (sa.1 < ((a0).length : Int))) = false]) (by kernel_rfl) ⟨(decide_eq_false ha1), trivial⟩⟩, nofun⟩
/- spillage/field.mapped[spillage/api.Point,spillage/api.Errno]: .lst false 2 a0, .fn (.func 39) [] [] -/
def F_field_mapped_g (n : Nat) (a0 : List D) : Option (List D) :=
  (loopF (F_field_mapped_g_L1 n a0) n (0, [])).bind fun t1 =>
  some t1
theorem c_field_mapped_g {n : Nat} {a0 : List D} {r : List D} (h : F_field_mapped_g n a0 = some r) : Computes cx 48 [.lst false 2 a0, .fn (.func 39) [] []] (.lst false 1 r) := by
  unfold F_field_mapped_g at h
  obtain ⟨t1, h1, h⟩ := bnd_of h
  replace h := Option.some.inj h
  subst h
  exact run (n := 100) (f := 48) (args := [.lst false 2 a0, .fn (.func 39) [] []]) (orc := [.lp [5, 1] [1, 5, 8, 9, 10] [5] (.exit 0) [(5, .own 5 0)] [(5, .row 0 1 t1)] 31]) (r := .lst false 1 t1) (ob := [LoopN cx (loopAt cx.P 48 0) 22 0 false [(1, .d (.fn (.func 39) [] [])), (5, .own 5 0), (8, .d (.lst false 2 a0)), (9, .d (I ((a0).length : Int))), (10, .d (I 0))] [(5, .row 0 1 [])] (.exit 0) [(5, .own 5 0)] [(5, .row 0 1 t1)]]) (by kernel_rfl) ⟨(loopF_to R_field_mapped_g_L1 h1), trivial⟩
/- spillage/field.edge: .lst false 2 a0, I a1 -/
def F_field_edge (n : Nat) (a0 : List D) (a1 : Int) : Option (Int × Int × Int × Int) :=
  (el un_Ai2Z a0 a1).bind fun t1 =>
  if inI64 (a1 + 1) then
  if ((a0).length : Int) ≠ 0 then
  (el un_Ai2Z a0 (Int.tmod (a1 + 1) ((a0).length : Int))).bind fun t4 =>
  some (t1.1, t1.2, t4.1, t4.2)
  else none
  else none
theorem c_field_edge {n : Nat} {a0 : List D} {a1 : Int} {r : Int × Int × Int × Int} (h : F_field_edge n a0 a1 = some r) : Computes cx 37 [.lst false 2 a0, I a1] (.agg [I r.1, I r.2.1, I r.2.2.1, I r.2.2.2]) := by
  unfold F_field_edge at h
  obtain ⟨t1, h1, h⟩ := bnd_of h
  obtain ⟨h2, h⟩ := grd_of h
  obtain ⟨h3, h⟩ := grd_of h
  obtain ⟨t4, h4, h⟩ := bnd_of h
  replace h := Option.some.inj h
  subst h
  exact run (n := 100) (f := 37) (args := [.lst false 2 a0, I a1]) (orc := [.el (.agg [I t1.1, I t1.2]), .el (.agg [I t4.1, I t4.2])]) (r := .agg [I t1.1, I t1.2, I t4.1, I t4.2]) (ob := [(0 : Int) ≤ (Int.tmod (a1 + 1) ((a0).length : Int)), nth (a0) (Int.toNat (Int.tmod (a1 + 1) ((a0).length : Int))) = some (.agg [I t4.1, I t4.2]), ((a0).length : Int) ≠ 0, inI64 (a1 + 1), (0 : Int) ≤ a1, nth (a0) (Int.toNat a1) = some (.agg [I t1.1, I t1.2])]) (by kernel_rfl) ⟨(el_ok un_Ai2Z_ok h4).1, (el_ok un_Ai2Z_ok h4).2, h3, h2, (el_ok un_Ai2Z_ok h1).1, (el_ok un_Ai2Z_ok h1).2, trivial⟩
def F_field_CheckPolygon_L2 (n : Nat) (a0 : List D) (sa : Int) (ta2 : Int × Int × Int × Int) (sb : (Int)) : Option (((Int)) ⊕ ((Unit) ⊕ (Unit))) :=
  if sb < ((a0).length : Int) then
    (el un_Ai2Z a0 sb).bind fun tb2 =>
    if sb = sa then
      if inI64 (sb + 1) then
      some (.inl (sb + 1))
      else none
    else
    if inI64 (sa + 1) then
    if ((a0).length : Int) ≠ 0 then
    if sb = (Int.tmod (sa + 1) ((a0).length : Int)) then
      if inI64 (sb + 1) then
      some (.inl (sb + 1))
      else none
    else
    (F_field_left n ta2.1 ta2.2.1 ta2.2.2.1 ta2.2.2.2 tb2.1 tb2.2).bind fun tb7 =>
    if tb7 ≤ 0 then
      some (.inr (.inl ()))
    else
    if inI64 (sb + 1) then
    some (.inl (sb + 1))
    else none
    else none
    else none
  else
  some (.inr (.inr ()))
noncomputable def T_field_CheckPolygon_L2 (a0 : List D) (sa : Int) (ta2 : Int × Int × Int × Int) (sb : (Int)) : List (Nat × AV) := [(0, .d (.lst false 2 a0)), (5, .d (I sa)), (6, .ptr 29 0 0 0 0), (29, .d (I ((a0).length : Int))), (30, .d (I sa)), (36, .d (.lst false 2 a0)), (37, .d (I ((a0).length : Int))), (38, .d (I sb))]
noncomputable def H_field_CheckPolygon_L2 (a0 : List D) (sa : Int) (ta2 : Int × Int × Int × Int) (sb : (Int)) : List (Nat × Blk) := [(29, .box (.d (.agg [I ta2.1, I ta2.2.1, I ta2.2.2.1, I ta2.2.2.2])))]
noncomputable def X_field_CheckPolygon_L2 (a0 : List D) (sa : Int) (ta2 : Int × Int × Int × Int) (e : (Unit) ⊕ (Unit)) : Ex := match e with
  | (.inl e) => .ret
  | (.inr e) => (.exit 2)
noncomputable def XT_field_CheckPolygon_L2 (a0 : List D) (sa : Int) (ta2 : Int × Int × Int × Int) (e : (Unit) ⊕ (Unit)) : List (Nat × AV) := match e with
  | (.inl e) => [(2, .d (I 2))]
  | (.inr e) => [(0, .d (.lst false 2 a0)), (29, .d (I ((a0).length : Int))), (30, .d (I sa))]
noncomputable def XH_field_CheckPolygon_L2 (a0 : List D) (sa : Int) (ta2 : Int × Int × Int × Int) (e : (Unit) ⊕ (Unit)) : List (Nat × Blk) := match e with
  | (.inl e) => []
  | (.inr e) => []
theorem R_field_CheckPolygon_L2 {n : Nat} {a0 : List D} {sa : Int} {ta2 : Int × Int × Int × Int} (sb : (Int)) (r) (h : F_field_CheckPolygon_L2 n a0 sa ta2 sb = some r) : Rd cx (loopAt cx.P 14 1) 66 0 false (T_field_CheckPolygon_L2 a0 sa ta2) (H_field_CheckPolygon_L2 a0 sa ta2) (X_field_CheckPolygon_L2 a0 sa ta2) (XT_field_CheckPolygon_L2 a0 sa ta2) (XH_field_CheckPolygon_L2 a0 sa ta2) sb r := by
  unfold F_field_CheckPolygon_L2 at h
  by_cases hb1 : sb < ((a0).length : Int)
  · replace h := ite_t h hb1
    obtain ⟨tb2, hb2, h⟩ := bnd_of h
    by_cases hb3 : sb = sa
    · replace h := ite_t h hb3
      obtain ⟨hb4, h⟩ := grd_of h
      replace h := Option.some.inj h
      subst h
      exact ⟨100, 34, [.br true, .el (.agg [I tb2.1, I tb2.2]), .br false, .no, .no], [], [0, 5, 6, 29, 30, 36, 37, 38], [29], round_of (ob := [inI64 (sb + 1), (sb != sa) = false, (0 : Int) ≤ sb, nth (a0) (Int.toNat sb) = some (.agg [I tb2.1, I tb2.2]), (decide (sb < ((a0).length : Int))) = true]) (by kernel_rfl) ⟨hb4, (nef hb3), (el_ok un_Ai2Z_ok hb2).1, (el_ok un_Ai2Z_ok hb2).2, (decide_eq_true hb1), trivial⟩⟩
    · replace h := ite_f h hb3
      obtain ⟨hb4, h⟩ := grd_of h
      obtain ⟨hb5, h⟩ := grd_of h
      by_cases hb6 : sb = (Int.tmod (sa + 1) ((a0).length : Int))
      · replace h := ite_t h hb6
        obtain ⟨hb7, h⟩ := grd_of h
        replace h := Option.some.inj h
        subst h
        exact ⟨100, 34, [.br true, .el (.agg [I tb2.1, I tb2.2]), .br true, .br false, .no], [], [0, 5, 6, 29, 30, 36, 37, 38], [29], round_of (ob := [inI64 (sb + 1), (sb != (Int.tmod (sa + 1) ((a0).length : Int))) = false, ((a0).length : Int) ≠ 0, inI64 (sa + 1), (sb != sa) = true, (0 : Int) ≤ sb, nth (a0) (Int.toNat sb) = some (.agg [I tb2.1, I tb2.2]), (decide (sb < ((a0).length : Int))) = true]) (by kernel_rfl) ⟨hb7, (nef hb6), hb5, hb4, (net hb3), (el_ok un_Ai2Z_ok hb2).1, (el_ok un_Ai2Z_ok hb2).2, (decide_eq_true hb1), trivial⟩⟩
      · replace h := ite_f h hb6
        obtain ⟨tb7, hb7, h⟩ := bnd_of h
        by_cases hb8 : tb7 ≤ 0
        · replace h := ite_t h hb8
          replace h := Option.some.inj h
          subst h
          exact ⟨⟨100, 34, [.br true, .el (.agg [I tb2.1, I tb2.2]), .br true, .br true, .ret (I tb7), .br true], [], [2], [], round_of (ob := [(decide (tb7 ≤ 0)) = true, Computes cx 41 [.agg [I ta2.1, I ta2.2.1], .agg [I ta2.2.2.1, I ta2.2.2.2], .agg [I tb2.1, I tb2.2]] (I tb7), (sb != (Int.tmod (sa + 1) ((a0).length : Int))) = true, ((a0).length : Int) ≠ 0, inI64 (sa + 1), (sb != sa) = true, (0 : Int) ≤ sb, nth (a0) (Int.toNat sb) = some (.agg [I tb2.1, I tb2.2]), (decide (sb < ((a0).length : Int))) = true]) (by kernel_rfl) ⟨(decide_eq_true hb8), (c_field_left hb7), (net hb6), hb5, hb4, (net hb3), (el_ok un_Ai2Z_ok hb2).1, (el_ok un_Ai2Z_ok hb2).2, (decide_eq_true hb1), trivial⟩⟩, nofun⟩
        · replace h := ite_f h hb8
          obtain ⟨hb9, h⟩ := grd_of h
          replace h := Option.some.inj h
          subst h
          exact ⟨100, 34, [.br true, .el (.agg [I tb2.1, I tb2.2]), .br true, .br true, .ret (I tb7), .br false], [], [0, 5, 6, 29, 30, 36, 37, 38], [29], round_of (ob := [inI64 (sb + 1), (decide (tb7 ≤ 0)) = false, Computes cx 41 [.agg [I ta2.1, I ta2.2.1], .agg [I ta2.2.2.1, I ta2.2.2.2], .agg [I tb2.1, I tb2.2]] (I tb7), (sb != (Int.tmod (sa + 1) ((a0).length : Int))) = true, ((a0).length : Int) ≠ 0, inI64 (sa + 1), (sb != sa) = true, (0 : Int) ≤ sb, nth (a0) (Int.toNat sb) = some (.agg [I tb2.1, I tb2.2]), (decide (sb < ((a0).length : Int))) = true]) (by kernel_rfl) ⟨hb9, (decide_eq_false hb8), (c_field_left hb7), (net hb6), hb5, hb4, (net hb3), (el_ok un_Ai2Z_ok hb2).1, (el_ok un_Ai2Z_ok hb2).2, (decide_eq_true hb1), trivial⟩⟩
  · replace h := ite_f h hb1
    replace h := Option.some.inj h
    subst h
    exact ⟨⟨100, 34, [.br false], [], [0, 29, 30], [], round_of (ob := [(decide (sb < ((a0).length : Int))) = false]) (by kernel_rfl) ⟨(decide_eq_false hb1), trivial⟩⟩, nofun⟩
def F_field_CheckPolygon_L3 (n : Nat) (a0 : List D) (sa : (Int)) : Option (((Int)) ⊕ ((Unit) ⊕ (Unit))) :=
  if sa < ((a0).length : Int) then
    (F_field_edge n a0 sa).bind fun ta2 =>
    (loopF (F_field_CheckPolygon_L2 n a0 sa ta2) n 0).bind fun ta3 => match ta3 with
      | (.inl ta3) => (
        some (.inr (.inl ())))
      | (.inr ta3) => (
        if inI64 (sa + 1) then
        some (.inl (sa + 1))
        else none)
  else
  some (.inr (.inr ()))
noncomputable def T_field_CheckPolygon_L3 (a0 : List D) (sa : (Int)) : List (Nat × AV) := [(0, .d (.lst false 2 a0)), (29, .d (I ((a0).length : Int))), (30, .d (I sa))]
noncomputable def H_field_CheckPolygon_L3 (a0 : List D) (sa : (Int)) : List (Nat × Blk) := []
noncomputable def X_field_CheckPolygon_L3 (a0 : List D) (e : (Unit) ⊕ (Unit)) : Ex := match e with
  | (.inl e) => .ret
  | (.inr e) => (.exit 0)
noncomputable def XT_field_CheckPolygon_L3 (a0 : List D) (e : (Unit) ⊕ (Unit)) : List (Nat × AV) := match e with
  | (.inl e) => [(2, .d (I 2))]
  | (.inr e) => []
noncomputable def XH_field_CheckPolygon_L3 (a0 : List D) (e : (Unit) ⊕ (Unit)) : List (Nat × Blk) := match e with
  | (.inl e) => []
  | (.inr e) => []
theorem R_field_CheckPolygon_L3 {n : Nat} {a0 : List D} (sa : (Int)) (r) (h : F_field_CheckPolygon_L3 n a0 sa = some r) : Rd cx (loopAt cx.P 14 0) 66 0 false (T_field_CheckPolygon_L3 a0) (H_field_CheckPolygon_L3 a0) (X_field_CheckPolygon_L3 a0) (XT_field_CheckPolygon_L3 a0) (XH_field_CheckPolygon_L3 a0) sa r := by
  unfold F_field_CheckPolygon_L3 at h
  by_cases ha1 : sa < ((a0).length : Int)
  · replace h := ite_t h ha1
    obtain ⟨ta2, ha2, h⟩ := bnd_of h
    obtain ⟨ta3, ha3, h⟩ := bnd_of h
    rcases ta3 with ta3 | ta3
    · replace h := Option.some.inj h
      subst h
      exact ⟨⟨100, 23, [.br true, .ret (.agg [I ta2.1, I ta2.2.1, I ta2.2.2.1, I ta2.2.2.2]), .lp [] [0, 5, 6, 29, 30, 36, 37, 38] [29] .ret [(2, .d (I 2))] [] 75], [], [2], [], round_of (ob := [LoopN cx (loopAt cx.P 14 1) 66 0 false [(0, .d (.lst false 2 a0)), (5, .d (I sa)), (6, .ptr 29 0 0 0 0), (29, .d (I ((a0).length : Int))), (30, .d (I sa)), (36, .d (.lst false 2 a0)), (37, .d (I ((a0).length : Int))), (38, .d (I 0))] [(29, .box (.d (.agg [I ta2.1, I ta2.2.1, I ta2.2.2.1, I ta2.2.2.2])))] .ret [(2, .d (I 2))] [], Computes cx 37 [.lst false 2 a0, I sa] (.agg [I ta2.1, I ta2.2.1, I ta2.2.2.1, I ta2.2.2.2]), (decide (sa < ((a0).length : Int))) = true]) (by kernel_rfl) ⟨(loopF_to R_field_CheckPolygon_L2 ha3), (c_field_edge ha2), (decide_eq_true ha1), trivial⟩⟩, nofun⟩
    · obtain ⟨ha4, h⟩ := grd_of h
      replace h := Option.some.inj h
      subst h
      exact ⟨100, 23, [.br true, .ret (.agg [I ta2.1, I ta2.2.1, I ta2.2.2.1, I ta2.2.2.2]), .lp [] [0, 5, 6, 29, 30, 36, 37, 38] [29] (.exit 2) [(0, .d (.lst false 2 a0)), (29, .d (I ((a0).length : Int))), (30, .d (I sa))] [] 75], [], [0, 29, 30], [], round_of (ob := [inI64 (sa + 1), LoopN cx (loopAt cx.P 14 1) 66 0 false [(0, .d (.lst false 2 a0)), (5, .d (I sa)), (6, .ptr 29 0 0 0 0), (29, .d (I ((a0).length : Int))), (30, .d (I sa)), (36, .d (.lst false 2 a0)), (37, .d (I ((a0).length : Int))), (38, .d (I 0))] [(29, .box (.d (.agg [I ta2.1, I ta2.2.1, I ta2.2.2.1, I ta2.2.2.2])))] (.exit 2) [(0, .d (.lst false 2 a0)), (29, .d (I ((a0).length : Int))), (30, .d (I sa))] [], Computes cx 37 [.lst false 2 a0, I sa] (.agg [I ta2.1, I ta2.2.1, I ta2.2.2.1, I ta2.2.2.2]), (decide (sa < ((a0).length : Int))) = true]) (by kernel_rfl) ⟨ha4, (loopF_to R_field_CheckPolygon_L2 ha3), (c_field_edge ha2), (decide_eq_true ha1), trivial⟩⟩
  · replace h := ite_f h ha1
    replace h := Option.some.inj h
    subst h
    exact ⟨⟨100, 23, [.br false], [], [], [], round_of (ob := [(decide (sa < ((a0).length : Int))) = false]) (by kernel_rfl) ⟨(decide_eq_false ha1), trivial⟩⟩, nofun⟩
/- spillage/field.CheckPolygon: .lst false 2 a0 -/
def F_field_CheckPolygon (n : Nat) (a0 : List D) : Option (Int) :=
  (F_field_when n (decide (((a0).length : Int) < 3)) 16).bind fun t1 =>
  (F_field_when n (decide (((a0).length : Int) > 16)) 5).bind fun t2 =>
  (F_field_first n ([I t1, I t2])).bind fun t3 =>
  if t3 = 0 then
    (F_field_mapped_g n a0).bind fun t5 =>
    (F_field_first n t5).bind fun t6 =>
    if t6 = 0 then
      (loopF (F_field_CheckPolygon_L3 n a0) n 0).bind fun t8 => match t8 with
        | (.inl t8) => (
          some 2)
        | (.inr t8) => (
          some 0)
    else
    some t6
  else
  some t3
theorem c_field_CheckPolygon {n : Nat} {a0 : List D} {r : Int} (h : F_field_CheckPolygon n a0 = some r) : Computes cx 14 [.lst false 2 a0] (I r) := by
  unfold F_field_CheckPolygon at h
  obtain ⟨t1, h1, h⟩ := bnd_of h
  obtain ⟨t2, h2, h⟩ := bnd_of h
  obtain ⟨t3, h3, h⟩ := bnd_of h
  by_cases h4 : t3 = 0
  · replace h := ite_t h h4
    obtain ⟨t5, h5, h⟩ := bnd_of h
    obtain ⟨t6, h6, h⟩ := bnd_of h
    by_cases h7 : t6 = 0
    · replace h := ite_t h h7
      obtain ⟨t8, h8, h⟩ := bnd_of h
      rcases t8 with t8 | t8
      · replace h := Option.some.inj h
        subst h
        exact run (n := 100) (f := 14) (args := [.lst false 2 a0]) (orc := [.ret (I t1), .ret (I t2), .ret (I t3), .br false, .ret (.lst false 1 t5), .ret (I t6), .br false, .lp [] [0, 29, 30] [] .ret [(2, .d (I 2))] [] 88]) (r := I 2) (ob := [LoopN cx (loopAt cx.P 14 0) 66 0 false [(0, .d (.lst false 2 a0)), (29, .d (I ((a0).length : Int))), (30, .d (I 0))] [] .ret [(2, .d (I 2))] [], (t6 != 0) = false, Computes cx 38 [.lst false 1 t5] (I t6), Computes cx 48 [.lst false 2 a0, .fn (.func 39) [] []] (.lst false 1 t5), (t3 != 0) = false, Computes cx 38 [.lst true 1 [I t1, I t2]] (I t3), Computes cx 47 [B (decide (((a0).length : Int) > 16)), I 5] (I t2), Computes cx 47 [B (decide (((a0).length : Int) < 3)), I 16] (I t1)]) (by kernel_rfl) ⟨(loopF_to R_field_CheckPolygon_L3 h8), (nef h7), (c_field_first h6), (c_field_mapped_g h5), (nef h4), ((c_field_first h3).le (.cons (.full _ _ _) (.nil)) (.refl _)), (c_field_when h2), (c_field_when h1), trivial⟩
      · replace h := Option.some.inj h
        subst h
        exact run (n := 100) (f := 14) (args := [.lst false 2 a0]) (orc := [.ret (I t1), .ret (I t2), .ret (I t3), .br false, .ret (.lst false 1 t5), .ret (I t6), .br false, .lp [] [0, 29, 30] [] (.exit 0) [] [] 88]) (r := I 0) (ob := [LoopN cx (loopAt cx.P 14 0) 66 0 false [(0, .d (.lst false 2 a0)), (29, .d (I ((a0).length : Int))), (30, .d (I 0))] [] (.exit 0) [] [], (t6 != 0) = false, Computes cx 38 [.lst false 1 t5] (I t6), Computes cx 48 [.lst false 2 a0, .fn (.func 39) [] []] (.lst false 1 t5), (t3 != 0) = false, Computes cx 38 [.lst true 1 [I t1, I t2]] (I t3), Computes cx 47 [B (decide (((a0).length : Int) > 16)), I 5] (I t2), Computes cx 47 [B (decide (((a0).length : Int) < 3)), I 16] (I t1)]) (by kernel_rfl) ⟨(loopF_to R_field_CheckPolygon_L3 h8), (nef h7), (c_field_first h6), (c_field_mapped_g h5), (nef h4), ((c_field_first h3).le (.cons (.full _ _ _) (.nil)) (.refl _)), (c_field_when h2), (c_field_when h1), trivial⟩
    · replace h := ite_f h h7
      replace h := Option.some.inj h
      subst h
      exact run (n := 100) (f := 14) (args := [.lst false 2 a0]) (orc := [.ret (I t1), .ret (I t2), .ret (I t3), .br false, .ret (.lst false 1 t5), .ret (I t6), .br true]) (r := I t6) (ob := [(t6 != 0) = true, Computes cx 38 [.lst false 1 t5] (I t6), Computes cx 48 [.lst false 2 a0, .fn (.func 39) [] []] (.lst false 1 t5), (t3 != 0) = false, Computes cx 38 [.lst true 1 [I t1, I t2]] (I t3), Computes cx 47 [B (decide (((a0).length : Int) > 16)), I 5] (I t2), Computes cx 47 [B (decide (((a0).length : Int) < 3)), I 16] (I t1)]) (by kernel_rfl) ⟨(net h7), (c_field_first h6), (c_field_mapped_g h5), (nef h4), ((c_field_first h3).le (.cons (.full _ _ _) (.nil)) (.refl _)), (c_field_when h2), (c_field_when h1), trivial⟩
  · replace h := ite_f h h4
    replace h := Option.some.inj h
    subst h
    exact run (n := 100) (f := 14) (args := [.lst false 2 a0]) (orc := [.ret (I t1), .ret (I t2), .ret (I t3), .br true]) (r := I t3) (ob := [(t3 != 0) = true, Computes cx 38 [.lst true 1 [I t1, I t2]] (I t3), Computes cx 47 [B (decide (((a0).length : Int) > 16)), I 5] (I t2), Computes cx 47 [B (decide (((a0).length : Int) < 3)), I 16] (I t1)]) (by kernel_rfl) ⟨(net h4), ((c_field_first h3).le (.cons (.full _ _ _) (.nil)) (.refl _)), (c_field_when h2), (c_field_when h1), trivial⟩
def F_field_Area_L1 (n : Nat) (a0 : List D) (sa : (Int × Int)) : Option (((Int × Int)) ⊕ ((Int))) :=
  if sa.2 < ((a0).length : Int) then
    (F_field_edge n a0 sa.2).bind fun ta2 =>
    if inI64 (ta2.1 * ta2.2.2.2) then
    if inI64 (ta2.2.1 * ta2.2.2.1) then
    if inI64 ((ta2.1 * ta2.2.2.2) - (ta2.2.1 * ta2.2.2.1)) then
    if inI64 (sa.1 + ((ta2.1 * ta2.2.2.2) - (ta2.2.1 * ta2.2.2.1))) then
    if inI64 (sa.2 + 1) then
    some (.inl ((sa.1 + ((ta2.1 * ta2.2.2.2) - (ta2.2.1 * ta2.2.2.1))), (sa.2 + 1)))
    else none
    else none
    else none
    else none
    else none
  else
  some (.inr sa.1)
noncomputable def T_field_Area_L1 (a0 : List D) (sa : (Int × Int)) : List (Nat × AV) := [(0, .d (.lst false 2 a0)), (5, .d (I sa.1)), (14, .d (I ((a0).length : Int))), (15, .d (I sa.2))]
noncomputable def H_field_Area_L1 (a0 : List D) (sa : (Int × Int)) : List (Nat × Blk) := []
noncomputable def X_field_Area_L1 (a0 : List D) (e : (Int)) : Ex := (.exit 0)
noncomputable def XT_field_Area_L1 (a0 : List D) (e : (Int)) : List (Nat × AV) := [(5, .d (I e))]
noncomputable def XH_field_Area_L1 (a0 : List D) (e : (Int)) : List (Nat × Blk) := []
theorem R_field_Area_L1 {n : Nat} {a0 : List D} (sa : (Int × Int)) (r) (h : F_field_Area_L1 n a0 sa = some r) : Rd cx (loopAt cx.P 6 0) 40 0 false (T_field_Area_L1 a0) (H_field_Area_L1 a0) (X_field_Area_L1 a0) (XT_field_Area_L1 a0) (XH_field_Area_L1 a0) sa r := by
  unfold F_field_Area_L1 at h
  by_cases ha1 : sa.2 < ((a0).length : Int)
  · replace h := ite_t h ha1
    obtain ⟨ta2, ha2, h⟩ := bnd_of h
    obtain ⟨ha3, h⟩ := grd_of h
    obtain ⟨ha4, h⟩ := grd_of h
    obtain ⟨ha5, h⟩ := grd_of h
    obtain ⟨ha6, h⟩ := grd_of h
    obtain ⟨ha7, h⟩ := grd_of h
    replace h := Option.some.inj h
    subst h
    exact ⟨100, 11, [.br true, .ret (.agg [I ta2.1, I ta2.2.1, I ta2.2.2.1, I ta2.2.2.2])], [], [0, 5, 14, 15], [], round_of (ob := [inI64 (sa.2 + 1), inI64 (sa.1 + ((ta2.1 * ta2.2.2.2) - (ta2.2.1 * ta2.2.2.1))), inI64 ((ta2.1 * ta2.2.2.2) - (ta2.2.1 * ta2.2.2.1)), inI64 (ta2.2.1 * ta2.2.2.1), inI64 (ta2.1 * ta2.2.2.2), Computes cx 37 [.lst false 2 a0, I sa.2] (.agg [I ta2.1, I ta2.2.1, I ta2.2.2.1, I ta2.2.2.2]), (decide (sa.2 < ((a0).length : Int))) = true]) (by kernel_rfl) ⟨ha7, ha6, ha5, ha4, ha3, (c_field_edge ha2), (decide_eq_true ha1), trivial⟩⟩
  · replace h := ite_f h ha1
    replace h := Option.some.inj h
    subst h
    exact ⟨⟨100, 11, [.br false], [], [5], [], round_of (ob := [(decide (sa.2 < ((a0).length : Int))) = false]) (by kernel_rfl) ⟨(decide_eq_false ha1), trivial⟩⟩, nofun⟩
/- spillage/field.Area: .lst false 2 a0 -/
def F_field_Area (n : Nat) (a0 : List D) : Option (Int × Int) :=
  (F_field_CheckPolygon n a0).bind fun t1 =>
  if t1 = 0 then
    (loopF (F_field_Area_L1 n a0) n (0, 0)).bind fun t3 =>
    some (t3, 0)
  else
  some (0, t1)
theorem c_field_Area {n : Nat} {a0 : List D} {r : Int × Int} (h : F_field_Area n a0 = some r) : Computes cx 6 [.lst false 2 a0] (.tup [I r.1, I r.2]) := by
  unfold F_field_Area at h
  obtain ⟨t1, h1, h⟩ := bnd_of h
  by_cases h2 : t1 = 0
  · replace h := ite_t h h2
    obtain ⟨t3, h3, h⟩ := bnd_of h
    replace h := Option.some.inj h
    subst h
    exact run (n := 100) (f := 6) (args := [.lst false 2 a0]) (orc := [.ret (I t1), .br false, .lp [] [0, 5, 14, 15] [] (.exit 0) [(5, .d (I t3))] [] 50]) (r := .tup [I t3, I 0]) (ob := [LoopN cx (loopAt cx.P 6 0) 40 0 false [(0, .d (.lst false 2 a0)), (5, .d (I 0)), (14, .d (I ((a0).length : Int))), (15, .d (I 0))] [] (.exit 0) [(5, .d (I t3))] [], (t1 != 0) = false, Computes cx 14 [.lst false 2 a0] (I t1)]) (by kernel_rfl) ⟨(loopF_to R_field_Area_L1 h3), (nef h2), (c_field_CheckPolygon h1), trivial⟩
  · replace h := ite_f h h2
    replace h := Option.some.inj h
    subst h
    exact run (n := 100) (f := 6) (args := [.lst false 2 a0]) (orc := [.ret (I t1), .br true]) (r := .tup [I 0, I t1]) (ob := [(t1 != 0) = true, Computes cx 14 [.lst false 2 a0] (I t1)]) (by kernel_rfl) ⟨(net h2), (c_field_CheckPolygon h1), trivial⟩
def F_field_Holds_L1 (n : Nat) (a0 : List D) (a1 : Int) (a2 : Int) (sa : (Int × Int)) : Option (((Int × Int)) ⊕ ((Int))) :=
  if sa.2 < ((a0).length : Int) then
    (F_field_edge n a0 sa.2).bind fun ta2 =>
    (F_field_left n ta2.1 ta2.2.1 ta2.2.2.1 ta2.2.2.2 a1 a2).bind fun ta3 =>
    (F_cmp_Compare_g n ta3 0).bind fun ta4 =>
    if inI64 (sa.2 + 1) then
    some (.inl ((minI sa.1 ta4), (sa.2 + 1)))
    else none
  else
  some (.inr sa.1)
noncomputable def T_field_Holds_L1 (a0 : List D) (a1 : Int) (a2 : Int) (sa : (Int × Int)) : List (Nat × AV) := [(0, .d (.lst false 2 a0)), (3, .ptr 0 0 0 0 0), (7, .d (I sa.1)), (20, .d (I ((a0).length : Int))), (21, .d (I sa.2))]
noncomputable def H_field_Holds_L1 (a0 : List D) (a1 : Int) (a2 : Int) (sa : (Int × Int)) : List (Nat × Blk) := [(0, .box (.d (.agg [I a1, I a2])))]
noncomputable def X_field_Holds_L1 (a0 : List D) (a1 : Int) (a2 : Int) (e : (Int)) : Ex := (.exit 0)
noncomputable def XT_field_Holds_L1 (a0 : List D) (a1 : Int) (a2 : Int) (e : (Int)) : List (Nat × AV) := [(7, .d (I e))]
noncomputable def XH_field_Holds_L1 (a0 : List D) (a1 : Int) (a2 : Int) (e : (Int)) : List (Nat × Blk) := []
theorem R_field_Holds_L1 {n : Nat} {a0 : List D} {a1 : Int} {a2 : Int} (sa : (Int × Int)) (r) (h : F_field_Holds_L1 n a0 a1 a2 sa = some r) : Rd cx (loopAt cx.P 8 0) 38 0 false (T_field_Holds_L1 a0 a1 a2) (H_field_Holds_L1 a0 a1 a2) (X_field_Holds_L1 a0 a1 a2) (XT_field_Holds_L1 a0 a1 a2) (XH_field_Holds_L1 a0 a1 a2) sa r := by
  unfold F_field_Holds_L1 at h
  by_cases ha1 : sa.2 < ((a0).length : Int)
  · replace h := ite_t h ha1
    obtain ⟨ta2, ha2, h⟩ := bnd_of h
    obtain ⟨ta3, ha3, h⟩ := bnd_of h
    obtain ⟨ta4, ha4, h⟩ := bnd_of h
    obtain ⟨ha5, h⟩ := grd_of h
    replace h := Option.some.inj h
    subst h
    exact ⟨100, 16, [.br true, .ret (.agg [I ta2.1, I ta2.2.1, I ta2.2.2.1, I ta2.2.2.2]), .ret (I ta3), .ret (I ta4)], [], [0, 3, 7, 20, 21], [0], round_of (ob := [inI64 (sa.2 + 1), Computes cx 40 [I ta3, I 0] (I ta4), Computes cx 41 [.agg [I ta2.1, I ta2.2.1], .agg [I ta2.2.2.1, I ta2.2.2.2], .agg [I a1, I a2]] (I ta3), Computes cx 37 [.lst false 2 a0, I sa.2] (.agg [I ta2.1, I ta2.2.1, I ta2.2.2.1, I ta2.2.2.2]), (decide (sa.2 < ((a0).length : Int))) = true]) (by kernel_rfl) ⟨ha5, (c_cmp_Compare_g ha4), (c_field_left ha3), (c_field_edge ha2), (decide_eq_true ha1), trivial⟩⟩
  · replace h := ite_f h ha1
    replace h := Option.some.inj h
    subst h
    exact ⟨⟨100, 16, [.br false], [], [7], [], round_of (ob := [(decide (sa.2 < ((a0).length : Int))) = false]) (by kernel_rfl) ⟨(decide_eq_false ha1), trivial⟩⟩, nofun⟩
/- spillage/field.Holds: .lst false 2 a0, .agg [I a1, I a2] -/
def F_field_Holds (n : Nat) (a0 : List D) (a1 : Int) (a2 : Int) : Option (Int × Int) :=
  (F_field_CheckPolygon n a0).bind fun t1 =>
  (F_field_checkPoint n a1 a2).bind fun t2 =>
  (F_field_first n ([I t1, I t2])).bind fun t3 =>
  if t3 = 0 then
    (loopF (F_field_Holds_L1 n a0 a1 a2) n (1, 0)).bind fun t5 =>
    some (t5, 0)
  else
  some (0, t3)
theorem c_field_Holds {n : Nat} {a0 : List D} {a1 : Int} {a2 : Int} {r : Int × Int} (h : F_field_Holds n a0 a1 a2 = some r) : Computes cx 8 [.lst false 2 a0, .agg [I a1, I a2]] (.tup [I r.1, I r.2]) := by
  unfold F_field_Holds at h
  obtain ⟨t1, h1, h⟩ := bnd_of h
  obtain ⟨t2, h2, h⟩ := bnd_of h
  obtain ⟨t3, h3, h⟩ := bnd_of h
  by_cases h4 : t3 = 0
  · replace h := ite_t h h4
    obtain ⟨t5, h5, h⟩ := bnd_of h
    replace h := Option.some.inj h
    subst h
    exact run (n := 100) (f := 8) (args := [.lst false 2 a0, .agg [I a1, I a2]]) (orc := [.ret (I t1), .ret (I t2), .ret (I t3), .br false, .lp [] [0, 3, 7, 20, 21] [0] (.exit 0) [(7, .d (I t5))] [] 47]) (r := .tup [I t5, I 0]) (ob := [LoopN cx (loopAt cx.P 8 0) 38 0 false [(0, .d (.lst false 2 a0)), (3, .ptr 0 0 0 0 0), (7, .d (I 1)), (20, .d (I ((a0).length : Int))), (21, .d (I 0))] [(0, .box (.d (.agg [I a1, I a2])))] (.exit 0) [(7, .d (I t5))] [], (t3 != 0) = false, Computes cx 38 [.lst true 1 [I t1, I t2]] (I t3), Computes cx 39 [.agg [I a1, I a2]] (I t2), Computes cx 14 [.lst false 2 a0] (I t1)]) (by kernel_rfl) ⟨(loopF_to R_field_Holds_L1 h5), (nef h4), ((c_field_first h3).le (.cons (.full _ _ _) (.nil)) (.refl _)), (c_field_checkPoint h2), (c_field_CheckPolygon h1), trivial⟩
  · replace h := ite_f h h4
    replace h := Option.some.inj h
    subst h
    exact run (n := 100) (f := 8) (args := [.lst false 2 a0, .agg [I a1, I a2]]) (orc := [.ret (I t1), .ret (I t2), .ret (I t3), .br true]) (r := .tup [I 0, I t3]) (ob := [(t3 != 0) = true, Computes cx 38 [.lst true 1 [I t1, I t2]] (I t3), Computes cx 39 [.agg [I a1, I a2]] (I t2), Computes cx 14 [.lst false 2 a0] (I t1)]) (by kernel_rfl) ⟨(net h4), ((c_field_first h3).le (.cons (.full _ _ _) (.nil)) (.refl _)), (c_field_checkPoint h2), (c_field_CheckPolygon h1), trivial⟩
/- spillage/spillageref01.When: B a0, I a1 -/
def F_ref01_When (n : Nat) (a0 : Bool) (a1 : Int) : Option (Int) :=
  if a0 = true then
    some a1
  else
  some 0
theorem c_ref01_When {n : Nat} {a0 : Bool} {a1 : Int} {r : Int} (h : F_ref01_When n a0 a1 = some r) : Computes cx 42 [B a0, I a1] (I r) := by
  unfold F_ref01_When at h
  by_cases h1 : a0 = true
  · replace h := ite_t h h1
    replace h := Option.some.inj h
    subst h
    exact run (n := 100) (f := 42) (args := [B a0, I a1]) (orc := [.br true]) (r := I a1) (ob := [a0 = true]) (by kernel_rfl) ⟨h1, trivial⟩
  · replace h := ite_f h h1
    replace h := Option.some.inj h
    subst h
    exact run (n := 100) (f := 42) (args := [B a0, I a1]) (orc := [.br false]) (r := I 0) (ob := [a0 = false]) (by kernel_rfl) ⟨(bfalse h1), trivial⟩
def F_ref01_First_L1 (n : Nat) (a0 : List D) (sa : (Int)) : Option (((Int)) ⊕ ((Int) ⊕ (Unit))) :=
  if sa < ((a0).length : Int) then
    (el un_i a0 sa).bind fun ta2 =>
    if ta2 = 0 then
      if inI64 (sa + 1) then
      some (.inl (sa + 1))
      else none
    else
    some (.inr (.inl ta2))
  else
  some (.inr (.inr ()))
noncomputable def T_ref01_First_L1 (a0 : List D) (sa : (Int)) : List (Nat × AV) := [(0, .d (.lst false 1 a0)), (3, .d (I sa))]
noncomputable def H_ref01_First_L1 (a0 : List D) (sa : (Int)) : List (Nat × Blk) := []
noncomputable def X_ref01_First_L1 (a0 : List D) (e : (Int) ⊕ (Unit)) : Ex := match e with
  | (.inl e) => .ret
  | (.inr e) => (.exit 0)
noncomputable def XT_ref01_First_L1 (a0 : List D) (e : (Int) ⊕ (Unit)) : List (Nat × AV) := match e with
  | (.inl e) => [(2, .d (I e))]
  | (.inr e) => []
noncomputable def XH_ref01_First_L1 (a0 : List D) (e : (Int) ⊕ (Unit)) : List (Nat × Blk) := match e with
  | (.inl e) => []
  | (.inr e) => []
theorem R_ref01_First_L1 {n : Nat} {a0 : List D} (sa : (Int)) (r) (h : F_ref01_First_L1 n a0 sa = some r) : Rd cx (loopAt cx.P 10 0) 19 0 false (T_ref01_First_L1 a0) (H_ref01_First_L1 a0) (X_ref01_First_L1 a0) (XT_ref01_First_L1 a0) (XH_ref01_First_L1 a0) sa r := by
  unfold F_ref01_First_L1 at h
  by_cases ha1 : sa < ((a0).length : Int)
  · replace h := ite_t h ha1
    obtain ⟨ta2, ha2, h⟩ := bnd_of h
    by_cases ha3 : ta2 = 0
    · replace h := ite_t h ha3
      obtain ⟨ha4, h⟩ := grd_of h
      replace h := Option.some.inj h
      subst h
      exact ⟨100, 2, [.br true, .el (I ta2), .br false], [], [0, 3], [], round_of (ob := [inI64 (sa + 1), (ta2 != 0) = false, (0 : Int) ≤ sa, nth (a0) (Int.toNat sa) = some (I ta2), (decide (sa < ((a0).length : Int))) = true]) (by kernel_rfl) ⟨ha4, (nef ha3), (el_ok un_i_ok ha2).1, (el_ok un_i_ok ha2).2, (decide_eq_true ha1), trivial⟩⟩
    · replace h := ite_f h ha3
      replace h := Option.some.inj h
      subst h
      exact ⟨⟨100, 2, [.br true, .el (I ta2), .br true, .el (I ta2)], [], [2], [], round_of (ob := [(0 : Int) ≤ sa, nth (a0) (Int.toNat sa) = some (I ta2), (ta2 != 0) = true, (0 : Int) ≤ sa, nth (a0) (Int.toNat sa) = some (I ta2), (decide (sa < ((a0).length : Int))) = true]) (by kernel_rfl) ⟨(el_ok un_i_ok ha2).1, (el_ok un_i_ok ha2).2, (net ha3), (el_ok un_i_ok ha2).1, (el_ok un_i_ok ha2).2, (decide_eq_true ha1), trivial⟩⟩, nofun⟩
  · replace h := ite_f h ha1
    replace h := Option.some.inj h
    subst h
    exact ⟨⟨100, 2, [.br false], [], [], [], round_of (ob := [(decide (sa < ((a0).length : Int))) = false]) (by kernel_rfl) ⟨(decide_eq_false ha1), trivial⟩⟩, nofun⟩
/- spillage/spillageref01.First: .lst false 1 a0 -/
def F_ref01_First (n : Nat) (a0 : List D) : Option (Int) :=
  (loopF (F_ref01_First_L1 n a0) n 0).bind fun t1 => match t1 with
    | (.inl t1) => (
      some t1)
    | (.inr t1) => (
      some 0)
theorem c_ref01_First {n : Nat} {a0 : List D} {r : Int} (h : F_ref01_First n a0 = some r) : Computes cx 10 [.lst false 1 a0] (I r) := by
  unfold F_ref01_First at h
  obtain ⟨t1, h1, h⟩ := bnd_of h
  rcases t1 with t1 | t1
  · replace h := Option.some.inj h
    subst h
    exact run (n := 100) (f := 10) (args := [.lst false 1 a0]) (orc := [.lp [] [0, 3] [] .ret [(2, .d (I t1))] [] 27]) (r := I t1) (ob := [LoopN cx (loopAt cx.P 10 0) 19 0 false [(0, .d (.lst false 1 a0)), (3, .d (I 0))] [] .ret [(2, .d (I t1))] []]) (by kernel_rfl) ⟨(loopF_to R_ref01_First_L1 h1), trivial⟩
  · replace h := Option.some.inj h
    subst h
    exact run (n := 100) (f := 10) (args := [.lst false 1 a0]) (orc := [.lp [] [0, 3] [] (.exit 0) [] [] 27]) (r := I 0) (ob := [LoopN cx (loopAt cx.P 10 0) 19 0 false [(0, .d (.lst false 1 a0)), (3, .d (I 0))] [] (.exit 0) [] []]) (by kernel_rfl) ⟨(loopF_to R_ref01_First_L1 h1), trivial⟩
/- spillage/spillageref01.When: B true, I 3 -/
def F_ref01_When_2 (n : Nat)  : Option (Int) :=
  some 3
theorem c_ref01_When_2 {n : Nat}  {r : Int} (h : F_ref01_When_2 n  = some r) : Computes cx 42 [B true, I 3] (I r) := by
  unfold F_ref01_When_2 at h
  replace h := Option.some.inj h
  subst h
  exact run (n := 100) (f := 42) (args := [B true, I 3]) (orc := [.no]) (r := I 3) (ob := []) (by kernel_rfl) trivial
/- spillage/spillageref01.CheckRange: I a0, I a1, I a2 -/
def F_ref01_CheckRange (n : Nat) (a0 : Int) (a1 : Int) (a2 : Int) : Option (Int) :=
  if a0 < a1 then
    (F_ref01_When_2 n).bind fun t2 =>
    some t2
  else
  (F_ref01_When n (decide (a0 > a2)) 3).bind fun t2 =>
  some t2
theorem c_ref01_CheckRange {n : Nat} {a0 : Int} {a1 : Int} {a2 : Int} {r : Int} (h : F_ref01_CheckRange n a0 a1 a2 = some r) : Computes cx 44 [I a0, I a1, I a2] (I r) := by
  unfold F_ref01_CheckRange at h
  by_cases h1 : a0 < a1
  · replace h := ite_t h h1
    obtain ⟨t2, h2, h⟩ := bnd_of h
    replace h := Option.some.inj h
    subst h
    exact run (n := 100) (f := 44) (args := [I a0, I a1, I a2]) (orc := [.br true, .ret (I t2)]) (r := I t2) (ob := [Computes cx 42 [B true, I 3] (I t2), (decide (a0 < a1)) = true]) (by kernel_rfl) ⟨(c_ref01_When_2 h2), (decide_eq_true h1), trivial⟩
  · replace h := ite_f h h1
    obtain ⟨t2, h2, h⟩ := bnd_of h
    replace h := Option.some.inj h
    subst h
    exact run (n := 100) (f := 44) (args := [I a0, I a1, I a2]) (orc := [.br false, .ret (I t2)]) (r := I t2) (ob := [Computes cx 42 [B (decide (a0 > a2)), I 3] (I t2), (decide (a0 < a1)) = false]) (by kernel_rfl) ⟨(c_ref01_When h2), (decide_eq_false h1), trivial⟩
/- spillage/spillageref04.CheckPoint: .agg [I a0, I a1] -/
def F_ref04_CheckPoint (n : Nat) (a0 : Int) (a1 : Int) : Option (Int) :=
  (F_ref01_CheckRange n a0 (-16777216) 16777216).bind fun t1 =>
  (F_ref01_CheckRange n a1 (-16777216) 16777216).bind fun t2 =>
  (F_ref01_First n ([I t1, I t2])).bind fun t3 =>
  some t3
theorem c_ref04_CheckPoint {n : Nat} {a0 : Int} {a1 : Int} {r : Int} (h : F_ref04_CheckPoint n a0 a1 = some r) : Computes cx 11 [.agg [I a0, I a1]] (I r) := by
  unfold F_ref04_CheckPoint at h
  obtain ⟨t1, h1, h⟩ := bnd_of h
  obtain ⟨t2, h2, h⟩ := bnd_of h
  obtain ⟨t3, h3, h⟩ := bnd_of h
  replace h := Option.some.inj h
  subst h
  exact run (n := 100) (f := 11) (args := [.agg [I a0, I a1]]) (orc := [.ret (I t1), .ret (I t2), .ret (I t3)]) (r := I t3) (ob := [Computes cx 10 [.lst true 1 [I t1, I t2]] (I t3), Computes cx 44 [I a1, I (-16777216), I 16777216] (I t2), Computes cx 44 [I a0, I (-16777216), I 16777216] (I t1)]) (by kernel_rfl) ⟨((c_ref01_First h3).le (.cons (.full _ _ _) (.nil)) (.refl _)), (c_ref01_CheckRange h2), (c_ref01_CheckRange h1), trivial⟩
/- spillage/spillageref04.next: .lst false 2 a0, I a1 -/
def F_ref04_next (n : Nat) (a0 : List D) (a1 : Int) : Option (Int × Int) :=
  if inI64 (a1 + 1) then
  if ((a0).length : Int) ≠ 0 then
  (el un_Ai2Z a0 (Int.tmod (a1 + 1) ((a0).length : Int))).bind fun t3 =>
  some (t3.1, t3.2)
  else none
  else none
theorem c_ref04_next {n : Nat} {a0 : List D} {a1 : Int} {r : Int × Int} (h : F_ref04_next n a0 a1 = some r) : Computes cx 45 [.lst false 2 a0, I a1] (.agg [I r.1, I r.2]) := by
  unfold F_ref04_next at h
  obtain ⟨h1, h⟩ := grd_of h
  obtain ⟨h2, h⟩ := grd_of h
  obtain ⟨t3, h3, h⟩ := bnd_of h
  replace h := Option.some.inj h
  subst h
  exact run (n := 100) (f := 45) (args := [.lst false 2 a0, I a1]) (orc := [.el (.agg [I t3.1, I t3.2])]) (r := .agg [I t3.1, I t3.2]) (ob := [(0 : Int) ≤ (Int.tmod (a1 + 1) ((a0).length : Int)), nth (a0) (Int.toNat (Int.tmod (a1 + 1) ((a0).length : Int))) = some (.agg [I t3.1, I t3.2]), ((a0).length : Int) ≠ 0, inI64 (a1 + 1)]) (by kernel_rfl) ⟨(el_ok un_Ai2Z_ok h3).1, (el_ok un_Ai2Z_ok h3).2, h2, h1, trivial⟩
/- spillage/spillageref04.Side: .agg [I a0, I a1], .agg [I a2, I a3], .agg [I a4, I a5] -/
def F_ref04_Side (n : Nat) (a0 : Int) (a1 : Int) (a2 : Int) (a3 : Int) (a4 : Int) (a5 : Int) : Option (Int) :=
  if inI64 (a2 - a0) then
  if inI64 (a5 - a1) then
  if inI64 ((a2 - a0) * (a5 - a1)) then
  if inI64 (a3 - a1) then
  if inI64 (a4 - a0) then
  if inI64 ((a3 - a1) * (a4 - a0)) then
  if inI64 (((a2 - a0) * (a5 - a1)) - ((a3 - a1) * (a4 - a0))) then
  some (((a2 - a0) * (a5 - a1)) - ((a3 - a1) * (a4 - a0)))
  else none
  else none
  else none
  else none
  else none
  else none
  else none
theorem c_ref04_Side {n : Nat} {a0 : Int} {a1 : Int} {a2 : Int} {a3 : Int} {a4 : Int} {a5 : Int} {r : Int} (h : F_ref04_Side n a0 a1 a2 a3 a4 a5 = some r) : Computes cx 46 [.agg [I a0, I a1], .agg [I a2, I a3], .agg [I a4, I a5]] (I r) := by
  unfold F_ref04_Side at h
  obtain ⟨h1, h⟩ := grd_of h
  obtain ⟨h2, h⟩ := grd_of h
  obtain ⟨h3, h⟩ := grd_of h
  obtain ⟨h4, h⟩ := grd_of h
  obtain ⟨h5, h⟩ := grd_of h
  obtain ⟨h6, h⟩ := grd_of h
  obtain ⟨h7, h⟩ := grd_of h
  replace h := Option.some.inj h
  subst h
  exact run (n := 100) (f := 46) (args := [.agg [I a0, I a1], .agg [I a2, I a3], .agg [I a4, I a5]]) (orc := []) (r := I (((a2 - a0) * (a5 - a1)) - ((a3 - a1) * (a4 - a0)))) (ob := [inI64 (((a2 - a0) * (a5 - a1)) - ((a3 - a1) * (a4 - a0))), inI64 ((a3 - a1) * (a4 - a0)), inI64 (a4 - a0), inI64 (a3 - a1), inI64 ((a2 - a0) * (a5 - a1)), inI64 (a5 - a1), inI64 (a2 - a0)]) (by kernel_rfl) ⟨h7, h6, h5, h4, h3, h2, h1, trivial⟩
def F_ref04_convex_L2 (n : Nat) (a0 : List D) (sa : Int) (sb : (Int)) : Option (((Int)) ⊕ ((Unit) ⊕ (Unit))) :=
  if sb < ((a0).length : Int) then
    if sb = sa then
      if inI64 (sb + 1) then
      some (.inl (sb + 1))
      else none
    else
    if inI64 (sa + 1) then
    if ((a0).length : Int) ≠ 0 then
    if sb = (Int.tmod (sa + 1) ((a0).length : Int)) then
      if inI64 (sb + 1) then
      some (.inl (sb + 1))
      else none
    else
    (el un_Ai2Z a0 sa).bind fun tb6 =>
    (F_ref04_next n a0 sa).bind fun tb7 =>
    (el un_Ai2Z a0 sb).bind fun tb8 =>
    (F_ref04_Side n tb6.1 tb6.2 tb7.1 tb7.2 tb8.1 tb8.2).bind fun tb9 =>
    if tb9 ≤ 0 then
      some (.inr (.inl ()))
    else
    if inI64 (sb + 1) then
    some (.inl (sb + 1))
    else none
    else none
    else none
  else
  some (.inr (.inr ()))
noncomputable def T_ref04_convex_L2 (a0 : List D) (sa : Int) (sb : (Int)) : List (Nat × AV) := [(0, .d (.lst false 2 a0)), (3, .d (I sa)), (4, .d (I sb))]
noncomputable def H_ref04_convex_L2 (a0 : List D) (sa : Int) (sb : (Int)) : List (Nat × Blk) := []
noncomputable def X_ref04_convex_L2 (a0 : List D) (sa : Int) (e : (Unit) ⊕ (Unit)) : Ex := match e with
  | (.inl e) => .ret
  | (.inr e) => (.exit 2)
noncomputable def XT_ref04_convex_L2 (a0 : List D) (sa : Int) (e : (Unit) ⊕ (Unit)) : List (Nat × AV) := match e with
  | (.inl e) => [(2, .d (B false))]
  | (.inr e) => [(0, .d (.lst false 2 a0)), (3, .d (I sa))]
noncomputable def XH_ref04_convex_L2 (a0 : List D) (sa : Int) (e : (Unit) ⊕ (Unit)) : List (Nat × Blk) := match e with
  | (.inl e) => []
  | (.inr e) => []
theorem R_ref04_convex_L2 {n : Nat} {a0 : List D} {sa : Int} (sb : (Int)) (r) (h : F_ref04_convex_L2 n a0 sa sb = some r) : Rd cx (loopAt cx.P 43 1) 44 0 false (T_ref04_convex_L2 a0 sa) (H_ref04_convex_L2 a0 sa) (X_ref04_convex_L2 a0 sa) (XT_ref04_convex_L2 a0 sa) (XH_ref04_convex_L2 a0 sa) sb r := by
  unfold F_ref04_convex_L2 at h
  by_cases hb1 : sb < ((a0).length : Int)
  · replace h := ite_t h hb1
    by_cases hb2 : sb = sa
    · replace h := ite_t h hb2
      obtain ⟨hb3, h⟩ := grd_of h
      replace h := Option.some.inj h
      subst h
      exact ⟨100, 7, [.br true, .br false, .no, .no], [], [0, 3, 4], [], round_of (ob := [inI64 (sb + 1), (sb != sa) = false, (decide (sb < ((a0).length : Int))) = true]) (by kernel_rfl) ⟨hb3, (nef hb2), (decide_eq_true hb1), trivial⟩⟩
    · replace h := ite_f h hb2
      obtain ⟨hb3, h⟩ := grd_of h
      obtain ⟨hb4, h⟩ := grd_of h
      by_cases hb5 : sb = (Int.tmod (sa + 1) ((a0).length : Int))
      · replace h := ite_t h hb5
        obtain ⟨hb6, h⟩ := grd_of h
        replace h := Option.some.inj h
        subst h
        exact ⟨100, 7, [.br true, .br true, .br false, .no], [], [0, 3, 4], [], round_of (ob := [inI64 (sb + 1), (sb != (Int.tmod (sa + 1) ((a0).length : Int))) = false, ((a0).length : Int) ≠ 0, inI64 (sa + 1), (sb != sa) = true, (decide (sb < ((a0).length : Int))) = true]) (by kernel_rfl) ⟨hb6, (nef hb5), hb4, hb3, (net hb2), (decide_eq_true hb1), trivial⟩⟩
      · replace h := ite_f h hb5
        obtain ⟨tb6, hb6, h⟩ := bnd_of h
        obtain ⟨tb7, hb7, h⟩ := bnd_of h
        obtain ⟨tb8, hb8, h⟩ := bnd_of h
        obtain ⟨tb9, hb9, h⟩ := bnd_of h
        by_cases hb10 : tb9 ≤ 0
        · replace h := ite_t h hb10
          replace h := Option.some.inj h
          subst h
          exact ⟨⟨100, 7, [.br true, .br true, .br true, .el (.agg [I tb6.1, I tb6.2]), .ret (.agg [I tb7.1, I tb7.2]), .el (.agg [I tb8.1, I tb8.2]), .ret (I tb9), .br true], [], [2], [], round_of (ob := [(decide (tb9 ≤ 0)) = true, Computes cx 46 [.agg [I tb6.1, I tb6.2], .agg [I tb7.1, I tb7.2], .agg [I tb8.1, I tb8.2]] (I tb9), (0 : Int) ≤ sb, nth (a0) (Int.toNat sb) = some (.agg [I tb8.1, I tb8.2]), Computes cx 45 [.lst false 2 a0, I sa] (.agg [I tb7.1, I tb7.2]), (0 : Int) ≤ sa, nth (a0) (Int.toNat sa) = some (.agg [I tb6.1, I tb6.2]), (sb != (Int.tmod (sa + 1) ((a0).length : Int))) = true, ((a0).length : Int) ≠ 0, inI64 (sa + 1), (sb != sa) = true, (decide (sb < ((a0).length : Int))) = true]) (by kernel_rfl) ⟨(decide_eq_true hb10), (c_ref04_Side hb9), (el_ok un_Ai2Z_ok hb8).1, (el_ok un_Ai2Z_ok hb8).2, (c_ref04_next hb7), (el_ok un_Ai2Z_ok hb6).1, (el_ok un_Ai2Z_ok hb6).2, (net hb5), hb4, hb3, (net hb2), (decide_eq_true hb1), trivial⟩⟩, nofun⟩
        · replace h := ite_f h hb10
          obtain ⟨hb11, h⟩ := grd_of h
          replace h := Option.some.inj h
          subst h
          exact ⟨100, 7, [.br true, .br true, .br true, .el (.agg [I tb6.1, I tb6.2]), .ret (.agg [I tb7.1, I tb7.2]), .el (.agg [I tb8.1, I tb8.2]), .ret (I tb9), .br false], [], [0, 3, 4], [], round_of (ob := [inI64 (sb + 1), (decide (tb9 ≤ 0)) = false, Computes cx 46 [.agg [I tb6.1, I tb6.2], .agg [I tb7.1, I tb7.2], .agg [I tb8.1, I tb8.2]] (I tb9), (0 : Int) ≤ sb, nth (a0) (Int.toNat sb) = some (.agg [I tb8.1, I tb8.2]), Computes cx 45 [.lst false 2 a0, I sa] (.agg [I tb7.1, I tb7.2]), (0 : Int) ≤ sa, nth (a0) (Int.toNat sa) = some (.agg [I tb6.1, I tb6.2]), (sb != (Int.tmod (sa + 1) ((a0).length : Int))) = true, ((a0).length : Int) ≠ 0, inI64 (sa + 1), (sb != sa) = true, (decide (sb < ((a0).length : Int))) = true]) (by kernel_rfl) ⟨hb11, (decide_eq_false hb10), (c_ref04_Side hb9), (el_ok un_Ai2Z_ok hb8).1, (el_ok un_Ai2Z_ok hb8).2, (c_ref04_next hb7), (el_ok un_Ai2Z_ok hb6).1, (el_ok un_Ai2Z_ok hb6).2, (net hb5), hb4, hb3, (net hb2), (decide_eq_true hb1), trivial⟩⟩
  · replace h := ite_f h hb1
    replace h := Option.some.inj h
    subst h
    exact ⟨⟨100, 7, [.br false], [], [0, 3], [], round_of (ob := [(decide (sb < ((a0).length : Int))) = false]) (by kernel_rfl) ⟨(decide_eq_false hb1), trivial⟩⟩, nofun⟩
def F_ref04_convex_L3 (n : Nat) (a0 : List D) (sa : (Int)) : Option (((Int)) ⊕ ((Unit) ⊕ (Unit))) :=
  if sa < ((a0).length : Int) then
    (loopF (F_ref04_convex_L2 n a0 sa) n 0).bind fun ta2 => match ta2 with
      | (.inl ta2) => (
        some (.inr (.inl ())))
      | (.inr ta2) => (
        if inI64 (sa + 1) then
        some (.inl (sa + 1))
        else none)
  else
  some (.inr (.inr ()))
noncomputable def T_ref04_convex_L3 (a0 : List D) (sa : (Int)) : List (Nat × AV) := [(0, .d (.lst false 2 a0)), (3, .d (I sa))]
noncomputable def H_ref04_convex_L3 (a0 : List D) (sa : (Int)) : List (Nat × Blk) := []
noncomputable def X_ref04_convex_L3 (a0 : List D) (e : (Unit) ⊕ (Unit)) : Ex := match e with
  | (.inl e) => .ret
  | (.inr e) => (.exit 0)
noncomputable def XT_ref04_convex_L3 (a0 : List D) (e : (Unit) ⊕ (Unit)) : List (Nat × AV) := match e with
  | (.inl e) => [(2, .d (B false))]
  | (.inr e) => []
noncomputable def XH_ref04_convex_L3 (a0 : List D) (e : (Unit) ⊕ (Unit)) : List (Nat × Blk) := match e with
  | (.inl e) => []
  | (.inr e) => []
theorem R_ref04_convex_L3 {n : Nat} {a0 : List D} (sa : (Int)) (r) (h : F_ref04_convex_L3 n a0 sa = some r) : Rd cx (loopAt cx.P 43 0) 44 0 false (T_ref04_convex_L3 a0) (H_ref04_convex_L3 a0) (X_ref04_convex_L3 a0) (XT_ref04_convex_L3 a0) (XH_ref04_convex_L3 a0) sa r := by
  unfold F_ref04_convex_L3 at h
  by_cases ha1 : sa < ((a0).length : Int)
  · replace h := ite_t h ha1
    obtain ⟨ta2, ha2, h⟩ := bnd_of h
    rcases ta2 with ta2 | ta2
    · replace h := Option.some.inj h
      subst h
      exact ⟨⟨100, 2, [.br true, .lp [] [0, 3, 4] [] .ret [(2, .d (B false))] [] 52], [], [2], [], round_of (ob := [LoopN cx (loopAt cx.P 43 1) 44 0 false [(0, .d (.lst false 2 a0)), (3, .d (I sa)), (4, .d (I 0))] [] .ret [(2, .d (B false))] [], (decide (sa < ((a0).length : Int))) = true]) (by kernel_rfl) ⟨(loopF_to R_ref04_convex_L2 ha2), (decide_eq_true ha1), trivial⟩⟩, nofun⟩
    · obtain ⟨ha3, h⟩ := grd_of h
      replace h := Option.some.inj h
      subst h
      exact ⟨100, 2, [.br true, .lp [] [0, 3, 4] [] (.exit 2) [(0, .d (.lst false 2 a0)), (3, .d (I sa))] [] 52], [], [0, 3], [], round_of (ob := [inI64 (sa + 1), LoopN cx (loopAt cx.P 43 1) 44 0 false [(0, .d (.lst false 2 a0)), (3, .d (I sa)), (4, .d (I 0))] [] (.exit 2) [(0, .d (.lst false 2 a0)), (3, .d (I sa))] [], (decide (sa < ((a0).length : Int))) = true]) (by kernel_rfl) ⟨ha3, (loopF_to R_ref04_convex_L2 ha2), (decide_eq_true ha1), trivial⟩⟩
  · replace h := ite_f h ha1
    replace h := Option.some.inj h
    subst h
    exact ⟨⟨100, 2, [.br false], [], [], [], round_of (ob := [(decide (sa < ((a0).length : Int))) = false]) (by kernel_rfl) ⟨(decide_eq_false ha1), trivial⟩⟩, nofun⟩
/- spillage/spillageref04.convex: .lst false 2 a0 -/
def F_ref04_convex (n : Nat) (a0 : List D) : Option (Bool) :=
  (loopF (F_ref04_convex_L3 n a0) n 0).bind fun t1 => match t1 with
    | (.inl t1) => (
      some false)
    | (.inr t1) => (
      some true)
theorem c_ref04_convex {n : Nat} {a0 : List D} {r : Bool} (h : F_ref04_convex n a0 = some r) : Computes cx 43 [.lst false 2 a0] (B r) := by
  unfold F_ref04_convex at h
  obtain ⟨t1, h1, h⟩ := bnd_of h
  rcases t1 with t1 | t1
  · replace h := Option.some.inj h
    subst h
    exact run (n := 100) (f := 43) (args := [.lst false 2 a0]) (orc := [.lp [] [0, 3] [] .ret [(2, .d (B false))] [] 66]) (r := B false) (ob := [LoopN cx (loopAt cx.P 43 0) 44 0 false [(0, .d (.lst false 2 a0)), (3, .d (I 0))] [] .ret [(2, .d (B false))] []]) (by kernel_rfl) ⟨(loopF_to R_ref04_convex_L3 h1), trivial⟩
  · replace h := Option.some.inj h
    subst h
    exact run (n := 100) (f := 43) (args := [.lst false 2 a0]) (orc := [.lp [] [0, 3] [] (.exit 0) [] [] 66]) (r := B true) (ob := [LoopN cx (loopAt cx.P 43 0) 44 0 false [(0, .d (.lst false 2 a0)), (3, .d (I 0))] [] (.exit 0) [] []]) (by kernel_rfl) ⟨(loopF_to R_ref04_convex_L3 h1), trivial⟩
def F_ref04_CheckPolygon_L1 (n : Nat) (a0 : List D) (sa : (Int)) : Option (((Int)) ⊕ ((Int) ⊕ (Unit))) :=
  if sa < ((a0).length : Int) then
    (el un_Ai2Z a0 sa).bind fun ta2 =>
    (F_ref04_CheckPoint n ta2.1 ta2.2).bind fun ta3 =>
    if ta3 = 0 then
      if inI64 (sa + 1) then
      some (.inl (sa + 1))
      else none
    else
    some (.inr (.inl ta3))
  else
  some (.inr (.inr ()))
noncomputable def T_ref04_CheckPolygon_L1 (a0 : List D) (sa : (Int)) : List (Nat × AV) := [(0, .d (.lst false 2 a0)), (4, .d (I sa))]
noncomputable def H_ref04_CheckPolygon_L1 (a0 : List D) (sa : (Int)) : List (Nat × Blk) := []
noncomputable def X_ref04_CheckPolygon_L1 (a0 : List D) (e : (Int) ⊕ (Unit)) : Ex := match e with
  | (.inl e) => .ret
  | (.inr e) => (.exit 0)
noncomputable def XT_ref04_CheckPolygon_L1 (a0 : List D) (e : (Int) ⊕ (Unit)) : List (Nat × AV) := match e with
  | (.inl e) => [(2, .d (I e))]
  | (.inr e) => [(0, .d (.lst false 2 a0))]
noncomputable def XH_ref04_CheckPolygon_L1 (a0 : List D) (e : (Int) ⊕ (Unit)) : List (Nat × Blk) := match e with
  | (.inl e) => []
  | (.inr e) => []
theorem R_ref04_CheckPolygon_L1 {n : Nat} {a0 : List D} (sa : (Int)) (r) (h : F_ref04_CheckPolygon_L1 n a0 sa = some r) : Rd cx (loopAt cx.P 9 0) 37 0 false (T_ref04_CheckPolygon_L1 a0) (H_ref04_CheckPolygon_L1 a0) (X_ref04_CheckPolygon_L1 a0) (XT_ref04_CheckPolygon_L1 a0) (XH_ref04_CheckPolygon_L1 a0) sa r := by
  unfold F_ref04_CheckPolygon_L1 at h
  by_cases ha1 : sa < ((a0).length : Int)
  · replace h := ite_t h ha1
    obtain ⟨ta2, ha2, h⟩ := bnd_of h
    obtain ⟨ta3, ha3, h⟩ := bnd_of h
    by_cases ha4 : ta3 = 0
    · replace h := ite_t h ha4
      obtain ⟨ha5, h⟩ := grd_of h
      replace h := Option.some.inj h
      subst h
      exact ⟨100, 15, [.br true, .el (.agg [I ta2.1, I ta2.2]), .ret (I ta3), .br false], [], [0, 4], [], round_of (ob := [inI64 (sa + 1), (ta3 != 0) = false, Computes cx 11 [.agg [I ta2.1, I ta2.2]] (I ta3), (0 : Int) ≤ sa, nth (a0) (Int.toNat sa) = some (.agg [I ta2.1, I ta2.2]), (decide (sa < ((a0).length : Int))) = true]) (by kernel_rfl) ⟨ha5, (nef ha4), (c_ref04_CheckPoint ha3), (el_ok un_Ai2Z_ok ha2).1, (el_ok un_Ai2Z_ok ha2).2, (decide_eq_true ha1), trivial⟩⟩
    · replace h := ite_f h ha4
      replace h := Option.some.inj h
      subst h
      exact ⟨⟨100, 15, [.br true, .el (.agg [I ta2.1, I ta2.2]), .ret (I ta3), .br true], [], [2], [], round_of (ob := [(ta3 != 0) = true, Computes cx 11 [.agg [I ta2.1, I ta2.2]] (I ta3), (0 : Int) ≤ sa, nth (a0) (Int.toNat sa) = some (.agg [I ta2.1, I ta2.2]), (decide (sa < ((a0).length : Int))) = true]) (by kernel_rfl) ⟨(net ha4), (c_ref04_CheckPoint ha3), (el_ok un_Ai2Z_ok ha2).1, (el_ok un_Ai2Z_ok ha2).2, (decide_eq_true ha1), trivial⟩⟩, nofun⟩
  · replace h := ite_f h ha1
    replace h := Option.some.inj h
    subst h
    exact ⟨⟨100, 15, [.br false], [], [0], [], round_of (ob := [(decide (sa < ((a0).length : Int))) = false]) (by kernel_rfl) ⟨(decide_eq_false ha1), trivial⟩⟩, nofun⟩
/- spillage/spillageref04.CheckPolygon: .lst false 2 a0 -/
def F_ref04_CheckPolygon (n : Nat) (a0 : List D) : Option (Int) :=
  (F_ref01_When n (decide (((a0).length : Int) < 3)) 16).bind fun t1 =>
  (F_ref01_When n (decide (((a0).length : Int) > 16)) 5).bind fun t2 =>
  (F_ref01_First n ([I t1, I t2])).bind fun t3 =>
  if t3 = 0 then
    (loopF (F_ref04_CheckPolygon_L1 n a0) n 0).bind fun t5 => match t5 with
      | (.inl t5) => (
        some t5)
      | (.inr t5) => (
        (F_ref04_convex n a0).bind fun t6 =>
        (F_ref01_When n (!t6) 2).bind fun t7 =>
        some t7)
  else
  some t3
theorem c_ref04_CheckPolygon {n : Nat} {a0 : List D} {r : Int} (h : F_ref04_CheckPolygon n a0 = some r) : Computes cx 9 [.lst false 2 a0] (I r) := by
  unfold F_ref04_CheckPolygon at h
  obtain ⟨t1, h1, h⟩ := bnd_of h
  obtain ⟨t2, h2, h⟩ := bnd_of h
  obtain ⟨t3, h3, h⟩ := bnd_of h
  by_cases h4 : t3 = 0
  · replace h := ite_t h h4
    obtain ⟨t5, h5, h⟩ := bnd_of h
    rcases t5 with t5 | t5
    · replace h := Option.some.inj h
      subst h
      exact run (n := 100) (f := 9) (args := [.lst false 2 a0]) (orc := [.ret (I t1), .ret (I t2), .ret (I t3), .br false, .lp [] [0, 4] [] .ret [(2, .d (I t5))] [] 41]) (r := I t5) (ob := [LoopN cx (loopAt cx.P 9 0) 37 0 false [(0, .d (.lst false 2 a0)), (4, .d (I 0))] [] .ret [(2, .d (I t5))] [], (t3 != 0) = false, Computes cx 10 [.lst true 1 [I t1, I t2]] (I t3), Computes cx 42 [B (decide (((a0).length : Int) > 16)), I 5] (I t2), Computes cx 42 [B (decide (((a0).length : Int) < 3)), I 16] (I t1)]) (by kernel_rfl) ⟨(loopF_to R_ref04_CheckPolygon_L1 h5), (nef h4), ((c_ref01_First h3).le (.cons (.full _ _ _) (.nil)) (.refl _)), (c_ref01_When h2), (c_ref01_When h1), trivial⟩
    · obtain ⟨t6, h6, h⟩ := bnd_of h
      obtain ⟨t7, h7, h⟩ := bnd_of h
      replace h := Option.some.inj h
      subst h
      exact run (n := 100) (f := 9) (args := [.lst false 2 a0]) (orc := [.ret (I t1), .ret (I t2), .ret (I t3), .br false, .lp [] [0, 4] [] (.exit 0) [(0, .d (.lst false 2 a0))] [] 41, .ret (B t6), .ret (I t7)]) (r := I t7) (ob := [Computes cx 42 [B (!t6), I 2] (I t7), Computes cx 43 [.lst false 2 a0] (B t6), LoopN cx (loopAt cx.P 9 0) 37 0 false [(0, .d (.lst false 2 a0)), (4, .d (I 0))] [] (.exit 0) [(0, .d (.lst false 2 a0))] [], (t3 != 0) = false, Computes cx 10 [.lst true 1 [I t1, I t2]] (I t3), Computes cx 42 [B (decide (((a0).length : Int) > 16)), I 5] (I t2), Computes cx 42 [B (decide (((a0).length : Int) < 3)), I 16] (I t1)]) (by kernel_rfl) ⟨(c_ref01_When h7), (c_ref04_convex h6), (loopF_to R_ref04_CheckPolygon_L1 h5), (nef h4), ((c_ref01_First h3).le (.cons (.full _ _ _) (.nil)) (.refl _)), (c_ref01_When h2), (c_ref01_When h1), trivial⟩
  · replace h := ite_f h h4
    replace h := Option.some.inj h
    subst h
    exact run (n := 100) (f := 9) (args := [.lst false 2 a0]) (orc := [.ret (I t1), .ret (I t2), .ret (I t3), .br true]) (r := I t3) (ob := [(t3 != 0) = true, Computes cx 10 [.lst true 1 [I t1, I t2]] (I t3), Computes cx 42 [B (decide (((a0).length : Int) > 16)), I 5] (I t2), Computes cx 42 [B (decide (((a0).length : Int) < 3)), I 16] (I t1)]) (by kernel_rfl) ⟨(net h4), ((c_ref01_First h3).le (.cons (.full _ _ _) (.nil)) (.refl _)), (c_ref01_When h2), (c_ref01_When h1), trivial⟩
end Go.Proofs.YtlakflidecdepaaGreatDoor
