/-
  Printed by gsx.py: functions of the program as Lean functions, and that the code computes them.
-/
import Derived.Test.YtmgbmngmmpeaaaaGreatDoorGen8
set_option linter.unusedVariables false
set_option linter.unusedSimpArgs false
set_option linter.unnecessarySimpa false
set_option maxRecDepth 10000
namespace Go.Proofs.YtmgbmngmmpeaaaaGreatDoor
open Go.SX
def enc_Ai216iu8iu8Z (x : Int × Int × Int) : D := .agg [.v (.int .i16 x.1), .v (.int .u8 x.2.1), .v (.int .u8 x.2.2)]
def un_Ai216iu8iu8Z : D → Option (Int × Int × Int)
  | .agg [c0, c1, c2] => (un_int .i16 c0).bind fun y0 => (un_int .u8 c1).bind fun y1 => (un_int .u8 c2).bind fun y2 => some (y0, y1, y2)
  | _ => none
theorem un_Ai216iu8iu8Z_ok {d : D} {x : Int × Int × Int} (h : un_Ai216iu8iu8Z d = some x) : d = enc_Ai216iu8iu8Z x := by
  unfold un_Ai216iu8iu8Z at h
  split at h
  case h_2 => cases h
  obtain ⟨y0, h0, h⟩ := bnd_of h
  obtain ⟨y1, h1, h⟩ := bnd_of h
  obtain ⟨y2, h2, h⟩ := bnd_of h
  cases h
  have e0 := un_int_ok h0
  have e1 := un_int_ok h1
  have e2 := un_int_ok h2
  rw [e0, e1, e2]; rfl
def F_law03_DriveSeen_L1 (n : Nat) (a0 : Int) (a1 : Int) (a2 : List D) (sa : (Int × List D)) : Option (((Int × List D)) ⊕ ((List D))) :=
  if sa.1 < ((a2).length : Int) then
    (el un_Ai216iu8iu8Z a2 sa.1).bind fun ta2 =>
    if inI64 ((Int.tmod (IntKind.wrap .i64 a0) 101) * (Int.tmod (IntKind.wrap .i64 ta2.1) 501)) then
    if inI64 ((Int.tmod (IntKind.wrap .i64 a1) 10001) + ((Int.tmod (IntKind.wrap .i64 a0) 101) * (Int.tmod (IntKind.wrap .i64 ta2.1) 501))) then
    if inI64 (((Int.tmod (IntKind.wrap .i64 a1) 10001) + ((Int.tmod (IntKind.wrap .i64 a0) 101) * (Int.tmod (IntKind.wrap .i64 ta2.1) 501))) - (Int.tmod (IntKind.wrap .i64 ta2.2.1) 128)) then
    if inI64 (((Int.tmod (IntKind.wrap .i64 a1) 10001) + ((Int.tmod (IntKind.wrap .i64 a0) 101) * (Int.tmod (IntKind.wrap .i64 ta2.1) 501))) + (Int.tmod (IntKind.wrap .i64 ta2.2.2) 128)) then
    if roomP 24 ((sa.2).length + 1) then
    if inI64 (sa.1 + 1) then
    some (.inl ((sa.1 + 1), (sa.2 ++ ([.agg [I (Int.tmod (IntKind.wrap .i64 ta2.1) 501), I (((Int.tmod (IntKind.wrap .i64 a1) 10001) + ((Int.tmod (IntKind.wrap .i64 a0) 101) * (Int.tmod (IntKind.wrap .i64 ta2.1) 501))) - (Int.tmod (IntKind.wrap .i64 ta2.2.1) 128)), I (((Int.tmod (IntKind.wrap .i64 a1) 10001) + ((Int.tmod (IntKind.wrap .i64 a0) 101) * (Int.tmod (IntKind.wrap .i64 ta2.1) 501))) + (Int.tmod (IntKind.wrap .i64 ta2.2.2) 128))]] : List D))))
    else none
    else none
    else none
    else none
    else none
    else none
  else
  some (.inr sa.2)
noncomputable def T_law03_DriveSeen_L1 (a0 : Int) (a1 : Int) (a2 : List D) (sa : (Int × List D)) : List (Nat × AV) := [(7, .d (I (Int.tmod (IntKind.wrap .i64 a0) 101))), (8, .d (I (Int.tmod (IntKind.wrap .i64 a1) 10001))), (9, .own 21 0), (55, .d (.lst false 3 a2)), (56, .d (I ((a2).length : Int))), (57, .d (I sa.1))]
noncomputable def H_law03_DriveSeen_L1 (a0 : Int) (a1 : Int) (a2 : List D) (sa : (Int × List D)) : List (Nat × Blk) := [(21, .row 0 3 sa.2)]
noncomputable def X_law03_DriveSeen_L1 (a0 : Int) (a1 : Int) (a2 : List D) (e : (List D)) : Ex := (.exit 0)
noncomputable def XT_law03_DriveSeen_L1 (a0 : Int) (a1 : Int) (a2 : List D) (e : (List D)) : List (Nat × AV) := [(7, .d (I (Int.tmod (IntKind.wrap .i64 a0) 101))), (8, .d (I (Int.tmod (IntKind.wrap .i64 a1) 10001))), (9, .own 21 0)]
noncomputable def XH_law03_DriveSeen_L1 (a0 : Int) (a1 : Int) (a2 : List D) (e : (List D)) : List (Nat × Blk) := [(21, .row 0 3 e)]
theorem R_law03_DriveSeen_L1 {n : Nat} {a0 : Int} {a1 : Int} {a2 : List D} (sa : (Int × List D)) (r) (h : F_law03_DriveSeen_L1 n a0 a1 a2 sa = some r) : Rd cx (loopAt cx.P 14 0) 290 0 false (T_law03_DriveSeen_L1 a0 a1 a2) (H_law03_DriveSeen_L1 a0 a1 a2) (X_law03_DriveSeen_L1 a0 a1 a2) (XT_law03_DriveSeen_L1 a0 a1 a2) (XH_law03_DriveSeen_L1 a0 a1 a2) sa r := by
  unfold F_law03_DriveSeen_L1 at h
  by_cases ha1 : sa.1 < ((a2).length : Int)
  · replace h := ite_t h ha1
    obtain ⟨ta2, ha2, h⟩ := bnd_of h
    obtain ⟨ha3, h⟩ := grd_of h
    obtain ⟨ha4, h⟩ := grd_of h
    obtain ⟨ha5, h⟩ := grd_of h
    obtain ⟨ha6, h⟩ := grd_of h
    obtain ⟨ha7, h⟩ := grd_of h
    obtain ⟨ha8, h⟩ := grd_of h
    replace h := Option.some.inj h
    subst h
    exact ⟨100, 22, [.br true, .el (.agg [.v (.int .i16 ta2.1), .v (.int .u8 ta2.2.1), .v (.int .u8 ta2.2.2)]), .br true], [], [7, 8, 9, 55, 56, 57], [21], round_of (ob := [inI64 (sa.1 + 1), room cx 76 ((sa.2).length + 1), inI64 (((Int.tmod (IntKind.wrap .i64 a1) 10001) + ((Int.tmod (IntKind.wrap .i64 a0) 101) * (Int.tmod (IntKind.wrap .i64 ta2.1) 501))) + (Int.tmod (IntKind.wrap .i64 ta2.2.2) 128)), (128 : Int) ≠ 0, inI64 (((Int.tmod (IntKind.wrap .i64 a1) 10001) + ((Int.tmod (IntKind.wrap .i64 a0) 101) * (Int.tmod (IntKind.wrap .i64 ta2.1) 501))) - (Int.tmod (IntKind.wrap .i64 ta2.2.1) 128)), (128 : Int) ≠ 0, inI64 ((Int.tmod (IntKind.wrap .i64 a1) 10001) + ((Int.tmod (IntKind.wrap .i64 a0) 101) * (Int.tmod (IntKind.wrap .i64 ta2.1) 501))), inI64 ((Int.tmod (IntKind.wrap .i64 a0) 101) * (Int.tmod (IntKind.wrap .i64 ta2.1) 501)), (501 : Int) ≠ 0, (0 : Int) ≤ sa.1, nth (a2) (Int.toNat sa.1) = some (.agg [.v (.int .i16 ta2.1), .v (.int .u8 ta2.2.1), .v (.int .u8 ta2.2.2)]), (decide (sa.1 < ((a2).length : Int))) = true]) (by kernel_rfl) ⟨ha8, (room_of (b := 24) (by kernel_rfl) (by decide) ha7), ha6, (by decide), ha5, (by decide), ha4, ha3, (by decide), (el_ok un_Ai216iu8iu8Z_ok ha2).1, (el_ok un_Ai216iu8iu8Z_ok ha2).2, (decide_eq_true ha1), trivial⟩⟩
  · replace h := ite_f h ha1
    replace h := Option.some.inj h
    subst h
    exact ⟨⟨100, 22, [.br false], [], [7, 8, 9], [21], round_of (ob := [(decide (sa.1 < ((a2).length : Int))) = false]) (by kernel_rfl) ⟨(decide_eq_false ha1), trivial⟩⟩, nofun⟩
def F_law03_DriveSeen_L6 (n : Nat) (t3 : List D) (t14 : List D × Int) (sa : Int) (ta2 : Int × Int × Int) (sb : (Bool × Int)) : Option (((Bool × Int)) ⊕ ((Bool))) :=
  if sb.2 < ((t3).length : Int) then
    (el un_Ai3Z t3 sb.2).bind fun tb2 =>
    if inI64 (ta2.1 * tb2.1) then
    if inI64 ((ta2.2.1 - 1) + (ta2.1 * tb2.1)) then
    if sb.1 = true then
      if ((ta2.2.1 - 1) + (ta2.1 * tb2.1)) ≥ tb2.2.1 then
        if inI64 (sb.2 + 1) then
        some (.inl ((decide (((ta2.2.1 - 1) + (ta2.1 * tb2.1)) ≤ tb2.2.2)), (sb.2 + 1)))
        else none
      else
      if inI64 (sb.2 + 1) then
      some (.inl (false, (sb.2 + 1)))
      else none
    else
    if inI64 (sb.2 + 1) then
    some (.inl (false, (sb.2 + 1)))
    else none
    else none
    else none
  else
  some (.inr sb.1)
noncomputable def T_law03_DriveSeen_L6 (t3 : List D) (t14 : List D × Int) (sa : Int) (ta2 : Int × Int × Int) (sb : (Bool × Int)) : List (Nat × AV) := [(9, .own 21 0), (18, .d (.lst false 3 t14.1)), (31, .ptr 211 0 0 0 0), (32, .d (I 0)), (33, .d (I (ta2.2.1 - 1))), (34, .d (B sb.1)), (206, .d (.lst false 3 t14.1)), (207, .d (I ((t14.1).length : Int))), (208, .d (I sa)), (226, .d (.agg [I (ta2.2.1 - 1), I ta2.2.1, I ta2.2.2, I (ta2.2.2 + 1)])), (227, .d (I 0)), (231, .own 21 0), (232, .d (I ((t3).length : Int))), (233, .d (I sb.2))]
noncomputable def H_law03_DriveSeen_L6 (t3 : List D) (t14 : List D × Int) (sa : Int) (ta2 : Int × Int × Int) (sb : (Bool × Int)) : List (Nat × Blk) := [(21, .frozen 0 3 t3), (211, .box (.d (.agg [I ta2.1, I ta2.2.1, I ta2.2.2])))]
noncomputable def X_law03_DriveSeen_L6 (t3 : List D) (t14 : List D × Int) (sa : Int) (ta2 : Int × Int × Int) (e : (Bool)) : Ex := (.exit 6)
noncomputable def XT_law03_DriveSeen_L6 (t3 : List D) (t14 : List D × Int) (sa : Int) (ta2 : Int × Int × Int) (e : (Bool)) : List (Nat × AV) := [(9, .own 21 0), (18, .d (.lst false 3 t14.1)), (31, .ptr 211 0 0 0 0), (32, .d (I 0)), (34, .d (B e)), (206, .d (.lst false 3 t14.1)), (207, .d (I ((t14.1).length : Int))), (208, .d (I sa)), (226, .d (.agg [I (ta2.2.1 - 1), I ta2.2.1, I ta2.2.2, I (ta2.2.2 + 1)])), (227, .d (I 0))]
noncomputable def XH_law03_DriveSeen_L6 (t3 : List D) (t14 : List D × Int) (sa : Int) (ta2 : Int × Int × Int) (e : (Bool)) : List (Nat × Blk) := [(21, .frozen 0 3 t3), (211, .box (.d (.agg [I ta2.1, I ta2.2.1, I ta2.2.2])))]
theorem R_law03_DriveSeen_L6 {n : Nat} {t3 : List D} {t14 : List D × Int} {sa : Int} {ta2 : Int × Int × Int} (sb : (Bool × Int)) (r) (h : F_law03_DriveSeen_L6 n t3 t14 sa ta2 sb = some r) : Rd cx (loopAt cx.P 14 3) 290 0 false (T_law03_DriveSeen_L6 t3 t14 sa ta2) (H_law03_DriveSeen_L6 t3 t14 sa ta2) (X_law03_DriveSeen_L6 t3 t14 sa ta2) (XT_law03_DriveSeen_L6 t3 t14 sa ta2) (XH_law03_DriveSeen_L6 t3 t14 sa ta2) sb r := by
  unfold F_law03_DriveSeen_L6 at h
  by_cases hb1 : sb.2 < ((t3).length : Int)
  · replace h := ite_t h hb1
    obtain ⟨tb2, hb2, h⟩ := bnd_of h
    obtain ⟨hb3, h⟩ := grd_of h
    obtain ⟨hb4, h⟩ := grd_of h
    by_cases hb5 : sb.1 = true
    · replace h := ite_t h hb5
      by_cases hb6 : ((ta2.2.1 - 1) + (ta2.1 * tb2.1)) ≥ tb2.2.1
      · replace h := ite_t h hb6
        obtain ⟨hb7, h⟩ := grd_of h
        replace h := Option.some.inj h
        subst h
        exact ⟨100, 238, [.br true, .el (.agg [I tb2.1, I tb2.2.1, I tb2.2.2]), .br true, .br true], [], [9, 18, 31, 32, 33, 34, 206, 207, 208, 226, 227, 231, 232, 233], [21, 211], round_of (ob := [inI64 (sb.2 + 1), (decide (((ta2.2.1 - 1) + (ta2.1 * tb2.1)) ≥ tb2.2.1)) = true, sb.1 = true, inI64 ((ta2.2.1 - 1) + (ta2.1 * tb2.1)), inI64 (ta2.1 * tb2.1), (0 : Int) ≤ sb.2, nth (t3) (Int.toNat sb.2) = some (.agg [I tb2.1, I tb2.2.1, I tb2.2.2]), (decide (sb.2 < ((t3).length : Int))) = true]) (by kernel_rfl) ⟨hb7, (decide_eq_true hb6), hb5, hb4, hb3, (el_ok un_Ai3Z_ok hb2).1, (el_ok un_Ai3Z_ok hb2).2, (decide_eq_true hb1), trivial⟩⟩
      · replace h := ite_f h hb6
        obtain ⟨hb7, h⟩ := grd_of h
        replace h := Option.some.inj h
        subst h
        exact ⟨100, 238, [.br true, .el (.agg [I tb2.1, I tb2.2.1, I tb2.2.2]), .br true, .br false], [], [9, 18, 31, 32, 33, 34, 206, 207, 208, 226, 227, 231, 232, 233], [21, 211], round_of (ob := [inI64 (sb.2 + 1), (decide (((ta2.2.1 - 1) + (ta2.1 * tb2.1)) ≥ tb2.2.1)) = false, sb.1 = true, inI64 ((ta2.2.1 - 1) + (ta2.1 * tb2.1)), inI64 (ta2.1 * tb2.1), (0 : Int) ≤ sb.2, nth (t3) (Int.toNat sb.2) = some (.agg [I tb2.1, I tb2.2.1, I tb2.2.2]), (decide (sb.2 < ((t3).length : Int))) = true]) (by kernel_rfl) ⟨hb7, (decide_eq_false hb6), hb5, hb4, hb3, (el_ok un_Ai3Z_ok hb2).1, (el_ok un_Ai3Z_ok hb2).2, (decide_eq_true hb1), trivial⟩⟩
    · replace h := ite_f h hb5
      obtain ⟨hb6, h⟩ := grd_of h
      replace h := Option.some.inj h
      subst h
      exact ⟨100, 238, [.br true, .el (.agg [I tb2.1, I tb2.2.1, I tb2.2.2]), .br false, .no], [], [9, 18, 31, 32, 33, 34, 206, 207, 208, 226, 227, 231, 232, 233], [21, 211], round_of (ob := [inI64 (sb.2 + 1), sb.1 = false, inI64 ((ta2.2.1 - 1) + (ta2.1 * tb2.1)), inI64 (ta2.1 * tb2.1), (0 : Int) ≤ sb.2, nth (t3) (Int.toNat sb.2) = some (.agg [I tb2.1, I tb2.2.1, I tb2.2.2]), (decide (sb.2 < ((t3).length : Int))) = true]) (by kernel_rfl) ⟨hb6, (bfalse hb5), hb4, hb3, (el_ok un_Ai3Z_ok hb2).1, (el_ok un_Ai3Z_ok hb2).2, (decide_eq_true hb1), trivial⟩⟩
  · replace h := ite_f h hb1
    replace h := Option.some.inj h
    subst h
    exact ⟨⟨100, 238, [.br false], [], [9, 18, 31, 32, 34, 206, 207, 208, 226, 227], [21, 211], round_of (ob := [(decide (sb.2 < ((t3).length : Int))) = false]) (by kernel_rfl) ⟨(decide_eq_false hb1), trivial⟩⟩, nofun⟩
def F_law03_DriveSeen_L7 (n : Nat) (t3 : List D) (t14 : List D × Int) (sa : Int) (ta2 : Int × Int × Int) (sb : (Bool × Int)) : Option (((Bool × Int)) ⊕ ((Bool))) :=
  if sb.2 < ((t3).length : Int) then
    (el un_Ai3Z t3 sb.2).bind fun tb2 =>
    if inI64 (ta2.1 * tb2.1) then
    if inI64 (ta2.2.1 + (ta2.1 * tb2.1)) then
    if sb.1 = true then
      if (ta2.2.1 + (ta2.1 * tb2.1)) ≥ tb2.2.1 then
        if inI64 (sb.2 + 1) then
        some (.inl ((decide ((ta2.2.1 + (ta2.1 * tb2.1)) ≤ tb2.2.2)), (sb.2 + 1)))
        else none
      else
      if inI64 (sb.2 + 1) then
      some (.inl (false, (sb.2 + 1)))
      else none
    else
    if inI64 (sb.2 + 1) then
    some (.inl (false, (sb.2 + 1)))
    else none
    else none
    else none
  else
  some (.inr sb.1)
noncomputable def T_law03_DriveSeen_L7 (t3 : List D) (t14 : List D × Int) (sa : Int) (ta2 : Int × Int × Int) (sb : (Bool × Int)) : List (Nat × AV) := [(9, .own 21 0), (18, .d (.lst false 3 t14.1)), (31, .ptr 211 0 0 0 0), (32, .d (I 1)), (33, .d (I ta2.2.1)), (34, .d (B sb.1)), (206, .d (.lst false 3 t14.1)), (207, .d (I ((t14.1).length : Int))), (208, .d (I sa)), (226, .d (.agg [I (ta2.2.1 - 1), I ta2.2.1, I ta2.2.2, I (ta2.2.2 + 1)])), (227, .d (I 1)), (231, .own 21 0), (232, .d (I ((t3).length : Int))), (233, .d (I sb.2))]
noncomputable def H_law03_DriveSeen_L7 (t3 : List D) (t14 : List D × Int) (sa : Int) (ta2 : Int × Int × Int) (sb : (Bool × Int)) : List (Nat × Blk) := [(21, .frozen 0 3 t3), (211, .box (.d (.agg [I ta2.1, I ta2.2.1, I ta2.2.2])))]
noncomputable def X_law03_DriveSeen_L7 (t3 : List D) (t14 : List D × Int) (sa : Int) (ta2 : Int × Int × Int) (e : (Bool)) : Ex := (.exit 6)
noncomputable def XT_law03_DriveSeen_L7 (t3 : List D) (t14 : List D × Int) (sa : Int) (ta2 : Int × Int × Int) (e : (Bool)) : List (Nat × AV) := [(9, .own 21 0), (18, .d (.lst false 3 t14.1)), (31, .ptr 211 0 0 0 0), (32, .d (I 1)), (34, .d (B e)), (206, .d (.lst false 3 t14.1)), (207, .d (I ((t14.1).length : Int))), (208, .d (I sa)), (226, .d (.agg [I (ta2.2.1 - 1), I ta2.2.1, I ta2.2.2, I (ta2.2.2 + 1)])), (227, .d (I 1))]
noncomputable def XH_law03_DriveSeen_L7 (t3 : List D) (t14 : List D × Int) (sa : Int) (ta2 : Int × Int × Int) (e : (Bool)) : List (Nat × Blk) := [(21, .frozen 0 3 t3), (211, .box (.d (.agg [I ta2.1, I ta2.2.1, I ta2.2.2])))]
theorem R_law03_DriveSeen_L7 {n : Nat} {t3 : List D} {t14 : List D × Int} {sa : Int} {ta2 : Int × Int × Int} (sb : (Bool × Int)) (r) (h : F_law03_DriveSeen_L7 n t3 t14 sa ta2 sb = some r) : Rd cx (loopAt cx.P 14 3) 290 0 false (T_law03_DriveSeen_L7 t3 t14 sa ta2) (H_law03_DriveSeen_L7 t3 t14 sa ta2) (X_law03_DriveSeen_L7 t3 t14 sa ta2) (XT_law03_DriveSeen_L7 t3 t14 sa ta2) (XH_law03_DriveSeen_L7 t3 t14 sa ta2) sb r := by
  unfold F_law03_DriveSeen_L7 at h
  by_cases hb1 : sb.2 < ((t3).length : Int)
  · replace h := ite_t h hb1
    obtain ⟨tb2, hb2, h⟩ := bnd_of h
    obtain ⟨hb3, h⟩ := grd_of h
    obtain ⟨hb4, h⟩ := grd_of h
    by_cases hb5 : sb.1 = true
    · replace h := ite_t h hb5
      by_cases hb6 : (ta2.2.1 + (ta2.1 * tb2.1)) ≥ tb2.2.1
      · replace h := ite_t h hb6
        obtain ⟨hb7, h⟩ := grd_of h
        replace h := Option.some.inj h
        subst h
        exact ⟨100, 299, [.br true, .el (.agg [I tb2.1, I tb2.2.1, I tb2.2.2]), .br true, .br true], [], [9, 18, 31, 32, 33, 34, 206, 207, 208, 226, 227, 231, 232, 233], [21, 211], round_of (ob := [inI64 (sb.2 + 1), (decide ((ta2.2.1 + (ta2.1 * tb2.1)) ≥ tb2.2.1)) = true, sb.1 = true, inI64 (ta2.2.1 + (ta2.1 * tb2.1)), inI64 (ta2.1 * tb2.1), (0 : Int) ≤ sb.2, nth (t3) (Int.toNat sb.2) = some (.agg [I tb2.1, I tb2.2.1, I tb2.2.2]), (decide (sb.2 < ((t3).length : Int))) = true]) (by kernel_rfl) ⟨hb7, (decide_eq_true hb6), hb5, hb4, hb3, (el_ok un_Ai3Z_ok hb2).1, (el_ok un_Ai3Z_ok hb2).2, (decide_eq_true hb1), trivial⟩⟩
      · replace h := ite_f h hb6
        obtain ⟨hb7, h⟩ := grd_of h
        replace h := Option.some.inj h
        subst h
        exact ⟨100, 299, [.br true, .el (.agg [I tb2.1, I tb2.2.1, I tb2.2.2]), .br true, .br false], [], [9, 18, 31, 32, 33, 34, 206, 207, 208, 226, 227, 231, 232, 233], [21, 211], round_of (ob := [inI64 (sb.2 + 1), (decide ((ta2.2.1 + (ta2.1 * tb2.1)) ≥ tb2.2.1)) = false, sb.1 = true, inI64 (ta2.2.1 + (ta2.1 * tb2.1)), inI64 (ta2.1 * tb2.1), (0 : Int) ≤ sb.2, nth (t3) (Int.toNat sb.2) = some (.agg [I tb2.1, I tb2.2.1, I tb2.2.2]), (decide (sb.2 < ((t3).length : Int))) = true]) (by kernel_rfl) ⟨hb7, (decide_eq_false hb6), hb5, hb4, hb3, (el_ok un_Ai3Z_ok hb2).1, (el_ok un_Ai3Z_ok hb2).2, (decide_eq_true hb1), trivial⟩⟩
    · replace h := ite_f h hb5
      obtain ⟨hb6, h⟩ := grd_of h
      replace h := Option.some.inj h
      subst h
      exact ⟨100, 299, [.br true, .el (.agg [I tb2.1, I tb2.2.1, I tb2.2.2]), .br false, .no], [], [9, 18, 31, 32, 33, 34, 206, 207, 208, 226, 227, 231, 232, 233], [21, 211], round_of (ob := [inI64 (sb.2 + 1), sb.1 = false, inI64 (ta2.2.1 + (ta2.1 * tb2.1)), inI64 (ta2.1 * tb2.1), (0 : Int) ≤ sb.2, nth (t3) (Int.toNat sb.2) = some (.agg [I tb2.1, I tb2.2.1, I tb2.2.2]), (decide (sb.2 < ((t3).length : Int))) = true]) (by kernel_rfl) ⟨hb6, (bfalse hb5), hb4, hb3, (el_ok un_Ai3Z_ok hb2).1, (el_ok un_Ai3Z_ok hb2).2, (decide_eq_true hb1), trivial⟩⟩
  · replace h := ite_f h hb1
    replace h := Option.some.inj h
    subst h
    exact ⟨⟨100, 299, [.br false], [], [9, 18, 31, 32, 34, 206, 207, 208, 226, 227], [21, 211], round_of (ob := [(decide (sb.2 < ((t3).length : Int))) = false]) (by kernel_rfl) ⟨(decide_eq_false hb1), trivial⟩⟩, nofun⟩
def F_law03_DriveSeen_L8 (n : Nat) (t3 : List D) (t14 : List D × Int) (sa : Int) (ta2 : Int × Int × Int) (sb : (Bool × Int)) : Option (((Bool × Int)) ⊕ ((Bool))) :=
  if sb.2 < ((t3).length : Int) then
    (el un_Ai3Z t3 sb.2).bind fun tb2 =>
    if inI64 (ta2.1 * tb2.1) then
    if inI64 (ta2.2.2 + (ta2.1 * tb2.1)) then
    if sb.1 = true then
      if (ta2.2.2 + (ta2.1 * tb2.1)) ≥ tb2.2.1 then
        if inI64 (sb.2 + 1) then
        some (.inl ((decide ((ta2.2.2 + (ta2.1 * tb2.1)) ≤ tb2.2.2)), (sb.2 + 1)))
        else none
      else
      if inI64 (sb.2 + 1) then
      some (.inl (false, (sb.2 + 1)))
      else none
    else
    if inI64 (sb.2 + 1) then
    some (.inl (false, (sb.2 + 1)))
    else none
    else none
    else none
  else
  some (.inr sb.1)
noncomputable def T_law03_DriveSeen_L8 (t3 : List D) (t14 : List D × Int) (sa : Int) (ta2 : Int × Int × Int) (sb : (Bool × Int)) : List (Nat × AV) := [(9, .own 21 0), (18, .d (.lst false 3 t14.1)), (31, .ptr 211 0 0 0 0), (32, .d (I 2)), (33, .d (I ta2.2.2)), (34, .d (B sb.1)), (206, .d (.lst false 3 t14.1)), (207, .d (I ((t14.1).length : Int))), (208, .d (I sa)), (226, .d (.agg [I (ta2.2.1 - 1), I ta2.2.1, I ta2.2.2, I (ta2.2.2 + 1)])), (227, .d (I 2)), (231, .own 21 0), (232, .d (I ((t3).length : Int))), (233, .d (I sb.2))]
noncomputable def H_law03_DriveSeen_L8 (t3 : List D) (t14 : List D × Int) (sa : Int) (ta2 : Int × Int × Int) (sb : (Bool × Int)) : List (Nat × Blk) := [(21, .frozen 0 3 t3), (211, .box (.d (.agg [I ta2.1, I ta2.2.1, I ta2.2.2])))]
noncomputable def X_law03_DriveSeen_L8 (t3 : List D) (t14 : List D × Int) (sa : Int) (ta2 : Int × Int × Int) (e : (Bool)) : Ex := (.exit 6)
noncomputable def XT_law03_DriveSeen_L8 (t3 : List D) (t14 : List D × Int) (sa : Int) (ta2 : Int × Int × Int) (e : (Bool)) : List (Nat × AV) := [(9, .own 21 0), (18, .d (.lst false 3 t14.1)), (31, .ptr 211 0 0 0 0), (32, .d (I 2)), (34, .d (B e)), (206, .d (.lst false 3 t14.1)), (207, .d (I ((t14.1).length : Int))), (208, .d (I sa)), (226, .d (.agg [I (ta2.2.1 - 1), I ta2.2.1, I ta2.2.2, I (ta2.2.2 + 1)])), (227, .d (I 2))]
noncomputable def XH_law03_DriveSeen_L8 (t3 : List D) (t14 : List D × Int) (sa : Int) (ta2 : Int × Int × Int) (e : (Bool)) : List (Nat × Blk) := [(21, .frozen 0 3 t3), (211, .box (.d (.agg [I ta2.1, I ta2.2.1, I ta2.2.2])))]
theorem R_law03_DriveSeen_L8 {n : Nat} {t3 : List D} {t14 : List D × Int} {sa : Int} {ta2 : Int × Int × Int} (sb : (Bool × Int)) (r) (h : F_law03_DriveSeen_L8 n t3 t14 sa ta2 sb = some r) : Rd cx (loopAt cx.P 14 3) 290 0 false (T_law03_DriveSeen_L8 t3 t14 sa ta2) (H_law03_DriveSeen_L8 t3 t14 sa ta2) (X_law03_DriveSeen_L8 t3 t14 sa ta2) (XT_law03_DriveSeen_L8 t3 t14 sa ta2) (XH_law03_DriveSeen_L8 t3 t14 sa ta2) sb r := by
  unfold F_law03_DriveSeen_L8 at h
  by_cases hb1 : sb.2 < ((t3).length : Int)
  · replace h := ite_t h hb1
    obtain ⟨tb2, hb2, h⟩ := bnd_of h
    obtain ⟨hb3, h⟩ := grd_of h
    obtain ⟨hb4, h⟩ := grd_of h
    by_cases hb5 : sb.1 = true
    · replace h := ite_t h hb5
      by_cases hb6 : (ta2.2.2 + (ta2.1 * tb2.1)) ≥ tb2.2.1
      · replace h := ite_t h hb6
        obtain ⟨hb7, h⟩ := grd_of h
        replace h := Option.some.inj h
        subst h
        exact ⟨100, 360, [.br true, .el (.agg [I tb2.1, I tb2.2.1, I tb2.2.2]), .br true, .br true], [], [9, 18, 31, 32, 33, 34, 206, 207, 208, 226, 227, 231, 232, 233], [21, 211], round_of (ob := [inI64 (sb.2 + 1), (decide ((ta2.2.2 + (ta2.1 * tb2.1)) ≥ tb2.2.1)) = true, sb.1 = true, inI64 (ta2.2.2 + (ta2.1 * tb2.1)), inI64 (ta2.1 * tb2.1), (0 : Int) ≤ sb.2, nth (t3) (Int.toNat sb.2) = some (.agg [I tb2.1, I tb2.2.1, I tb2.2.2]), (decide (sb.2 < ((t3).length : Int))) = true]) (by kernel_rfl) ⟨hb7, (decide_eq_true hb6), hb5, hb4, hb3, (el_ok un_Ai3Z_ok hb2).1, (el_ok un_Ai3Z_ok hb2).2, (decide_eq_true hb1), trivial⟩⟩
      · replace h := ite_f h hb6
        obtain ⟨hb7, h⟩ := grd_of h
        replace h := Option.some.inj h
        subst h
        exact ⟨100, 360, [.br true, .el (.agg [I tb2.1, I tb2.2.1, I tb2.2.2]), .br true, .br false], [], [9, 18, 31, 32, 33, 34, 206, 207, 208, 226, 227, 231, 232, 233], [21, 211], round_of (ob := [inI64 (sb.2 + 1), (decide ((ta2.2.2 + (ta2.1 * tb2.1)) ≥ tb2.2.1)) = false, sb.1 = true, inI64 (ta2.2.2 + (ta2.1 * tb2.1)), inI64 (ta2.1 * tb2.1), (0 : Int) ≤ sb.2, nth (t3) (Int.toNat sb.2) = some (.agg [I tb2.1, I tb2.2.1, I tb2.2.2]), (decide (sb.2 < ((t3).length : Int))) = true]) (by kernel_rfl) ⟨hb7, (decide_eq_false hb6), hb5, hb4, hb3, (el_ok un_Ai3Z_ok hb2).1, (el_ok un_Ai3Z_ok hb2).2, (decide_eq_true hb1), trivial⟩⟩
    · replace h := ite_f h hb5
      obtain ⟨hb6, h⟩ := grd_of h
      replace h := Option.some.inj h
      subst h
      exact ⟨100, 360, [.br true, .el (.agg [I tb2.1, I tb2.2.1, I tb2.2.2]), .br false, .no], [], [9, 18, 31, 32, 33, 34, 206, 207, 208, 226, 227, 231, 232, 233], [21, 211], round_of (ob := [inI64 (sb.2 + 1), sb.1 = false, inI64 (ta2.2.2 + (ta2.1 * tb2.1)), inI64 (ta2.1 * tb2.1), (0 : Int) ≤ sb.2, nth (t3) (Int.toNat sb.2) = some (.agg [I tb2.1, I tb2.2.1, I tb2.2.2]), (decide (sb.2 < ((t3).length : Int))) = true]) (by kernel_rfl) ⟨hb6, (bfalse hb5), hb4, hb3, (el_ok un_Ai3Z_ok hb2).1, (el_ok un_Ai3Z_ok hb2).2, (decide_eq_true hb1), trivial⟩⟩
  · replace h := ite_f h hb1
    replace h := Option.some.inj h
    subst h
    exact ⟨⟨100, 360, [.br false], [], [9, 18, 31, 32, 34, 206, 207, 208, 226, 227], [21, 211], round_of (ob := [(decide (sb.2 < ((t3).length : Int))) = false]) (by kernel_rfl) ⟨(decide_eq_false hb1), trivial⟩⟩, nofun⟩
def F_law03_DriveSeen_L9 (n : Nat) (t3 : List D) (t14 : List D × Int) (sa : Int) (ta2 : Int × Int × Int) (sb : (Bool × Int)) : Option (((Bool × Int)) ⊕ ((Bool))) :=
  if sb.2 < ((t3).length : Int) then
    (el un_Ai3Z t3 sb.2).bind fun tb2 =>
    if inI64 (ta2.1 * tb2.1) then
    if inI64 ((ta2.2.2 + 1) + (ta2.1 * tb2.1)) then
    if sb.1 = true then
      if ((ta2.2.2 + 1) + (ta2.1 * tb2.1)) ≥ tb2.2.1 then
        if inI64 (sb.2 + 1) then
        some (.inl ((decide (((ta2.2.2 + 1) + (ta2.1 * tb2.1)) ≤ tb2.2.2)), (sb.2 + 1)))
        else none
      else
      if inI64 (sb.2 + 1) then
      some (.inl (false, (sb.2 + 1)))
      else none
    else
    if inI64 (sb.2 + 1) then
    some (.inl (false, (sb.2 + 1)))
    else none
    else none
    else none
  else
  some (.inr sb.1)
noncomputable def T_law03_DriveSeen_L9 (t3 : List D) (t14 : List D × Int) (sa : Int) (ta2 : Int × Int × Int) (sb : (Bool × Int)) : List (Nat × AV) := [(9, .own 21 0), (18, .d (.lst false 3 t14.1)), (31, .ptr 211 0 0 0 0), (32, .d (I 3)), (33, .d (I (ta2.2.2 + 1))), (34, .d (B sb.1)), (206, .d (.lst false 3 t14.1)), (207, .d (I ((t14.1).length : Int))), (208, .d (I sa)), (226, .d (.agg [I (ta2.2.1 - 1), I ta2.2.1, I ta2.2.2, I (ta2.2.2 + 1)])), (227, .d (I 3)), (231, .own 21 0), (232, .d (I ((t3).length : Int))), (233, .d (I sb.2))]
noncomputable def H_law03_DriveSeen_L9 (t3 : List D) (t14 : List D × Int) (sa : Int) (ta2 : Int × Int × Int) (sb : (Bool × Int)) : List (Nat × Blk) := [(21, .frozen 0 3 t3), (211, .box (.d (.agg [I ta2.1, I ta2.2.1, I ta2.2.2])))]
noncomputable def X_law03_DriveSeen_L9 (t3 : List D) (t14 : List D × Int) (sa : Int) (ta2 : Int × Int × Int) (e : (Bool)) : Ex := (.exit 6)
noncomputable def XT_law03_DriveSeen_L9 (t3 : List D) (t14 : List D × Int) (sa : Int) (ta2 : Int × Int × Int) (e : (Bool)) : List (Nat × AV) := [(9, .own 21 0), (18, .d (.lst false 3 t14.1)), (31, .ptr 211 0 0 0 0), (32, .d (I 3)), (34, .d (B e)), (206, .d (.lst false 3 t14.1)), (207, .d (I ((t14.1).length : Int))), (208, .d (I sa)), (226, .d (.agg [I (ta2.2.1 - 1), I ta2.2.1, I ta2.2.2, I (ta2.2.2 + 1)])), (227, .d (I 3))]
noncomputable def XH_law03_DriveSeen_L9 (t3 : List D) (t14 : List D × Int) (sa : Int) (ta2 : Int × Int × Int) (e : (Bool)) : List (Nat × Blk) := [(21, .frozen 0 3 t3), (211, .box (.d (.agg [I ta2.1, I ta2.2.1, I ta2.2.2])))]
theorem R_law03_DriveSeen_L9 {n : Nat} {t3 : List D} {t14 : List D × Int} {sa : Int} {ta2 : Int × Int × Int} (sb : (Bool × Int)) (r) (h : F_law03_DriveSeen_L9 n t3 t14 sa ta2 sb = some r) : Rd cx (loopAt cx.P 14 3) 290 0 false (T_law03_DriveSeen_L9 t3 t14 sa ta2) (H_law03_DriveSeen_L9 t3 t14 sa ta2) (X_law03_DriveSeen_L9 t3 t14 sa ta2) (XT_law03_DriveSeen_L9 t3 t14 sa ta2) (XH_law03_DriveSeen_L9 t3 t14 sa ta2) sb r := by
  unfold F_law03_DriveSeen_L9 at h
  by_cases hb1 : sb.2 < ((t3).length : Int)
  · replace h := ite_t h hb1
    obtain ⟨tb2, hb2, h⟩ := bnd_of h
    obtain ⟨hb3, h⟩ := grd_of h
    obtain ⟨hb4, h⟩ := grd_of h
    by_cases hb5 : sb.1 = true
    · replace h := ite_t h hb5
      by_cases hb6 : ((ta2.2.2 + 1) + (ta2.1 * tb2.1)) ≥ tb2.2.1
      · replace h := ite_t h hb6
        obtain ⟨hb7, h⟩ := grd_of h
        replace h := Option.some.inj h
        subst h
        exact ⟨100, 421, [.br true, .el (.agg [I tb2.1, I tb2.2.1, I tb2.2.2]), .br true, .br true], [], [9, 18, 31, 32, 33, 34, 206, 207, 208, 226, 227, 231, 232, 233], [21, 211], round_of (ob := [inI64 (sb.2 + 1), (decide (((ta2.2.2 + 1) + (ta2.1 * tb2.1)) ≥ tb2.2.1)) = true, sb.1 = true, inI64 ((ta2.2.2 + 1) + (ta2.1 * tb2.1)), inI64 (ta2.1 * tb2.1), (0 : Int) ≤ sb.2, nth (t3) (Int.toNat sb.2) = some (.agg [I tb2.1, I tb2.2.1, I tb2.2.2]), (decide (sb.2 < ((t3).length : Int))) = true]) (by kernel_rfl) ⟨hb7, (decide_eq_true hb6), hb5, hb4, hb3, (el_ok un_Ai3Z_ok hb2).1, (el_ok un_Ai3Z_ok hb2).2, (decide_eq_true hb1), trivial⟩⟩
      · replace h := ite_f h hb6
        obtain ⟨hb7, h⟩ := grd_of h
        replace h := Option.some.inj h
        subst h
        exact ⟨100, 421, [.br true, .el (.agg [I tb2.1, I tb2.2.1, I tb2.2.2]), .br true, .br false], [], [9, 18, 31, 32, 33, 34, 206, 207, 208, 226, 227, 231, 232, 233], [21, 211], round_of (ob := [inI64 (sb.2 + 1), (decide (((ta2.2.2 + 1) + (ta2.1 * tb2.1)) ≥ tb2.2.1)) = false, sb.1 = true, inI64 ((ta2.2.2 + 1) + (ta2.1 * tb2.1)), inI64 (ta2.1 * tb2.1), (0 : Int) ≤ sb.2, nth (t3) (Int.toNat sb.2) = some (.agg [I tb2.1, I tb2.2.1, I tb2.2.2]), (decide (sb.2 < ((t3).length : Int))) = true]) (by kernel_rfl) ⟨hb7, (decide_eq_false hb6), hb5, hb4, hb3, (el_ok un_Ai3Z_ok hb2).1, (el_ok un_Ai3Z_ok hb2).2, (decide_eq_true hb1), trivial⟩⟩
    · replace h := ite_f h hb5
      obtain ⟨hb6, h⟩ := grd_of h
      replace h := Option.some.inj h
      subst h
      exact ⟨100, 421, [.br true, .el (.agg [I tb2.1, I tb2.2.1, I tb2.2.2]), .br false, .no], [], [9, 18, 31, 32, 33, 34, 206, 207, 208, 226, 227, 231, 232, 233], [21, 211], round_of (ob := [inI64 (sb.2 + 1), sb.1 = false, inI64 ((ta2.2.2 + 1) + (ta2.1 * tb2.1)), inI64 (ta2.1 * tb2.1), (0 : Int) ≤ sb.2, nth (t3) (Int.toNat sb.2) = some (.agg [I tb2.1, I tb2.2.1, I tb2.2.2]), (decide (sb.2 < ((t3).length : Int))) = true]) (by kernel_rfl) ⟨hb6, (bfalse hb5), hb4, hb3, (el_ok un_Ai3Z_ok hb2).1, (el_ok un_Ai3Z_ok hb2).2, (decide_eq_true hb1), trivial⟩⟩
  · replace h := ite_f h hb1
    replace h := Option.some.inj h
    subst h
    exact ⟨⟨100, 421, [.br false], [], [9, 18, 31, 32, 34, 206, 207, 208, 226, 227], [21, 211], round_of (ob := [(decide (sb.2 < ((t3).length : Int))) = false]) (by kernel_rfl) ⟨(decide_eq_false hb1), trivial⟩⟩, nofun⟩
def F_law03_DriveSeen_L10 (n : Nat) (t3 : List D) (t14 : List D × Int) (sa : (Int)) : Option (((Int)) ⊕ ((Unit) ⊕ (Unit))) :=
  if sa < ((t14.1).length : Int) then
    (el un_Ai3Z t14.1 sa).bind fun ta2 =>
    if inI64 (ta2.2.1 - 1) then
    if inI64 (ta2.2.2 + 1) then
    (loopF (F_law03_DriveSeen_L6 n t3 t14 sa ta2) n (true, 0)).bind fun ta5 =>
    if (!(ta5 == false)) = true then
      some (.inr (.inl ()))
    else
    (loopF (F_law03_DriveSeen_L7 n t3 t14 sa ta2) n (true, 0)).bind fun ta7 =>
    if (!(ta7 == true)) = true then
      some (.inr (.inl ()))
    else
    (loopF (F_law03_DriveSeen_L8 n t3 t14 sa ta2) n (true, 0)).bind fun ta9 =>
    if (!(ta9 == true)) = true then
      some (.inr (.inl ()))
    else
    (loopF (F_law03_DriveSeen_L9 n t3 t14 sa ta2) n (true, 0)).bind fun ta11 =>
    if (!(ta11 == false)) = true then
      some (.inr (.inl ()))
    else
    if inI64 (sa + 1) then
    some (.inl (sa + 1))
    else none
    else none
    else none
  else
  some (.inr (.inr ()))
noncomputable def T_law03_DriveSeen_L10 (t3 : List D) (t14 : List D × Int) (sa : (Int)) : List (Nat × AV) := [(9, .own 21 0), (18, .d (.lst false 3 t14.1)), (206, .d (.lst false 3 t14.1)), (207, .d (I ((t14.1).length : Int))), (208, .d (I sa))]
noncomputable def H_law03_DriveSeen_L10 (t3 : List D) (t14 : List D × Int) (sa : (Int)) : List (Nat × Blk) := [(21, .frozen 0 3 t3)]
noncomputable def X_law03_DriveSeen_L10 (t3 : List D) (t14 : List D × Int) (e : (Unit) ⊕ (Unit)) : Ex := match e with
  | (.inl e) => .ret
  | (.inr e) => (.exit 2)
noncomputable def XT_law03_DriveSeen_L10 (t3 : List D) (t14 : List D × Int) (e : (Unit) ⊕ (Unit)) : List (Nat × AV) := match e with
  | (.inl e) => [(6, .d (B false))]
  | (.inr e) => [(18, .d (.lst false 3 t14.1))]
noncomputable def XH_law03_DriveSeen_L10 (t3 : List D) (t14 : List D × Int) (e : (Unit) ⊕ (Unit)) : List (Nat × Blk) := match e with
  | (.inl e) => []
  | (.inr e) => []
theorem R_law03_DriveSeen_L10 {n : Nat} {t3 : List D} {t14 : List D × Int} (sa : (Int)) (r) (h : F_law03_DriveSeen_L10 n t3 t14 sa = some r) : Rd cx (loopAt cx.P 14 1) 290 0 false (T_law03_DriveSeen_L10 t3 t14) (H_law03_DriveSeen_L10 t3 t14) (X_law03_DriveSeen_L10 t3 t14) (XT_law03_DriveSeen_L10 t3 t14) (XH_law03_DriveSeen_L10 t3 t14) sa r := by
  unfold F_law03_DriveSeen_L10 at h
  by_cases ha1 : sa < ((t14.1).length : Int)
  · replace h := ite_t h ha1
    obtain ⟨ta2, ha2, h⟩ := bnd_of h
    obtain ⟨ha3, h⟩ := grd_of h
    obtain ⟨ha4, h⟩ := grd_of h
    obtain ⟨ta5, ha5, h⟩ := bnd_of h
    by_cases ha6 : (!(ta5 == false)) = true
    · replace h := ite_t h ha6
      replace h := Option.some.inj h
      subst h
      exact ⟨⟨100, 208, [.br true, .el (.agg [I ta2.1, I ta2.2.1, I ta2.2.2]), .no, .no, .lp [] [9, 18, 31, 32, 33, 34, 206, 207, 208, 226, 227, 231, 232, 233] [21, 211] (.exit 6) [(9, .own 21 0), (18, .d (.lst false 3 t14.1)), (31, .ptr 211 0 0 0 0), (32, .d (I 0)), (34, .d (B ta5)), (206, .d (.lst false 3 t14.1)), (207, .d (I ((t14.1).length : Int))), (208, .d (I sa)), (226, .d (.agg [I (ta2.2.1 - 1), I ta2.2.1, I ta2.2.2, I (ta2.2.2 + 1)])), (227, .d (I 0))] [(21, .frozen 0 3 t3), (211, .box (.d (.agg [I ta2.1, I ta2.2.1, I ta2.2.2])))] 280, .no, .br true], [], [6], [], round_of (ob := [(!(ta5 == false)) = true, LoopN cx (loopAt cx.P 14 3) 290 0 false [(9, .own 21 0), (18, .d (.lst false 3 t14.1)), (31, .ptr 211 0 0 0 0), (32, .d (I 0)), (33, .d (I (ta2.2.1 - 1))), (34, .d (B true)), (206, .d (.lst false 3 t14.1)), (207, .d (I ((t14.1).length : Int))), (208, .d (I sa)), (226, .d (.agg [I (ta2.2.1 - 1), I ta2.2.1, I ta2.2.2, I (ta2.2.2 + 1)])), (227, .d (I 0)), (231, .own 21 0), (232, .d (I ((t3).length : Int))), (233, .d (I 0))] [(21, .frozen 0 3 t3), (211, .box (.d (.agg [I ta2.1, I ta2.2.1, I ta2.2.2])))] (.exit 6) [(9, .own 21 0), (18, .d (.lst false 3 t14.1)), (31, .ptr 211 0 0 0 0), (32, .d (I 0)), (34, .d (B ta5)), (206, .d (.lst false 3 t14.1)), (207, .d (I ((t14.1).length : Int))), (208, .d (I sa)), (226, .d (.agg [I (ta2.2.1 - 1), I ta2.2.1, I ta2.2.2, I (ta2.2.2 + 1)])), (227, .d (I 0))] [(21, .frozen 0 3 t3), (211, .box (.d (.agg [I ta2.1, I ta2.2.1, I ta2.2.2])))], inI64 (ta2.2.2 + 1), inI64 (ta2.2.1 - 1), (0 : Int) ≤ sa, nth (t14.1) (Int.toNat sa) = some (.agg [I ta2.1, I ta2.2.1, I ta2.2.2]), (decide (sa < ((t14.1).length : Int))) = true]) (by kernel_rfl) ⟨ha6, (loopF_to R_law03_DriveSeen_L6 ha5), ha4, ha3, (el_ok un_Ai3Z_ok ha2).1, (el_ok un_Ai3Z_ok ha2).2, (decide_eq_true ha1), trivial⟩⟩, nofun⟩
    · replace h := ite_f h ha6
      obtain ⟨ta7, ha7, h⟩ := bnd_of h
      by_cases ha8 : (!(ta7 == true)) = true
      · replace h := ite_t h ha8
        replace h := Option.some.inj h
        subst h
        exact ⟨⟨100, 208, [.br true, .el (.agg [I ta2.1, I ta2.2.1, I ta2.2.2]), .no, .no, .lp [] [9, 18, 31, 32, 33, 34, 206, 207, 208, 226, 227, 231, 232, 233] [21, 211] (.exit 6) [(9, .own 21 0), (18, .d (.lst false 3 t14.1)), (31, .ptr 211 0 0 0 0), (32, .d (I 0)), (34, .d (B ta5)), (206, .d (.lst false 3 t14.1)), (207, .d (I ((t14.1).length : Int))), (208, .d (I sa)), (226, .d (.agg [I (ta2.2.1 - 1), I ta2.2.1, I ta2.2.2, I (ta2.2.2 + 1)])), (227, .d (I 0))] [(21, .frozen 0 3 t3), (211, .box (.d (.agg [I ta2.1, I ta2.2.1, I ta2.2.2])))] 280, .no, .br false, .no, .no, .lp [] [9, 18, 31, 32, 33, 34, 206, 207, 208, 226, 227, 231, 232, 233] [21, 211] (.exit 6) [(9, .own 21 0), (18, .d (.lst false 3 t14.1)), (31, .ptr 211 0 0 0 0), (32, .d (I 1)), (34, .d (B ta7)), (206, .d (.lst false 3 t14.1)), (207, .d (I ((t14.1).length : Int))), (208, .d (I sa)), (226, .d (.agg [I (ta2.2.1 - 1), I ta2.2.1, I ta2.2.2, I (ta2.2.2 + 1)])), (227, .d (I 1))] [(21, .frozen 0 3 t3), (211, .box (.d (.agg [I ta2.1, I ta2.2.1, I ta2.2.2])))] 341, .no, .br true], [], [6], [], round_of (ob := [(!(ta7 == true)) = true, LoopN cx (loopAt cx.P 14 3) 290 0 false [(9, .own 21 0), (18, .d (.lst false 3 t14.1)), (31, .ptr 211 0 0 0 0), (32, .d (I 1)), (33, .d (I ta2.2.1)), (34, .d (B true)), (206, .d (.lst false 3 t14.1)), (207, .d (I ((t14.1).length : Int))), (208, .d (I sa)), (226, .d (.agg [I (ta2.2.1 - 1), I ta2.2.1, I ta2.2.2, I (ta2.2.2 + 1)])), (227, .d (I 1)), (231, .own 21 0), (232, .d (I ((t3).length : Int))), (233, .d (I 0))] [(21, .frozen 0 3 t3), (211, .box (.d (.agg [I ta2.1, I ta2.2.1, I ta2.2.2])))] (.exit 6) [(9, .own 21 0), (18, .d (.lst false 3 t14.1)), (31, .ptr 211 0 0 0 0), (32, .d (I 1)), (34, .d (B ta7)), (206, .d (.lst false 3 t14.1)), (207, .d (I ((t14.1).length : Int))), (208, .d (I sa)), (226, .d (.agg [I (ta2.2.1 - 1), I ta2.2.1, I ta2.2.2, I (ta2.2.2 + 1)])), (227, .d (I 1))] [(21, .frozen 0 3 t3), (211, .box (.d (.agg [I ta2.1, I ta2.2.1, I ta2.2.2])))], inI64 1, (!(ta5 == false)) = false, LoopN cx (loopAt cx.P 14 3) 290 0 false [(9, .own 21 0), (18, .d (.lst false 3 t14.1)), (31, .ptr 211 0 0 0 0), (32, .d (I 0)), (33, .d (I (ta2.2.1 - 1))), (34, .d (B true)), (206, .d (.lst false 3 t14.1)), (207, .d (I ((t14.1).length : Int))), (208, .d (I sa)), (226, .d (.agg [I (ta2.2.1 - 1), I ta2.2.1, I ta2.2.2, I (ta2.2.2 + 1)])), (227, .d (I 0)), (231, .own 21 0), (232, .d (I ((t3).length : Int))), (233, .d (I 0))] [(21, .frozen 0 3 t3), (211, .box (.d (.agg [I ta2.1, I ta2.2.1, I ta2.2.2])))] (.exit 6) [(9, .own 21 0), (18, .d (.lst false 3 t14.1)), (31, .ptr 211 0 0 0 0), (32, .d (I 0)), (34, .d (B ta5)), (206, .d (.lst false 3 t14.1)), (207, .d (I ((t14.1).length : Int))), (208, .d (I sa)), (226, .d (.agg [I (ta2.2.1 - 1), I ta2.2.1, I ta2.2.2, I (ta2.2.2 + 1)])), (227, .d (I 0))] [(21, .frozen 0 3 t3), (211, .box (.d (.agg [I ta2.1, I ta2.2.1, I ta2.2.2])))], inI64 (ta2.2.2 + 1), inI64 (ta2.2.1 - 1), (0 : Int) ≤ sa, nth (t14.1) (Int.toNat sa) = some (.agg [I ta2.1, I ta2.2.1, I ta2.2.2]), (decide (sa < ((t14.1).length : Int))) = true]) (by kernel_rfl) ⟨ha8, (loopF_to R_law03_DriveSeen_L7 ha7), (by unfold inI64; omega), (bfalse ha6), (loopF_to R_law03_DriveSeen_L6 ha5), ha4, ha3, (el_ok un_Ai3Z_ok ha2).1, (el_ok un_Ai3Z_ok ha2).2, (decide_eq_true ha1), trivial⟩⟩, nofun⟩
      · replace h := ite_f h ha8
        obtain ⟨ta9, ha9, h⟩ := bnd_of h
        by_cases ha10 : (!(ta9 == true)) = true
        · replace h := ite_t h ha10
          replace h := Option.some.inj h
          subst h
          exact ⟨⟨100, 208, [.br true, .el (.agg [I ta2.1, I ta2.2.1, I ta2.2.2]), .no, .no, .lp [] [9, 18, 31, 32, 33, 34, 206, 207, 208, 226, 227, 231, 232, 233] [21, 211] (.exit 6) [(9, .own 21 0), (18, .d (.lst false 3 t14.1)), (31, .ptr 211 0 0 0 0), (32, .d (I 0)), (34, .d (B ta5)), (206, .d (.lst false 3 t14.1)), (207, .d (I ((t14.1).length : Int))), (208, .d (I sa)), (226, .d (.agg [I (ta2.2.1 - 1), I ta2.2.1, I ta2.2.2, I (ta2.2.2 + 1)])), (227, .d (I 0))] [(21, .frozen 0 3 t3), (211, .box (.d (.agg [I ta2.1, I ta2.2.1, I ta2.2.2])))] 280, .no, .br false, .no, .no, .lp [] [9, 18, 31, 32, 33, 34, 206, 207, 208, 226, 227, 231, 232, 233] [21, 211] (.exit 6) [(9, .own 21 0), (18, .d (.lst false 3 t14.1)), (31, .ptr 211 0 0 0 0), (32, .d (I 1)), (34, .d (B ta7)), (206, .d (.lst false 3 t14.1)), (207, .d (I ((t14.1).length : Int))), (208, .d (I sa)), (226, .d (.agg [I (ta2.2.1 - 1), I ta2.2.1, I ta2.2.2, I (ta2.2.2 + 1)])), (227, .d (I 1))] [(21, .frozen 0 3 t3), (211, .box (.d (.agg [I ta2.1, I ta2.2.1, I ta2.2.2])))] 341, .no, .br false, .no, .no, .lp [] [9, 18, 31, 32, 33, 34, 206, 207, 208, 226, 227, 231, 232, 233] [21, 211] (.exit 6) [(9, .own 21 0), (18, .d (.lst false 3 t14.1)), (31, .ptr 211 0 0 0 0), (32, .d (I 2)), (34, .d (B ta9)), (206, .d (.lst false 3 t14.1)), (207, .d (I ((t14.1).length : Int))), (208, .d (I sa)), (226, .d (.agg [I (ta2.2.1 - 1), I ta2.2.1, I ta2.2.2, I (ta2.2.2 + 1)])), (227, .d (I 2))] [(21, .frozen 0 3 t3), (211, .box (.d (.agg [I ta2.1, I ta2.2.1, I ta2.2.2])))] 402, .no, .br true], [], [6], [], round_of (ob := [(!(ta9 == true)) = true, LoopN cx (loopAt cx.P 14 3) 290 0 false [(9, .own 21 0), (18, .d (.lst false 3 t14.1)), (31, .ptr 211 0 0 0 0), (32, .d (I 2)), (33, .d (I ta2.2.2)), (34, .d (B true)), (206, .d (.lst false 3 t14.1)), (207, .d (I ((t14.1).length : Int))), (208, .d (I sa)), (226, .d (.agg [I (ta2.2.1 - 1), I ta2.2.1, I ta2.2.2, I (ta2.2.2 + 1)])), (227, .d (I 2)), (231, .own 21 0), (232, .d (I ((t3).length : Int))), (233, .d (I 0))] [(21, .frozen 0 3 t3), (211, .box (.d (.agg [I ta2.1, I ta2.2.1, I ta2.2.2])))] (.exit 6) [(9, .own 21 0), (18, .d (.lst false 3 t14.1)), (31, .ptr 211 0 0 0 0), (32, .d (I 2)), (34, .d (B ta9)), (206, .d (.lst false 3 t14.1)), (207, .d (I ((t14.1).length : Int))), (208, .d (I sa)), (226, .d (.agg [I (ta2.2.1 - 1), I ta2.2.1, I ta2.2.2, I (ta2.2.2 + 1)])), (227, .d (I 2))] [(21, .frozen 0 3 t3), (211, .box (.d (.agg [I ta2.1, I ta2.2.1, I ta2.2.2])))], inI64 2, (!(ta7 == true)) = false, LoopN cx (loopAt cx.P 14 3) 290 0 false [(9, .own 21 0), (18, .d (.lst false 3 t14.1)), (31, .ptr 211 0 0 0 0), (32, .d (I 1)), (33, .d (I ta2.2.1)), (34, .d (B true)), (206, .d (.lst false 3 t14.1)), (207, .d (I ((t14.1).length : Int))), (208, .d (I sa)), (226, .d (.agg [I (ta2.2.1 - 1), I ta2.2.1, I ta2.2.2, I (ta2.2.2 + 1)])), (227, .d (I 1)), (231, .own 21 0), (232, .d (I ((t3).length : Int))), (233, .d (I 0))] [(21, .frozen 0 3 t3), (211, .box (.d (.agg [I ta2.1, I ta2.2.1, I ta2.2.2])))] (.exit 6) [(9, .own 21 0), (18, .d (.lst false 3 t14.1)), (31, .ptr 211 0 0 0 0), (32, .d (I 1)), (34, .d (B ta7)), (206, .d (.lst false 3 t14.1)), (207, .d (I ((t14.1).length : Int))), (208, .d (I sa)), (226, .d (.agg [I (ta2.2.1 - 1), I ta2.2.1, I ta2.2.2, I (ta2.2.2 + 1)])), (227, .d (I 1))] [(21, .frozen 0 3 t3), (211, .box (.d (.agg [I ta2.1, I ta2.2.1, I ta2.2.2])))], inI64 1, (!(ta5 == false)) = false, LoopN cx (loopAt cx.P 14 3) 290 0 false [(9, .own 21 0), (18, .d (.lst false 3 t14.1)), (31, .ptr 211 0 0 0 0), (32, .d (I 0)), (33, .d (I (ta2.2.1 - 1))), (34, .d (B true)), (206, .d (.lst false 3 t14.1)), (207, .d (I ((t14.1).length : Int))), (208, .d (I sa)), (226, .d (.agg [I (ta2.2.1 - 1), I ta2.2.1, I ta2.2.2, I (ta2.2.2 + 1)])), (227, .d (I 0)), (231, .own 21 0), (232, .d (I ((t3).length : Int))), (233, .d (I 0))] [(21, .frozen 0 3 t3), (211, .box (.d (.agg [I ta2.1, I ta2.2.1, I ta2.2.2])))] (.exit 6) [(9, .own 21 0), (18, .d (.lst false 3 t14.1)), (31, .ptr 211 0 0 0 0), (32, .d (I 0)), (34, .d (B ta5)), (206, .d (.lst false 3 t14.1)), (207, .d (I ((t14.1).length : Int))), (208, .d (I sa)), (226, .d (.agg [I (ta2.2.1 - 1), I ta2.2.1, I ta2.2.2, I (ta2.2.2 + 1)])), (227, .d (I 0))] [(21, .frozen 0 3 t3), (211, .box (.d (.agg [I ta2.1, I ta2.2.1, I ta2.2.2])))], inI64 (ta2.2.2 + 1), inI64 (ta2.2.1 - 1), (0 : Int) ≤ sa, nth (t14.1) (Int.toNat sa) = some (.agg [I ta2.1, I ta2.2.1, I ta2.2.2]), (decide (sa < ((t14.1).length : Int))) = true]) (by kernel_rfl) ⟨ha10, (loopF_to R_law03_DriveSeen_L8 ha9), (by unfold inI64; omega), (bfalse ha8), (loopF_to R_law03_DriveSeen_L7 ha7), (by unfold inI64; omega), (bfalse ha6), (loopF_to R_law03_DriveSeen_L6 ha5), ha4, ha3, (el_ok un_Ai3Z_ok ha2).1, (el_ok un_Ai3Z_ok ha2).2, (decide_eq_true ha1), trivial⟩⟩, nofun⟩
        · replace h := ite_f h ha10
          obtain ⟨ta11, ha11, h⟩ := bnd_of h
          by_cases ha12 : (!(ta11 == false)) = true
          · replace h := ite_t h ha12
            replace h := Option.some.inj h
            subst h
            exact ⟨⟨100, 208, [.br true, .el (.agg [I ta2.1, I ta2.2.1, I ta2.2.2]), .no, .no, .lp [] [9, 18, 31, 32, 33, 34, 206, 207, 208, 226, 227, 231, 232, 233] [21, 211] (.exit 6) [(9, .own 21 0), (18, .d (.lst false 3 t14.1)), (31, .ptr 211 0 0 0 0), (32, .d (I 0)), (34, .d (B ta5)), (206, .d (.lst false 3 t14.1)), (207, .d (I ((t14.1).length : Int))), (208, .d (I sa)), (226, .d (.agg [I (ta2.2.1 - 1), I ta2.2.1, I ta2.2.2, I (ta2.2.2 + 1)])), (227, .d (I 0))] [(21, .frozen 0 3 t3), (211, .box (.d (.agg [I ta2.1, I ta2.2.1, I ta2.2.2])))] 280, .no, .br false, .no, .no, .lp [] [9, 18, 31, 32, 33, 34, 206, 207, 208, 226, 227, 231, 232, 233] [21, 211] (.exit 6) [(9, .own 21 0), (18, .d (.lst false 3 t14.1)), (31, .ptr 211 0 0 0 0), (32, .d (I 1)), (34, .d (B ta7)), (206, .d (.lst false 3 t14.1)), (207, .d (I ((t14.1).length : Int))), (208, .d (I sa)), (226, .d (.agg [I (ta2.2.1 - 1), I ta2.2.1, I ta2.2.2, I (ta2.2.2 + 1)])), (227, .d (I 1))] [(21, .frozen 0 3 t3), (211, .box (.d (.agg [I ta2.1, I ta2.2.1, I ta2.2.2])))] 341, .no, .br false, .no, .no, .lp [] [9, 18, 31, 32, 33, 34, 206, 207, 208, 226, 227, 231, 232, 233] [21, 211] (.exit 6) [(9, .own 21 0), (18, .d (.lst false 3 t14.1)), (31, .ptr 211 0 0 0 0), (32, .d (I 2)), (34, .d (B ta9)), (206, .d (.lst false 3 t14.1)), (207, .d (I ((t14.1).length : Int))), (208, .d (I sa)), (226, .d (.agg [I (ta2.2.1 - 1), I ta2.2.1, I ta2.2.2, I (ta2.2.2 + 1)])), (227, .d (I 2))] [(21, .frozen 0 3 t3), (211, .box (.d (.agg [I ta2.1, I ta2.2.1, I ta2.2.2])))] 402, .no, .br false, .no, .no, .lp [] [9, 18, 31, 32, 33, 34, 206, 207, 208, 226, 227, 231, 232, 233] [21, 211] (.exit 6) [(9, .own 21 0), (18, .d (.lst false 3 t14.1)), (31, .ptr 211 0 0 0 0), (32, .d (I 3)), (34, .d (B ta11)), (206, .d (.lst false 3 t14.1)), (207, .d (I ((t14.1).length : Int))), (208, .d (I sa)), (226, .d (.agg [I (ta2.2.1 - 1), I ta2.2.1, I ta2.2.2, I (ta2.2.2 + 1)])), (227, .d (I 3))] [(21, .frozen 0 3 t3), (211, .box (.d (.agg [I ta2.1, I ta2.2.1, I ta2.2.2])))] 463, .no, .br true], [], [6], [], round_of (ob := [(!(ta11 == false)) = true, LoopN cx (loopAt cx.P 14 3) 290 0 false [(9, .own 21 0), (18, .d (.lst false 3 t14.1)), (31, .ptr 211 0 0 0 0), (32, .d (I 3)), (33, .d (I (ta2.2.2 + 1))), (34, .d (B true)), (206, .d (.lst false 3 t14.1)), (207, .d (I ((t14.1).length : Int))), (208, .d (I sa)), (226, .d (.agg [I (ta2.2.1 - 1), I ta2.2.1, I ta2.2.2, I (ta2.2.2 + 1)])), (227, .d (I 3)), (231, .own 21 0), (232, .d (I ((t3).length : Int))), (233, .d (I 0))] [(21, .frozen 0 3 t3), (211, .box (.d (.agg [I ta2.1, I ta2.2.1, I ta2.2.2])))] (.exit 6) [(9, .own 21 0), (18, .d (.lst false 3 t14.1)), (31, .ptr 211 0 0 0 0), (32, .d (I 3)), (34, .d (B ta11)), (206, .d (.lst false 3 t14.1)), (207, .d (I ((t14.1).length : Int))), (208, .d (I sa)), (226, .d (.agg [I (ta2.2.1 - 1), I ta2.2.1, I ta2.2.2, I (ta2.2.2 + 1)])), (227, .d (I 3))] [(21, .frozen 0 3 t3), (211, .box (.d (.agg [I ta2.1, I ta2.2.1, I ta2.2.2])))], inI64 3, (!(ta9 == true)) = false, LoopN cx (loopAt cx.P 14 3) 290 0 false [(9, .own 21 0), (18, .d (.lst false 3 t14.1)), (31, .ptr 211 0 0 0 0), (32, .d (I 2)), (33, .d (I ta2.2.2)), (34, .d (B true)), (206, .d (.lst false 3 t14.1)), (207, .d (I ((t14.1).length : Int))), (208, .d (I sa)), (226, .d (.agg [I (ta2.2.1 - 1), I ta2.2.1, I ta2.2.2, I (ta2.2.2 + 1)])), (227, .d (I 2)), (231, .own 21 0), (232, .d (I ((t3).length : Int))), (233, .d (I 0))] [(21, .frozen 0 3 t3), (211, .box (.d (.agg [I ta2.1, I ta2.2.1, I ta2.2.2])))] (.exit 6) [(9, .own 21 0), (18, .d (.lst false 3 t14.1)), (31, .ptr 211 0 0 0 0), (32, .d (I 2)), (34, .d (B ta9)), (206, .d (.lst false 3 t14.1)), (207, .d (I ((t14.1).length : Int))), (208, .d (I sa)), (226, .d (.agg [I (ta2.2.1 - 1), I ta2.2.1, I ta2.2.2, I (ta2.2.2 + 1)])), (227, .d (I 2))] [(21, .frozen 0 3 t3), (211, .box (.d (.agg [I ta2.1, I ta2.2.1, I ta2.2.2])))], inI64 2, (!(ta7 == true)) = false, LoopN cx (loopAt cx.P 14 3) 290 0 false [(9, .own 21 0), (18, .d (.lst false 3 t14.1)), (31, .ptr 211 0 0 0 0), (32, .d (I 1)), (33, .d (I ta2.2.1)), (34, .d (B true)), (206, .d (.lst false 3 t14.1)), (207, .d (I ((t14.1).length : Int))), (208, .d (I sa)), (226, .d (.agg [I (ta2.2.1 - 1), I ta2.2.1, I ta2.2.2, I (ta2.2.2 + 1)])), (227, .d (I 1)), (231, .own 21 0), (232, .d (I ((t3).length : Int))), (233, .d (I 0))] [(21, .frozen 0 3 t3), (211, .box (.d (.agg [I ta2.1, I ta2.2.1, I ta2.2.2])))] (.exit 6) [(9, .own 21 0), (18, .d (.lst false 3 t14.1)), (31, .ptr 211 0 0 0 0), (32, .d (I 1)), (34, .d (B ta7)), (206, .d (.lst false 3 t14.1)), (207, .d (I ((t14.1).length : Int))), (208, .d (I sa)), (226, .d (.agg [I (ta2.2.1 - 1), I ta2.2.1, I ta2.2.2, I (ta2.2.2 + 1)])), (227, .d (I 1))] [(21, .frozen 0 3 t3), (211, .box (.d (.agg [I ta2.1, I ta2.2.1, I ta2.2.2])))], inI64 1, (!(ta5 == false)) = false, LoopN cx (loopAt cx.P 14 3) 290 0 false [(9, .own 21 0), (18, .d (.lst false 3 t14.1)), (31, .ptr 211 0 0 0 0), (32, .d (I 0)), (33, .d (I (ta2.2.1 - 1))), (34, .d (B true)), (206, .d (.lst false 3 t14.1)), (207, .d (I ((t14.1).length : Int))), (208, .d (I sa)), (226, .d (.agg [I (ta2.2.1 - 1), I ta2.2.1, I ta2.2.2, I (ta2.2.2 + 1)])), (227, .d (I 0)), (231, .own 21 0), (232, .d (I ((t3).length : Int))), (233, .d (I 0))] [(21, .frozen 0 3 t3), (211, .box (.d (.agg [I ta2.1, I ta2.2.1, I ta2.2.2])))] (.exit 6) [(9, .own 21 0), (18, .d (.lst false 3 t14.1)), (31, .ptr 211 0 0 0 0), (32, .d (I 0)), (34, .d (B ta5)), (206, .d (.lst false 3 t14.1)), (207, .d (I ((t14.1).length : Int))), (208, .d (I sa)), (226, .d (.agg [I (ta2.2.1 - 1), I ta2.2.1, I ta2.2.2, I (ta2.2.2 + 1)])), (227, .d (I 0))] [(21, .frozen 0 3 t3), (211, .box (.d (.agg [I ta2.1, I ta2.2.1, I ta2.2.2])))], inI64 (ta2.2.2 + 1), inI64 (ta2.2.1 - 1), (0 : Int) ≤ sa, nth (t14.1) (Int.toNat sa) = some (.agg [I ta2.1, I ta2.2.1, I ta2.2.2]), (decide (sa < ((t14.1).length : Int))) = true]) (by kernel_rfl) ⟨ha12, (loopF_to R_law03_DriveSeen_L9 ha11), (by unfold inI64; omega), (bfalse ha10), (loopF_to R_law03_DriveSeen_L8 ha9), (by unfold inI64; omega), (bfalse ha8), (loopF_to R_law03_DriveSeen_L7 ha7), (by unfold inI64; omega), (bfalse ha6), (loopF_to R_law03_DriveSeen_L6 ha5), ha4, ha3, (el_ok un_Ai3Z_ok ha2).1, (el_ok un_Ai3Z_ok ha2).2, (decide_eq_true ha1), trivial⟩⟩, nofun⟩
          · replace h := ite_f h ha12
            obtain ⟨ha13, h⟩ := grd_of h
            replace h := Option.some.inj h
            subst h
            exact ⟨100, 208, [.br true, .el (.agg [I ta2.1, I ta2.2.1, I ta2.2.2]), .no, .no, .lp [] [9, 18, 31, 32, 33, 34, 206, 207, 208, 226, 227, 231, 232, 233] [21, 211] (.exit 6) [(9, .own 21 0), (18, .d (.lst false 3 t14.1)), (31, .ptr 211 0 0 0 0), (32, .d (I 0)), (34, .d (B ta5)), (206, .d (.lst false 3 t14.1)), (207, .d (I ((t14.1).length : Int))), (208, .d (I sa)), (226, .d (.agg [I (ta2.2.1 - 1), I ta2.2.1, I ta2.2.2, I (ta2.2.2 + 1)])), (227, .d (I 0))] [(21, .frozen 0 3 t3), (211, .box (.d (.agg [I ta2.1, I ta2.2.1, I ta2.2.2])))] 280, .no, .br false, .no, .no, .lp [] [9, 18, 31, 32, 33, 34, 206, 207, 208, 226, 227, 231, 232, 233] [21, 211] (.exit 6) [(9, .own 21 0), (18, .d (.lst false 3 t14.1)), (31, .ptr 211 0 0 0 0), (32, .d (I 1)), (34, .d (B ta7)), (206, .d (.lst false 3 t14.1)), (207, .d (I ((t14.1).length : Int))), (208, .d (I sa)), (226, .d (.agg [I (ta2.2.1 - 1), I ta2.2.1, I ta2.2.2, I (ta2.2.2 + 1)])), (227, .d (I 1))] [(21, .frozen 0 3 t3), (211, .box (.d (.agg [I ta2.1, I ta2.2.1, I ta2.2.2])))] 341, .no, .br false, .no, .no, .lp [] [9, 18, 31, 32, 33, 34, 206, 207, 208, 226, 227, 231, 232, 233] [21, 211] (.exit 6) [(9, .own 21 0), (18, .d (.lst false 3 t14.1)), (31, .ptr 211 0 0 0 0), (32, .d (I 2)), (34, .d (B ta9)), (206, .d (.lst false 3 t14.1)), (207, .d (I ((t14.1).length : Int))), (208, .d (I sa)), (226, .d (.agg [I (ta2.2.1 - 1), I ta2.2.1, I ta2.2.2, I (ta2.2.2 + 1)])), (227, .d (I 2))] [(21, .frozen 0 3 t3), (211, .box (.d (.agg [I ta2.1, I ta2.2.1, I ta2.2.2])))] 402, .no, .br false, .no, .no, .lp [] [9, 18, 31, 32, 33, 34, 206, 207, 208, 226, 227, 231, 232, 233] [21, 211] (.exit 6) [(9, .own 21 0), (18, .d (.lst false 3 t14.1)), (31, .ptr 211 0 0 0 0), (32, .d (I 3)), (34, .d (B ta11)), (206, .d (.lst false 3 t14.1)), (207, .d (I ((t14.1).length : Int))), (208, .d (I sa)), (226, .d (.agg [I (ta2.2.1 - 1), I ta2.2.1, I ta2.2.2, I (ta2.2.2 + 1)])), (227, .d (I 3))] [(21, .frozen 0 3 t3), (211, .box (.d (.agg [I ta2.1, I ta2.2.1, I ta2.2.2])))] 463, .no, .br false, .no, .no], [], [9, 18, 206, 207, 208], [21], round_of (ob := [inI64 (sa + 1), inI64 4, (!(ta11 == false)) = false, LoopN cx (loopAt cx.P 14 3) 290 0 false [(9, .own 21 0), (18, .d (.lst false 3 t14.1)), (31, .ptr 211 0 0 0 0), (32, .d (I 3)), (33, .d (I (ta2.2.2 + 1))), (34, .d (B true)), (206, .d (.lst false 3 t14.1)), (207, .d (I ((t14.1).length : Int))), (208, .d (I sa)), (226, .d (.agg [I (ta2.2.1 - 1), I ta2.2.1, I ta2.2.2, I (ta2.2.2 + 1)])), (227, .d (I 3)), (231, .own 21 0), (232, .d (I ((t3).length : Int))), (233, .d (I 0))] [(21, .frozen 0 3 t3), (211, .box (.d (.agg [I ta2.1, I ta2.2.1, I ta2.2.2])))] (.exit 6) [(9, .own 21 0), (18, .d (.lst false 3 t14.1)), (31, .ptr 211 0 0 0 0), (32, .d (I 3)), (34, .d (B ta11)), (206, .d (.lst false 3 t14.1)), (207, .d (I ((t14.1).length : Int))), (208, .d (I sa)), (226, .d (.agg [I (ta2.2.1 - 1), I ta2.2.1, I ta2.2.2, I (ta2.2.2 + 1)])), (227, .d (I 3))] [(21, .frozen 0 3 t3), (211, .box (.d (.agg [I ta2.1, I ta2.2.1, I ta2.2.2])))], inI64 3, (!(ta9 == true)) = false, LoopN cx (loopAt cx.P 14 3) 290 0 false [(9, .own 21 0), (18, .d (.lst false 3 t14.1)), (31, .ptr 211 0 0 0 0), (32, .d (I 2)), (33, .d (I ta2.2.2)), (34, .d (B true)), (206, .d (.lst false 3 t14.1)), (207, .d (I ((t14.1).length : Int))), (208, .d (I sa)), (226, .d (.agg [I (ta2.2.1 - 1), I ta2.2.1, I ta2.2.2, I (ta2.2.2 + 1)])), (227, .d (I 2)), (231, .own 21 0), (232, .d (I ((t3).length : Int))), (233, .d (I 0))] [(21, .frozen 0 3 t3), (211, .box (.d (.agg [I ta2.1, I ta2.2.1, I ta2.2.2])))] (.exit 6) [(9, .own 21 0), (18, .d (.lst false 3 t14.1)), (31, .ptr 211 0 0 0 0), (32, .d (I 2)), (34, .d (B ta9)), (206, .d (.lst false 3 t14.1)), (207, .d (I ((t14.1).length : Int))), (208, .d (I sa)), (226, .d (.agg [I (ta2.2.1 - 1), I ta2.2.1, I ta2.2.2, I (ta2.2.2 + 1)])), (227, .d (I 2))] [(21, .frozen 0 3 t3), (211, .box (.d (.agg [I ta2.1, I ta2.2.1, I ta2.2.2])))], inI64 2, (!(ta7 == true)) = false, LoopN cx (loopAt cx.P 14 3) 290 0 false [(9, .own 21 0), (18, .d (.lst false 3 t14.1)), (31, .ptr 211 0 0 0 0), (32, .d (I 1)), (33, .d (I ta2.2.1)), (34, .d (B true)), (206, .d (.lst false 3 t14.1)), (207, .d (I ((t14.1).length : Int))), (208, .d (I sa)), (226, .d (.agg [I (ta2.2.1 - 1), I ta2.2.1, I ta2.2.2, I (ta2.2.2 + 1)])), (227, .d (I 1)), (231, .own 21 0), (232, .d (I ((t3).length : Int))), (233, .d (I 0))] [(21, .frozen 0 3 t3), (211, .box (.d (.agg [I ta2.1, I ta2.2.1, I ta2.2.2])))] (.exit 6) [(9, .own 21 0), (18, .d (.lst false 3 t14.1)), (31, .ptr 211 0 0 0 0), (32, .d (I 1)), (34, .d (B ta7)), (206, .d (.lst false 3 t14.1)), (207, .d (I ((t14.1).length : Int))), (208, .d (I sa)), (226, .d (.agg [I (ta2.2.1 - 1), I ta2.2.1, I ta2.2.2, I (ta2.2.2 + 1)])), (227, .d (I 1))] [(21, .frozen 0 3 t3), (211, .box (.d (.agg [I ta2.1, I ta2.2.1, I ta2.2.2])))], inI64 1, (!(ta5 == false)) = false, LoopN cx (loopAt cx.P 14 3) 290 0 false [(9, .own 21 0), (18, .d (.lst false 3 t14.1)), (31, .ptr 211 0 0 0 0), (32, .d (I 0)), (33, .d (I (ta2.2.1 - 1))), (34, .d (B true)), (206, .d (.lst false 3 t14.1)), (207, .d (I ((t14.1).length : Int))), (208, .d (I sa)), (226, .d (.agg [I (ta2.2.1 - 1), I ta2.2.1, I ta2.2.2, I (ta2.2.2 + 1)])), (227, .d (I 0)), (231, .own 21 0), (232, .d (I ((t3).length : Int))), (233, .d (I 0))] [(21, .frozen 0 3 t3), (211, .box (.d (.agg [I ta2.1, I ta2.2.1, I ta2.2.2])))] (.exit 6) [(9, .own 21 0), (18, .d (.lst false 3 t14.1)), (31, .ptr 211 0 0 0 0), (32, .d (I 0)), (34, .d (B ta5)), (206, .d (.lst false 3 t14.1)), (207, .d (I ((t14.1).length : Int))), (208, .d (I sa)), (226, .d (.agg [I (ta2.2.1 - 1), I ta2.2.1, I ta2.2.2, I (ta2.2.2 + 1)])), (227, .d (I 0))] [(21, .frozen 0 3 t3), (211, .box (.d (.agg [I ta2.1, I ta2.2.1, I ta2.2.2])))], inI64 (ta2.2.2 + 1), inI64 (ta2.2.1 - 1), (0 : Int) ≤ sa, nth (t14.1) (Int.toNat sa) = some (.agg [I ta2.1, I ta2.2.1, I ta2.2.2]), (decide (sa < ((t14.1).length : Int))) = true]) (by kernel_rfl) ⟨ha13, (by unfold inI64; omega), (bfalse ha12), (loopF_to R_law03_DriveSeen_L9 ha11), (by unfold inI64; omega), (bfalse ha10), (loopF_to R_law03_DriveSeen_L8 ha9), (by unfold inI64; omega), (bfalse ha8), (loopF_to R_law03_DriveSeen_L7 ha7), (by unfold inI64; omega), (bfalse ha6), (loopF_to R_law03_DriveSeen_L6 ha5), ha4, ha3, (el_ok un_Ai3Z_ok ha2).1, (el_ok un_Ai3Z_ok ha2).2, (decide_eq_true ha1), trivial⟩⟩
  · replace h := ite_f h ha1
    replace h := Option.some.inj h
    subst h
    exact ⟨⟨100, 208, [.br false], [], [18], [], round_of (ob := [(decide (sa < ((t14.1).length : Int))) = false]) (by kernel_rfl) ⟨(decide_eq_false ha1), trivial⟩⟩, nofun⟩
end Go.Proofs.YtmgbmngmmpeaaaaGreatDoor
