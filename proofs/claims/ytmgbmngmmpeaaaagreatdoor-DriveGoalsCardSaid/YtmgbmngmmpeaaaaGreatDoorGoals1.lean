/-
  Printed by gsx.py: functions of the program as Lean functions, and that the code computes them.
-/
import Derived.Test.YtmgbmngmmpeaaaaGreatDoorGen8
set_option linter.unusedVariables false
set_option linter.unusedSimpArgs false
set_option linter.unnecessarySimpa false
set_option maxRecDepth 10000
namespace Go.Proofs.YtmgbmngmmpeaaaaGreatDoor
open Go.SX
def F_law03_DriveGoals_L1 (n : Nat) (a2 : Int) (a3 : Int) (a4 : Int) (a5 : Int) (a6 : Int) (a7 : Int) (a8 : Int) (a9 : Int) (t3 : List D × Int) (sa : (Int)) : Option (((Int)) ⊕ ((Unit) ⊕ (Unit))) :=
  if sa < ((t3.1).length : Int) then
    (el un_Ai2Z t3.1 sa).bind fun ta2 =>
    if inI64 (sa - 1) then
    (el un_Ai2Z t3.1 (sa - 1)).bind fun ta4 =>
    if inI64 (ta2.1 - ta4.1) then
    if inI64 (a2 - ta4.1) then
    if inI64 ((ta2.1 - ta4.1) * (a2 - ta4.1)) then
    if ((ta2.1 - ta4.1) * (a2 - ta4.1)) < 0 then
      some (.inr (.inl ()))
    else
    if (maxI (ta2.1 - ta4.1) (IntKind.wrap .i64 (0 - (ta2.1 - ta4.1)))) = (minI a4 (maxI (a2 - ta4.1) (IntKind.wrap .i64 (0 - (a2 - ta4.1))))) then
      if inI64 (ta2.2 - ta4.2) then
      if inI64 (a3 - ta4.2) then
      if inI64 ((ta2.2 - ta4.2) * (a3 - ta4.2)) then
      if ((ta2.2 - ta4.2) * (a3 - ta4.2)) < 0 then
        some (.inr (.inl ()))
      else
      if (maxI (ta2.2 - ta4.2) (IntKind.wrap .i64 (0 - (ta2.2 - ta4.2)))) = (minI a5 (maxI (a3 - ta4.2) (IntKind.wrap .i64 (0 - (a3 - ta4.2))))) then
        if inI64 (sa + 1) then
        some (.inl (sa + 1))
        else none
      else
      some (.inr (.inl ()))
      else none
      else none
      else none
    else
    some (.inr (.inl ()))
    else none
    else none
    else none
    else none
  else
  some (.inr (.inr ()))
noncomputable def T_law03_DriveGoals_L1 (a2 : Int) (a3 : Int) (a4 : Int) (a5 : Int) (a6 : Int) (a7 : Int) (a8 : Int) (a9 : Int) (t3 : List D × Int) (sa : (Int)) : List (Nat × AV) := [(4, .ptr 1 0 0 0 0), (5, .ptr 2 0 0 0 0), (7, .d (.lst false 2 t3.1)), (12, .d (I sa))]
noncomputable def H_law03_DriveGoals_L1 (a2 : Int) (a3 : Int) (a4 : Int) (a5 : Int) (a6 : Int) (a7 : Int) (a8 : Int) (a9 : Int) (t3 : List D × Int) (sa : (Int)) : List (Nat × Blk) := [(1, .box (.d (.agg [I a2, I a3]))), (2, .box (.d (.agg [I a4, I a5, .v (.int .i16 a6), .v (.int .i16 a7), .v (.int .u8 a8), .v (.int .u16 a9)])))]
noncomputable def X_law03_DriveGoals_L1 (a2 : Int) (a3 : Int) (a4 : Int) (a5 : Int) (a6 : Int) (a7 : Int) (a8 : Int) (a9 : Int) (t3 : List D × Int) (e : (Unit) ⊕ (Unit)) : Ex := match e with
  | (.inl e) => .ret
  | (.inr e) => (.exit 2)
noncomputable def XT_law03_DriveGoals_L1 (a2 : Int) (a3 : Int) (a4 : Int) (a5 : Int) (a6 : Int) (a7 : Int) (a8 : Int) (a9 : Int) (t3 : List D × Int) (e : (Unit) ⊕ (Unit)) : List (Nat × AV) := match e with
  | (.inl e) => [(6, .d (B false))]
  | (.inr e) => [(5, .ptr 2 0 0 0 0)]
noncomputable def XH_law03_DriveGoals_L1 (a2 : Int) (a3 : Int) (a4 : Int) (a5 : Int) (a6 : Int) (a7 : Int) (a8 : Int) (a9 : Int) (t3 : List D × Int) (e : (Unit) ⊕ (Unit)) : List (Nat × Blk) := match e with
  | (.inl e) => []
  | (.inr e) => [(2, .box (.d (.agg [I a4, I a5, .v (.int .i16 a6), .v (.int .i16 a7), .v (.int .u8 a8), .v (.int .u16 a9)])))]
theorem R_law03_DriveGoals_L1 {n : Nat} {a2 : Int} {a3 : Int} {a4 : Int} {a5 : Int} {a6 : Int} {a7 : Int} {a8 : Int} {a9 : Int} {t3 : List D × Int} (sa : (Int)) (r) (h : F_law03_DriveGoals_L1 n a2 a3 a4 a5 a6 a7 a8 a9 t3 sa = some r) : Rd cx (loopAt cx.P 12 1) 226 0 false (T_law03_DriveGoals_L1 a2 a3 a4 a5 a6 a7 a8 a9 t3) (H_law03_DriveGoals_L1 a2 a3 a4 a5 a6 a7 a8 a9 t3) (X_law03_DriveGoals_L1 a2 a3 a4 a5 a6 a7 a8 a9 t3) (XT_law03_DriveGoals_L1 a2 a3 a4 a5 a6 a7 a8 a9 t3) (XH_law03_DriveGoals_L1 a2 a3 a4 a5 a6 a7 a8 a9 t3) sa r := by
  unfold F_law03_DriveGoals_L1 at h
  by_cases ha1 : sa < ((t3.1).length : Int)
  · replace h := ite_t h ha1
    obtain ⟨ta2, ha2, h⟩ := bnd_of h
    obtain ⟨ha3, h⟩ := grd_of h
    obtain ⟨ta4, ha4, h⟩ := bnd_of h
    obtain ⟨ha5, h⟩ := grd_of h
    obtain ⟨ha6, h⟩ := grd_of h
    obtain ⟨ha7, h⟩ := grd_of h
    by_cases ha8 : ((ta2.1 - ta4.1) * (a2 - ta4.1)) < 0
    · replace h := ite_t h ha8
      replace h := Option.some.inj h
      subst h
      exact ⟨⟨100, 122, [.br true, .no, .no, .el (.agg [I ta2.1, I ta2.2]), .el (.agg [I ta4.1, I ta4.2]), .el (.agg [I ta4.1, I ta4.2]), .br true, .no], [], [6], [], round_of (ob := [(decide (((ta2.1 - ta4.1) * (a2 - ta4.1)) < 0)) = true, inI64 ((ta2.1 - ta4.1) * (a2 - ta4.1)), inI64 (a2 - ta4.1), (0 : Int) ≤ (sa - 1), nth (t3.1) (Int.toNat (sa - 1)) = some (.agg [I ta4.1, I ta4.2]), inI64 (sa - 1), inI64 (ta2.1 - ta4.1), (0 : Int) ≤ (sa - 1), nth (t3.1) (Int.toNat (sa - 1)) = some (.agg [I ta4.1, I ta4.2]), inI64 (sa - 1), (0 : Int) ≤ sa, nth (t3.1) (Int.toNat sa) = some (.agg [I ta2.1, I ta2.2]), (decide (sa < ((t3.1).length : Int))) = true]) (by kernel_rfl) ⟨(decide_eq_true ha8), ha7, ha6, (el_ok un_Ai2Z_ok ha4).1, (el_ok un_Ai2Z_ok ha4).2, ha3, ha5, (el_ok un_Ai2Z_ok ha4).1, (el_ok un_Ai2Z_ok ha4).2, ha3, (el_ok un_Ai2Z_ok ha2).1, (el_ok un_Ai2Z_ok ha2).2, (decide_eq_true ha1), trivial⟩⟩, nofun⟩
    · replace h := ite_f h ha8
      by_cases ha9 : (maxI (ta2.1 - ta4.1) (IntKind.wrap .i64 (0 - (ta2.1 - ta4.1)))) = (minI a4 (maxI (a2 - ta4.1) (IntKind.wrap .i64 (0 - (a2 - ta4.1)))))
      · replace h := ite_t h ha9
        obtain ⟨ha10, h⟩ := grd_of h
        obtain ⟨ha11, h⟩ := grd_of h
        obtain ⟨ha12, h⟩ := grd_of h
        by_cases ha13 : ((ta2.2 - ta4.2) * (a3 - ta4.2)) < 0
        · replace h := ite_t h ha13
          replace h := Option.some.inj h
          subst h
          exact ⟨⟨100, 122, [.br true, .no, .no, .el (.agg [I ta2.1, I ta2.2]), .el (.agg [I ta4.1, I ta4.2]), .el (.agg [I ta4.1, I ta4.2]), .br false, .br false, .no, .no, .el (.agg [I ta2.1, I ta2.2]), .el (.agg [I ta4.1, I ta4.2]), .el (.agg [I ta4.1, I ta4.2]), .br true, .no], [], [6], [], round_of (ob := [(decide (((ta2.2 - ta4.2) * (a3 - ta4.2)) < 0)) = true, inI64 ((ta2.2 - ta4.2) * (a3 - ta4.2)), inI64 (a3 - ta4.2), (0 : Int) ≤ (sa - 1), nth (t3.1) (Int.toNat (sa - 1)) = some (.agg [I ta4.1, I ta4.2]), inI64 (sa - 1), inI64 (ta2.2 - ta4.2), (0 : Int) ≤ (sa - 1), nth (t3.1) (Int.toNat (sa - 1)) = some (.agg [I ta4.1, I ta4.2]), inI64 (sa - 1), (0 : Int) ≤ sa, nth (t3.1) (Int.toNat sa) = some (.agg [I ta2.1, I ta2.2]), inI64 1, ((maxI (ta2.1 - ta4.1) (IntKind.wrap .i64 (0 - (ta2.1 - ta4.1)))) != (minI a4 (maxI (a2 - ta4.1) (IntKind.wrap .i64 (0 - (a2 - ta4.1)))))) = false, (decide (((ta2.1 - ta4.1) * (a2 - ta4.1)) < 0)) = false, inI64 ((ta2.1 - ta4.1) * (a2 - ta4.1)), inI64 (a2 - ta4.1), (0 : Int) ≤ (sa - 1), nth (t3.1) (Int.toNat (sa - 1)) = some (.agg [I ta4.1, I ta4.2]), inI64 (sa - 1), inI64 (ta2.1 - ta4.1), (0 : Int) ≤ (sa - 1), nth (t3.1) (Int.toNat (sa - 1)) = some (.agg [I ta4.1, I ta4.2]), inI64 (sa - 1), (0 : Int) ≤ sa, nth (t3.1) (Int.toNat sa) = some (.agg [I ta2.1, I ta2.2]), (decide (sa < ((t3.1).length : Int))) = true]) (by kernel_rfl) ⟨(decide_eq_true ha13), ha12, ha11, (el_ok un_Ai2Z_ok ha4).1, (el_ok un_Ai2Z_ok ha4).2, ha3, ha10, (el_ok un_Ai2Z_ok ha4).1, (el_ok un_Ai2Z_ok ha4).2, ha3, (el_ok un_Ai2Z_ok ha2).1, (el_ok un_Ai2Z_ok ha2).2, (by unfold inI64; omega), (nef ha9), (decide_eq_false ha8), ha7, ha6, (el_ok un_Ai2Z_ok ha4).1, (el_ok un_Ai2Z_ok ha4).2, ha3, ha5, (el_ok un_Ai2Z_ok ha4).1, (el_ok un_Ai2Z_ok ha4).2, ha3, (el_ok un_Ai2Z_ok ha2).1, (el_ok un_Ai2Z_ok ha2).2, (decide_eq_true ha1), trivial⟩⟩, nofun⟩
        · replace h := ite_f h ha13
          by_cases ha14 : (maxI (ta2.2 - ta4.2) (IntKind.wrap .i64 (0 - (ta2.2 - ta4.2)))) = (minI a5 (maxI (a3 - ta4.2) (IntKind.wrap .i64 (0 - (a3 - ta4.2)))))
          · replace h := ite_t h ha14
            obtain ⟨ha15, h⟩ := grd_of h
            replace h := Option.some.inj h
            subst h
            exact ⟨100, 122, [.br true, .no, .no, .el (.agg [I ta2.1, I ta2.2]), .el (.agg [I ta4.1, I ta4.2]), .el (.agg [I ta4.1, I ta4.2]), .br false, .br false, .no, .no, .el (.agg [I ta2.1, I ta2.2]), .el (.agg [I ta4.1, I ta4.2]), .el (.agg [I ta4.1, I ta4.2]), .br false, .br false, .no, .no], [], [4, 5, 7, 12], [1, 2], round_of (ob := [inI64 (sa + 1), inI64 2, ((maxI (ta2.2 - ta4.2) (IntKind.wrap .i64 (0 - (ta2.2 - ta4.2)))) != (minI a5 (maxI (a3 - ta4.2) (IntKind.wrap .i64 (0 - (a3 - ta4.2)))))) = false, (decide (((ta2.2 - ta4.2) * (a3 - ta4.2)) < 0)) = false, inI64 ((ta2.2 - ta4.2) * (a3 - ta4.2)), inI64 (a3 - ta4.2), (0 : Int) ≤ (sa - 1), nth (t3.1) (Int.toNat (sa - 1)) = some (.agg [I ta4.1, I ta4.2]), inI64 (sa - 1), inI64 (ta2.2 - ta4.2), (0 : Int) ≤ (sa - 1), nth (t3.1) (Int.toNat (sa - 1)) = some (.agg [I ta4.1, I ta4.2]), inI64 (sa - 1), (0 : Int) ≤ sa, nth (t3.1) (Int.toNat sa) = some (.agg [I ta2.1, I ta2.2]), inI64 1, ((maxI (ta2.1 - ta4.1) (IntKind.wrap .i64 (0 - (ta2.1 - ta4.1)))) != (minI a4 (maxI (a2 - ta4.1) (IntKind.wrap .i64 (0 - (a2 - ta4.1)))))) = false, (decide (((ta2.1 - ta4.1) * (a2 - ta4.1)) < 0)) = false, inI64 ((ta2.1 - ta4.1) * (a2 - ta4.1)), inI64 (a2 - ta4.1), (0 : Int) ≤ (sa - 1), nth (t3.1) (Int.toNat (sa - 1)) = some (.agg [I ta4.1, I ta4.2]), inI64 (sa - 1), inI64 (ta2.1 - ta4.1), (0 : Int) ≤ (sa - 1), nth (t3.1) (Int.toNat (sa - 1)) = some (.agg [I ta4.1, I ta4.2]), inI64 (sa - 1), (0 : Int) ≤ sa, nth (t3.1) (Int.toNat sa) = some (.agg [I ta2.1, I ta2.2]), (decide (sa < ((t3.1).length : Int))) = true]) (by kernel_rfl) ⟨ha15, (by unfold inI64; omega), (nef ha14), (decide_eq_false ha13), ha12, ha11, (el_ok un_Ai2Z_ok ha4).1, (el_ok un_Ai2Z_ok ha4).2, ha3, ha10, (el_ok un_Ai2Z_ok ha4).1, (el_ok un_Ai2Z_ok ha4).2, ha3, (el_ok un_Ai2Z_ok ha2).1, (el_ok un_Ai2Z_ok ha2).2, (by unfold inI64; omega), (nef ha9), (decide_eq_false ha8), ha7, ha6, (el_ok un_Ai2Z_ok ha4).1, (el_ok un_Ai2Z_ok ha4).2, ha3, ha5, (el_ok un_Ai2Z_ok ha4).1, (el_ok un_Ai2Z_ok ha4).2, ha3, (el_ok un_Ai2Z_ok ha2).1, (el_ok un_Ai2Z_ok ha2).2, (decide_eq_true ha1), trivial⟩⟩
          · replace h := ite_f h ha14
            replace h := Option.some.inj h
            subst h
            exact ⟨⟨100, 122, [.br true, .no, .no, .el (.agg [I ta2.1, I ta2.2]), .el (.agg [I ta4.1, I ta4.2]), .el (.agg [I ta4.1, I ta4.2]), .br false, .br false, .no, .no, .el (.agg [I ta2.1, I ta2.2]), .el (.agg [I ta4.1, I ta4.2]), .el (.agg [I ta4.1, I ta4.2]), .br false, .br true], [], [6], [], round_of (ob := [((maxI (ta2.2 - ta4.2) (IntKind.wrap .i64 (0 - (ta2.2 - ta4.2)))) != (minI a5 (maxI (a3 - ta4.2) (IntKind.wrap .i64 (0 - (a3 - ta4.2)))))) = true, (decide (((ta2.2 - ta4.2) * (a3 - ta4.2)) < 0)) = false, inI64 ((ta2.2 - ta4.2) * (a3 - ta4.2)), inI64 (a3 - ta4.2), (0 : Int) ≤ (sa - 1), nth (t3.1) (Int.toNat (sa - 1)) = some (.agg [I ta4.1, I ta4.2]), inI64 (sa - 1), inI64 (ta2.2 - ta4.2), (0 : Int) ≤ (sa - 1), nth (t3.1) (Int.toNat (sa - 1)) = some (.agg [I ta4.1, I ta4.2]), inI64 (sa - 1), (0 : Int) ≤ sa, nth (t3.1) (Int.toNat sa) = some (.agg [I ta2.1, I ta2.2]), inI64 1, ((maxI (ta2.1 - ta4.1) (IntKind.wrap .i64 (0 - (ta2.1 - ta4.1)))) != (minI a4 (maxI (a2 - ta4.1) (IntKind.wrap .i64 (0 - (a2 - ta4.1)))))) = false, (decide (((ta2.1 - ta4.1) * (a2 - ta4.1)) < 0)) = false, inI64 ((ta2.1 - ta4.1) * (a2 - ta4.1)), inI64 (a2 - ta4.1), (0 : Int) ≤ (sa - 1), nth (t3.1) (Int.toNat (sa - 1)) = some (.agg [I ta4.1, I ta4.2]), inI64 (sa - 1), inI64 (ta2.1 - ta4.1), (0 : Int) ≤ (sa - 1), nth (t3.1) (Int.toNat (sa - 1)) = some (.agg [I ta4.1, I ta4.2]), inI64 (sa - 1), (0 : Int) ≤ sa, nth (t3.1) (Int.toNat sa) = some (.agg [I ta2.1, I ta2.2]), (decide (sa < ((t3.1).length : Int))) = true]) (by kernel_rfl) ⟨(net ha14), (decide_eq_false ha13), ha12, ha11, (el_ok un_Ai2Z_ok ha4).1, (el_ok un_Ai2Z_ok ha4).2, ha3, ha10, (el_ok un_Ai2Z_ok ha4).1, (el_ok un_Ai2Z_ok ha4).2, ha3, (el_ok un_Ai2Z_ok ha2).1, (el_ok un_Ai2Z_ok ha2).2, (by unfold inI64; omega), (nef ha9), (decide_eq_false ha8), ha7, ha6, (el_ok un_Ai2Z_ok ha4).1, (el_ok un_Ai2Z_ok ha4).2, ha3, ha5, (el_ok un_Ai2Z_ok ha4).1, (el_ok un_Ai2Z_ok ha4).2, ha3, (el_ok un_Ai2Z_ok ha2).1, (el_ok un_Ai2Z_ok ha2).2, (decide_eq_true ha1), trivial⟩⟩, nofun⟩
      · replace h := ite_f h ha9
        replace h := Option.some.inj h
        subst h
        exact ⟨⟨100, 122, [.br true, .no, .no, .el (.agg [I ta2.1, I ta2.2]), .el (.agg [I ta4.1, I ta4.2]), .el (.agg [I ta4.1, I ta4.2]), .br false, .br true], [], [6], [], round_of (ob := [((maxI (ta2.1 - ta4.1) (IntKind.wrap .i64 (0 - (ta2.1 - ta4.1)))) != (minI a4 (maxI (a2 - ta4.1) (IntKind.wrap .i64 (0 - (a2 - ta4.1)))))) = true, (decide (((ta2.1 - ta4.1) * (a2 - ta4.1)) < 0)) = false, inI64 ((ta2.1 - ta4.1) * (a2 - ta4.1)), inI64 (a2 - ta4.1), (0 : Int) ≤ (sa - 1), nth (t3.1) (Int.toNat (sa - 1)) = some (.agg [I ta4.1, I ta4.2]), inI64 (sa - 1), inI64 (ta2.1 - ta4.1), (0 : Int) ≤ (sa - 1), nth (t3.1) (Int.toNat (sa - 1)) = some (.agg [I ta4.1, I ta4.2]), inI64 (sa - 1), (0 : Int) ≤ sa, nth (t3.1) (Int.toNat sa) = some (.agg [I ta2.1, I ta2.2]), (decide (sa < ((t3.1).length : Int))) = true]) (by kernel_rfl) ⟨(net ha9), (decide_eq_false ha8), ha7, ha6, (el_ok un_Ai2Z_ok ha4).1, (el_ok un_Ai2Z_ok ha4).2, ha3, ha5, (el_ok un_Ai2Z_ok ha4).1, (el_ok un_Ai2Z_ok ha4).2, ha3, (el_ok un_Ai2Z_ok ha2).1, (el_ok un_Ai2Z_ok ha2).2, (decide_eq_true ha1), trivial⟩⟩, nofun⟩
  · replace h := ite_f h ha1
    replace h := Option.some.inj h
    subst h
    exact ⟨⟨100, 122, [.br false], [], [5], [2], round_of (ob := [(decide (sa < ((t3.1).length : Int))) = false]) (by kernel_rfl) ⟨(decide_eq_false ha1), trivial⟩⟩, nofun⟩
/- spillage/spillagelaw03.DriveGoals: .agg [I a0, I a1], .agg [I a2, I a3], .agg [I a4, I a5, .v (.int .i16 a6), .v (.int .i16 a7), .v (.int .u8 a8), .v (.int .u16 a9)] -/
def F_law03_DriveGoals (n : Nat) (a0 : Int) (a1 : Int) (a2 : Int) (a3 : Int) (a4 : Int) (a5 : Int) (a6 : Int) (a7 : Int) (a8 : Int) (a9 : Int) : Option (Bool) :=
  (F_ref03_CheckTrack n a0 a1 a2 a3 a4 a5).bind fun t1 =>
  if t1 = 0 then
    (F_drive_Track_2 n a0 a1 a2 a3 a4 a5).bind fun t3 =>
    if inI64 (a2 - a0) then
    if inI64 (a0 - a2) then
    if inI64 ((maxI (a2 - a0) (a0 - a2)) + a4) then
    if inI64 (((maxI (a2 - a0) (a0 - a2)) + a4) - 1) then
    if a4 ≠ 0 then
    if inI64 (Int.tdiv (((maxI (a2 - a0) (a0 - a2)) + a4) - 1) a4) then
    if inI64 (a3 - a1) then
    if inI64 (a1 - a3) then
    if inI64 ((maxI (a3 - a1) (a1 - a3)) + a5) then
    if inI64 (((maxI (a3 - a1) (a1 - a3)) + a5) - 1) then
    if a5 ≠ 0 then
    if inI64 (Int.tdiv (((maxI (a3 - a1) (a1 - a3)) + a5) - 1) a5) then
    if t3.2 = 0 then
      if inI64 ((maxI (maxI 0 (Int.tdiv (((maxI (a2 - a0) (a0 - a2)) + a4) - 1) a4)) (Int.tdiv (((maxI (a3 - a1) (a1 - a3)) + a5) - 1) a5)) + 1) then
      if ((t3.1).length : Int) = ((maxI (maxI 0 (Int.tdiv (((maxI (a2 - a0) (a0 - a2)) + a4) - 1) a4)) (Int.tdiv (((maxI (a3 - a1) (a1 - a3)) + a5) - 1) a5)) + 1) then
        (el un_Ai2Z t3.1 0).bind fun t19 =>
        if ((t19.1 == a0) && ((t19.2 == a1) && true)) = true then
          if inI64 (((t3.1).length : Int) - 1) then
          (el un_Ai2Z t3.1 (((t3.1).length : Int) - 1)).bind fun t22 =>
          if ((t22.1 == a2) && ((t22.2 == a3) && true)) = true then
            (loopF (F_law03_DriveGoals_L1 n a2 a3 a4 a5 a6 a7 a8 a9 t3) n 1).bind fun t24 => match t24 with
              | (.inl t24) => (
                none /- false -/)
              | (.inr t24) => (
                if (Int.tmod (IntKind.wrap .i64 a8) 3) = 0 then
                  (F_drive_Voted_2 n (Int.tmod (IntKind.wrap .i64 a7) 1001) (Int.tmod (IntKind.wrap .i64 a6) 1001) (Int.tmod (IntKind.wrap .i64 a6) 1001) (Int.tmod (IntKind.wrap .i64 a9) 1001)).bind fun t26 =>
                  if t26.2.2 = 0 then
                    if t26.1 = (Int.tmod (IntKind.wrap .i64 a6) 1001) then
                      if t26.2.1 = (-1) then
                        if inI64 (t26.1 - (Int.tmod (IntKind.wrap .i64 a7) 1001)) then
                        if inI64 ((Int.tmod (IntKind.wrap .i64 a7) 1001) - t26.1) then
                        if ((decide ((maxI (t26.1 - (Int.tmod (IntKind.wrap .i64 a7) 1001)) ((Int.tmod (IntKind.wrap .i64 a7) 1001) - t26.1)) > (Int.tmod (IntKind.wrap .i64 a9) 1001))) == (t26.2.1 == (Int.tmod (IntKind.wrap .i64 a8) 3))) = true then
                          (F_law03_awake n).bind fun t33 =>
                          some t33
                        else
                        none /- false -/
                        else none
                        else none
                      else
                      if t26.2.1 = (Int.tmod (IntKind.wrap .i64 a8) 3) then
                        if inI64 (t26.1 - (Int.tmod (IntKind.wrap .i64 a7) 1001)) then
                        if inI64 ((Int.tmod (IntKind.wrap .i64 a7) 1001) - t26.1) then
                        if ((decide ((maxI (t26.1 - (Int.tmod (IntKind.wrap .i64 a7) 1001)) ((Int.tmod (IntKind.wrap .i64 a7) 1001) - t26.1)) > (Int.tmod (IntKind.wrap .i64 a9) 1001))) == (t26.2.1 == (Int.tmod (IntKind.wrap .i64 a8) 3))) = true then
                          (F_law03_awake n).bind fun t34 =>
                          some t34
                        else
                        none /- false -/
                        else none
                        else none
                      else
                      none /- false -/
                    else
                    none /- false -/
                  else
                  none /- false -/
                else
                if (Int.tmod (IntKind.wrap .i64 a8) 3) = 1 then
                  (F_drive_Voted_2 n (Int.tmod (IntKind.wrap .i64 a6) 1001) (Int.tmod (IntKind.wrap .i64 a7) 1001) (Int.tmod (IntKind.wrap .i64 a6) 1001) (Int.tmod (IntKind.wrap .i64 a9) 1001)).bind fun t27 =>
                  if t27.2.2 = 0 then
                    if t27.1 = (Int.tmod (IntKind.wrap .i64 a6) 1001) then
                      if t27.2.1 = (-1) then
                        if inI64 (t27.1 - (Int.tmod (IntKind.wrap .i64 a7) 1001)) then
                        if inI64 ((Int.tmod (IntKind.wrap .i64 a7) 1001) - t27.1) then
                        if ((decide ((maxI (t27.1 - (Int.tmod (IntKind.wrap .i64 a7) 1001)) ((Int.tmod (IntKind.wrap .i64 a7) 1001) - t27.1)) > (Int.tmod (IntKind.wrap .i64 a9) 1001))) == (t27.2.1 == (Int.tmod (IntKind.wrap .i64 a8) 3))) = true then
                          (F_law03_awake n).bind fun t34 =>
                          some t34
                        else
                        none /- false -/
                        else none
                        else none
                      else
                      if t27.2.1 = (Int.tmod (IntKind.wrap .i64 a8) 3) then
                        if inI64 (t27.1 - (Int.tmod (IntKind.wrap .i64 a7) 1001)) then
                        if inI64 ((Int.tmod (IntKind.wrap .i64 a7) 1001) - t27.1) then
                        if ((decide ((maxI (t27.1 - (Int.tmod (IntKind.wrap .i64 a7) 1001)) ((Int.tmod (IntKind.wrap .i64 a7) 1001) - t27.1)) > (Int.tmod (IntKind.wrap .i64 a9) 1001))) == (t27.2.1 == (Int.tmod (IntKind.wrap .i64 a8) 3))) = true then
                          (F_law03_awake n).bind fun t35 =>
                          some t35
                        else
                        none /- false -/
                        else none
                        else none
                      else
                      none /- false -/
                    else
                    none /- false -/
                  else
                  none /- false -/
                else
                if (Int.tmod (IntKind.wrap .i64 a8) 3) = 2 then
                (F_drive_Voted_2 n (Int.tmod (IntKind.wrap .i64 a6) 1001) (Int.tmod (IntKind.wrap .i64 a6) 1001) (Int.tmod (IntKind.wrap .i64 a7) 1001) (Int.tmod (IntKind.wrap .i64 a9) 1001)).bind fun t28 =>
                if t28.2.2 = 0 then
                  if t28.1 = (Int.tmod (IntKind.wrap .i64 a6) 1001) then
                    if t28.2.1 = (-1) then
                      if inI64 (t28.1 - (Int.tmod (IntKind.wrap .i64 a7) 1001)) then
                      if inI64 ((Int.tmod (IntKind.wrap .i64 a7) 1001) - t28.1) then
                      if ((decide ((maxI (t28.1 - (Int.tmod (IntKind.wrap .i64 a7) 1001)) ((Int.tmod (IntKind.wrap .i64 a7) 1001) - t28.1)) > (Int.tmod (IntKind.wrap .i64 a9) 1001))) == (t28.2.1 == (Int.tmod (IntKind.wrap .i64 a8) 3))) = true then
                        (F_law03_awake n).bind fun t35 =>
                        some t35
                      else
                      none /- false -/
                      else none
                      else none
                    else
                    if t28.2.1 = (Int.tmod (IntKind.wrap .i64 a8) 3) then
                      if inI64 (t28.1 - (Int.tmod (IntKind.wrap .i64 a7) 1001)) then
                      if inI64 ((Int.tmod (IntKind.wrap .i64 a7) 1001) - t28.1) then
                      if ((decide ((maxI (t28.1 - (Int.tmod (IntKind.wrap .i64 a7) 1001)) ((Int.tmod (IntKind.wrap .i64 a7) 1001) - t28.1)) > (Int.tmod (IntKind.wrap .i64 a9) 1001))) == (t28.2.1 == (Int.tmod (IntKind.wrap .i64 a8) 3))) = true then
                        (F_law03_awake n).bind fun t36 =>
                        some t36
                      else
                      none /- false -/
                      else none
                      else none
                    else
                    none /- false -/
                  else
                  none /- false -/
                else
                none /- false -/
                else none)
          else
          none /- false -/
          else none
        else
        none /- false -/
      else
      none /- false -/
      else none
    else
    none /- false -/
    else none
    else none
    else none
    else none
    else none
    else none
    else none
    else none
    else none
    else none
    else none
    else none
  else
  (F_law03_awake n).bind fun t3 =>
  some t3
theorem c_law03_DriveGoals {n : Nat} {a0 : Int} {a1 : Int} {a2 : Int} {a3 : Int} {a4 : Int} {a5 : Int} {a6 : Int} {a7 : Int} {a8 : Int} {a9 : Int} {r : Bool} (h : F_law03_DriveGoals n a0 a1 a2 a3 a4 a5 a6 a7 a8 a9 = some r) : Computes cx 12 [.agg [I a0, I a1], .agg [I a2, I a3], .agg [I a4, I a5, .v (.int .i16 a6), .v (.int .i16 a7), .v (.int .u8 a8), .v (.int .u16 a9)]] (B r) := by
  unfold F_law03_DriveGoals at h
  obtain ⟨t1, h1, h⟩ := bnd_of h
  by_cases h2 : t1 = 0
  · replace h := ite_t h h2
    obtain ⟨t3, h3, h⟩ := bnd_of h
    obtain ⟨h4, h⟩ := grd_of h
    obtain ⟨h5, h⟩ := grd_of h
    obtain ⟨h6, h⟩ := grd_of h
    obtain ⟨h7, h⟩ := grd_of h
    obtain ⟨h8, h⟩ := grd_of h
    obtain ⟨h9, h⟩ := grd_of h
    obtain ⟨h10, h⟩ := grd_of h
    obtain ⟨h11, h⟩ := grd_of h
    obtain ⟨h12, h⟩ := grd_of h
    obtain ⟨h13, h⟩ := grd_of h
    obtain ⟨h14, h⟩ := grd_of h
    obtain ⟨h15, h⟩ := grd_of h
    by_cases h16 : t3.2 = 0
    · replace h := ite_t h h16
      obtain ⟨h17, h⟩ := grd_of h
      by_cases h18 : ((t3.1).length : Int) = ((maxI (maxI 0 (Int.tdiv (((maxI (a2 - a0) (a0 - a2)) + a4) - 1) a4)) (Int.tdiv (((maxI (a3 - a1) (a1 - a3)) + a5) - 1) a5)) + 1)
      · replace h := ite_t h h18
        obtain ⟨t19, h19, h⟩ := bnd_of h
        by_cases h20 : ((t19.1 == a0) && ((t19.2 == a1) && true)) = true
        · replace h := ite_t h h20
          obtain ⟨h21, h⟩ := grd_of h
          obtain ⟨t22, h22, h⟩ := bnd_of h
          by_cases h23 : ((t22.1 == a2) && ((t22.2 == a3) && true)) = true
          · replace h := ite_t h h23
            obtain ⟨t24, h24, h⟩ := bnd_of h
            rcases t24 with t24 | t24
            · cases h
            · by_cases h25 : (Int.tmod (IntKind.wrap .i64 a8) 3) = 0
              · replace h := ite_t h h25
                obtain ⟨t26, h26, h⟩ := bnd_of h
                by_cases h27 : t26.2.2 = 0
                · replace h := ite_t h h27
                  by_cases h28 : t26.1 = (Int.tmod (IntKind.wrap .i64 a6) 1001)
                  · replace h := ite_t h h28
                    by_cases h29 : t26.2.1 = (-1)
                    · replace h := ite_t h h29
                      obtain ⟨h30, h⟩ := grd_of h
                      obtain ⟨h31, h⟩ := grd_of h
                      by_cases h32 : ((decide ((maxI (t26.1 - (Int.tmod (IntKind.wrap .i64 a7) 1001)) ((Int.tmod (IntKind.wrap .i64 a7) 1001) - t26.1)) > (Int.tmod (IntKind.wrap .i64 a9) 1001))) == (t26.2.1 == (Int.tmod (IntKind.wrap .i64 a8) 3))) = true
                      · replace h := ite_t h h32
                        obtain ⟨t33, h33, h⟩ := bnd_of h
                        replace h := Option.some.inj h
                        subst h
                        exact run (n := 100) (f := 12) (args := [.agg [I a0, I a1], .agg [I a2, I a3], .agg [I a4, I a5, .v (.int .i16 a6), .v (.int .i16 a7), .v (.int .u8 a8), .v (.int .u16 a9)]]) (orc := [.ret (I t1), .br false, .ret (.tup [.lst false 2 t3.1, I t3.2]), .no, .no, .no, .no, .no, .no, .br false, .br false, .el (.agg [I t19.1, I t19.2]), .br false, .el (.agg [I t22.1, I t22.2]), .br false, .lp [] [4, 5, 7, 12] [1, 2] (.exit 2) [(5, .ptr 2 0 0 0 0)] [(2, .box (.d (.agg [I a4, I a5, .v (.int .i16 a6), .v (.int .i16 a7), .v (.int .u8 a8), .v (.int .u16 a9)])))] 246, .ix 0, .ret (.tup [I t26.1, I t26.2.1, I t26.2.2]), .br false, .br false, .br false, .no, .ix 0, .ix 0, .br true, .ret (B t33)]) (r := B t33) (ob := [Computes cx 19 [] (B t33), ((decide ((maxI (t26.1 - (Int.tmod (IntKind.wrap .i64 a7) 1001)) ((Int.tmod (IntKind.wrap .i64 a7) 1001) - t26.1)) > (Int.tmod (IntKind.wrap .i64 a9) 1001))) == (t26.2.1 == (Int.tmod (IntKind.wrap .i64 a8) 3))) = true, inI64 ((Int.tmod (IntKind.wrap .i64 a7) 1001) - t26.1), (Int.tmod (IntKind.wrap .i64 a8) 3) = 0, inI64 (t26.1 - (Int.tmod (IntKind.wrap .i64 a7) 1001)), (Int.tmod (IntKind.wrap .i64 a8) 3) = 0, (t26.2.1 != (-1)) = false, (t26.1 != (Int.tmod (IntKind.wrap .i64 a6) 1001)) = false, (1001 : Int) ≠ 0, (t26.2.2 != 0) = false, Computes cx 63 [.agg [I (Int.tmod (IntKind.wrap .i64 a7) 1001), I (Int.tmod (IntKind.wrap .i64 a6) 1001), I (Int.tmod (IntKind.wrap .i64 a6) 1001)], I (Int.tmod (IntKind.wrap .i64 a9) 1001)] (.tup [I t26.1, I t26.2.1, I t26.2.2]), (1001 : Int) ≠ 0, (Int.tmod (IntKind.wrap .i64 a8) 3) = 0, (1001 : Int) ≠ 0, (3 : Int) ≠ 0, (1001 : Int) ≠ 0, (1001 : Int) ≠ 0, (1001 : Int) ≠ 0, LoopN cx (loopAt cx.P 12 1) 226 0 false [(4, .ptr 1 0 0 0 0), (5, .ptr 2 0 0 0 0), (7, .d (.lst false 2 t3.1)), (12, .d (I 1))] [(1, .box (.d (.agg [I a2, I a3]))), (2, .box (.d (.agg [I a4, I a5, .v (.int .i16 a6), .v (.int .i16 a7), .v (.int .u8 a8), .v (.int .u16 a9)])))] (.exit 2) [(5, .ptr 2 0 0 0 0)] [(2, .box (.d (.agg [I a4, I a5, .v (.int .i16 a6), .v (.int .i16 a7), .v (.int .u8 a8), .v (.int .u16 a9)])))], (!((t22.1 == a2) && ((t22.2 == a3) && true))) = false, (0 : Int) ≤ (((t3.1).length : Int) - 1), nth (t3.1) (Int.toNat (((t3.1).length : Int) - 1)) = some (.agg [I t22.1, I t22.2]), inI64 (((t3.1).length : Int) - 1), (!((t19.1 == a0) && ((t19.2 == a1) && true))) = false, (0 : Int) ≤ 0, nth (t3.1) (Int.toNat 0) = some (.agg [I t19.1, I t19.2]), (((t3.1).length : Int) != ((maxI (maxI 0 (Int.tdiv (((maxI (a2 - a0) (a0 - a2)) + a4) - 1) a4)) (Int.tdiv (((maxI (a3 - a1) (a1 - a3)) + a5) - 1) a5)) + 1)) = false, inI64 ((maxI (maxI 0 (Int.tdiv (((maxI (a2 - a0) (a0 - a2)) + a4) - 1) a4)) (Int.tdiv (((maxI (a3 - a1) (a1 - a3)) + a5) - 1) a5)) + 1), (t3.2 != 0) = false, inI64 2, a5 ≠ 0, inI64 (Int.tdiv (((maxI (a3 - a1) (a1 - a3)) + a5) - 1) a5), inI64 (((maxI (a3 - a1) (a1 - a3)) + a5) - 1), inI64 ((maxI (a3 - a1) (a1 - a3)) + a5), inI64 (a1 - a3), inI64 (a3 - a1), inI64 1, a4 ≠ 0, inI64 (Int.tdiv (((maxI (a2 - a0) (a0 - a2)) + a4) - 1) a4), inI64 (((maxI (a2 - a0) (a0 - a2)) + a4) - 1), inI64 ((maxI (a2 - a0) (a0 - a2)) + a4), inI64 (a0 - a2), inI64 (a2 - a0), Computes cx 32 [.agg [I a0, I a1], .agg [I a2, I a3], .agg [I a4, I a5]] (.tup [.lst false 2 t3.1, I t3.2]), (t1 != 0) = false, Computes cx 33 [.agg [I a0, I a1], .agg [I a2, I a3], .agg [I a4, I a5]] (I t1)]) (by kernel_rfl) ⟨(c_law03_awake h33), h32, h31, h25, h30, h25, (nef h29), (nef h28), (by decide), (nef h27), (c_drive_Voted_2 h26), (by decide), h25, (by decide), (by decide), (by decide), (by decide), (by decide), (loopF_to R_law03_DriveGoals_L1 h24), (notf h23), (el_ok un_Ai2Z_ok h22).1, (el_ok un_Ai2Z_ok h22).2, h21, (notf h20), (el_ok un_Ai2Z_ok h19).1, (el_ok un_Ai2Z_ok h19).2, (nef h18), h17, (nef h16), (by unfold inI64; omega), h14, h15, h13, h12, h11, h10, (by unfold inI64; omega), h8, h9, h7, h6, h5, h4, (c_drive_Track_2 h3), (nef h2), (c_ref03_CheckTrack h1), trivial⟩
                      · replace h := ite_f h h32
                        cases h
                    · replace h := ite_f h h29
                      by_cases h30 : t26.2.1 = (Int.tmod (IntKind.wrap .i64 a8) 3)
                      · replace h := ite_t h h30
                        obtain ⟨h31, h⟩ := grd_of h
                        obtain ⟨h32, h⟩ := grd_of h
                        by_cases h33 : ((decide ((maxI (t26.1 - (Int.tmod (IntKind.wrap .i64 a7) 1001)) ((Int.tmod (IntKind.wrap .i64 a7) 1001) - t26.1)) > (Int.tmod (IntKind.wrap .i64 a9) 1001))) == (t26.2.1 == (Int.tmod (IntKind.wrap .i64 a8) 3))) = true
                        · replace h := ite_t h h33
                          obtain ⟨t34, h34, h⟩ := bnd_of h
                          replace h := Option.some.inj h
                          subst h
                          exact run (n := 100) (f := 12) (args := [.agg [I a0, I a1], .agg [I a2, I a3], .agg [I a4, I a5, .v (.int .i16 a6), .v (.int .i16 a7), .v (.int .u8 a8), .v (.int .u16 a9)]]) (orc := [.ret (I t1), .br false, .ret (.tup [.lst false 2 t3.1, I t3.2]), .no, .no, .no, .no, .no, .no, .br false, .br false, .el (.agg [I t19.1, I t19.2]), .br false, .el (.agg [I t22.1, I t22.2]), .br false, .lp [] [4, 5, 7, 12] [1, 2] (.exit 2) [(5, .ptr 2 0 0 0 0)] [(2, .box (.d (.agg [I a4, I a5, .v (.int .i16 a6), .v (.int .i16 a7), .v (.int .u8 a8), .v (.int .u16 a9)])))] 246, .ix 0, .ret (.tup [I t26.1, I t26.2.1, I t26.2.2]), .br false, .br false, .br true, .br false, .ix 0, .ix 0, .br true, .ret (B t34)]) (r := B t34) (ob := [Computes cx 19 [] (B t34), ((decide ((maxI (t26.1 - (Int.tmod (IntKind.wrap .i64 a7) 1001)) ((Int.tmod (IntKind.wrap .i64 a7) 1001) - t26.1)) > (Int.tmod (IntKind.wrap .i64 a9) 1001))) == (t26.2.1 == (Int.tmod (IntKind.wrap .i64 a8) 3))) = true, inI64 ((Int.tmod (IntKind.wrap .i64 a7) 1001) - t26.1), (Int.tmod (IntKind.wrap .i64 a8) 3) = 0, inI64 (t26.1 - (Int.tmod (IntKind.wrap .i64 a7) 1001)), (Int.tmod (IntKind.wrap .i64 a8) 3) = 0, (t26.2.1 != (Int.tmod (IntKind.wrap .i64 a8) 3)) = false, (t26.2.1 != (-1)) = true, (t26.1 != (Int.tmod (IntKind.wrap .i64 a6) 1001)) = false, (1001 : Int) ≠ 0, (t26.2.2 != 0) = false, Computes cx 63 [.agg [I (Int.tmod (IntKind.wrap .i64 a7) 1001), I (Int.tmod (IntKind.wrap .i64 a6) 1001), I (Int.tmod (IntKind.wrap .i64 a6) 1001)], I (Int.tmod (IntKind.wrap .i64 a9) 1001)] (.tup [I t26.1, I t26.2.1, I t26.2.2]), (1001 : Int) ≠ 0, (Int.tmod (IntKind.wrap .i64 a8) 3) = 0, (1001 : Int) ≠ 0, (3 : Int) ≠ 0, (1001 : Int) ≠ 0, (1001 : Int) ≠ 0, (1001 : Int) ≠ 0, LoopN cx (loopAt cx.P 12 1) 226 0 false [(4, .ptr 1 0 0 0 0), (5, .ptr 2 0 0 0 0), (7, .d (.lst false 2 t3.1)), (12, .d (I 1))] [(1, .box (.d (.agg [I a2, I a3]))), (2, .box (.d (.agg [I a4, I a5, .v (.int .i16 a6), .v (.int .i16 a7), .v (.int .u8 a8), .v (.int .u16 a9)])))] (.exit 2) [(5, .ptr 2 0 0 0 0)] [(2, .box (.d (.agg [I a4, I a5, .v (.int .i16 a6), .v (.int .i16 a7), .v (.int .u8 a8), .v (.int .u16 a9)])))], (!((t22.1 == a2) && ((t22.2 == a3) && true))) = false, (0 : Int) ≤ (((t3.1).length : Int) - 1), nth (t3.1) (Int.toNat (((t3.1).length : Int) - 1)) = some (.agg [I t22.1, I t22.2]), inI64 (((t3.1).length : Int) - 1), (!((t19.1 == a0) && ((t19.2 == a1) && true))) = false, (0 : Int) ≤ 0, nth (t3.1) (Int.toNat 0) = some (.agg [I t19.1, I t19.2]), (((t3.1).length : Int) != ((maxI (maxI 0 (Int.tdiv (((maxI (a2 - a0) (a0 - a2)) + a4) - 1) a4)) (Int.tdiv (((maxI (a3 - a1) (a1 - a3)) + a5) - 1) a5)) + 1)) = false, inI64 ((maxI (maxI 0 (Int.tdiv (((maxI (a2 - a0) (a0 - a2)) + a4) - 1) a4)) (Int.tdiv (((maxI (a3 - a1) (a1 - a3)) + a5) - 1) a5)) + 1), (t3.2 != 0) = false, inI64 2, a5 ≠ 0, inI64 (Int.tdiv (((maxI (a3 - a1) (a1 - a3)) + a5) - 1) a5), inI64 (((maxI (a3 - a1) (a1 - a3)) + a5) - 1), inI64 ((maxI (a3 - a1) (a1 - a3)) + a5), inI64 (a1 - a3), inI64 (a3 - a1), inI64 1, a4 ≠ 0, inI64 (Int.tdiv (((maxI (a2 - a0) (a0 - a2)) + a4) - 1) a4), inI64 (((maxI (a2 - a0) (a0 - a2)) + a4) - 1), inI64 ((maxI (a2 - a0) (a0 - a2)) + a4), inI64 (a0 - a2), inI64 (a2 - a0), Computes cx 32 [.agg [I a0, I a1], .agg [I a2, I a3], .agg [I a4, I a5]] (.tup [.lst false 2 t3.1, I t3.2]), (t1 != 0) = false, Computes cx 33 [.agg [I a0, I a1], .agg [I a2, I a3], .agg [I a4, I a5]] (I t1)]) (by kernel_rfl) ⟨(c_law03_awake h34), h33, h32, h25, h31, h25, (nef h30), (net h29), (nef h28), (by decide), (nef h27), (c_drive_Voted_2 h26), (by decide), h25, (by decide), (by decide), (by decide), (by decide), (by decide), (loopF_to R_law03_DriveGoals_L1 h24), (notf h23), (el_ok un_Ai2Z_ok h22).1, (el_ok un_Ai2Z_ok h22).2, h21, (notf h20), (el_ok un_Ai2Z_ok h19).1, (el_ok un_Ai2Z_ok h19).2, (nef h18), h17, (nef h16), (by unfold inI64; omega), h14, h15, h13, h12, h11, h10, (by unfold inI64; omega), h8, h9, h7, h6, h5, h4, (c_drive_Track_2 h3), (nef h2), (c_ref03_CheckTrack h1), trivial⟩
                        · replace h := ite_f h h33
                          cases h
                      · replace h := ite_f h h30
                        cases h
                  · replace h := ite_f h h28
                    cases h
                · replace h := ite_f h h27
                  cases h
              · replace h := ite_f h h25
                by_cases h26 : (Int.tmod (IntKind.wrap .i64 a8) 3) = 1
                · replace h := ite_t h h26
                  obtain ⟨t27, h27, h⟩ := bnd_of h
                  by_cases h28 : t27.2.2 = 0
                  · replace h := ite_t h h28
                    by_cases h29 : t27.1 = (Int.tmod (IntKind.wrap .i64 a6) 1001)
                    · replace h := ite_t h h29
                      by_cases h30 : t27.2.1 = (-1)
                      · replace h := ite_t h h30
                        obtain ⟨h31, h⟩ := grd_of h
                        obtain ⟨h32, h⟩ := grd_of h
                        by_cases h33 : ((decide ((maxI (t27.1 - (Int.tmod (IntKind.wrap .i64 a7) 1001)) ((Int.tmod (IntKind.wrap .i64 a7) 1001) - t27.1)) > (Int.tmod (IntKind.wrap .i64 a9) 1001))) == (t27.2.1 == (Int.tmod (IntKind.wrap .i64 a8) 3))) = true
                        · replace h := ite_t h h33
                          obtain ⟨t34, h34, h⟩ := bnd_of h
                          replace h := Option.some.inj h
                          subst h
                          exact run (n := 100) (f := 12) (args := [.agg [I a0, I a1], .agg [I a2, I a3], .agg [I a4, I a5, .v (.int .i16 a6), .v (.int .i16 a7), .v (.int .u8 a8), .v (.int .u16 a9)]]) (orc := [.ret (I t1), .br false, .ret (.tup [.lst false 2 t3.1, I t3.2]), .no, .no, .no, .no, .no, .no, .br false, .br false, .el (.agg [I t19.1, I t19.2]), .br false, .el (.agg [I t22.1, I t22.2]), .br false, .lp [] [4, 5, 7, 12] [1, 2] (.exit 2) [(5, .ptr 2 0 0 0 0)] [(2, .box (.d (.agg [I a4, I a5, .v (.int .i16 a6), .v (.int .i16 a7), .v (.int .u8 a8), .v (.int .u16 a9)])))] 246, .ix 1, .ret (.tup [I t27.1, I t27.2.1, I t27.2.2]), .br false, .br false, .br false, .no, .ix 1, .ix 1, .br true, .ret (B t34)]) (r := B t34) (ob := [Computes cx 19 [] (B t34), ((decide ((maxI (t27.1 - (Int.tmod (IntKind.wrap .i64 a7) 1001)) ((Int.tmod (IntKind.wrap .i64 a7) 1001) - t27.1)) > (Int.tmod (IntKind.wrap .i64 a9) 1001))) == (t27.2.1 == (Int.tmod (IntKind.wrap .i64 a8) 3))) = true, inI64 ((Int.tmod (IntKind.wrap .i64 a7) 1001) - t27.1), (Int.tmod (IntKind.wrap .i64 a8) 3) = 1, inI64 (t27.1 - (Int.tmod (IntKind.wrap .i64 a7) 1001)), (Int.tmod (IntKind.wrap .i64 a8) 3) = 1, (t27.2.1 != (-1)) = false, (t27.1 != (Int.tmod (IntKind.wrap .i64 a6) 1001)) = false, (1001 : Int) ≠ 0, (t27.2.2 != 0) = false, Computes cx 63 [.agg [I (Int.tmod (IntKind.wrap .i64 a6) 1001), I (Int.tmod (IntKind.wrap .i64 a7) 1001), I (Int.tmod (IntKind.wrap .i64 a6) 1001)], I (Int.tmod (IntKind.wrap .i64 a9) 1001)] (.tup [I t27.1, I t27.2.1, I t27.2.2]), (1001 : Int) ≠ 0, (Int.tmod (IntKind.wrap .i64 a8) 3) = 1, (1001 : Int) ≠ 0, (3 : Int) ≠ 0, (1001 : Int) ≠ 0, (1001 : Int) ≠ 0, (1001 : Int) ≠ 0, LoopN cx (loopAt cx.P 12 1) 226 0 false [(4, .ptr 1 0 0 0 0), (5, .ptr 2 0 0 0 0), (7, .d (.lst false 2 t3.1)), (12, .d (I 1))] [(1, .box (.d (.agg [I a2, I a3]))), (2, .box (.d (.agg [I a4, I a5, .v (.int .i16 a6), .v (.int .i16 a7), .v (.int .u8 a8), .v (.int .u16 a9)])))] (.exit 2) [(5, .ptr 2 0 0 0 0)] [(2, .box (.d (.agg [I a4, I a5, .v (.int .i16 a6), .v (.int .i16 a7), .v (.int .u8 a8), .v (.int .u16 a9)])))], (!((t22.1 == a2) && ((t22.2 == a3) && true))) = false, (0 : Int) ≤ (((t3.1).length : Int) - 1), nth (t3.1) (Int.toNat (((t3.1).length : Int) - 1)) = some (.agg [I t22.1, I t22.2]), inI64 (((t3.1).length : Int) - 1), (!((t19.1 == a0) && ((t19.2 == a1) && true))) = false, (0 : Int) ≤ 0, nth (t3.1) (Int.toNat 0) = some (.agg [I t19.1, I t19.2]), (((t3.1).length : Int) != ((maxI (maxI 0 (Int.tdiv (((maxI (a2 - a0) (a0 - a2)) + a4) - 1) a4)) (Int.tdiv (((maxI (a3 - a1) (a1 - a3)) + a5) - 1) a5)) + 1)) = false, inI64 ((maxI (maxI 0 (Int.tdiv (((maxI (a2 - a0) (a0 - a2)) + a4) - 1) a4)) (Int.tdiv (((maxI (a3 - a1) (a1 - a3)) + a5) - 1) a5)) + 1), (t3.2 != 0) = false, inI64 2, a5 ≠ 0, inI64 (Int.tdiv (((maxI (a3 - a1) (a1 - a3)) + a5) - 1) a5), inI64 (((maxI (a3 - a1) (a1 - a3)) + a5) - 1), inI64 ((maxI (a3 - a1) (a1 - a3)) + a5), inI64 (a1 - a3), inI64 (a3 - a1), inI64 1, a4 ≠ 0, inI64 (Int.tdiv (((maxI (a2 - a0) (a0 - a2)) + a4) - 1) a4), inI64 (((maxI (a2 - a0) (a0 - a2)) + a4) - 1), inI64 ((maxI (a2 - a0) (a0 - a2)) + a4), inI64 (a0 - a2), inI64 (a2 - a0), Computes cx 32 [.agg [I a0, I a1], .agg [I a2, I a3], .agg [I a4, I a5]] (.tup [.lst false 2 t3.1, I t3.2]), (t1 != 0) = false, Computes cx 33 [.agg [I a0, I a1], .agg [I a2, I a3], .agg [I a4, I a5]] (I t1)]) (by kernel_rfl) ⟨(c_law03_awake h34), h33, h32, h26, h31, h26, (nef h30), (nef h29), (by decide), (nef h28), (c_drive_Voted_2 h27), (by decide), h26, (by decide), (by decide), (by decide), (by decide), (by decide), (loopF_to R_law03_DriveGoals_L1 h24), (notf h23), (el_ok un_Ai2Z_ok h22).1, (el_ok un_Ai2Z_ok h22).2, h21, (notf h20), (el_ok un_Ai2Z_ok h19).1, (el_ok un_Ai2Z_ok h19).2, (nef h18), h17, (nef h16), (by unfold inI64; omega), h14, h15, h13, h12, h11, h10, (by unfold inI64; omega), h8, h9, h7, h6, h5, h4, (c_drive_Track_2 h3), (nef h2), (c_ref03_CheckTrack h1), trivial⟩
                        · replace h := ite_f h h33
                          cases h
                      · replace h := ite_f h h30
                        by_cases h31 : t27.2.1 = (Int.tmod (IntKind.wrap .i64 a8) 3)
                        · replace h := ite_t h h31
                          obtain ⟨h32, h⟩ := grd_of h
                          obtain ⟨h33, h⟩ := grd_of h
                          by_cases h34 : ((decide ((maxI (t27.1 - (Int.tmod (IntKind.wrap .i64 a7) 1001)) ((Int.tmod (IntKind.wrap .i64 a7) 1001) - t27.1)) > (Int.tmod (IntKind.wrap .i64 a9) 1001))) == (t27.2.1 == (Int.tmod (IntKind.wrap .i64 a8) 3))) = true
                          · replace h := ite_t h h34
                            obtain ⟨t35, h35, h⟩ := bnd_of h
                            replace h := Option.some.inj h
                            subst h
                            exact run (n := 100) (f := 12) (args := [.agg [I a0, I a1], .agg [I a2, I a3], .agg [I a4, I a5, .v (.int .i16 a6), .v (.int .i16 a7), .v (.int .u8 a8), .v (.int .u16 a9)]]) (orc := [.ret (I t1), .br false, .ret (.tup [.lst false 2 t3.1, I t3.2]), .no, .no, .no, .no, .no, .no, .br false, .br false, .el (.agg [I t19.1, I t19.2]), .br false, .el (.agg [I t22.1, I t22.2]), .br false, .lp [] [4, 5, 7, 12] [1, 2] (.exit 2) [(5, .ptr 2 0 0 0 0)] [(2, .box (.d (.agg [I a4, I a5, .v (.int .i16 a6), .v (.int .i16 a7), .v (.int .u8 a8), .v (.int .u16 a9)])))] 246, .ix 1, .ret (.tup [I t27.1, I t27.2.1, I t27.2.2]), .br false, .br false, .br true, .br false, .ix 1, .ix 1, .br true, .ret (B t35)]) (r := B t35) (ob := [Computes cx 19 [] (B t35), ((decide ((maxI (t27.1 - (Int.tmod (IntKind.wrap .i64 a7) 1001)) ((Int.tmod (IntKind.wrap .i64 a7) 1001) - t27.1)) > (Int.tmod (IntKind.wrap .i64 a9) 1001))) == (t27.2.1 == (Int.tmod (IntKind.wrap .i64 a8) 3))) = true, inI64 ((Int.tmod (IntKind.wrap .i64 a7) 1001) - t27.1), (Int.tmod (IntKind.wrap .i64 a8) 3) = 1, inI64 (t27.1 - (Int.tmod (IntKind.wrap .i64 a7) 1001)), (Int.tmod (IntKind.wrap .i64 a8) 3) = 1, (t27.2.1 != (Int.tmod (IntKind.wrap .i64 a8) 3)) = false, (t27.2.1 != (-1)) = true, (t27.1 != (Int.tmod (IntKind.wrap .i64 a6) 1001)) = false, (1001 : Int) ≠ 0, (t27.2.2 != 0) = false, Computes cx 63 [.agg [I (Int.tmod (IntKind.wrap .i64 a6) 1001), I (Int.tmod (IntKind.wrap .i64 a7) 1001), I (Int.tmod (IntKind.wrap .i64 a6) 1001)], I (Int.tmod (IntKind.wrap .i64 a9) 1001)] (.tup [I t27.1, I t27.2.1, I t27.2.2]), (1001 : Int) ≠ 0, (Int.tmod (IntKind.wrap .i64 a8) 3) = 1, (1001 : Int) ≠ 0, (3 : Int) ≠ 0, (1001 : Int) ≠ 0, (1001 : Int) ≠ 0, (1001 : Int) ≠ 0, LoopN cx (loopAt cx.P 12 1) 226 0 false [(4, .ptr 1 0 0 0 0), (5, .ptr 2 0 0 0 0), (7, .d (.lst false 2 t3.1)), (12, .d (I 1))] [(1, .box (.d (.agg [I a2, I a3]))), (2, .box (.d (.agg [I a4, I a5, .v (.int .i16 a6), .v (.int .i16 a7), .v (.int .u8 a8), .v (.int .u16 a9)])))] (.exit 2) [(5, .ptr 2 0 0 0 0)] [(2, .box (.d (.agg [I a4, I a5, .v (.int .i16 a6), .v (.int .i16 a7), .v (.int .u8 a8), .v (.int .u16 a9)])))], (!((t22.1 == a2) && ((t22.2 == a3) && true))) = false, (0 : Int) ≤ (((t3.1).length : Int) - 1), nth (t3.1) (Int.toNat (((t3.1).length : Int) - 1)) = some (.agg [I t22.1, I t22.2]), inI64 (((t3.1).length : Int) - 1), (!((t19.1 == a0) && ((t19.2 == a1) && true))) = false, (0 : Int) ≤ 0, nth (t3.1) (Int.toNat 0) = some (.agg [I t19.1, I t19.2]), (((t3.1).length : Int) != ((maxI (maxI 0 (Int.tdiv (((maxI (a2 - a0) (a0 - a2)) + a4) - 1) a4)) (Int.tdiv (((maxI (a3 - a1) (a1 - a3)) + a5) - 1) a5)) + 1)) = false, inI64 ((maxI (maxI 0 (Int.tdiv (((maxI (a2 - a0) (a0 - a2)) + a4) - 1) a4)) (Int.tdiv (((maxI (a3 - a1) (a1 - a3)) + a5) - 1) a5)) + 1), (t3.2 != 0) = false, inI64 2, a5 ≠ 0, inI64 (Int.tdiv (((maxI (a3 - a1) (a1 - a3)) + a5) - 1) a5), inI64 (((maxI (a3 - a1) (a1 - a3)) + a5) - 1), inI64 ((maxI (a3 - a1) (a1 - a3)) + a5), inI64 (a1 - a3), inI64 (a3 - a1), inI64 1, a4 ≠ 0, inI64 (Int.tdiv (((maxI (a2 - a0) (a0 - a2)) + a4) - 1) a4), inI64 (((maxI (a2 - a0) (a0 - a2)) + a4) - 1), inI64 ((maxI (a2 - a0) (a0 - a2)) + a4), inI64 (a0 - a2), inI64 (a2 - a0), Computes cx 32 [.agg [I a0, I a1], .agg [I a2, I a3], .agg [I a4, I a5]] (.tup [.lst false 2 t3.1, I t3.2]), (t1 != 0) = false, Computes cx 33 [.agg [I a0, I a1], .agg [I a2, I a3], .agg [I a4, I a5]] (I t1)]) (by kernel_rfl) ⟨(c_law03_awake h35), h34, h33, h26, h32, h26, (nef h31), (net h30), (nef h29), (by decide), (nef h28), (c_drive_Voted_2 h27), (by decide), h26, (by decide), (by decide), (by decide), (by decide), (by decide), (loopF_to R_law03_DriveGoals_L1 h24), (notf h23), (el_ok un_Ai2Z_ok h22).1, (el_ok un_Ai2Z_ok h22).2, h21, (notf h20), (el_ok un_Ai2Z_ok h19).1, (el_ok un_Ai2Z_ok h19).2, (nef h18), h17, (nef h16), (by unfold inI64; omega), h14, h15, h13, h12, h11, h10, (by unfold inI64; omega), h8, h9, h7, h6, h5, h4, (c_drive_Track_2 h3), (nef h2), (c_ref03_CheckTrack h1), trivial⟩
                          · replace h := ite_f h h34
                            cases h
                        · replace h := ite_f h h31
                          cases h
                    · replace h := ite_f h h29
                      cases h
                  · replace h := ite_f h h28
                    cases h
                · replace h := ite_f h h26
                  obtain ⟨h27, h⟩ := grd_of h
                  obtain ⟨t28, h28, h⟩ := bnd_of h
                  by_cases h29 : t28.2.2 = 0
                  · replace h := ite_t h h29
                    by_cases h30 : t28.1 = (Int.tmod (IntKind.wrap .i64 a6) 1001)
                    · replace h := ite_t h h30
                      by_cases h31 : t28.2.1 = (-1)
                      · replace h := ite_t h h31
                        obtain ⟨h32, h⟩ := grd_of h
                        obtain ⟨h33, h⟩ := grd_of h
                        by_cases h34 : ((decide ((maxI (t28.1 - (Int.tmod (IntKind.wrap .i64 a7) 1001)) ((Int.tmod (IntKind.wrap .i64 a7) 1001) - t28.1)) > (Int.tmod (IntKind.wrap .i64 a9) 1001))) == (t28.2.1 == (Int.tmod (IntKind.wrap .i64 a8) 3))) = true
                        · replace h := ite_t h h34
                          obtain ⟨t35, h35, h⟩ := bnd_of h
                          replace h := Option.some.inj h
                          subst h
                          exact run (n := 100) (f := 12) (args := [.agg [I a0, I a1], .agg [I a2, I a3], .agg [I a4, I a5, .v (.int .i16 a6), .v (.int .i16 a7), .v (.int .u8 a8), .v (.int .u16 a9)]]) (orc := [.ret (I t1), .br false, .ret (.tup [.lst false 2 t3.1, I t3.2]), .no, .no, .no, .no, .no, .no, .br false, .br false, .el (.agg [I t19.1, I t19.2]), .br false, .el (.agg [I t22.1, I t22.2]), .br false, .lp [] [4, 5, 7, 12] [1, 2] (.exit 2) [(5, .ptr 2 0 0 0 0)] [(2, .box (.d (.agg [I a4, I a5, .v (.int .i16 a6), .v (.int .i16 a7), .v (.int .u8 a8), .v (.int .u16 a9)])))] 246, .ix 2, .ret (.tup [I t28.1, I t28.2.1, I t28.2.2]), .br false, .br false, .br false, .no, .ix 2, .ix 2, .br true, .ret (B t35)]) (r := B t35) (ob := [Computes cx 19 [] (B t35), ((decide ((maxI (t28.1 - (Int.tmod (IntKind.wrap .i64 a7) 1001)) ((Int.tmod (IntKind.wrap .i64 a7) 1001) - t28.1)) > (Int.tmod (IntKind.wrap .i64 a9) 1001))) == (t28.2.1 == (Int.tmod (IntKind.wrap .i64 a8) 3))) = true, inI64 ((Int.tmod (IntKind.wrap .i64 a7) 1001) - t28.1), (Int.tmod (IntKind.wrap .i64 a8) 3) = 2, inI64 (t28.1 - (Int.tmod (IntKind.wrap .i64 a7) 1001)), (Int.tmod (IntKind.wrap .i64 a8) 3) = 2, (t28.2.1 != (-1)) = false, (t28.1 != (Int.tmod (IntKind.wrap .i64 a6) 1001)) = false, (1001 : Int) ≠ 0, (t28.2.2 != 0) = false, Computes cx 63 [.agg [I (Int.tmod (IntKind.wrap .i64 a6) 1001), I (Int.tmod (IntKind.wrap .i64 a6) 1001), I (Int.tmod (IntKind.wrap .i64 a7) 1001)], I (Int.tmod (IntKind.wrap .i64 a9) 1001)] (.tup [I t28.1, I t28.2.1, I t28.2.2]), (1001 : Int) ≠ 0, (Int.tmod (IntKind.wrap .i64 a8) 3) = 2, (1001 : Int) ≠ 0, (3 : Int) ≠ 0, (1001 : Int) ≠ 0, (1001 : Int) ≠ 0, (1001 : Int) ≠ 0, LoopN cx (loopAt cx.P 12 1) 226 0 false [(4, .ptr 1 0 0 0 0), (5, .ptr 2 0 0 0 0), (7, .d (.lst false 2 t3.1)), (12, .d (I 1))] [(1, .box (.d (.agg [I a2, I a3]))), (2, .box (.d (.agg [I a4, I a5, .v (.int .i16 a6), .v (.int .i16 a7), .v (.int .u8 a8), .v (.int .u16 a9)])))] (.exit 2) [(5, .ptr 2 0 0 0 0)] [(2, .box (.d (.agg [I a4, I a5, .v (.int .i16 a6), .v (.int .i16 a7), .v (.int .u8 a8), .v (.int .u16 a9)])))], (!((t22.1 == a2) && ((t22.2 == a3) && true))) = false, (0 : Int) ≤ (((t3.1).length : Int) - 1), nth (t3.1) (Int.toNat (((t3.1).length : Int) - 1)) = some (.agg [I t22.1, I t22.2]), inI64 (((t3.1).length : Int) - 1), (!((t19.1 == a0) && ((t19.2 == a1) && true))) = false, (0 : Int) ≤ 0, nth (t3.1) (Int.toNat 0) = some (.agg [I t19.1, I t19.2]), (((t3.1).length : Int) != ((maxI (maxI 0 (Int.tdiv (((maxI (a2 - a0) (a0 - a2)) + a4) - 1) a4)) (Int.tdiv (((maxI (a3 - a1) (a1 - a3)) + a5) - 1) a5)) + 1)) = false, inI64 ((maxI (maxI 0 (Int.tdiv (((maxI (a2 - a0) (a0 - a2)) + a4) - 1) a4)) (Int.tdiv (((maxI (a3 - a1) (a1 - a3)) + a5) - 1) a5)) + 1), (t3.2 != 0) = false, inI64 2, a5 ≠ 0, inI64 (Int.tdiv (((maxI (a3 - a1) (a1 - a3)) + a5) - 1) a5), inI64 (((maxI (a3 - a1) (a1 - a3)) + a5) - 1), inI64 ((maxI (a3 - a1) (a1 - a3)) + a5), inI64 (a1 - a3), inI64 (a3 - a1), inI64 1, a4 ≠ 0, inI64 (Int.tdiv (((maxI (a2 - a0) (a0 - a2)) + a4) - 1) a4), inI64 (((maxI (a2 - a0) (a0 - a2)) + a4) - 1), inI64 ((maxI (a2 - a0) (a0 - a2)) + a4), inI64 (a0 - a2), inI64 (a2 - a0), Computes cx 32 [.agg [I a0, I a1], .agg [I a2, I a3], .agg [I a4, I a5]] (.tup [.lst false 2 t3.1, I t3.2]), (t1 != 0) = false, Computes cx 33 [.agg [I a0, I a1], .agg [I a2, I a3], .agg [I a4, I a5]] (I t1)]) (by kernel_rfl) ⟨(c_law03_awake h35), h34, h33, h27, h32, h27, (nef h31), (nef h30), (by decide), (nef h29), (c_drive_Voted_2 h28), (by decide), h27, (by decide), (by decide), (by decide), (by decide), (by decide), (loopF_to R_law03_DriveGoals_L1 h24), (notf h23), (el_ok un_Ai2Z_ok h22).1, (el_ok un_Ai2Z_ok h22).2, h21, (notf h20), (el_ok un_Ai2Z_ok h19).1, (el_ok un_Ai2Z_ok h19).2, (nef h18), h17, (nef h16), (by unfold inI64; omega), h14, h15, h13, h12, h11, h10, (by unfold inI64; omega), h8, h9, h7, h6, h5, h4, (c_drive_Track_2 h3), (nef h2), (c_ref03_CheckTrack h1), trivial⟩
                        · replace h := ite_f h h34
                          cases h
                      · replace h := ite_f h h31
                        by_cases h32 : t28.2.1 = (Int.tmod (IntKind.wrap .i64 a8) 3)
                        · replace h := ite_t h h32
                          obtain ⟨h33, h⟩ := grd_of h
                          obtain ⟨h34, h⟩ := grd_of h
                          by_cases h35 : ((decide ((maxI (t28.1 - (Int.tmod (IntKind.wrap .i64 a7) 1001)) ((Int.tmod (IntKind.wrap .i64 a7) 1001) - t28.1)) > (Int.tmod (IntKind.wrap .i64 a9) 1001))) == (t28.2.1 == (Int.tmod (IntKind.wrap .i64 a8) 3))) = true
                          · replace h := ite_t h h35
                            obtain ⟨t36, h36, h⟩ := bnd_of h
                            replace h := Option.some.inj h
                            subst h
                            exact run (n := 100) (f := 12) (args := [.agg [I a0, I a1], .agg [I a2, I a3], .agg [I a4, I a5, .v (.int .i16 a6), .v (.int .i16 a7), .v (.int .u8 a8), .v (.int .u16 a9)]]) (orc := [.ret (I t1), .br false, .ret (.tup [.lst false 2 t3.1, I t3.2]), .no, .no, .no, .no, .no, .no, .br false, .br false, .el (.agg [I t19.1, I t19.2]), .br false, .el (.agg [I t22.1, I t22.2]), .br false, .lp [] [4, 5, 7, 12] [1, 2] (.exit 2) [(5, .ptr 2 0 0 0 0)] [(2, .box (.d (.agg [I a4, I a5, .v (.int .i16 a6), .v (.int .i16 a7), .v (.int .u8 a8), .v (.int .u16 a9)])))] 246, .ix 2, .ret (.tup [I t28.1, I t28.2.1, I t28.2.2]), .br false, .br false, .br true, .br false, .ix 2, .ix 2, .br true, .ret (B t36)]) (r := B t36) (ob := [Computes cx 19 [] (B t36), ((decide ((maxI (t28.1 - (Int.tmod (IntKind.wrap .i64 a7) 1001)) ((Int.tmod (IntKind.wrap .i64 a7) 1001) - t28.1)) > (Int.tmod (IntKind.wrap .i64 a9) 1001))) == (t28.2.1 == (Int.tmod (IntKind.wrap .i64 a8) 3))) = true, inI64 ((Int.tmod (IntKind.wrap .i64 a7) 1001) - t28.1), (Int.tmod (IntKind.wrap .i64 a8) 3) = 2, inI64 (t28.1 - (Int.tmod (IntKind.wrap .i64 a7) 1001)), (Int.tmod (IntKind.wrap .i64 a8) 3) = 2, (t28.2.1 != (Int.tmod (IntKind.wrap .i64 a8) 3)) = false, (t28.2.1 != (-1)) = true, (t28.1 != (Int.tmod (IntKind.wrap .i64 a6) 1001)) = false, (1001 : Int) ≠ 0, (t28.2.2 != 0) = false, Computes cx 63 [.agg [I (Int.tmod (IntKind.wrap .i64 a6) 1001), I (Int.tmod (IntKind.wrap .i64 a6) 1001), I (Int.tmod (IntKind.wrap .i64 a7) 1001)], I (Int.tmod (IntKind.wrap .i64 a9) 1001)] (.tup [I t28.1, I t28.2.1, I t28.2.2]), (1001 : Int) ≠ 0, (Int.tmod (IntKind.wrap .i64 a8) 3) = 2, (1001 : Int) ≠ 0, (3 : Int) ≠ 0, (1001 : Int) ≠ 0, (1001 : Int) ≠ 0, (1001 : Int) ≠ 0, LoopN cx (loopAt cx.P 12 1) 226 0 false [(4, .ptr 1 0 0 0 0), (5, .ptr 2 0 0 0 0), (7, .d (.lst false 2 t3.1)), (12, .d (I 1))] [(1, .box (.d (.agg [I a2, I a3]))), (2, .box (.d (.agg [I a4, I a5, .v (.int .i16 a6), .v (.int .i16 a7), .v (.int .u8 a8), .v (.int .u16 a9)])))] (.exit 2) [(5, .ptr 2 0 0 0 0)] [(2, .box (.d (.agg [I a4, I a5, .v (.int .i16 a6), .v (.int .i16 a7), .v (.int .u8 a8), .v (.int .u16 a9)])))], (!((t22.1 == a2) && ((t22.2 == a3) && true))) = false, (0 : Int) ≤ (((t3.1).length : Int) - 1), nth (t3.1) (Int.toNat (((t3.1).length : Int) - 1)) = some (.agg [I t22.1, I t22.2]), inI64 (((t3.1).length : Int) - 1), (!((t19.1 == a0) && ((t19.2 == a1) && true))) = false, (0 : Int) ≤ 0, nth (t3.1) (Int.toNat 0) = some (.agg [I t19.1, I t19.2]), (((t3.1).length : Int) != ((maxI (maxI 0 (Int.tdiv (((maxI (a2 - a0) (a0 - a2)) + a4) - 1) a4)) (Int.tdiv (((maxI (a3 - a1) (a1 - a3)) + a5) - 1) a5)) + 1)) = false, inI64 ((maxI (maxI 0 (Int.tdiv (((maxI (a2 - a0) (a0 - a2)) + a4) - 1) a4)) (Int.tdiv (((maxI (a3 - a1) (a1 - a3)) + a5) - 1) a5)) + 1), (t3.2 != 0) = false, inI64 2, a5 ≠ 0, inI64 (Int.tdiv (((maxI (a3 - a1) (a1 - a3)) + a5) - 1) a5), inI64 (((maxI (a3 - a1) (a1 - a3)) + a5) - 1), inI64 ((maxI (a3 - a1) (a1 - a3)) + a5), inI64 (a1 - a3), inI64 (a3 - a1), inI64 1, a4 ≠ 0, inI64 (Int.tdiv (((maxI (a2 - a0) (a0 - a2)) + a4) - 1) a4), inI64 (((maxI (a2 - a0) (a0 - a2)) + a4) - 1), inI64 ((maxI (a2 - a0) (a0 - a2)) + a4), inI64 (a0 - a2), inI64 (a2 - a0), Computes cx 32 [.agg [I a0, I a1], .agg [I a2, I a3], .agg [I a4, I a5]] (.tup [.lst false 2 t3.1, I t3.2]), (t1 != 0) = false, Computes cx 33 [.agg [I a0, I a1], .agg [I a2, I a3], .agg [I a4, I a5]] (I t1)]) (by kernel_rfl) ⟨(c_law03_awake h36), h35, h34, h27, h33, h27, (nef h32), (net h31), (nef h30), (by decide), (nef h29), (c_drive_Voted_2 h28), (by decide), h27, (by decide), (by decide), (by decide), (by decide), (by decide), (loopF_to R_law03_DriveGoals_L1 h24), (notf h23), (el_ok un_Ai2Z_ok h22).1, (el_ok un_Ai2Z_ok h22).2, h21, (notf h20), (el_ok un_Ai2Z_ok h19).1, (el_ok un_Ai2Z_ok h19).2, (nef h18), h17, (nef h16), (by unfold inI64; omega), h14, h15, h13, h12, h11, h10, (by unfold inI64; omega), h8, h9, h7, h6, h5, h4, (c_drive_Track_2 h3), (nef h2), (c_ref03_CheckTrack h1), trivial⟩
                          · replace h := ite_f h h35
                            cases h
                        · replace h := ite_f h h32
                          cases h
                    · replace h := ite_f h h30
                      cases h
                  · replace h := ite_f h h29
                    cases h
          · replace h := ite_f h h23
            cases h
        · replace h := ite_f h h20
          cases h
      · replace h := ite_f h h18
        cases h
    · replace h := ite_f h h16
      cases h
  · replace h := ite_f h h2
    obtain ⟨t3, h3, h⟩ := bnd_of h
    replace h := Option.some.inj h
    subst h
    exact run (n := 100) (f := 12) (args := [.agg [I a0, I a1], .agg [I a2, I a3], .agg [I a4, I a5, .v (.int .i16 a6), .v (.int .i16 a7), .v (.int .u8 a8), .v (.int .u16 a9)]]) (orc := [.ret (I t1), .br true, .ret (B t3)]) (r := B t3) (ob := [Computes cx 19 [] (B t3), (t1 != 0) = true, Computes cx 33 [.agg [I a0, I a1], .agg [I a2, I a3], .agg [I a4, I a5]] (I t1)]) (by kernel_rfl) ⟨(c_law03_awake h3), (net h2), (c_ref03_CheckTrack h1), trivial⟩
end Go.Proofs.YtmgbmngmmpeaaaaGreatDoor
