/-
  Printed by gsx.py: functions of the program as Lean functions, and that the code computes them.
-/
import Derived.Test.YtmgbmngmmpeaaaaGreatDoorGen8
set_option linter.unusedVariables false
set_option linter.unusedSimpArgs false
set_option linter.unnecessarySimpa false
set_option maxRecDepth 10000
namespace Go.Proofs.YtmgbmngmmpeaaaaGreatDoor
open Go.SX
def F_law03_DriveHits_L4 (n : Nat) (a0 : Int) (a1 : Int) (a2 : Int) (a3 : Int) (a4 : Int) (a5 : Int) (a6 : Int) (a7 : Int) (a8 : List D) (sa : Int) (sb : (Int)) : Option (((Int)) ⊕ ((Unit) ⊕ (Unit))) :=
  if sb < ((a8).length : Int) then
    (el un_Ai3Z a8 sb).bind fun tb2 =>
    if inI64 (tb2.1 * (a0 - a2)) then
    if inI64 (tb2.2.1 + (tb2.1 * (a0 - a2))) then
    if (tb2.2.1 + (tb2.1 * (a0 - a2))) < a6 then
      some (.inr (.inl ()))
    else
    if inI64 (tb2.2.2 + (tb2.1 * (a0 - a2))) then
    if (tb2.2.2 + (tb2.1 * (a0 - a2))) > a7 then
      some (.inr (.inl ()))
    else
    if inI64 (sb + 1) then
    some (.inl (sb + 1))
    else none
    else none
    else none
    else none
  else
  some (.inr (.inr ()))
noncomputable def T_law03_DriveHits_L4 (a0 : Int) (a1 : Int) (a2 : Int) (a3 : Int) (a4 : Int) (a5 : Int) (a6 : Int) (a7 : Int) (a8 : List D) (sa : Int) (sb : (Int)) : List (Nat × AV) := [(0, .d (I a0)), (1, .ptr 0 0 0 0 0), (2, .ptr 1 0 0 0 0), (5, .d (I sa)), (6, .d (I (a0 - a2))), (38, .d (.lst false 3 a8)), (39, .d (I ((a8).length : Int))), (40, .d (I sb))]
noncomputable def H_law03_DriveHits_L4 (a0 : Int) (a1 : Int) (a2 : Int) (a3 : Int) (a4 : Int) (a5 : Int) (a6 : Int) (a7 : Int) (a8 : List D) (sa : Int) (sb : (Int)) : List (Nat × Blk) := [(0, .box (.d (.agg [I a0, I a1, I a2, I a3, I a4, I a5, I a6, I a7]))), (1, .box (.d (.lst false 3 a8)))]
noncomputable def X_law03_DriveHits_L4 (a0 : Int) (a1 : Int) (a2 : Int) (a3 : Int) (a4 : Int) (a5 : Int) (a6 : Int) (a7 : Int) (a8 : List D) (sa : Int) (e : (Unit) ⊕ (Unit)) : Ex := match e with
  | (.inl e) => .ret
  | (.inr e) => (.exit 2)
noncomputable def XT_law03_DriveHits_L4 (a0 : Int) (a1 : Int) (a2 : Int) (a3 : Int) (a4 : Int) (a5 : Int) (a6 : Int) (a7 : Int) (a8 : List D) (sa : Int) (e : (Unit) ⊕ (Unit)) : List (Nat × AV) := match e with
  | (.inl e) => [(4, .d (B false))]
  | (.inr e) => [(0, .d (I a0)), (1, .ptr 0 0 0 0 0), (2, .ptr 1 0 0 0 0), (5, .d (I sa))]
noncomputable def XH_law03_DriveHits_L4 (a0 : Int) (a1 : Int) (a2 : Int) (a3 : Int) (a4 : Int) (a5 : Int) (a6 : Int) (a7 : Int) (a8 : List D) (sa : Int) (e : (Unit) ⊕ (Unit)) : List (Nat × Blk) := match e with
  | (.inl e) => [(0, .box (.d (.agg [I a0, I a1, I a2, I a3, I a4, I a5, I a6, I a7]))), (1, .box (.d (.lst false 3 a8)))]
  | (.inr e) => [(0, .box (.d (.agg [I a0, I a1, I a2, I a3, I a4, I a5, I a6, I a7]))), (1, .box (.d (.lst false 3 a8)))]
theorem R_law03_DriveHits_L4 {n : Nat} {a0 : Int} {a1 : Int} {a2 : Int} {a3 : Int} {a4 : Int} {a5 : Int} {a6 : Int} {a7 : Int} {a8 : List D} {sa : Int} (sb : (Int)) (r) (h : F_law03_DriveHits_L4 n a0 a1 a2 a3 a4 a5 a6 a7 a8 sa sb = some r) : Rd cx (loopAt cx.P 71 1) 71 58 false (T_law03_DriveHits_L4 a0 a1 a2 a3 a4 a5 a6 a7 a8 sa) (H_law03_DriveHits_L4 a0 a1 a2 a3 a4 a5 a6 a7 a8 sa) (X_law03_DriveHits_L4 a0 a1 a2 a3 a4 a5 a6 a7 a8 sa) (XT_law03_DriveHits_L4 a0 a1 a2 a3 a4 a5 a6 a7 a8 sa) (XH_law03_DriveHits_L4 a0 a1 a2 a3 a4 a5 a6 a7 a8 sa) sb r := by
  unfold F_law03_DriveHits_L4 at h
  by_cases hb1 : sb < ((a8).length : Int)
  · replace h := ite_t h hb1
    obtain ⟨tb2, hb2, h⟩ := bnd_of h
    obtain ⟨hb3, h⟩ := grd_of h
    obtain ⟨hb4, h⟩ := grd_of h
    by_cases hb5 : (tb2.2.1 + (tb2.1 * (a0 - a2))) < a6
    · replace h := ite_t h hb5
      replace h := Option.some.inj h
      subst h
      exact ⟨⟨100, 93, [.br true, .el (.agg [I tb2.1, I tb2.2.1, I tb2.2.2]), .br true, .no], [], [4], [0, 1], round_of (ob := [(decide ((tb2.2.1 + (tb2.1 * (a0 - a2))) < a6)) = true, inI64 (tb2.2.1 + (tb2.1 * (a0 - a2))), inI64 (tb2.1 * (a0 - a2)), (0 : Int) ≤ sb, nth (a8) (Int.toNat sb) = some (.agg [I tb2.1, I tb2.2.1, I tb2.2.2]), (decide (sb < ((a8).length : Int))) = true]) (by kernel_rfl) ⟨(decide_eq_true hb5), hb4, hb3, (el_ok un_Ai3Z_ok hb2).1, (el_ok un_Ai3Z_ok hb2).2, (decide_eq_true hb1), trivial⟩⟩, nofun⟩
    · replace h := ite_f h hb5
      obtain ⟨hb6, h⟩ := grd_of h
      by_cases hb7 : (tb2.2.2 + (tb2.1 * (a0 - a2))) > a7
      · replace h := ite_t h hb7
        replace h := Option.some.inj h
        subst h
        exact ⟨⟨100, 93, [.br true, .el (.agg [I tb2.1, I tb2.2.1, I tb2.2.2]), .br false, .br true], [], [4], [0, 1], round_of (ob := [(decide ((tb2.2.2 + (tb2.1 * (a0 - a2))) > a7)) = true, inI64 (tb2.2.2 + (tb2.1 * (a0 - a2))), inI64 (tb2.1 * (a0 - a2)), (decide ((tb2.2.1 + (tb2.1 * (a0 - a2))) < a6)) = false, inI64 (tb2.2.1 + (tb2.1 * (a0 - a2))), inI64 (tb2.1 * (a0 - a2)), (0 : Int) ≤ sb, nth (a8) (Int.toNat sb) = some (.agg [I tb2.1, I tb2.2.1, I tb2.2.2]), (decide (sb < ((a8).length : Int))) = true]) (by kernel_rfl) ⟨(decide_eq_true hb7), hb6, hb3, (decide_eq_false hb5), hb4, hb3, (el_ok un_Ai3Z_ok hb2).1, (el_ok un_Ai3Z_ok hb2).2, (decide_eq_true hb1), trivial⟩⟩, nofun⟩
      · replace h := ite_f h hb7
        obtain ⟨hb8, h⟩ := grd_of h
        replace h := Option.some.inj h
        subst h
        exact ⟨100, 93, [.br true, .el (.agg [I tb2.1, I tb2.2.1, I tb2.2.2]), .br false, .br false], [], [0, 1, 2, 5, 6, 38, 39, 40], [0, 1], round_of (ob := [inI64 (sb + 1), (decide ((tb2.2.2 + (tb2.1 * (a0 - a2))) > a7)) = false, inI64 (tb2.2.2 + (tb2.1 * (a0 - a2))), inI64 (tb2.1 * (a0 - a2)), (decide ((tb2.2.1 + (tb2.1 * (a0 - a2))) < a6)) = false, inI64 (tb2.2.1 + (tb2.1 * (a0 - a2))), inI64 (tb2.1 * (a0 - a2)), (0 : Int) ≤ sb, nth (a8) (Int.toNat sb) = some (.agg [I tb2.1, I tb2.2.1, I tb2.2.2]), (decide (sb < ((a8).length : Int))) = true]) (by kernel_rfl) ⟨hb8, (decide_eq_false hb7), hb6, hb3, (decide_eq_false hb5), hb4, hb3, (el_ok un_Ai3Z_ok hb2).1, (el_ok un_Ai3Z_ok hb2).2, (decide_eq_true hb1), trivial⟩⟩
  · replace h := ite_f h hb1
    replace h := Option.some.inj h
    subst h
    exact ⟨⟨100, 93, [.br false], [], [0, 1, 2, 5], [0, 1], round_of (ob := [(decide (sb < ((a8).length : Int))) = false]) (by kernel_rfl) ⟨(decide_eq_false hb1), trivial⟩⟩, nofun⟩
def F_law03_DriveHits_L5 (n : Nat) (a0 : Int) (a1 : Int) (a2 : Int) (a3 : Int) (a4 : Int) (a5 : Int) (a6 : Int) (a7 : Int) (a8 : List D) (sa : Int) (sb : (Int)) : Option (((Int)) ⊕ ((Unit) ⊕ (Unit))) :=
  if sb < ((a8).length : Int) then
    (el un_Ai3Z a8 sb).bind fun tb2 =>
    if inI64 (tb2.1 * a0) then
    if inI64 (tb2.2.1 + (tb2.1 * a0)) then
    if (tb2.2.1 + (tb2.1 * a0)) < a6 then
      some (.inr (.inl ()))
    else
    if inI64 (tb2.2.2 + (tb2.1 * a0)) then
    if (tb2.2.2 + (tb2.1 * a0)) > a7 then
      some (.inr (.inl ()))
    else
    if inI64 (sb + 1) then
    some (.inl (sb + 1))
    else none
    else none
    else none
    else none
  else
  some (.inr (.inr ()))
noncomputable def T_law03_DriveHits_L5 (a0 : Int) (a1 : Int) (a2 : Int) (a3 : Int) (a4 : Int) (a5 : Int) (a6 : Int) (a7 : Int) (a8 : List D) (sa : Int) (sb : (Int)) : List (Nat × AV) := [(0, .d (I a0)), (1, .ptr 0 0 0 0 0), (2, .ptr 1 0 0 0 0), (5, .d (I sa)), (6, .d (I a0)), (38, .d (.lst false 3 a8)), (39, .d (I ((a8).length : Int))), (40, .d (I sb))]
noncomputable def H_law03_DriveHits_L5 (a0 : Int) (a1 : Int) (a2 : Int) (a3 : Int) (a4 : Int) (a5 : Int) (a6 : Int) (a7 : Int) (a8 : List D) (sa : Int) (sb : (Int)) : List (Nat × Blk) := [(0, .box (.d (.agg [I a0, I a1, I a2, I a3, I a4, I a5, I a6, I a7]))), (1, .box (.d (.lst false 3 a8)))]
noncomputable def X_law03_DriveHits_L5 (a0 : Int) (a1 : Int) (a2 : Int) (a3 : Int) (a4 : Int) (a5 : Int) (a6 : Int) (a7 : Int) (a8 : List D) (sa : Int) (e : (Unit) ⊕ (Unit)) : Ex := match e with
  | (.inl e) => .ret
  | (.inr e) => (.exit 2)
noncomputable def XT_law03_DriveHits_L5 (a0 : Int) (a1 : Int) (a2 : Int) (a3 : Int) (a4 : Int) (a5 : Int) (a6 : Int) (a7 : Int) (a8 : List D) (sa : Int) (e : (Unit) ⊕ (Unit)) : List (Nat × AV) := match e with
  | (.inl e) => [(4, .d (B false))]
  | (.inr e) => [(0, .d (I a0)), (1, .ptr 0 0 0 0 0), (2, .ptr 1 0 0 0 0), (5, .d (I sa))]
noncomputable def XH_law03_DriveHits_L5 (a0 : Int) (a1 : Int) (a2 : Int) (a3 : Int) (a4 : Int) (a5 : Int) (a6 : Int) (a7 : Int) (a8 : List D) (sa : Int) (e : (Unit) ⊕ (Unit)) : List (Nat × Blk) := match e with
  | (.inl e) => [(0, .box (.d (.agg [I a0, I a1, I a2, I a3, I a4, I a5, I a6, I a7]))), (1, .box (.d (.lst false 3 a8)))]
  | (.inr e) => [(0, .box (.d (.agg [I a0, I a1, I a2, I a3, I a4, I a5, I a6, I a7]))), (1, .box (.d (.lst false 3 a8)))]
theorem R_law03_DriveHits_L5 {n : Nat} {a0 : Int} {a1 : Int} {a2 : Int} {a3 : Int} {a4 : Int} {a5 : Int} {a6 : Int} {a7 : Int} {a8 : List D} {sa : Int} (sb : (Int)) (r) (h : F_law03_DriveHits_L5 n a0 a1 a2 a3 a4 a5 a6 a7 a8 sa sb = some r) : Rd cx (loopAt cx.P 71 1) 71 58 false (T_law03_DriveHits_L5 a0 a1 a2 a3 a4 a5 a6 a7 a8 sa) (H_law03_DriveHits_L5 a0 a1 a2 a3 a4 a5 a6 a7 a8 sa) (X_law03_DriveHits_L5 a0 a1 a2 a3 a4 a5 a6 a7 a8 sa) (XT_law03_DriveHits_L5 a0 a1 a2 a3 a4 a5 a6 a7 a8 sa) (XH_law03_DriveHits_L5 a0 a1 a2 a3 a4 a5 a6 a7 a8 sa) sb r := by
  unfold F_law03_DriveHits_L5 at h
  by_cases hb1 : sb < ((a8).length : Int)
  · replace h := ite_t h hb1
    obtain ⟨tb2, hb2, h⟩ := bnd_of h
    obtain ⟨hb3, h⟩ := grd_of h
    obtain ⟨hb4, h⟩ := grd_of h
    by_cases hb5 : (tb2.2.1 + (tb2.1 * a0)) < a6
    · replace h := ite_t h hb5
      replace h := Option.some.inj h
      subst h
      exact ⟨⟨100, 87, [.br true, .el (.agg [I tb2.1, I tb2.2.1, I tb2.2.2]), .br true, .no], [], [4], [0, 1], round_of (ob := [(decide ((tb2.2.1 + (tb2.1 * a0)) < a6)) = true, inI64 (tb2.2.1 + (tb2.1 * a0)), inI64 (tb2.1 * a0), (0 : Int) ≤ sb, nth (a8) (Int.toNat sb) = some (.agg [I tb2.1, I tb2.2.1, I tb2.2.2]), (decide (sb < ((a8).length : Int))) = true]) (by kernel_rfl) ⟨(decide_eq_true hb5), hb4, hb3, (el_ok un_Ai3Z_ok hb2).1, (el_ok un_Ai3Z_ok hb2).2, (decide_eq_true hb1), trivial⟩⟩, nofun⟩
    · replace h := ite_f h hb5
      obtain ⟨hb6, h⟩ := grd_of h
      by_cases hb7 : (tb2.2.2 + (tb2.1 * a0)) > a7
      · replace h := ite_t h hb7
        replace h := Option.some.inj h
        subst h
        exact ⟨⟨100, 87, [.br true, .el (.agg [I tb2.1, I tb2.2.1, I tb2.2.2]), .br false, .br true], [], [4], [0, 1], round_of (ob := [(decide ((tb2.2.2 + (tb2.1 * a0)) > a7)) = true, inI64 (tb2.2.2 + (tb2.1 * a0)), inI64 (tb2.1 * a0), (decide ((tb2.2.1 + (tb2.1 * a0)) < a6)) = false, inI64 (tb2.2.1 + (tb2.1 * a0)), inI64 (tb2.1 * a0), (0 : Int) ≤ sb, nth (a8) (Int.toNat sb) = some (.agg [I tb2.1, I tb2.2.1, I tb2.2.2]), (decide (sb < ((a8).length : Int))) = true]) (by kernel_rfl) ⟨(decide_eq_true hb7), hb6, hb3, (decide_eq_false hb5), hb4, hb3, (el_ok un_Ai3Z_ok hb2).1, (el_ok un_Ai3Z_ok hb2).2, (decide_eq_true hb1), trivial⟩⟩, nofun⟩
      · replace h := ite_f h hb7
        obtain ⟨hb8, h⟩ := grd_of h
        replace h := Option.some.inj h
        subst h
        exact ⟨100, 87, [.br true, .el (.agg [I tb2.1, I tb2.2.1, I tb2.2.2]), .br false, .br false], [], [0, 1, 2, 5, 6, 38, 39, 40], [0, 1], round_of (ob := [inI64 (sb + 1), (decide ((tb2.2.2 + (tb2.1 * a0)) > a7)) = false, inI64 (tb2.2.2 + (tb2.1 * a0)), inI64 (tb2.1 * a0), (decide ((tb2.2.1 + (tb2.1 * a0)) < a6)) = false, inI64 (tb2.2.1 + (tb2.1 * a0)), inI64 (tb2.1 * a0), (0 : Int) ≤ sb, nth (a8) (Int.toNat sb) = some (.agg [I tb2.1, I tb2.2.1, I tb2.2.2]), (decide (sb < ((a8).length : Int))) = true]) (by kernel_rfl) ⟨hb8, (decide_eq_false hb7), hb6, hb3, (decide_eq_false hb5), hb4, hb3, (el_ok un_Ai3Z_ok hb2).1, (el_ok un_Ai3Z_ok hb2).2, (decide_eq_true hb1), trivial⟩⟩
  · replace h := ite_f h hb1
    replace h := Option.some.inj h
    subst h
    exact ⟨⟨100, 87, [.br false], [], [0, 1, 2, 5], [0, 1], round_of (ob := [(decide (sb < ((a8).length : Int))) = false]) (by kernel_rfl) ⟨(decide_eq_false hb1), trivial⟩⟩, nofun⟩
def F_law03_DriveHits_L6 (n : Nat) (a0 : Int) (a1 : Int) (a2 : Int) (a3 : Int) (a4 : Int) (a5 : Int) (a6 : Int) (a7 : Int) (a8 : List D) (sa : Int) (sb : (Int)) : Option (((Int)) ⊕ ((Unit) ⊕ (Unit))) :=
  if sb < ((a8).length : Int) then
    (el un_Ai3Z a8 sb).bind fun tb2 =>
    if inI64 (tb2.1 * sa) then
    if inI64 (tb2.2.1 + (tb2.1 * sa)) then
    if (tb2.2.1 + (tb2.1 * sa)) < a6 then
      some (.inr (.inl ()))
    else
    if inI64 (tb2.2.2 + (tb2.1 * sa)) then
    if (tb2.2.2 + (tb2.1 * sa)) > a7 then
      some (.inr (.inl ()))
    else
    if inI64 (sb + 1) then
    some (.inl (sb + 1))
    else none
    else none
    else none
    else none
  else
  some (.inr (.inr ()))
noncomputable def T_law03_DriveHits_L6 (a0 : Int) (a1 : Int) (a2 : Int) (a3 : Int) (a4 : Int) (a5 : Int) (a6 : Int) (a7 : Int) (a8 : List D) (sa : Int) (sb : (Int)) : List (Nat × AV) := [(0, .d (I a0)), (1, .ptr 0 0 0 0 0), (2, .ptr 1 0 0 0 0), (5, .d (I sa)), (6, .d (I sa)), (38, .d (.lst false 3 a8)), (39, .d (I ((a8).length : Int))), (40, .d (I sb))]
noncomputable def H_law03_DriveHits_L6 (a0 : Int) (a1 : Int) (a2 : Int) (a3 : Int) (a4 : Int) (a5 : Int) (a6 : Int) (a7 : Int) (a8 : List D) (sa : Int) (sb : (Int)) : List (Nat × Blk) := [(0, .box (.d (.agg [I a0, I a1, I a2, I a3, I a4, I a5, I a6, I a7]))), (1, .box (.d (.lst false 3 a8)))]
noncomputable def X_law03_DriveHits_L6 (a0 : Int) (a1 : Int) (a2 : Int) (a3 : Int) (a4 : Int) (a5 : Int) (a6 : Int) (a7 : Int) (a8 : List D) (sa : Int) (e : (Unit) ⊕ (Unit)) : Ex := match e with
  | (.inl e) => .ret
  | (.inr e) => (.exit 2)
noncomputable def XT_law03_DriveHits_L6 (a0 : Int) (a1 : Int) (a2 : Int) (a3 : Int) (a4 : Int) (a5 : Int) (a6 : Int) (a7 : Int) (a8 : List D) (sa : Int) (e : (Unit) ⊕ (Unit)) : List (Nat × AV) := match e with
  | (.inl e) => [(4, .d (B false))]
  | (.inr e) => [(0, .d (I a0)), (1, .ptr 0 0 0 0 0), (2, .ptr 1 0 0 0 0), (5, .d (I sa))]
noncomputable def XH_law03_DriveHits_L6 (a0 : Int) (a1 : Int) (a2 : Int) (a3 : Int) (a4 : Int) (a5 : Int) (a6 : Int) (a7 : Int) (a8 : List D) (sa : Int) (e : (Unit) ⊕ (Unit)) : List (Nat × Blk) := match e with
  | (.inl e) => [(0, .box (.d (.agg [I a0, I a1, I a2, I a3, I a4, I a5, I a6, I a7]))), (1, .box (.d (.lst false 3 a8)))]
  | (.inr e) => [(0, .box (.d (.agg [I a0, I a1, I a2, I a3, I a4, I a5, I a6, I a7]))), (1, .box (.d (.lst false 3 a8)))]
theorem R_law03_DriveHits_L6 {n : Nat} {a0 : Int} {a1 : Int} {a2 : Int} {a3 : Int} {a4 : Int} {a5 : Int} {a6 : Int} {a7 : Int} {a8 : List D} {sa : Int} (sb : (Int)) (r) (h : F_law03_DriveHits_L6 n a0 a1 a2 a3 a4 a5 a6 a7 a8 sa sb = some r) : Rd cx (loopAt cx.P 71 1) 71 58 false (T_law03_DriveHits_L6 a0 a1 a2 a3 a4 a5 a6 a7 a8 sa) (H_law03_DriveHits_L6 a0 a1 a2 a3 a4 a5 a6 a7 a8 sa) (X_law03_DriveHits_L6 a0 a1 a2 a3 a4 a5 a6 a7 a8 sa) (XT_law03_DriveHits_L6 a0 a1 a2 a3 a4 a5 a6 a7 a8 sa) (XH_law03_DriveHits_L6 a0 a1 a2 a3 a4 a5 a6 a7 a8 sa) sb r := by
  unfold F_law03_DriveHits_L6 at h
  by_cases hb1 : sb < ((a8).length : Int)
  · replace h := ite_t h hb1
    obtain ⟨tb2, hb2, h⟩ := bnd_of h
    obtain ⟨hb3, h⟩ := grd_of h
    obtain ⟨hb4, h⟩ := grd_of h
    by_cases hb5 : (tb2.2.1 + (tb2.1 * sa)) < a6
    · replace h := ite_t h hb5
      replace h := Option.some.inj h
      subst h
      exact ⟨⟨100, 85, [.br true, .el (.agg [I tb2.1, I tb2.2.1, I tb2.2.2]), .br true, .no], [], [4], [0, 1], round_of (ob := [(decide ((tb2.2.1 + (tb2.1 * sa)) < a6)) = true, inI64 (tb2.2.1 + (tb2.1 * sa)), inI64 (tb2.1 * sa), (0 : Int) ≤ sb, nth (a8) (Int.toNat sb) = some (.agg [I tb2.1, I tb2.2.1, I tb2.2.2]), (decide (sb < ((a8).length : Int))) = true]) (by kernel_rfl) ⟨(decide_eq_true hb5), hb4, hb3, (el_ok un_Ai3Z_ok hb2).1, (el_ok un_Ai3Z_ok hb2).2, (decide_eq_true hb1), trivial⟩⟩, nofun⟩
    · replace h := ite_f h hb5
      obtain ⟨hb6, h⟩ := grd_of h
      by_cases hb7 : (tb2.2.2 + (tb2.1 * sa)) > a7
      · replace h := ite_t h hb7
        replace h := Option.some.inj h
        subst h
        exact ⟨⟨100, 85, [.br true, .el (.agg [I tb2.1, I tb2.2.1, I tb2.2.2]), .br false, .br true], [], [4], [0, 1], round_of (ob := [(decide ((tb2.2.2 + (tb2.1 * sa)) > a7)) = true, inI64 (tb2.2.2 + (tb2.1 * sa)), inI64 (tb2.1 * sa), (decide ((tb2.2.1 + (tb2.1 * sa)) < a6)) = false, inI64 (tb2.2.1 + (tb2.1 * sa)), inI64 (tb2.1 * sa), (0 : Int) ≤ sb, nth (a8) (Int.toNat sb) = some (.agg [I tb2.1, I tb2.2.1, I tb2.2.2]), (decide (sb < ((a8).length : Int))) = true]) (by kernel_rfl) ⟨(decide_eq_true hb7), hb6, hb3, (decide_eq_false hb5), hb4, hb3, (el_ok un_Ai3Z_ok hb2).1, (el_ok un_Ai3Z_ok hb2).2, (decide_eq_true hb1), trivial⟩⟩, nofun⟩
      · replace h := ite_f h hb7
        obtain ⟨hb8, h⟩ := grd_of h
        replace h := Option.some.inj h
        subst h
        exact ⟨100, 85, [.br true, .el (.agg [I tb2.1, I tb2.2.1, I tb2.2.2]), .br false, .br false], [], [0, 1, 2, 5, 6, 38, 39, 40], [0, 1], round_of (ob := [inI64 (sb + 1), (decide ((tb2.2.2 + (tb2.1 * sa)) > a7)) = false, inI64 (tb2.2.2 + (tb2.1 * sa)), inI64 (tb2.1 * sa), (decide ((tb2.2.1 + (tb2.1 * sa)) < a6)) = false, inI64 (tb2.2.1 + (tb2.1 * sa)), inI64 (tb2.1 * sa), (0 : Int) ≤ sb, nth (a8) (Int.toNat sb) = some (.agg [I tb2.1, I tb2.2.1, I tb2.2.2]), (decide (sb < ((a8).length : Int))) = true]) (by kernel_rfl) ⟨hb8, (decide_eq_false hb7), hb6, hb3, (decide_eq_false hb5), hb4, hb3, (el_ok un_Ai3Z_ok hb2).1, (el_ok un_Ai3Z_ok hb2).2, (decide_eq_true hb1), trivial⟩⟩
  · replace h := ite_f h hb1
    replace h := Option.some.inj h
    subst h
    exact ⟨⟨100, 85, [.br false], [], [0, 1, 2, 5], [0, 1], round_of (ob := [(decide (sb < ((a8).length : Int))) = false]) (by kernel_rfl) ⟨(decide_eq_false hb1), trivial⟩⟩, nofun⟩
def F_law03_DriveHits_L7 (n : Nat) (a0 : Int) (a1 : Int) (a2 : Int) (a3 : Int) (a4 : Int) (a5 : Int) (a6 : Int) (a7 : Int) (a8 : List D) (sa : (Int)) : Option (((Int)) ⊕ ((Unit) ⊕ (Unit))) :=
  if sa ≤ a5 then
    if sa > a0 then
      if inI64 (a0 - a2) then
      if a0 < (a0 - a2) then
        (loopF (F_law03_DriveHits_L4 n a0 a1 a2 a3 a4 a5 a6 a7 a8 sa) n 0).bind fun ta5 => match ta5 with
          | (.inl ta5) => (
            some (.inr (.inl ())))
          | (.inr ta5) => (
            if inI64 (sa + 1) then
            some (.inl (sa + 1))
            else none)
      else
      (loopF (F_law03_DriveHits_L5 n a0 a1 a2 a3 a4 a5 a6 a7 a8 sa) n 0).bind fun ta5 => match ta5 with
        | (.inl ta5) => (
          some (.inr (.inl ())))
        | (.inr ta5) => (
          if inI64 (sa + 1) then
          some (.inl (sa + 1))
          else none)
      else none
    else
    if inI64 (a0 - a2) then
    if sa < (a0 - a2) then
      (loopF (F_law03_DriveHits_L4 n a0 a1 a2 a3 a4 a5 a6 a7 a8 sa) n 0).bind fun ta5 => match ta5 with
        | (.inl ta5) => (
          some (.inr (.inl ())))
        | (.inr ta5) => (
          if inI64 (sa + 1) then
          some (.inl (sa + 1))
          else none)
    else
    (loopF (F_law03_DriveHits_L6 n a0 a1 a2 a3 a4 a5 a6 a7 a8 sa) n 0).bind fun ta5 => match ta5 with
      | (.inl ta5) => (
        some (.inr (.inl ())))
      | (.inr ta5) => (
        if inI64 (sa + 1) then
        some (.inl (sa + 1))
        else none)
    else none
  else
  some (.inr (.inr ()))
noncomputable def T_law03_DriveHits_L7 (a0 : Int) (a1 : Int) (a2 : Int) (a3 : Int) (a4 : Int) (a5 : Int) (a6 : Int) (a7 : Int) (a8 : List D) (sa : (Int)) : List (Nat × AV) := [(0, .d (I a0)), (1, .ptr 0 0 0 0 0), (2, .ptr 1 0 0 0 0), (5, .d (I sa))]
noncomputable def H_law03_DriveHits_L7 (a0 : Int) (a1 : Int) (a2 : Int) (a3 : Int) (a4 : Int) (a5 : Int) (a6 : Int) (a7 : Int) (a8 : List D) (sa : (Int)) : List (Nat × Blk) := [(0, .box (.d (.agg [I a0, I a1, I a2, I a3, I a4, I a5, I a6, I a7]))), (1, .box (.d (.lst false 3 a8)))]
noncomputable def X_law03_DriveHits_L7 (a0 : Int) (a1 : Int) (a2 : Int) (a3 : Int) (a4 : Int) (a5 : Int) (a6 : Int) (a7 : Int) (a8 : List D) (e : (Unit) ⊕ (Unit)) : Ex := match e with
  | (.inl e) => .ret
  | (.inr e) => (.exit 0)
noncomputable def XT_law03_DriveHits_L7 (a0 : Int) (a1 : Int) (a2 : Int) (a3 : Int) (a4 : Int) (a5 : Int) (a6 : Int) (a7 : Int) (a8 : List D) (e : (Unit) ⊕ (Unit)) : List (Nat × AV) := match e with
  | (.inl e) => [(4, .d (B false))]
  | (.inr e) => []
noncomputable def XH_law03_DriveHits_L7 (a0 : Int) (a1 : Int) (a2 : Int) (a3 : Int) (a4 : Int) (a5 : Int) (a6 : Int) (a7 : Int) (a8 : List D) (e : (Unit) ⊕ (Unit)) : List (Nat × Blk) := match e with
  | (.inl e) => [(0, .box (.d (.agg [I a0, I a1, I a2, I a3, I a4, I a5, I a6, I a7]))), (1, .box (.d (.lst false 3 a8)))]
  | (.inr e) => [(0, .box (.d (.agg [I a0, I a1, I a2, I a3, I a4, I a5, I a6, I a7]))), (1, .box (.d (.lst false 3 a8)))]
theorem R_law03_DriveHits_L7 {n : Nat} {a0 : Int} {a1 : Int} {a2 : Int} {a3 : Int} {a4 : Int} {a5 : Int} {a6 : Int} {a7 : Int} {a8 : List D} (sa : (Int)) (r) (h : F_law03_DriveHits_L7 n a0 a1 a2 a3 a4 a5 a6 a7 a8 sa = some r) : Rd cx (loopAt cx.P 71 0) 71 58 false (T_law03_DriveHits_L7 a0 a1 a2 a3 a4 a5 a6 a7 a8) (H_law03_DriveHits_L7 a0 a1 a2 a3 a4 a5 a6 a7 a8) (X_law03_DriveHits_L7 a0 a1 a2 a3 a4 a5 a6 a7 a8) (XT_law03_DriveHits_L7 a0 a1 a2 a3 a4 a5 a6 a7 a8) (XH_law03_DriveHits_L7 a0 a1 a2 a3 a4 a5 a6 a7 a8) sa r := by
  unfold F_law03_DriveHits_L7 at h
  by_cases ha1 : sa ≤ a5
  · replace h := ite_t h ha1
    by_cases ha2 : sa > a0
    · replace h := ite_t h ha2
      obtain ⟨ha3, h⟩ := grd_of h
      by_cases ha4 : a0 < (a0 - a2)
      · replace h := ite_t h ha4
        obtain ⟨ta5, ha5, h⟩ := bnd_of h
        rcases ta5 with ta5 | ta5
        · replace h := Option.some.inj h
          subst h
          exact ⟨⟨100, 64, [.br true, .br true, .br true, .lp [] [0, 1, 2, 5, 6, 38, 39, 40] [0, 1] .ret [(4, .d (B false))] [(0, .box (.d (.agg [I a0, I a1, I a2, I a3, I a4, I a5, I a6, I a7]))), (1, .box (.d (.lst false 3 a8)))] 137], [], [4], [0, 1], round_of (ob := [LoopN cx (loopAt cx.P 71 1) 71 58 false [(0, .d (I a0)), (1, .ptr 0 0 0 0 0), (2, .ptr 1 0 0 0 0), (5, .d (I sa)), (6, .d (I (a0 - a2))), (38, .d (.lst false 3 a8)), (39, .d (I ((a8).length : Int))), (40, .d (I 0))] [(0, .box (.d (.agg [I a0, I a1, I a2, I a3, I a4, I a5, I a6, I a7]))), (1, .box (.d (.lst false 3 a8)))] .ret [(4, .d (B false))] [(0, .box (.d (.agg [I a0, I a1, I a2, I a3, I a4, I a5, I a6, I a7]))), (1, .box (.d (.lst false 3 a8)))], inI64 (a0 - a2), (decide (a0 < (a0 - a2))) = true, inI64 (a0 - a2), (decide (sa > a0)) = true, (decide (sa ≤ a5)) = true]) (by kernel_rfl) ⟨(loopF_to R_law03_DriveHits_L4 ha5), ha3, (decide_eq_true ha4), ha3, (decide_eq_true ha2), (decide_eq_true ha1), trivial⟩⟩, nofun⟩
        · obtain ⟨ha6, h⟩ := grd_of h
          replace h := Option.some.inj h
          subst h
          exact ⟨100, 64, [.br true, .br true, .br true, .lp [] [0, 1, 2, 5, 6, 38, 39, 40] [0, 1] (.exit 2) [(0, .d (I a0)), (1, .ptr 0 0 0 0 0), (2, .ptr 1 0 0 0 0), (5, .d (I sa))] [(0, .box (.d (.agg [I a0, I a1, I a2, I a3, I a4, I a5, I a6, I a7]))), (1, .box (.d (.lst false 3 a8)))] 137], [], [0, 1, 2, 5], [0, 1], round_of (ob := [inI64 (sa + 1), LoopN cx (loopAt cx.P 71 1) 71 58 false [(0, .d (I a0)), (1, .ptr 0 0 0 0 0), (2, .ptr 1 0 0 0 0), (5, .d (I sa)), (6, .d (I (a0 - a2))), (38, .d (.lst false 3 a8)), (39, .d (I ((a8).length : Int))), (40, .d (I 0))] [(0, .box (.d (.agg [I a0, I a1, I a2, I a3, I a4, I a5, I a6, I a7]))), (1, .box (.d (.lst false 3 a8)))] (.exit 2) [(0, .d (I a0)), (1, .ptr 0 0 0 0 0), (2, .ptr 1 0 0 0 0), (5, .d (I sa))] [(0, .box (.d (.agg [I a0, I a1, I a2, I a3, I a4, I a5, I a6, I a7]))), (1, .box (.d (.lst false 3 a8)))], inI64 (a0 - a2), (decide (a0 < (a0 - a2))) = true, inI64 (a0 - a2), (decide (sa > a0)) = true, (decide (sa ≤ a5)) = true]) (by kernel_rfl) ⟨ha6, (loopF_to R_law03_DriveHits_L4 ha5), ha3, (decide_eq_true ha4), ha3, (decide_eq_true ha2), (decide_eq_true ha1), trivial⟩⟩
      · replace h := ite_f h ha4
        obtain ⟨ta5, ha5, h⟩ := bnd_of h
        rcases ta5 with ta5 | ta5
        · replace h := Option.some.inj h
          subst h
          exact ⟨⟨100, 64, [.br true, .br true, .br false, .lp [] [0, 1, 2, 5, 6, 38, 39, 40] [0, 1] .ret [(4, .d (B false))] [(0, .box (.d (.agg [I a0, I a1, I a2, I a3, I a4, I a5, I a6, I a7]))), (1, .box (.d (.lst false 3 a8)))] 131], [], [4], [0, 1], round_of (ob := [LoopN cx (loopAt cx.P 71 1) 71 58 false [(0, .d (I a0)), (1, .ptr 0 0 0 0 0), (2, .ptr 1 0 0 0 0), (5, .d (I sa)), (6, .d (I a0)), (38, .d (.lst false 3 a8)), (39, .d (I ((a8).length : Int))), (40, .d (I 0))] [(0, .box (.d (.agg [I a0, I a1, I a2, I a3, I a4, I a5, I a6, I a7]))), (1, .box (.d (.lst false 3 a8)))] .ret [(4, .d (B false))] [(0, .box (.d (.agg [I a0, I a1, I a2, I a3, I a4, I a5, I a6, I a7]))), (1, .box (.d (.lst false 3 a8)))], (decide (a0 < (a0 - a2))) = false, inI64 (a0 - a2), (decide (sa > a0)) = true, (decide (sa ≤ a5)) = true]) (by kernel_rfl) ⟨(loopF_to R_law03_DriveHits_L5 ha5), (decide_eq_false ha4), ha3, (decide_eq_true ha2), (decide_eq_true ha1), trivial⟩⟩, nofun⟩
        · obtain ⟨ha6, h⟩ := grd_of h
          replace h := Option.some.inj h
          subst h
          exact ⟨100, 64, [.br true, .br true, .br false, .lp [] [0, 1, 2, 5, 6, 38, 39, 40] [0, 1] (.exit 2) [(0, .d (I a0)), (1, .ptr 0 0 0 0 0), (2, .ptr 1 0 0 0 0), (5, .d (I sa))] [(0, .box (.d (.agg [I a0, I a1, I a2, I a3, I a4, I a5, I a6, I a7]))), (1, .box (.d (.lst false 3 a8)))] 131], [], [0, 1, 2, 5], [0, 1], round_of (ob := [inI64 (sa + 1), LoopN cx (loopAt cx.P 71 1) 71 58 false [(0, .d (I a0)), (1, .ptr 0 0 0 0 0), (2, .ptr 1 0 0 0 0), (5, .d (I sa)), (6, .d (I a0)), (38, .d (.lst false 3 a8)), (39, .d (I ((a8).length : Int))), (40, .d (I 0))] [(0, .box (.d (.agg [I a0, I a1, I a2, I a3, I a4, I a5, I a6, I a7]))), (1, .box (.d (.lst false 3 a8)))] (.exit 2) [(0, .d (I a0)), (1, .ptr 0 0 0 0 0), (2, .ptr 1 0 0 0 0), (5, .d (I sa))] [(0, .box (.d (.agg [I a0, I a1, I a2, I a3, I a4, I a5, I a6, I a7]))), (1, .box (.d (.lst false 3 a8)))], (decide (a0 < (a0 - a2))) = false, inI64 (a0 - a2), (decide (sa > a0)) = true, (decide (sa ≤ a5)) = true]) (by kernel_rfl) ⟨ha6, (loopF_to R_law03_DriveHits_L5 ha5), (decide_eq_false ha4), ha3, (decide_eq_true ha2), (decide_eq_true ha1), trivial⟩⟩
    · replace h := ite_f h ha2
      obtain ⟨ha3, h⟩ := grd_of h
      by_cases ha4 : sa < (a0 - a2)
      · replace h := ite_t h ha4
        obtain ⟨ta5, ha5, h⟩ := bnd_of h
        rcases ta5 with ta5 | ta5
        · replace h := Option.some.inj h
          subst h
          exact ⟨⟨100, 64, [.br true, .br false, .br true, .lp [] [0, 1, 2, 5, 6, 38, 39, 40] [0, 1] .ret [(4, .d (B false))] [(0, .box (.d (.agg [I a0, I a1, I a2, I a3, I a4, I a5, I a6, I a7]))), (1, .box (.d (.lst false 3 a8)))] 137], [], [4], [0, 1], round_of (ob := [LoopN cx (loopAt cx.P 71 1) 71 58 false [(0, .d (I a0)), (1, .ptr 0 0 0 0 0), (2, .ptr 1 0 0 0 0), (5, .d (I sa)), (6, .d (I (a0 - a2))), (38, .d (.lst false 3 a8)), (39, .d (I ((a8).length : Int))), (40, .d (I 0))] [(0, .box (.d (.agg [I a0, I a1, I a2, I a3, I a4, I a5, I a6, I a7]))), (1, .box (.d (.lst false 3 a8)))] .ret [(4, .d (B false))] [(0, .box (.d (.agg [I a0, I a1, I a2, I a3, I a4, I a5, I a6, I a7]))), (1, .box (.d (.lst false 3 a8)))], inI64 (a0 - a2), (decide (sa < (a0 - a2))) = true, inI64 (a0 - a2), (decide (sa > a0)) = false, (decide (sa ≤ a5)) = true]) (by kernel_rfl) ⟨(loopF_to R_law03_DriveHits_L4 ha5), ha3, (decide_eq_true ha4), ha3, (decide_eq_false ha2), (decide_eq_true ha1), trivial⟩⟩, nofun⟩
        · obtain ⟨ha6, h⟩ := grd_of h
          replace h := Option.some.inj h
          subst h
          exact ⟨100, 64, [.br true, .br false, .br true, .lp [] [0, 1, 2, 5, 6, 38, 39, 40] [0, 1] (.exit 2) [(0, .d (I a0)), (1, .ptr 0 0 0 0 0), (2, .ptr 1 0 0 0 0), (5, .d (I sa))] [(0, .box (.d (.agg [I a0, I a1, I a2, I a3, I a4, I a5, I a6, I a7]))), (1, .box (.d (.lst false 3 a8)))] 137], [], [0, 1, 2, 5], [0, 1], round_of (ob := [inI64 (sa + 1), LoopN cx (loopAt cx.P 71 1) 71 58 false [(0, .d (I a0)), (1, .ptr 0 0 0 0 0), (2, .ptr 1 0 0 0 0), (5, .d (I sa)), (6, .d (I (a0 - a2))), (38, .d (.lst false 3 a8)), (39, .d (I ((a8).length : Int))), (40, .d (I 0))] [(0, .box (.d (.agg [I a0, I a1, I a2, I a3, I a4, I a5, I a6, I a7]))), (1, .box (.d (.lst false 3 a8)))] (.exit 2) [(0, .d (I a0)), (1, .ptr 0 0 0 0 0), (2, .ptr 1 0 0 0 0), (5, .d (I sa))] [(0, .box (.d (.agg [I a0, I a1, I a2, I a3, I a4, I a5, I a6, I a7]))), (1, .box (.d (.lst false 3 a8)))], inI64 (a0 - a2), (decide (sa < (a0 - a2))) = true, inI64 (a0 - a2), (decide (sa > a0)) = false, (decide (sa ≤ a5)) = true]) (by kernel_rfl) ⟨ha6, (loopF_to R_law03_DriveHits_L4 ha5), ha3, (decide_eq_true ha4), ha3, (decide_eq_false ha2), (decide_eq_true ha1), trivial⟩⟩
      · replace h := ite_f h ha4
        obtain ⟨ta5, ha5, h⟩ := bnd_of h
        rcases ta5 with ta5 | ta5
        · replace h := Option.some.inj h
          subst h
          exact ⟨⟨100, 64, [.br true, .br false, .br false, .lp [] [0, 1, 2, 5, 6, 38, 39, 40] [0, 1] .ret [(4, .d (B false))] [(0, .box (.d (.agg [I a0, I a1, I a2, I a3, I a4, I a5, I a6, I a7]))), (1, .box (.d (.lst false 3 a8)))] 129], [], [4], [0, 1], round_of (ob := [LoopN cx (loopAt cx.P 71 1) 71 58 false [(0, .d (I a0)), (1, .ptr 0 0 0 0 0), (2, .ptr 1 0 0 0 0), (5, .d (I sa)), (6, .d (I sa)), (38, .d (.lst false 3 a8)), (39, .d (I ((a8).length : Int))), (40, .d (I 0))] [(0, .box (.d (.agg [I a0, I a1, I a2, I a3, I a4, I a5, I a6, I a7]))), (1, .box (.d (.lst false 3 a8)))] .ret [(4, .d (B false))] [(0, .box (.d (.agg [I a0, I a1, I a2, I a3, I a4, I a5, I a6, I a7]))), (1, .box (.d (.lst false 3 a8)))], (decide (sa < (a0 - a2))) = false, inI64 (a0 - a2), (decide (sa > a0)) = false, (decide (sa ≤ a5)) = true]) (by kernel_rfl) ⟨(loopF_to R_law03_DriveHits_L6 ha5), (decide_eq_false ha4), ha3, (decide_eq_false ha2), (decide_eq_true ha1), trivial⟩⟩, nofun⟩
        · obtain ⟨ha6, h⟩ := grd_of h
          replace h := Option.some.inj h
          subst h
          exact ⟨100, 64, [.br true, .br false, .br false, .lp [] [0, 1, 2, 5, 6, 38, 39, 40] [0, 1] (.exit 2) [(0, .d (I a0)), (1, .ptr 0 0 0 0 0), (2, .ptr 1 0 0 0 0), (5, .d (I sa))] [(0, .box (.d (.agg [I a0, I a1, I a2, I a3, I a4, I a5, I a6, I a7]))), (1, .box (.d (.lst false 3 a8)))] 129], [], [0, 1, 2, 5], [0, 1], round_of (ob := [inI64 (sa + 1), LoopN cx (loopAt cx.P 71 1) 71 58 false [(0, .d (I a0)), (1, .ptr 0 0 0 0 0), (2, .ptr 1 0 0 0 0), (5, .d (I sa)), (6, .d (I sa)), (38, .d (.lst false 3 a8)), (39, .d (I ((a8).length : Int))), (40, .d (I 0))] [(0, .box (.d (.agg [I a0, I a1, I a2, I a3, I a4, I a5, I a6, I a7]))), (1, .box (.d (.lst false 3 a8)))] (.exit 2) [(0, .d (I a0)), (1, .ptr 0 0 0 0 0), (2, .ptr 1 0 0 0 0), (5, .d (I sa))] [(0, .box (.d (.agg [I a0, I a1, I a2, I a3, I a4, I a5, I a6, I a7]))), (1, .box (.d (.lst false 3 a8)))], (decide (sa < (a0 - a2))) = false, inI64 (a0 - a2), (decide (sa > a0)) = false, (decide (sa ≤ a5)) = true]) (by kernel_rfl) ⟨ha6, (loopF_to R_law03_DriveHits_L6 ha5), (decide_eq_false ha4), ha3, (decide_eq_false ha2), (decide_eq_true ha1), trivial⟩⟩
  · replace h := ite_f h ha1
    replace h := Option.some.inj h
    subst h
    exact ⟨⟨100, 64, [.br false], [], [], [0, 1], round_of (ob := [(decide (sa ≤ a5)) = false]) (by kernel_rfl) ⟨(decide_eq_false ha1), trivial⟩⟩, nofun⟩
def F_law03_DriveHits_L11 (n : Nat) (a0 : Int) (a1 : Int) (a2 : Int) (a3 : Int) (a4 : Int) (a5 : Int) (a6 : Int) (a7 : Int) (a8 : List D) (sa : Int) (sb : (Int)) : Option (((Int)) ⊕ ((Unit) ⊕ (Unit))) :=
  if sb < ((a8).length : Int) then
    (el un_Ai3Z a8 sb).bind fun tb2 =>
    if inI64 (tb2.1 * (a3 - a2)) then
    if inI64 (tb2.2.1 + (tb2.1 * (a3 - a2))) then
    if (tb2.2.1 + (tb2.1 * (a3 - a2))) < a6 then
      some (.inr (.inl ()))
    else
    if inI64 (tb2.2.2 + (tb2.1 * (a3 - a2))) then
    if (tb2.2.2 + (tb2.1 * (a3 - a2))) > a7 then
      some (.inr (.inl ()))
    else
    if inI64 (sb + 1) then
    some (.inl (sb + 1))
    else none
    else none
    else none
    else none
  else
  some (.inr (.inr ()))
noncomputable def T_law03_DriveHits_L11 (a0 : Int) (a1 : Int) (a2 : Int) (a3 : Int) (a4 : Int) (a5 : Int) (a6 : Int) (a7 : Int) (a8 : List D) (sa : Int) (sb : (Int)) : List (Nat × AV) := [(0, .d (I a3)), (1, .ptr 0 0 0 0 0), (2, .ptr 1 0 0 0 0), (5, .d (I sa)), (6, .d (I (a3 - a2))), (38, .d (.lst false 3 a8)), (39, .d (I ((a8).length : Int))), (40, .d (I sb))]
noncomputable def H_law03_DriveHits_L11 (a0 : Int) (a1 : Int) (a2 : Int) (a3 : Int) (a4 : Int) (a5 : Int) (a6 : Int) (a7 : Int) (a8 : List D) (sa : Int) (sb : (Int)) : List (Nat × Blk) := [(0, .box (.d (.agg [I a0, I a1, I a2, I a3, I a4, I a5, I a6, I a7]))), (1, .box (.d (.lst false 3 a8)))]
noncomputable def X_law03_DriveHits_L11 (a0 : Int) (a1 : Int) (a2 : Int) (a3 : Int) (a4 : Int) (a5 : Int) (a6 : Int) (a7 : Int) (a8 : List D) (sa : Int) (e : (Unit) ⊕ (Unit)) : Ex := match e with
  | (.inl e) => .ret
  | (.inr e) => (.exit 2)
noncomputable def XT_law03_DriveHits_L11 (a0 : Int) (a1 : Int) (a2 : Int) (a3 : Int) (a4 : Int) (a5 : Int) (a6 : Int) (a7 : Int) (a8 : List D) (sa : Int) (e : (Unit) ⊕ (Unit)) : List (Nat × AV) := match e with
  | (.inl e) => [(4, .d (B false))]
  | (.inr e) => [(0, .d (I a3)), (1, .ptr 0 0 0 0 0), (2, .ptr 1 0 0 0 0), (5, .d (I sa))]
noncomputable def XH_law03_DriveHits_L11 (a0 : Int) (a1 : Int) (a2 : Int) (a3 : Int) (a4 : Int) (a5 : Int) (a6 : Int) (a7 : Int) (a8 : List D) (sa : Int) (e : (Unit) ⊕ (Unit)) : List (Nat × Blk) := match e with
  | (.inl e) => [(0, .box (.d (.agg [I a0, I a1, I a2, I a3, I a4, I a5, I a6, I a7]))), (1, .box (.d (.lst false 3 a8)))]
  | (.inr e) => [(0, .box (.d (.agg [I a0, I a1, I a2, I a3, I a4, I a5, I a6, I a7]))), (1, .box (.d (.lst false 3 a8)))]
theorem R_law03_DriveHits_L11 {n : Nat} {a0 : Int} {a1 : Int} {a2 : Int} {a3 : Int} {a4 : Int} {a5 : Int} {a6 : Int} {a7 : Int} {a8 : List D} {sa : Int} (sb : (Int)) (r) (h : F_law03_DriveHits_L11 n a0 a1 a2 a3 a4 a5 a6 a7 a8 sa sb = some r) : Rd cx (loopAt cx.P 71 1) 71 159 false (T_law03_DriveHits_L11 a0 a1 a2 a3 a4 a5 a6 a7 a8 sa) (H_law03_DriveHits_L11 a0 a1 a2 a3 a4 a5 a6 a7 a8 sa) (X_law03_DriveHits_L11 a0 a1 a2 a3 a4 a5 a6 a7 a8 sa) (XT_law03_DriveHits_L11 a0 a1 a2 a3 a4 a5 a6 a7 a8 sa) (XH_law03_DriveHits_L11 a0 a1 a2 a3 a4 a5 a6 a7 a8 sa) sb r := by
  unfold F_law03_DriveHits_L11 at h
  by_cases hb1 : sb < ((a8).length : Int)
  · replace h := ite_t h hb1
    obtain ⟨tb2, hb2, h⟩ := bnd_of h
    obtain ⟨hb3, h⟩ := grd_of h
    obtain ⟨hb4, h⟩ := grd_of h
    by_cases hb5 : (tb2.2.1 + (tb2.1 * (a3 - a2))) < a6
    · replace h := ite_t h hb5
      replace h := Option.some.inj h
      subst h
      exact ⟨⟨100, 194, [.br true, .el (.agg [I tb2.1, I tb2.2.1, I tb2.2.2]), .br true, .no], [], [4], [0, 1], round_of (ob := [(decide ((tb2.2.1 + (tb2.1 * (a3 - a2))) < a6)) = true, inI64 (tb2.2.1 + (tb2.1 * (a3 - a2))), inI64 (tb2.1 * (a3 - a2)), (0 : Int) ≤ sb, nth (a8) (Int.toNat sb) = some (.agg [I tb2.1, I tb2.2.1, I tb2.2.2]), (decide (sb < ((a8).length : Int))) = true]) (by kernel_rfl) ⟨(decide_eq_true hb5), hb4, hb3, (el_ok un_Ai3Z_ok hb2).1, (el_ok un_Ai3Z_ok hb2).2, (decide_eq_true hb1), trivial⟩⟩, nofun⟩
    · replace h := ite_f h hb5
      obtain ⟨hb6, h⟩ := grd_of h
      by_cases hb7 : (tb2.2.2 + (tb2.1 * (a3 - a2))) > a7
      · replace h := ite_t h hb7
        replace h := Option.some.inj h
        subst h
        exact ⟨⟨100, 194, [.br true, .el (.agg [I tb2.1, I tb2.2.1, I tb2.2.2]), .br false, .br true], [], [4], [0, 1], round_of (ob := [(decide ((tb2.2.2 + (tb2.1 * (a3 - a2))) > a7)) = true, inI64 (tb2.2.2 + (tb2.1 * (a3 - a2))), inI64 (tb2.1 * (a3 - a2)), (decide ((tb2.2.1 + (tb2.1 * (a3 - a2))) < a6)) = false, inI64 (tb2.2.1 + (tb2.1 * (a3 - a2))), inI64 (tb2.1 * (a3 - a2)), (0 : Int) ≤ sb, nth (a8) (Int.toNat sb) = some (.agg [I tb2.1, I tb2.2.1, I tb2.2.2]), (decide (sb < ((a8).length : Int))) = true]) (by kernel_rfl) ⟨(decide_eq_true hb7), hb6, hb3, (decide_eq_false hb5), hb4, hb3, (el_ok un_Ai3Z_ok hb2).1, (el_ok un_Ai3Z_ok hb2).2, (decide_eq_true hb1), trivial⟩⟩, nofun⟩
      · replace h := ite_f h hb7
        obtain ⟨hb8, h⟩ := grd_of h
        replace h := Option.some.inj h
        subst h
        exact ⟨100, 194, [.br true, .el (.agg [I tb2.1, I tb2.2.1, I tb2.2.2]), .br false, .br false], [], [0, 1, 2, 5, 6, 38, 39, 40], [0, 1], round_of (ob := [inI64 (sb + 1), (decide ((tb2.2.2 + (tb2.1 * (a3 - a2))) > a7)) = false, inI64 (tb2.2.2 + (tb2.1 * (a3 - a2))), inI64 (tb2.1 * (a3 - a2)), (decide ((tb2.2.1 + (tb2.1 * (a3 - a2))) < a6)) = false, inI64 (tb2.2.1 + (tb2.1 * (a3 - a2))), inI64 (tb2.1 * (a3 - a2)), (0 : Int) ≤ sb, nth (a8) (Int.toNat sb) = some (.agg [I tb2.1, I tb2.2.1, I tb2.2.2]), (decide (sb < ((a8).length : Int))) = true]) (by kernel_rfl) ⟨hb8, (decide_eq_false hb7), hb6, hb3, (decide_eq_false hb5), hb4, hb3, (el_ok un_Ai3Z_ok hb2).1, (el_ok un_Ai3Z_ok hb2).2, (decide_eq_true hb1), trivial⟩⟩
  · replace h := ite_f h hb1
    replace h := Option.some.inj h
    subst h
    exact ⟨⟨100, 194, [.br false], [], [0, 1, 2, 5], [0, 1], round_of (ob := [(decide (sb < ((a8).length : Int))) = false]) (by kernel_rfl) ⟨(decide_eq_false hb1), trivial⟩⟩, nofun⟩
def F_law03_DriveHits_L12 (n : Nat) (a0 : Int) (a1 : Int) (a2 : Int) (a3 : Int) (a4 : Int) (a5 : Int) (a6 : Int) (a7 : Int) (a8 : List D) (sa : Int) (sb : (Int)) : Option (((Int)) ⊕ ((Unit) ⊕ (Unit))) :=
  if sb < ((a8).length : Int) then
    (el un_Ai3Z a8 sb).bind fun tb2 =>
    if inI64 (tb2.1 * a3) then
    if inI64 (tb2.2.1 + (tb2.1 * a3)) then
    if (tb2.2.1 + (tb2.1 * a3)) < a6 then
      some (.inr (.inl ()))
    else
    if inI64 (tb2.2.2 + (tb2.1 * a3)) then
    if (tb2.2.2 + (tb2.1 * a3)) > a7 then
      some (.inr (.inl ()))
    else
    if inI64 (sb + 1) then
    some (.inl (sb + 1))
    else none
    else none
    else none
    else none
  else
  some (.inr (.inr ()))
noncomputable def T_law03_DriveHits_L12 (a0 : Int) (a1 : Int) (a2 : Int) (a3 : Int) (a4 : Int) (a5 : Int) (a6 : Int) (a7 : Int) (a8 : List D) (sa : Int) (sb : (Int)) : List (Nat × AV) := [(0, .d (I a3)), (1, .ptr 0 0 0 0 0), (2, .ptr 1 0 0 0 0), (5, .d (I sa)), (6, .d (I a3)), (38, .d (.lst false 3 a8)), (39, .d (I ((a8).length : Int))), (40, .d (I sb))]
noncomputable def H_law03_DriveHits_L12 (a0 : Int) (a1 : Int) (a2 : Int) (a3 : Int) (a4 : Int) (a5 : Int) (a6 : Int) (a7 : Int) (a8 : List D) (sa : Int) (sb : (Int)) : List (Nat × Blk) := [(0, .box (.d (.agg [I a0, I a1, I a2, I a3, I a4, I a5, I a6, I a7]))), (1, .box (.d (.lst false 3 a8)))]
noncomputable def X_law03_DriveHits_L12 (a0 : Int) (a1 : Int) (a2 : Int) (a3 : Int) (a4 : Int) (a5 : Int) (a6 : Int) (a7 : Int) (a8 : List D) (sa : Int) (e : (Unit) ⊕ (Unit)) : Ex := match e with
  | (.inl e) => .ret
  | (.inr e) => (.exit 2)
noncomputable def XT_law03_DriveHits_L12 (a0 : Int) (a1 : Int) (a2 : Int) (a3 : Int) (a4 : Int) (a5 : Int) (a6 : Int) (a7 : Int) (a8 : List D) (sa : Int) (e : (Unit) ⊕ (Unit)) : List (Nat × AV) := match e with
  | (.inl e) => [(4, .d (B false))]
  | (.inr e) => [(0, .d (I a3)), (1, .ptr 0 0 0 0 0), (2, .ptr 1 0 0 0 0), (5, .d (I sa))]
noncomputable def XH_law03_DriveHits_L12 (a0 : Int) (a1 : Int) (a2 : Int) (a3 : Int) (a4 : Int) (a5 : Int) (a6 : Int) (a7 : Int) (a8 : List D) (sa : Int) (e : (Unit) ⊕ (Unit)) : List (Nat × Blk) := match e with
  | (.inl e) => [(0, .box (.d (.agg [I a0, I a1, I a2, I a3, I a4, I a5, I a6, I a7]))), (1, .box (.d (.lst false 3 a8)))]
  | (.inr e) => [(0, .box (.d (.agg [I a0, I a1, I a2, I a3, I a4, I a5, I a6, I a7]))), (1, .box (.d (.lst false 3 a8)))]
theorem R_law03_DriveHits_L12 {n : Nat} {a0 : Int} {a1 : Int} {a2 : Int} {a3 : Int} {a4 : Int} {a5 : Int} {a6 : Int} {a7 : Int} {a8 : List D} {sa : Int} (sb : (Int)) (r) (h : F_law03_DriveHits_L12 n a0 a1 a2 a3 a4 a5 a6 a7 a8 sa sb = some r) : Rd cx (loopAt cx.P 71 1) 71 159 false (T_law03_DriveHits_L12 a0 a1 a2 a3 a4 a5 a6 a7 a8 sa) (H_law03_DriveHits_L12 a0 a1 a2 a3 a4 a5 a6 a7 a8 sa) (X_law03_DriveHits_L12 a0 a1 a2 a3 a4 a5 a6 a7 a8 sa) (XT_law03_DriveHits_L12 a0 a1 a2 a3 a4 a5 a6 a7 a8 sa) (XH_law03_DriveHits_L12 a0 a1 a2 a3 a4 a5 a6 a7 a8 sa) sb r := by
  unfold F_law03_DriveHits_L12 at h
  by_cases hb1 : sb < ((a8).length : Int)
  · replace h := ite_t h hb1
    obtain ⟨tb2, hb2, h⟩ := bnd_of h
    obtain ⟨hb3, h⟩ := grd_of h
    obtain ⟨hb4, h⟩ := grd_of h
    by_cases hb5 : (tb2.2.1 + (tb2.1 * a3)) < a6
    · replace h := ite_t h hb5
      replace h := Option.some.inj h
      subst h
      exact ⟨⟨100, 188, [.br true, .el (.agg [I tb2.1, I tb2.2.1, I tb2.2.2]), .br true, .no], [], [4], [0, 1], round_of (ob := [(decide ((tb2.2.1 + (tb2.1 * a3)) < a6)) = true, inI64 (tb2.2.1 + (tb2.1 * a3)), inI64 (tb2.1 * a3), (0 : Int) ≤ sb, nth (a8) (Int.toNat sb) = some (.agg [I tb2.1, I tb2.2.1, I tb2.2.2]), (decide (sb < ((a8).length : Int))) = true]) (by kernel_rfl) ⟨(decide_eq_true hb5), hb4, hb3, (el_ok un_Ai3Z_ok hb2).1, (el_ok un_Ai3Z_ok hb2).2, (decide_eq_true hb1), trivial⟩⟩, nofun⟩
    · replace h := ite_f h hb5
      obtain ⟨hb6, h⟩ := grd_of h
      by_cases hb7 : (tb2.2.2 + (tb2.1 * a3)) > a7
      · replace h := ite_t h hb7
        replace h := Option.some.inj h
        subst h
        exact ⟨⟨100, 188, [.br true, .el (.agg [I tb2.1, I tb2.2.1, I tb2.2.2]), .br false, .br true], [], [4], [0, 1], round_of (ob := [(decide ((tb2.2.2 + (tb2.1 * a3)) > a7)) = true, inI64 (tb2.2.2 + (tb2.1 * a3)), inI64 (tb2.1 * a3), (decide ((tb2.2.1 + (tb2.1 * a3)) < a6)) = false, inI64 (tb2.2.1 + (tb2.1 * a3)), inI64 (tb2.1 * a3), (0 : Int) ≤ sb, nth (a8) (Int.toNat sb) = some (.agg [I tb2.1, I tb2.2.1, I tb2.2.2]), (decide (sb < ((a8).length : Int))) = true]) (by kernel_rfl) ⟨(decide_eq_true hb7), hb6, hb3, (decide_eq_false hb5), hb4, hb3, (el_ok un_Ai3Z_ok hb2).1, (el_ok un_Ai3Z_ok hb2).2, (decide_eq_true hb1), trivial⟩⟩, nofun⟩
      · replace h := ite_f h hb7
        obtain ⟨hb8, h⟩ := grd_of h
        replace h := Option.some.inj h
        subst h
        exact ⟨100, 188, [.br true, .el (.agg [I tb2.1, I tb2.2.1, I tb2.2.2]), .br false, .br false], [], [0, 1, 2, 5, 6, 38, 39, 40], [0, 1], round_of (ob := [inI64 (sb + 1), (decide ((tb2.2.2 + (tb2.1 * a3)) > a7)) = false, inI64 (tb2.2.2 + (tb2.1 * a3)), inI64 (tb2.1 * a3), (decide ((tb2.2.1 + (tb2.1 * a3)) < a6)) = false, inI64 (tb2.2.1 + (tb2.1 * a3)), inI64 (tb2.1 * a3), (0 : Int) ≤ sb, nth (a8) (Int.toNat sb) = some (.agg [I tb2.1, I tb2.2.1, I tb2.2.2]), (decide (sb < ((a8).length : Int))) = true]) (by kernel_rfl) ⟨hb8, (decide_eq_false hb7), hb6, hb3, (decide_eq_false hb5), hb4, hb3, (el_ok un_Ai3Z_ok hb2).1, (el_ok un_Ai3Z_ok hb2).2, (decide_eq_true hb1), trivial⟩⟩
  · replace h := ite_f h hb1
    replace h := Option.some.inj h
    subst h
    exact ⟨⟨100, 188, [.br false], [], [0, 1, 2, 5], [0, 1], round_of (ob := [(decide (sb < ((a8).length : Int))) = false]) (by kernel_rfl) ⟨(decide_eq_false hb1), trivial⟩⟩, nofun⟩
def F_law03_DriveHits_L13 (n : Nat) (a0 : Int) (a1 : Int) (a2 : Int) (a3 : Int) (a4 : Int) (a5 : Int) (a6 : Int) (a7 : Int) (a8 : List D) (sa : Int) (sb : (Int)) : Option (((Int)) ⊕ ((Unit) ⊕ (Unit))) :=
  if sb < ((a8).length : Int) then
    (el un_Ai3Z a8 sb).bind fun tb2 =>
    if inI64 (tb2.1 * sa) then
    if inI64 (tb2.2.1 + (tb2.1 * sa)) then
    if (tb2.2.1 + (tb2.1 * sa)) < a6 then
      some (.inr (.inl ()))
    else
    if inI64 (tb2.2.2 + (tb2.1 * sa)) then
    if (tb2.2.2 + (tb2.1 * sa)) > a7 then
      some (.inr (.inl ()))
    else
    if inI64 (sb + 1) then
    some (.inl (sb + 1))
    else none
    else none
    else none
    else none
  else
  some (.inr (.inr ()))
noncomputable def T_law03_DriveHits_L13 (a0 : Int) (a1 : Int) (a2 : Int) (a3 : Int) (a4 : Int) (a5 : Int) (a6 : Int) (a7 : Int) (a8 : List D) (sa : Int) (sb : (Int)) : List (Nat × AV) := [(0, .d (I a3)), (1, .ptr 0 0 0 0 0), (2, .ptr 1 0 0 0 0), (5, .d (I sa)), (6, .d (I sa)), (38, .d (.lst false 3 a8)), (39, .d (I ((a8).length : Int))), (40, .d (I sb))]
noncomputable def H_law03_DriveHits_L13 (a0 : Int) (a1 : Int) (a2 : Int) (a3 : Int) (a4 : Int) (a5 : Int) (a6 : Int) (a7 : Int) (a8 : List D) (sa : Int) (sb : (Int)) : List (Nat × Blk) := [(0, .box (.d (.agg [I a0, I a1, I a2, I a3, I a4, I a5, I a6, I a7]))), (1, .box (.d (.lst false 3 a8)))]
noncomputable def X_law03_DriveHits_L13 (a0 : Int) (a1 : Int) (a2 : Int) (a3 : Int) (a4 : Int) (a5 : Int) (a6 : Int) (a7 : Int) (a8 : List D) (sa : Int) (e : (Unit) ⊕ (Unit)) : Ex := match e with
  | (.inl e) => .ret
  | (.inr e) => (.exit 2)
noncomputable def XT_law03_DriveHits_L13 (a0 : Int) (a1 : Int) (a2 : Int) (a3 : Int) (a4 : Int) (a5 : Int) (a6 : Int) (a7 : Int) (a8 : List D) (sa : Int) (e : (Unit) ⊕ (Unit)) : List (Nat × AV) := match e with
  | (.inl e) => [(4, .d (B false))]
  | (.inr e) => [(0, .d (I a3)), (1, .ptr 0 0 0 0 0), (2, .ptr 1 0 0 0 0), (5, .d (I sa))]
noncomputable def XH_law03_DriveHits_L13 (a0 : Int) (a1 : Int) (a2 : Int) (a3 : Int) (a4 : Int) (a5 : Int) (a6 : Int) (a7 : Int) (a8 : List D) (sa : Int) (e : (Unit) ⊕ (Unit)) : List (Nat × Blk) := match e with
  | (.inl e) => [(0, .box (.d (.agg [I a0, I a1, I a2, I a3, I a4, I a5, I a6, I a7]))), (1, .box (.d (.lst false 3 a8)))]
  | (.inr e) => [(0, .box (.d (.agg [I a0, I a1, I a2, I a3, I a4, I a5, I a6, I a7]))), (1, .box (.d (.lst false 3 a8)))]
theorem R_law03_DriveHits_L13 {n : Nat} {a0 : Int} {a1 : Int} {a2 : Int} {a3 : Int} {a4 : Int} {a5 : Int} {a6 : Int} {a7 : Int} {a8 : List D} {sa : Int} (sb : (Int)) (r) (h : F_law03_DriveHits_L13 n a0 a1 a2 a3 a4 a5 a6 a7 a8 sa sb = some r) : Rd cx (loopAt cx.P 71 1) 71 159 false (T_law03_DriveHits_L13 a0 a1 a2 a3 a4 a5 a6 a7 a8 sa) (H_law03_DriveHits_L13 a0 a1 a2 a3 a4 a5 a6 a7 a8 sa) (X_law03_DriveHits_L13 a0 a1 a2 a3 a4 a5 a6 a7 a8 sa) (XT_law03_DriveHits_L13 a0 a1 a2 a3 a4 a5 a6 a7 a8 sa) (XH_law03_DriveHits_L13 a0 a1 a2 a3 a4 a5 a6 a7 a8 sa) sb r := by
  unfold F_law03_DriveHits_L13 at h
  by_cases hb1 : sb < ((a8).length : Int)
  · replace h := ite_t h hb1
    obtain ⟨tb2, hb2, h⟩ := bnd_of h
    obtain ⟨hb3, h⟩ := grd_of h
    obtain ⟨hb4, h⟩ := grd_of h
    by_cases hb5 : (tb2.2.1 + (tb2.1 * sa)) < a6
    · replace h := ite_t h hb5
      replace h := Option.some.inj h
      subst h
      exact ⟨⟨100, 186, [.br true, .el (.agg [I tb2.1, I tb2.2.1, I tb2.2.2]), .br true, .no], [], [4], [0, 1], round_of (ob := [(decide ((tb2.2.1 + (tb2.1 * sa)) < a6)) = true, inI64 (tb2.2.1 + (tb2.1 * sa)), inI64 (tb2.1 * sa), (0 : Int) ≤ sb, nth (a8) (Int.toNat sb) = some (.agg [I tb2.1, I tb2.2.1, I tb2.2.2]), (decide (sb < ((a8).length : Int))) = true]) (by kernel_rfl) ⟨(decide_eq_true hb5), hb4, hb3, (el_ok un_Ai3Z_ok hb2).1, (el_ok un_Ai3Z_ok hb2).2, (decide_eq_true hb1), trivial⟩⟩, nofun⟩
    · replace h := ite_f h hb5
      obtain ⟨hb6, h⟩ := grd_of h
      by_cases hb7 : (tb2.2.2 + (tb2.1 * sa)) > a7
      · replace h := ite_t h hb7
        replace h := Option.some.inj h
        subst h
        exact ⟨⟨100, 186, [.br true, .el (.agg [I tb2.1, I tb2.2.1, I tb2.2.2]), .br false, .br true], [], [4], [0, 1], round_of (ob := [(decide ((tb2.2.2 + (tb2.1 * sa)) > a7)) = true, inI64 (tb2.2.2 + (tb2.1 * sa)), inI64 (tb2.1 * sa), (decide ((tb2.2.1 + (tb2.1 * sa)) < a6)) = false, inI64 (tb2.2.1 + (tb2.1 * sa)), inI64 (tb2.1 * sa), (0 : Int) ≤ sb, nth (a8) (Int.toNat sb) = some (.agg [I tb2.1, I tb2.2.1, I tb2.2.2]), (decide (sb < ((a8).length : Int))) = true]) (by kernel_rfl) ⟨(decide_eq_true hb7), hb6, hb3, (decide_eq_false hb5), hb4, hb3, (el_ok un_Ai3Z_ok hb2).1, (el_ok un_Ai3Z_ok hb2).2, (decide_eq_true hb1), trivial⟩⟩, nofun⟩
      · replace h := ite_f h hb7
        obtain ⟨hb8, h⟩ := grd_of h
        replace h := Option.some.inj h
        subst h
        exact ⟨100, 186, [.br true, .el (.agg [I tb2.1, I tb2.2.1, I tb2.2.2]), .br false, .br false], [], [0, 1, 2, 5, 6, 38, 39, 40], [0, 1], round_of (ob := [inI64 (sb + 1), (decide ((tb2.2.2 + (tb2.1 * sa)) > a7)) = false, inI64 (tb2.2.2 + (tb2.1 * sa)), inI64 (tb2.1 * sa), (decide ((tb2.2.1 + (tb2.1 * sa)) < a6)) = false, inI64 (tb2.2.1 + (tb2.1 * sa)), inI64 (tb2.1 * sa), (0 : Int) ≤ sb, nth (a8) (Int.toNat sb) = some (.agg [I tb2.1, I tb2.2.1, I tb2.2.2]), (decide (sb < ((a8).length : Int))) = true]) (by kernel_rfl) ⟨hb8, (decide_eq_false hb7), hb6, hb3, (decide_eq_false hb5), hb4, hb3, (el_ok un_Ai3Z_ok hb2).1, (el_ok un_Ai3Z_ok hb2).2, (decide_eq_true hb1), trivial⟩⟩
  · replace h := ite_f h hb1
    replace h := Option.some.inj h
    subst h
    exact ⟨⟨100, 186, [.br false], [], [0, 1, 2, 5], [0, 1], round_of (ob := [(decide (sb < ((a8).length : Int))) = false]) (by kernel_rfl) ⟨(decide_eq_false hb1), trivial⟩⟩, nofun⟩
end Go.Proofs.YtmgbmngmmpeaaaaGreatDoor
