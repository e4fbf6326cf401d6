/-
  Printed by gsx.py: functions of the program as Lean functions, and that the code computes them.
-/
import Derived.Test.YtmgbmngmmpeaaaaGreatDoorGen8
set_option linter.unusedVariables false
set_option linter.unusedSimpArgs false
set_option linter.unnecessarySimpa false
set_option maxRecDepth 10000
namespace Go.Proofs.YtmgbmngmmpeaaaaGreatDoor
open Go.SX
/- spillage/spillageref03.ShortSpots: .lst false 3 a0 -/
def F_ref03_ShortSpots (n : Nat) (a0 : List D) : Option (Bool) :=
  if ((a0).length : Int) ≤ 6 then
    some true
  else
  some (((a0).length : Int) == 17)
theorem c_ref03_ShortSpots {n : Nat} {a0 : List D} {r : Bool} (h : F_ref03_ShortSpots n a0 = some r) : Computes cx 36 [.lst false 3 a0] (B r) := by
  unfold F_ref03_ShortSpots at h
  by_cases h1 : ((a0).length : Int) ≤ 6
  · replace h := ite_t h h1
    replace h := Option.some.inj h
    subst h
    exact run (n := 100) (f := 36) (args := [.lst false 3 a0]) (orc := [.br true]) (r := B true) (ob := [(decide (((a0).length : Int) ≤ 6)) = true]) (by kernel_rfl) ⟨(decide_eq_true h1), trivial⟩
  · replace h := ite_f h h1
    replace h := Option.some.inj h
    subst h
    exact run (n := 100) (f := 36) (args := [.lst false 3 a0]) (orc := [.br false]) (r := B (((a0).length : Int) == 17)) (ob := [(decide (((a0).length : Int) ≤ 6)) = false]) (by kernel_rfl) ⟨(decide_eq_false h1), trivial⟩
def F_law03_spots_L1 (n : Nat) (a0 : List D) (sa : (Int × List D)) : Option (((Int × List D)) ⊕ ((List D))) :=
  if sa.1 < ((a0).length : Int) then
    (el un_Ai3Z a0 sa.1).bind fun ta2 =>
    if roomP 24 ((sa.2).length + 1) then
    if inI64 (sa.1 + 1) then
    some (.inl ((sa.1 + 1), (sa.2 ++ ([.agg [I ta2.1, I ta2.2.1, I ta2.2.2]] : List D))))
    else none
    else none
  else
  some (.inr sa.2)
noncomputable def T_law03_spots_L1 (a0 : List D) (sa : (Int × List D)) : List (Nat × AV) := [(3, .own 5 0), (6, .d (.lst false 3 a0)), (7, .d (I ((a0).length : Int))), (8, .d (I sa.1))]
noncomputable def H_law03_spots_L1 (a0 : List D) (sa : (Int × List D)) : List (Nat × Blk) := [(5, .row 0 3 sa.2)]
noncomputable def X_law03_spots_L1 (a0 : List D) (e : (List D)) : Ex := (.exit 0)
noncomputable def XT_law03_spots_L1 (a0 : List D) (e : (List D)) : List (Nat × AV) := [(3, .own 5 0)]
noncomputable def XH_law03_spots_L1 (a0 : List D) (e : (List D)) : List (Nat × Blk) := [(5, .row 0 3 e)]
theorem R_law03_spots_L1 {n : Nat} {a0 : List D} (sa : (Int × List D)) (r) (h : F_law03_spots_L1 n a0 sa = some r) : Rd cx (loopAt cx.P 38 0) 18 0 false (T_law03_spots_L1 a0) (H_law03_spots_L1 a0) (X_law03_spots_L1 a0) (XT_law03_spots_L1 a0) (XH_law03_spots_L1 a0) sa r := by
  unfold F_law03_spots_L1 at h
  by_cases ha1 : sa.1 < ((a0).length : Int)
  · replace h := ite_t h ha1
    obtain ⟨ta2, ha2, h⟩ := bnd_of h
    obtain ⟨ha3, h⟩ := grd_of h
    obtain ⟨ha4, h⟩ := grd_of h
    replace h := Option.some.inj h
    subst h
    exact ⟨100, 6, [.br true, .el (.agg [I ta2.1, I ta2.2.1, I ta2.2.2]), .br true], [], [3, 6, 7, 8], [5], round_of (ob := [inI64 (sa.1 + 1), room cx 80 ((sa.2).length + 1), (0 : Int) ≤ sa.1, nth (a0) (Int.toNat sa.1) = some (.agg [I ta2.1, I ta2.2.1, I ta2.2.2]), (decide (sa.1 < ((a0).length : Int))) = true]) (by kernel_rfl) ⟨ha4, (room_of (b := 24) (by kernel_rfl) (by decide) ha3), (el_ok un_Ai3Z_ok ha2).1, (el_ok un_Ai3Z_ok ha2).2, (decide_eq_true ha1), trivial⟩⟩
  · replace h := ite_f h ha1
    replace h := Option.some.inj h
    subst h
    exact ⟨⟨100, 6, [.br false], [], [3], [5], round_of (ob := [(decide (sa.1 < ((a0).length : Int))) = false]) (by kernel_rfl) ⟨(decide_eq_false ha1), trivial⟩⟩, nofun⟩
/- spillage/spillagelaw03.spots: .lst false 3 a0 -/
def F_law03_spots (n : Nat) (a0 : List D) : Option (List D) :=
  (loopF (F_law03_spots_L1 n a0) n (0, [])).bind fun t1 =>
  some t1
theorem c_law03_spots {n : Nat} {a0 : List D} {r : List D} (h : F_law03_spots n a0 = some r) : Computes cx 38 [.lst false 3 a0] (.lst false 3 r) := by
  unfold F_law03_spots at h
  obtain ⟨t1, h1, h⟩ := bnd_of h
  replace h := Option.some.inj h
  subst h
  exact run (n := 100) (f := 38) (args := [.lst false 3 a0]) (orc := [.lp [3, 3] [3, 6, 7, 8] [5] (.exit 0) [(3, .own 5 0)] [(5, .row 0 3 t1)] 29]) (r := .lst false 3 t1) (ob := [LoopN cx (loopAt cx.P 38 0) 18 0 false [(3, .own 5 0), (6, .d (.lst false 3 a0)), (7, .d (I ((a0).length : Int))), (8, .d (I 0))] [(5, .row 0 3 [])] (.exit 0) [(3, .own 5 0)] [(5, .row 0 3 t1)]]) (by kernel_rfl) ⟨(loopF_to R_law03_spots_L1 h1), trivial⟩
def F_ref03_CheckSpots_L1 (n : Nat) (a0 : List D) (sa : (Int)) : Option (((Int)) ⊕ ((Int) ⊕ (Unit))) :=
  if sa < ((a0).length : Int) then
    (el un_Ai3Z a0 sa).bind fun ta2 =>
    (F_ref03_CheckSpot n ta2.1 ta2.2.1 ta2.2.2).bind fun ta3 =>
    if ta3 = 0 then
      if inI64 (sa + 1) then
      some (.inl (sa + 1))
      else none
    else
    some (.inr (.inl ta3))
  else
  some (.inr (.inr ()))
noncomputable def T_ref03_CheckSpots_L1 (a0 : List D) (sa : (Int)) : List (Nat × AV) := [(0, .d (.lst false 3 a0)), (3, .d (I sa))]
noncomputable def H_ref03_CheckSpots_L1 (a0 : List D) (sa : (Int)) : List (Nat × Blk) := []
noncomputable def X_ref03_CheckSpots_L1 (a0 : List D) (e : (Int) ⊕ (Unit)) : Ex := match e with
  | (.inl e) => .ret
  | (.inr e) => (.exit 0)
noncomputable def XT_ref03_CheckSpots_L1 (a0 : List D) (e : (Int) ⊕ (Unit)) : List (Nat × AV) := match e with
  | (.inl e) => [(2, .d (I e))]
  | (.inr e) => []
noncomputable def XH_ref03_CheckSpots_L1 (a0 : List D) (e : (Int) ⊕ (Unit)) : List (Nat × Blk) := match e with
  | (.inl e) => []
  | (.inr e) => []
theorem R_ref03_CheckSpots_L1 {n : Nat} {a0 : List D} (sa : (Int)) (r) (h : F_ref03_CheckSpots_L1 n a0 sa = some r) : Rd cx (loopAt cx.P 39 0) 25 0 false (T_ref03_CheckSpots_L1 a0) (H_ref03_CheckSpots_L1 a0) (X_ref03_CheckSpots_L1 a0) (XT_ref03_CheckSpots_L1 a0) (XH_ref03_CheckSpots_L1 a0) sa r := by
  unfold F_ref03_CheckSpots_L1 at h
  by_cases ha1 : sa < ((a0).length : Int)
  · replace h := ite_t h ha1
    obtain ⟨ta2, ha2, h⟩ := bnd_of h
    obtain ⟨ta3, ha3, h⟩ := bnd_of h
    by_cases ha4 : ta3 = 0
    · replace h := ite_t h ha4
      obtain ⟨ha5, h⟩ := grd_of h
      replace h := Option.some.inj h
      subst h
      exact ⟨100, 8, [.br true, .el (.agg [I ta2.1, I ta2.2.1, I ta2.2.2]), .ret (I ta3), .br false], [], [0, 3], [], round_of (ob := [inI64 (sa + 1), (ta3 != 0) = false, Computes cx 50 [.agg [I ta2.1, I ta2.2.1, I ta2.2.2]] (I ta3), (0 : Int) ≤ sa, nth (a0) (Int.toNat sa) = some (.agg [I ta2.1, I ta2.2.1, I ta2.2.2]), (decide (sa < ((a0).length : Int))) = true]) (by kernel_rfl) ⟨ha5, (nef ha4), (c_ref03_CheckSpot ha3), (el_ok un_Ai3Z_ok ha2).1, (el_ok un_Ai3Z_ok ha2).2, (decide_eq_true ha1), trivial⟩⟩
    · replace h := ite_f h ha4
      replace h := Option.some.inj h
      subst h
      exact ⟨⟨100, 8, [.br true, .el (.agg [I ta2.1, I ta2.2.1, I ta2.2.2]), .ret (I ta3), .br true], [], [2], [], round_of (ob := [(ta3 != 0) = true, Computes cx 50 [.agg [I ta2.1, I ta2.2.1, I ta2.2.2]] (I ta3), (0 : Int) ≤ sa, nth (a0) (Int.toNat sa) = some (.agg [I ta2.1, I ta2.2.1, I ta2.2.2]), (decide (sa < ((a0).length : Int))) = true]) (by kernel_rfl) ⟨(net ha4), (c_ref03_CheckSpot ha3), (el_ok un_Ai3Z_ok ha2).1, (el_ok un_Ai3Z_ok ha2).2, (decide_eq_true ha1), trivial⟩⟩, nofun⟩
  · replace h := ite_f h ha1
    replace h := Option.some.inj h
    subst h
    exact ⟨⟨100, 8, [.br false], [], [], [], round_of (ob := [(decide (sa < ((a0).length : Int))) = false]) (by kernel_rfl) ⟨(decide_eq_false ha1), trivial⟩⟩, nofun⟩
/- spillage/spillageref03.CheckSpots: .lst false 3 a0 -/
def F_ref03_CheckSpots (n : Nat) (a0 : List D) : Option (Int) :=
  if ((a0).length : Int) = 0 then
    some 12
  else
  if ((a0).length : Int) > 16 then
    some 5
  else
  (loopF (F_ref03_CheckSpots_L1 n a0) n 0).bind fun t3 => match t3 with
    | (.inl t3) => (
      some t3)
    | (.inr t3) => (
      some 0)
theorem c_ref03_CheckSpots {n : Nat} {a0 : List D} {r : Int} (h : F_ref03_CheckSpots n a0 = some r) : Computes cx 39 [.lst false 3 a0] (I r) := by
  unfold F_ref03_CheckSpots at h
  by_cases h1 : ((a0).length : Int) = 0
  · replace h := ite_t h h1
    replace h := Option.some.inj h
    subst h
    exact run (n := 100) (f := 39) (args := [.lst false 3 a0]) (orc := [.br true]) (r := I 12) (ob := [(((a0).length : Int) == 0) = true]) (by kernel_rfl) ⟨(eqt h1), trivial⟩
  · replace h := ite_f h h1
    by_cases h2 : ((a0).length : Int) > 16
    · replace h := ite_t h h2
      replace h := Option.some.inj h
      subst h
      exact run (n := 100) (f := 39) (args := [.lst false 3 a0]) (orc := [.br false, .br true]) (r := I 5) (ob := [(decide (((a0).length : Int) > 16)) = true, (((a0).length : Int) == 0) = false]) (by kernel_rfl) ⟨(decide_eq_true h2), (eqf h1), trivial⟩
    · replace h := ite_f h h2
      obtain ⟨t3, h3, h⟩ := bnd_of h
      rcases t3 with t3 | t3
      · replace h := Option.some.inj h
        subst h
        exact run (n := 100) (f := 39) (args := [.lst false 3 a0]) (orc := [.br false, .br false, .lp [] [0, 3] [] .ret [(2, .d (I t3))] [] 34]) (r := I t3) (ob := [LoopN cx (loopAt cx.P 39 0) 25 0 false [(0, .d (.lst false 3 a0)), (3, .d (I 0))] [] .ret [(2, .d (I t3))] [], (decide (((a0).length : Int) > 16)) = false, (((a0).length : Int) == 0) = false]) (by kernel_rfl) ⟨(loopF_to R_ref03_CheckSpots_L1 h3), (decide_eq_false h2), (eqf h1), trivial⟩
      · replace h := Option.some.inj h
        subst h
        exact run (n := 100) (f := 39) (args := [.lst false 3 a0]) (orc := [.br false, .br false, .lp [] [0, 3] [] (.exit 0) [] [] 34]) (r := I 0) (ob := [LoopN cx (loopAt cx.P 39 0) 25 0 false [(0, .d (.lst false 3 a0)), (3, .d (I 0))] [] (.exit 0) [] [], (decide (((a0).length : Int) > 16)) = false, (((a0).length : Int) == 0) = false]) (by kernel_rfl) ⟨(loopF_to R_ref03_CheckSpots_L1 h3), (decide_eq_false h2), (eqf h1), trivial⟩
def F_ref03_Fitted_L2 (n : Nat) (a0 : List D) (a1 : Int) (a2 : Int) (sa : Int × List D) (sb : (Int × Int × Int × Int)) : Option (((Int × Int × Int × Int)) ⊕ ((Int × Int × Int))) :=
  if sb.1 < ((a0).length : Int) then
    (el un_Ai3Z a0 sb.1).bind fun tb2 =>
    (F_ref03_permitted n sb.2.1 sb.2.2.1 sb.2.2.2 tb2.1 tb2.2.1 tb2.2.2).bind fun tb3 =>
    if inI64 (sb.1 + 1) then
    some (.inl ((sb.1 + 1), tb3.1, tb3.2.1, tb3.2.2))
    else none
  else
  some (.inr (sb.2.1, sb.2.2.1, sb.2.2.2))
noncomputable def T_ref03_Fitted_L2 (a0 : List D) (a1 : Int) (a2 : Int) (sa : Int × List D) (sb : (Int × Int × Int × Int)) : List (Nat × AV) := [(0, .d (.lst false 3 a0)), (3, .ptr 0 0 0 0 0), (6, .own 7 0), (7, .d (I sa.1)), (8, .ptr 15 0 0 0 0), (9, .d (I sb.1))]
noncomputable def H_ref03_Fitted_L2 (a0 : List D) (a1 : Int) (a2 : Int) (sa : Int × List D) (sb : (Int × Int × Int × Int)) : List (Nat × Blk) := [(0, .box (.d (.agg [I a1, I a2]))), (7, .row 0 3 sa.2), (15, .box (.d (.agg [I sb.2.1, I sb.2.2.1, I sb.2.2.2])))]
noncomputable def X_ref03_Fitted_L2 (a0 : List D) (a1 : Int) (a2 : Int) (sa : Int × List D) (e : (Int × Int × Int)) : Ex := (.exit 2)
noncomputable def XT_ref03_Fitted_L2 (a0 : List D) (a1 : Int) (a2 : Int) (sa : Int × List D) (e : (Int × Int × Int)) : List (Nat × AV) := [(0, .d (.lst false 3 a0)), (3, .ptr 0 0 0 0 0), (6, .own 7 0), (7, .d (I sa.1)), (8, .ptr 15 0 0 0 0)]
noncomputable def XH_ref03_Fitted_L2 (a0 : List D) (a1 : Int) (a2 : Int) (sa : Int × List D) (e : (Int × Int × Int)) : List (Nat × Blk) := [(0, .box (.d (.agg [I a1, I a2]))), (7, .row 0 3 sa.2), (15, .box (.d (.agg [I e.1, I e.2.1, I e.2.2])))]
theorem R_ref03_Fitted_L2 {n : Nat} {a0 : List D} {a1 : Int} {a2 : Int} {sa : Int × List D} (sb : (Int × Int × Int × Int)) (r) (h : F_ref03_Fitted_L2 n a0 a1 a2 sa sb = some r) : Rd cx (loopAt cx.P 41 1) 51 0 false (T_ref03_Fitted_L2 a0 a1 a2 sa) (H_ref03_Fitted_L2 a0 a1 a2 sa) (X_ref03_Fitted_L2 a0 a1 a2 sa) (XT_ref03_Fitted_L2 a0 a1 a2 sa) (XH_ref03_Fitted_L2 a0 a1 a2 sa) sb r := by
  unfold F_ref03_Fitted_L2 at h
  by_cases hb1 : sb.1 < ((a0).length : Int)
  · replace h := ite_t h hb1
    obtain ⟨tb2, hb2, h⟩ := bnd_of h
    obtain ⟨tb3, hb3, h⟩ := bnd_of h
    obtain ⟨hb4, h⟩ := grd_of h
    replace h := Option.some.inj h
    subst h
    exact ⟨100, 18, [.br true, .el (.agg [I tb2.1, I tb2.2.1, I tb2.2.2]), .ret (.agg [I tb3.1, I tb3.2.1, I tb3.2.2])], [], [0, 3, 6, 7, 8, 9], [0, 7, 15], round_of (ob := [inI64 (sb.1 + 1), Computes cx 94 [.agg [I sb.2.1, I sb.2.2.1, I sb.2.2.2], .agg [I tb2.1, I tb2.2.1, I tb2.2.2]] (.agg [I tb3.1, I tb3.2.1, I tb3.2.2]), (0 : Int) ≤ sb.1, nth (a0) (Int.toNat sb.1) = some (.agg [I tb2.1, I tb2.2.1, I tb2.2.2]), (decide (sb.1 < ((a0).length : Int))) = true]) (by kernel_rfl) ⟨hb4, (c_ref03_permitted hb3), (el_ok un_Ai3Z_ok hb2).1, (el_ok un_Ai3Z_ok hb2).2, (decide_eq_true hb1), trivial⟩⟩
  · replace h := ite_f h hb1
    replace h := Option.some.inj h
    subst h
    exact ⟨⟨100, 18, [.br false], [], [0, 3, 6, 7, 8], [0, 7, 15], round_of (ob := [(decide (sb.1 < ((a0).length : Int))) = false]) (by kernel_rfl) ⟨(decide_eq_false hb1), trivial⟩⟩, nofun⟩
def F_ref03_Fitted_L3 (n : Nat) (a0 : List D) (a1 : Int) (a2 : Int) (sa : (Int × List D)) : Option (((Int × List D)) ⊕ ((List D))) :=
  if sa.1 ≤ a2 then
    (loopF (F_ref03_Fitted_L2 n a0 a1 a2 sa) n (0, sa.1, (-2000000), 2000000)).bind fun ta2 =>
    if ta2.2.1 ≤ ta2.2.2 then
      if roomP 24 ((sa.2).length + 1) then
      if inI64 (sa.1 + 1) then
      some (.inl ((sa.1 + 1), (sa.2 ++ ([.agg [I ta2.1, I ta2.2.1, I ta2.2.2]] : List D))))
      else none
      else none
    else
    if inI64 (sa.1 + 1) then
    some (.inl ((sa.1 + 1), sa.2))
    else none
  else
  some (.inr sa.2)
noncomputable def T_ref03_Fitted_L3 (a0 : List D) (a1 : Int) (a2 : Int) (sa : (Int × List D)) : List (Nat × AV) := [(0, .d (.lst false 3 a0)), (3, .ptr 0 0 0 0 0), (6, .own 7 0), (7, .d (I sa.1))]
noncomputable def H_ref03_Fitted_L3 (a0 : List D) (a1 : Int) (a2 : Int) (sa : (Int × List D)) : List (Nat × Blk) := [(0, .box (.d (.agg [I a1, I a2]))), (7, .row 0 3 sa.2)]
noncomputable def X_ref03_Fitted_L3 (a0 : List D) (a1 : Int) (a2 : Int) (e : (List D)) : Ex := (.exit 0)
noncomputable def XT_ref03_Fitted_L3 (a0 : List D) (a1 : Int) (a2 : Int) (e : (List D)) : List (Nat × AV) := [(6, .own 7 0)]
noncomputable def XH_ref03_Fitted_L3 (a0 : List D) (a1 : Int) (a2 : Int) (e : (List D)) : List (Nat × Blk) := [(7, .row 0 3 e)]
theorem R_ref03_Fitted_L3 {n : Nat} {a0 : List D} {a1 : Int} {a2 : Int} (sa : (Int × List D)) (r) (h : F_ref03_Fitted_L3 n a0 a1 a2 sa = some r) : Rd cx (loopAt cx.P 41 0) 51 0 false (T_ref03_Fitted_L3 a0 a1 a2) (H_ref03_Fitted_L3 a0 a1 a2) (X_ref03_Fitted_L3 a0 a1 a2) (XT_ref03_Fitted_L3 a0 a1 a2) (XH_ref03_Fitted_L3 a0 a1 a2) sa r := by
  unfold F_ref03_Fitted_L3 at h
  by_cases ha1 : sa.1 ≤ a2
  · replace h := ite_t h ha1
    obtain ⟨ta2, ha2, h⟩ := bnd_of h
    by_cases ha3 : ta2.2.1 ≤ ta2.2.2
    · replace h := ite_t h ha3
      obtain ⟨ha4, h⟩ := grd_of h
      obtain ⟨ha5, h⟩ := grd_of h
      replace h := Option.some.inj h
      subst h
      exact ⟨100, 8, [.br true, .lp [] [0, 3, 6, 7, 8, 9] [0, 7, 15] (.exit 2) [(0, .d (.lst false 3 a0)), (3, .ptr 0 0 0 0 0), (6, .own 7 0), (7, .d (I sa.1)), (8, .ptr 15 0 0 0 0)] [(0, .box (.d (.agg [I a1, I a2]))), (7, .row 0 3 sa.2), (15, .box (.d (.agg [I ta2.1, I ta2.2.1, I ta2.2.2])))] 43, .br true, .br true], [], [0, 3, 6, 7], [0, 7], round_of (ob := [inI64 (sa.1 + 1), room cx 126 ((sa.2).length + 1), (decide (ta2.2.1 ≤ ta2.2.2)) = true, LoopN cx (loopAt cx.P 41 1) 51 0 false [(0, .d (.lst false 3 a0)), (3, .ptr 0 0 0 0 0), (6, .own 7 0), (7, .d (I sa.1)), (8, .ptr 15 0 0 0 0), (9, .d (I 0))] [(0, .box (.d (.agg [I a1, I a2]))), (7, .row 0 3 sa.2), (15, .box (.d (.agg [I sa.1, I (-2000000), I 2000000])))] (.exit 2) [(0, .d (.lst false 3 a0)), (3, .ptr 0 0 0 0 0), (6, .own 7 0), (7, .d (I sa.1)), (8, .ptr 15 0 0 0 0)] [(0, .box (.d (.agg [I a1, I a2]))), (7, .row 0 3 sa.2), (15, .box (.d (.agg [I ta2.1, I ta2.2.1, I ta2.2.2])))], (decide (sa.1 ≤ a2)) = true]) (by kernel_rfl) ⟨ha5, (room_of (b := 24) (by kernel_rfl) (by decide) ha4), (decide_eq_true ha3), (loopF_to R_ref03_Fitted_L2 ha2), (decide_eq_true ha1), trivial⟩⟩
    · replace h := ite_f h ha3
      obtain ⟨ha4, h⟩ := grd_of h
      replace h := Option.some.inj h
      subst h
      exact ⟨100, 8, [.br true, .lp [] [0, 3, 6, 7, 8, 9] [0, 7, 15] (.exit 2) [(0, .d (.lst false 3 a0)), (3, .ptr 0 0 0 0 0), (6, .own 7 0), (7, .d (I sa.1)), (8, .ptr 15 0 0 0 0)] [(0, .box (.d (.agg [I a1, I a2]))), (7, .row 0 3 sa.2), (15, .box (.d (.agg [I ta2.1, I ta2.2.1, I ta2.2.2])))] 43, .br false], [], [0, 3, 6, 7], [0, 7], round_of (ob := [inI64 (sa.1 + 1), (decide (ta2.2.1 ≤ ta2.2.2)) = false, LoopN cx (loopAt cx.P 41 1) 51 0 false [(0, .d (.lst false 3 a0)), (3, .ptr 0 0 0 0 0), (6, .own 7 0), (7, .d (I sa.1)), (8, .ptr 15 0 0 0 0), (9, .d (I 0))] [(0, .box (.d (.agg [I a1, I a2]))), (7, .row 0 3 sa.2), (15, .box (.d (.agg [I sa.1, I (-2000000), I 2000000])))] (.exit 2) [(0, .d (.lst false 3 a0)), (3, .ptr 0 0 0 0 0), (6, .own 7 0), (7, .d (I sa.1)), (8, .ptr 15 0 0 0 0)] [(0, .box (.d (.agg [I a1, I a2]))), (7, .row 0 3 sa.2), (15, .box (.d (.agg [I ta2.1, I ta2.2.1, I ta2.2.2])))], (decide (sa.1 ≤ a2)) = true]) (by kernel_rfl) ⟨ha4, (decide_eq_false ha3), (loopF_to R_ref03_Fitted_L2 ha2), (decide_eq_true ha1), trivial⟩⟩
  · replace h := ite_f h ha1
    replace h := Option.some.inj h
    subst h
    exact ⟨⟨100, 8, [.br false], [], [6], [7], round_of (ob := [(decide (sa.1 ≤ a2)) = false]) (by kernel_rfl) ⟨(decide_eq_false ha1), trivial⟩⟩, nofun⟩
/- spillage/spillageref03.Fitted: .lst false 3 a0, .agg [I a1, I a2] -/
def F_ref03_Fitted (n : Nat) (a0 : List D) (a1 : Int) (a2 : Int) : Option (List D × Int) :=
  (loopF (F_ref03_Fitted_L3 n a0 a1 a2) n (a1, [])).bind fun t1 =>
  if ((t1).length : Int) = 0 then
    some ([], 18)
  else
  if ((t1).length : Int) > 64 then
    some ([], 5)
  else
  some (t1, 0)
theorem c_ref03_Fitted {n : Nat} {a0 : List D} {a1 : Int} {a2 : Int} {r : List D × Int} (h : F_ref03_Fitted n a0 a1 a2 = some r) : Computes cx 41 [.lst false 3 a0, .agg [I a1, I a2]] (.tup [.lst false 3 r.1, I r.2]) := by
  unfold F_ref03_Fitted at h
  obtain ⟨t1, h1, h⟩ := bnd_of h
  by_cases h2 : ((t1).length : Int) = 0
  · replace h := ite_t h h2
    replace h := Option.some.inj h
    subst h
    exact (run (n := 100) (f := 41) (args := [.lst false 3 a0, .agg [I a1, I a2]]) (orc := [.lp [6, 3] [0, 3, 6, 7] [0, 7] (.exit 0) [(6, .own 7 0)] [(7, .row 0 3 t1)] 69, .br true]) (r := .tup [.lst true 0 [], I 18]) (ob := [(((t1).length : Int) == 0) = true, LoopN cx (loopAt cx.P 41 0) 51 0 false [(0, .d (.lst false 3 a0)), (3, .ptr 0 0 0 0 0), (6, .own 7 0), (7, .d (I a1))] [(0, .box (.d (.agg [I a1, I a2]))), (7, .row 0 3 [])] (.exit 0) [(6, .own 7 0)] [(7, .row 0 3 t1)]]) (by kernel_rfl) ⟨(eqt h2), (loopF_to R_ref03_Fitted_L3 h1), trivial⟩).le (LEs.refl _) (.tups (.cons (.lst _ _ _ _ _ nofun (.inl rfl)) (.cons (.refl _) (.nil))))
  · replace h := ite_f h h2
    by_cases h3 : ((t1).length : Int) > 64
    · replace h := ite_t h h3
      replace h := Option.some.inj h
      subst h
      exact (run (n := 100) (f := 41) (args := [.lst false 3 a0, .agg [I a1, I a2]]) (orc := [.lp [6, 3] [0, 3, 6, 7] [0, 7] (.exit 0) [(6, .own 7 0)] [(7, .row 0 3 t1)] 69, .br false, .br true]) (r := .tup [.lst true 0 [], I 5]) (ob := [(decide (((t1).length : Int) > 64)) = true, (((t1).length : Int) == 0) = false, LoopN cx (loopAt cx.P 41 0) 51 0 false [(0, .d (.lst false 3 a0)), (3, .ptr 0 0 0 0 0), (6, .own 7 0), (7, .d (I a1))] [(0, .box (.d (.agg [I a1, I a2]))), (7, .row 0 3 [])] (.exit 0) [(6, .own 7 0)] [(7, .row 0 3 t1)]]) (by kernel_rfl) ⟨(decide_eq_true h3), (eqf h2), (loopF_to R_ref03_Fitted_L3 h1), trivial⟩).le (LEs.refl _) (.tups (.cons (.lst _ _ _ _ _ nofun (.inl rfl)) (.cons (.refl _) (.nil))))
    · replace h := ite_f h h3
      replace h := Option.some.inj h
      subst h
      exact run (n := 100) (f := 41) (args := [.lst false 3 a0, .agg [I a1, I a2]]) (orc := [.lp [6, 3] [0, 3, 6, 7] [0, 7] (.exit 0) [(6, .own 7 0)] [(7, .row 0 3 t1)] 69, .br false, .br false]) (r := .tup [.lst false 3 t1, I 0]) (ob := [(decide (((t1).length : Int) > 64)) = false, (((t1).length : Int) == 0) = false, LoopN cx (loopAt cx.P 41 0) 51 0 false [(0, .d (.lst false 3 a0)), (3, .ptr 0 0 0 0 0), (6, .own 7 0), (7, .d (I a1))] [(0, .box (.d (.agg [I a1, I a2]))), (7, .row 0 3 [])] (.exit 0) [(6, .own 7 0)] [(7, .row 0 3 t1)]]) (by kernel_rfl) ⟨(decide_eq_false h3), (eqf h2), (loopF_to R_ref03_Fitted_L3 h1), trivial⟩
/- spillage/spillagelaw03.DriveFits: .lst false 3 a0, .agg [I a1, I a2] -/
def F_law03_DriveFits (n : Nat) (a0 : List D) (a1 : Int) (a2 : Int) : Option (Bool) :=
  (F_ref03_ShortSpots n a0).bind fun t1 =>
  if t1 = true then
    (F_law03_spots n a0).bind fun t3 =>
    (F_drive_Fitted_2 n t3 a1 a2).bind fun t4 =>
    (F_ref03_CheckSpots n a0).bind fun t5 =>
    (F_ref03_CheckInterval n a1 a2 (-1000) 1000).bind fun t6 =>
    (F_ref01_First n ([I t5, I t6])).bind fun t7 =>
    if t7 = 0 then
      (F_ref03_Fitted n a0 a1 a2).bind fun t9 =>
      (F_drive_CheckSpots_2 n t3).bind fun t10 =>
      if t10 = t5 then
        (F_law03_bands n t4.1).bind fun t12 =>
        (F_ref03_SameModel n t12 t9.1).bind fun t13 =>
        if t13 = true then
          if t4.2 = t9.2 then
            (F_law03_awake n).bind fun t16 =>
            some t16
          else
          none /- false -/
        else
        none /- false -/
      else
      none /- false -/
    else
    (F_drive_CheckSpots_2 n t3).bind fun t9 =>
    if t9 = t5 then
      (F_law03_bands n t4.1).bind fun t11 =>
      (F_ref03_SameModel n t11 ([])).bind fun t12 =>
      if t12 = true then
        if t4.2 = t7 then
          (F_law03_awake n).bind fun t15 =>
          some t15
        else
        none /- false -/
      else
      none /- false -/
    else
    none /- false -/
  else
  (F_law03_awake n).bind fun t3 =>
  some t3
theorem c_law03_DriveFits {n : Nat} {a0 : List D} {a1 : Int} {a2 : Int} {r : Bool} (h : F_law03_DriveFits n a0 a1 a2 = some r) : Computes cx 5 [.lst false 3 a0, .agg [I a1, I a2]] (B r) := by
  unfold F_law03_DriveFits at h
  obtain ⟨t1, h1, h⟩ := bnd_of h
  by_cases h2 : t1 = true
  · replace h := ite_t h h2
    obtain ⟨t3, h3, h⟩ := bnd_of h
    obtain ⟨t4, h4, h⟩ := bnd_of h
    obtain ⟨t5, h5, h⟩ := bnd_of h
    obtain ⟨t6, h6, h⟩ := bnd_of h
    obtain ⟨t7, h7, h⟩ := bnd_of h
    by_cases h8 : t7 = 0
    · replace h := ite_t h h8
      obtain ⟨t9, h9, h⟩ := bnd_of h
      obtain ⟨t10, h10, h⟩ := bnd_of h
      by_cases h11 : t10 = t5
      · replace h := ite_t h h11
        obtain ⟨t12, h12, h⟩ := bnd_of h
        obtain ⟨t13, h13, h⟩ := bnd_of h
        by_cases h14 : t13 = true
        · replace h := ite_t h h14
          by_cases h15 : t4.2 = t9.2
          · replace h := ite_t h h15
            obtain ⟨t16, h16, h⟩ := bnd_of h
            replace h := Option.some.inj h
            subst h
            exact run (n := 100) (f := 5) (args := [.lst false 3 a0, .agg [I a1, I a2]]) (orc := [.ret (B t1), .br false, .ret (.lst false 3 t3), .ret (.tup [.lst false 3 t4.1, I t4.2]), .ret (I t5), .ret (I t6), .ret (I t7), .br true, .ret (.tup [.lst false 3 t9.1, I t9.2]), .ret (.lst false 3 t3), .ret (I t10), .ret (I t5), .br true, .ret (.lst false 3 t12), .ret (B t13), .br true, .br true, .ret (B t16)]) (r := B t16) (ob := [Computes cx 19 [] (B t16), (t4.2 == t9.2) = true, t13 = true, Computes cx 43 [.lst false 3 t12, .lst false 3 t9.1] (B t13), Computes cx 44 [.lst false 3 t4.1] (.lst false 3 t12), (t10 == t5) = true, Computes cx 39 [.lst false 3 a0] (I t5), Computes cx 42 [.lst false 3 t3] (I t10), Computes cx 38 [.lst false 3 a0] (.lst false 3 t3), Computes cx 41 [.lst false 3 a0, .agg [I a1, I a2]] (.tup [.lst false 3 t9.1, I t9.2]), (t7 == 0) = true, Computes cx 24 [.lst true 1 [I t5, I t6]] (I t7), Computes cx 40 [.agg [I a1, I a2], I (-1000), I 1000] (I t6), Computes cx 39 [.lst false 3 a0] (I t5), Computes cx 37 [.lst false 3 t3, .agg [I a1, I a2]] (.tup [.lst false 3 t4.1, I t4.2]), Computes cx 38 [.lst false 3 a0] (.lst false 3 t3), (!t1) = false, Computes cx 36 [.lst false 3 a0] (B t1)]) (by kernel_rfl) ⟨(c_law03_awake h16), (eqt h15), h14, (c_ref03_SameModel h13), (c_law03_bands h12), (eqt h11), (c_ref03_CheckSpots h5), (c_drive_CheckSpots_2 h10), (c_law03_spots h3), (c_ref03_Fitted h9), (eqt h8), ((c_ref01_First h7).le (.cons (.full _ _ _) (.nil)) (.refl _)), (c_ref03_CheckInterval h6), (c_ref03_CheckSpots h5), (c_drive_Fitted_2 h4), (c_law03_spots h3), (notf h2), (c_ref03_ShortSpots h1), trivial⟩
          · replace h := ite_f h h15
            cases h
        · replace h := ite_f h h14
          cases h
      · replace h := ite_f h h11
        cases h
    · replace h := ite_f h h8
      obtain ⟨t9, h9, h⟩ := bnd_of h
      by_cases h10 : t9 = t5
      · replace h := ite_t h h10
        obtain ⟨t11, h11, h⟩ := bnd_of h
        obtain ⟨t12, h12, h⟩ := bnd_of h
        by_cases h13 : t12 = true
        · replace h := ite_t h h13
          by_cases h14 : t4.2 = t7
          · replace h := ite_t h h14
            obtain ⟨t15, h15, h⟩ := bnd_of h
            replace h := Option.some.inj h
            subst h
            exact run (n := 100) (f := 5) (args := [.lst false 3 a0, .agg [I a1, I a2]]) (orc := [.ret (B t1), .br false, .ret (.lst false 3 t3), .ret (.tup [.lst false 3 t4.1, I t4.2]), .ret (I t5), .ret (I t6), .ret (I t7), .br false, .ret (.lst false 3 t3), .ret (I t9), .ret (I t5), .br true, .ret (.lst false 3 t11), .ret (B t12), .br true, .br true, .ret (B t15)]) (r := B t15) (ob := [Computes cx 19 [] (B t15), (t4.2 == t7) = true, t12 = true, Computes cx 43 [.lst false 3 t11, .lst true 0 []] (B t12), Computes cx 44 [.lst false 3 t4.1] (.lst false 3 t11), (t9 == t5) = true, Computes cx 39 [.lst false 3 a0] (I t5), Computes cx 42 [.lst false 3 t3] (I t9), Computes cx 38 [.lst false 3 a0] (.lst false 3 t3), (t7 == 0) = false, Computes cx 24 [.lst true 1 [I t5, I t6]] (I t7), Computes cx 40 [.agg [I a1, I a2], I (-1000), I 1000] (I t6), Computes cx 39 [.lst false 3 a0] (I t5), Computes cx 37 [.lst false 3 t3, .agg [I a1, I a2]] (.tup [.lst false 3 t4.1, I t4.2]), Computes cx 38 [.lst false 3 a0] (.lst false 3 t3), (!t1) = false, Computes cx 36 [.lst false 3 a0] (B t1)]) (by kernel_rfl) ⟨(c_law03_awake h15), (eqt h14), h13, ((c_ref03_SameModel h12).le (.cons (.refl _) (.cons (.lst _ _ _ _ _ nofun (.inl rfl)) (.nil))) (.refl _)), (c_law03_bands h11), (eqt h10), (c_ref03_CheckSpots h5), (c_drive_CheckSpots_2 h9), (c_law03_spots h3), (eqf h8), ((c_ref01_First h7).le (.cons (.full _ _ _) (.nil)) (.refl _)), (c_ref03_CheckInterval h6), (c_ref03_CheckSpots h5), (c_drive_Fitted_2 h4), (c_law03_spots h3), (notf h2), (c_ref03_ShortSpots h1), trivial⟩
          · replace h := ite_f h h14
            cases h
        · replace h := ite_f h h13
          cases h
      · replace h := ite_f h h10
        cases h
  · replace h := ite_f h h2
    obtain ⟨t3, h3, h⟩ := bnd_of h
    replace h := Option.some.inj h
    subst h
    exact run (n := 100) (f := 5) (args := [.lst false 3 a0, .agg [I a1, I a2]]) (orc := [.ret (B t1), .br true, .ret (B t3)]) (r := B t3) (ob := [Computes cx 19 [] (B t3), (!t1) = true, Computes cx 36 [.lst false 3 a0] (B t1)]) (by kernel_rfl) ⟨(c_law03_awake h3), (nott (bfalse h2)), (c_ref03_ShortSpots h1), trivial⟩
end Go.Proofs.YtmgbmngmmpeaaaaGreatDoor
