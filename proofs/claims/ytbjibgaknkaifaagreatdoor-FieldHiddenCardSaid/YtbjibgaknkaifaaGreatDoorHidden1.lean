/-
  Printed by gsx.py: functions of the program as Lean functions, and that the code computes them.
-/
import Derived.Test.YtbjibgaknkaifaaGreatDoorWake
set_option linter.unusedVariables false
set_option linter.unusedSimpArgs false
set_option linter.unnecessarySimpa false
set_option maxRecDepth 10000
namespace Go.Proofs.YtbjibgaknkaifaaGreatDoor
open Go.SX
/- spillage/field.when: B true, I 10 -/
def F_field_when_4 (n : Nat)  : Option (Int) :=
  some 10
theorem c_field_when_4 {n : Nat}  {r : Int} (h : F_field_when_4 n  = some r) : Computes cx 69 [B true, I 10] (I r) := by
  unfold F_field_when_4 at h
  replace h := Option.some.inj h
  subst h
  exact run (n := 100) (f := 69) (args := [B true, I 10]) (orc := [.no]) (r := I 10) (ob := []) (by kernel_rfl) trivial
/- spillage/field.checkIndex: .lst false 10 a0, I a1 -/
def F_field_checkIndex (n : Nat) (a0 : List D) (a1 : Int) : Option (Int) :=
  (F_field_CheckMirrors n a0).bind fun t1 =>
  if a1 < 0 then
    (F_field_when_4 n).bind fun t3 =>
    (F_field_first n ([I t1, I t3])).bind fun t4 =>
    some t4
  else
  (F_field_when n (decide (a1 ≥ ((a0).length : Int))) 10).bind fun t3 =>
  (F_field_first n ([I t1, I t3])).bind fun t4 =>
  some t4
theorem c_field_checkIndex {n : Nat} {a0 : List D} {a1 : Int} {r : Int} (h : F_field_checkIndex n a0 a1 = some r) : Computes cx 95 [.lst false 10 a0, I a1] (I r) := by
  unfold F_field_checkIndex at h
  obtain ⟨t1, h1, h⟩ := bnd_of h
  by_cases h2 : a1 < 0
  · replace h := ite_t h h2
    obtain ⟨t3, h3, h⟩ := bnd_of h
    obtain ⟨t4, h4, h⟩ := bnd_of h
    replace h := Option.some.inj h
    subst h
    exact run (n := 100) (f := 95) (args := [.lst false 10 a0, I a1]) (orc := [.ret (I t1), .br true, .ret (I t3), .ret (I t4)]) (r := I t4) (ob := [Computes cx 62 [.lst true 1 [I t1, I t3]] (I t4), Computes cx 69 [B true, I 10] (I t3), (decide (a1 < 0)) = true, Computes cx 38 [.lst false 10 a0] (I t1)]) (by kernel_rfl) ⟨((c_field_first h4).le (.cons (.full _ _ _) (.nil)) (.refl _)), (c_field_when_4 h3), (decide_eq_true h2), (c_field_CheckMirrors h1), trivial⟩
  · replace h := ite_f h h2
    obtain ⟨t3, h3, h⟩ := bnd_of h
    obtain ⟨t4, h4, h⟩ := bnd_of h
    replace h := Option.some.inj h
    subst h
    exact run (n := 100) (f := 95) (args := [.lst false 10 a0, I a1]) (orc := [.ret (I t1), .br false, .ret (I t3), .ret (I t4)]) (r := I t4) (ob := [Computes cx 62 [.lst true 1 [I t1, I t3]] (I t4), Computes cx 69 [B (decide (a1 ≥ ((a0).length : Int))), I 10] (I t3), (decide (a1 < 0)) = false, Computes cx 38 [.lst false 10 a0] (I t1)]) (by kernel_rfl) ⟨((c_field_first h4).le (.cons (.full _ _ _) (.nil)) (.refl _)), (c_field_when h3), (decide_eq_false h2), (c_field_CheckMirrors h1), trivial⟩
def F_field_met_L1 (n : Nat) (a0 : List D) (a1 : Int) (a2 : Int) (a3 : Int) (a4 : Int) (a5 : Int) (a6 : Int) (a7 : Int) (a8 : Int) (a9 : Bool) (sa : (Int)) : Option (((Int)) ⊕ ((Unit) ⊕ (Unit))) :=
  if sa < ((a0).length : Int) then
    (el un_Asi9Z a0 sa).bind fun ta2 =>
    if sa = a1 then
      if inI64 (sa + 1) then
      some (.inl (sa + 1))
      else none
    else
    (F_field_Mirror_meets n ta2.1 ta2.2.1 ta2.2.2.1 ta2.2.2.2.1 ta2.2.2.2.2.1 ta2.2.2.2.2.2.1 ta2.2.2.2.2.2.2.1 ta2.2.2.2.2.2.2.2.1 ta2.2.2.2.2.2.2.2.2.1 ta2.2.2.2.2.2.2.2.2.2 a2 a3 a4 a5 a6 a7 a8 a9).bind fun ta4 =>
    if ta4 = true then
      some (.inr (.inl ()))
    else
    if inI64 (sa + 1) then
    some (.inl (sa + 1))
    else none
  else
  some (.inr (.inr ()))
noncomputable def T_field_met_L1 (a0 : List D) (a1 : Int) (a2 : Int) (a3 : Int) (a4 : Int) (a5 : Int) (a6 : Int) (a7 : Int) (a8 : Int) (a9 : Bool) (sa : (Int)) : List (Nat × AV) := [(1, .d (I a1)), (2, .d (I a2)), (7, .ptr 0 0 0 0 0), (11, .d (.lst false 10 a0)), (12, .d (I ((a0).length : Int))), (13, .d (I sa))]
noncomputable def H_field_met_L1 (a0 : List D) (a1 : Int) (a2 : Int) (a3 : Int) (a4 : Int) (a5 : Int) (a6 : Int) (a7 : Int) (a8 : Int) (a9 : Bool) (sa : (Int)) : List (Nat × Blk) := [(0, .box (.d (.agg [I a3, I a4, I a5, I a6, I a7, I a8, B a9])))]
noncomputable def X_field_met_L1 (a0 : List D) (a1 : Int) (a2 : Int) (a3 : Int) (a4 : Int) (a5 : Int) (a6 : Int) (a7 : Int) (a8 : Int) (a9 : Bool) (e : (Unit) ⊕ (Unit)) : Ex := match e with
  | (.inl e) => .ret
  | (.inr e) => (.exit 0)
noncomputable def XT_field_met_L1 (a0 : List D) (a1 : Int) (a2 : Int) (a3 : Int) (a4 : Int) (a5 : Int) (a6 : Int) (a7 : Int) (a8 : Int) (a9 : Bool) (e : (Unit) ⊕ (Unit)) : List (Nat × AV) := match e with
  | (.inl e) => [(8, .d (B true))]
  | (.inr e) => []
noncomputable def XH_field_met_L1 (a0 : List D) (a1 : Int) (a2 : Int) (a3 : Int) (a4 : Int) (a5 : Int) (a6 : Int) (a7 : Int) (a8 : Int) (a9 : Bool) (e : (Unit) ⊕ (Unit)) : List (Nat × Blk) := match e with
  | (.inl e) => []
  | (.inr e) => []
theorem R_field_met_L1 {n : Nat} {a0 : List D} {a1 : Int} {a2 : Int} {a3 : Int} {a4 : Int} {a5 : Int} {a6 : Int} {a7 : Int} {a8 : Int} {a9 : Bool} (sa : (Int)) (r) (h : F_field_met_L1 n a0 a1 a2 a3 a4 a5 a6 a7 a8 a9 sa = some r) : Rd cx (loopAt cx.P 131 0) 28 0 false (T_field_met_L1 a0 a1 a2 a3 a4 a5 a6 a7 a8 a9) (H_field_met_L1 a0 a1 a2 a3 a4 a5 a6 a7 a8 a9) (X_field_met_L1 a0 a1 a2 a3 a4 a5 a6 a7 a8 a9) (XT_field_met_L1 a0 a1 a2 a3 a4 a5 a6 a7 a8 a9) (XH_field_met_L1 a0 a1 a2 a3 a4 a5 a6 a7 a8 a9) sa r := by
  unfold F_field_met_L1 at h
  by_cases ha1 : sa < ((a0).length : Int)
  · replace h := ite_t h ha1
    obtain ⟨ta2, ha2, h⟩ := bnd_of h
    by_cases ha3 : sa = a1
    · replace h := ite_t h ha3
      obtain ⟨ha4, h⟩ := grd_of h
      replace h := Option.some.inj h
      subst h
      exact ⟨100, 5, [.br true, .el (.agg [.v (.string ta2.1), I ta2.2.1, I ta2.2.2.1, I ta2.2.2.2.1, I ta2.2.2.2.2.1, I ta2.2.2.2.2.2.1, I ta2.2.2.2.2.2.2.1, I ta2.2.2.2.2.2.2.2.1, I ta2.2.2.2.2.2.2.2.2.1, I ta2.2.2.2.2.2.2.2.2.2]), .br false, .no], [], [1, 2, 7, 11, 12, 13], [0], round_of (ob := [inI64 (sa + 1), (sa != a1) = false, (0 : Int) ≤ sa, nth (a0) (Int.toNat sa) = some (.agg [.v (.string ta2.1), I ta2.2.1, I ta2.2.2.1, I ta2.2.2.2.1, I ta2.2.2.2.2.1, I ta2.2.2.2.2.2.1, I ta2.2.2.2.2.2.2.1, I ta2.2.2.2.2.2.2.2.1, I ta2.2.2.2.2.2.2.2.2.1, I ta2.2.2.2.2.2.2.2.2.2]), (decide (sa < ((a0).length : Int))) = true]) (by kernel_rfl) ⟨ha4, (nef ha3), (el_ok un_Asi9Z_ok ha2).1, (el_ok un_Asi9Z_ok ha2).2, (decide_eq_true ha1), trivial⟩⟩
    · replace h := ite_f h ha3
      obtain ⟨ta4, ha4, h⟩ := bnd_of h
      by_cases ha5 : ta4 = true
      · replace h := ite_t h ha5
        replace h := Option.some.inj h
        subst h
        exact ⟨⟨100, 5, [.br true, .el (.agg [.v (.string ta2.1), I ta2.2.1, I ta2.2.2.1, I ta2.2.2.2.1, I ta2.2.2.2.2.1, I ta2.2.2.2.2.2.1, I ta2.2.2.2.2.2.2.1, I ta2.2.2.2.2.2.2.2.1, I ta2.2.2.2.2.2.2.2.2.1, I ta2.2.2.2.2.2.2.2.2.2]), .br true, .ret (B ta4), .br true], [], [8], [], round_of (ob := [ta4 = true, Computes cx 83 [.agg [.v (.string ta2.1), I ta2.2.1, I ta2.2.2.1, I ta2.2.2.2.1, I ta2.2.2.2.2.1, I ta2.2.2.2.2.2.1, I ta2.2.2.2.2.2.2.1, I ta2.2.2.2.2.2.2.2.1, I ta2.2.2.2.2.2.2.2.2.1, I ta2.2.2.2.2.2.2.2.2.2], I a2, .agg [I a3, I a4, I a5, I a6, I a7, I a8, B a9]] (B ta4), (sa != a1) = true, (0 : Int) ≤ sa, nth (a0) (Int.toNat sa) = some (.agg [.v (.string ta2.1), I ta2.2.1, I ta2.2.2.1, I ta2.2.2.2.1, I ta2.2.2.2.2.1, I ta2.2.2.2.2.2.1, I ta2.2.2.2.2.2.2.1, I ta2.2.2.2.2.2.2.2.1, I ta2.2.2.2.2.2.2.2.2.1, I ta2.2.2.2.2.2.2.2.2.2]), (decide (sa < ((a0).length : Int))) = true]) (by kernel_rfl) ⟨ha5, (c_field_Mirror_meets ha4), (net ha3), (el_ok un_Asi9Z_ok ha2).1, (el_ok un_Asi9Z_ok ha2).2, (decide_eq_true ha1), trivial⟩⟩, nofun⟩
      · replace h := ite_f h ha5
        obtain ⟨ha6, h⟩ := grd_of h
        replace h := Option.some.inj h
        subst h
        exact ⟨100, 5, [.br true, .el (.agg [.v (.string ta2.1), I ta2.2.1, I ta2.2.2.1, I ta2.2.2.2.1, I ta2.2.2.2.2.1, I ta2.2.2.2.2.2.1, I ta2.2.2.2.2.2.2.1, I ta2.2.2.2.2.2.2.2.1, I ta2.2.2.2.2.2.2.2.2.1, I ta2.2.2.2.2.2.2.2.2.2]), .br true, .ret (B ta4), .br false], [], [1, 2, 7, 11, 12, 13], [0], round_of (ob := [inI64 (sa + 1), ta4 = false, Computes cx 83 [.agg [.v (.string ta2.1), I ta2.2.1, I ta2.2.2.1, I ta2.2.2.2.1, I ta2.2.2.2.2.1, I ta2.2.2.2.2.2.1, I ta2.2.2.2.2.2.2.1, I ta2.2.2.2.2.2.2.2.1, I ta2.2.2.2.2.2.2.2.2.1, I ta2.2.2.2.2.2.2.2.2.2], I a2, .agg [I a3, I a4, I a5, I a6, I a7, I a8, B a9]] (B ta4), (sa != a1) = true, (0 : Int) ≤ sa, nth (a0) (Int.toNat sa) = some (.agg [.v (.string ta2.1), I ta2.2.1, I ta2.2.2.1, I ta2.2.2.2.1, I ta2.2.2.2.2.1, I ta2.2.2.2.2.2.1, I ta2.2.2.2.2.2.2.1, I ta2.2.2.2.2.2.2.2.1, I ta2.2.2.2.2.2.2.2.2.1, I ta2.2.2.2.2.2.2.2.2.2]), (decide (sa < ((a0).length : Int))) = true]) (by kernel_rfl) ⟨ha6, (bfalse ha5), (c_field_Mirror_meets ha4), (net ha3), (el_ok un_Asi9Z_ok ha2).1, (el_ok un_Asi9Z_ok ha2).2, (decide_eq_true ha1), trivial⟩⟩
  · replace h := ite_f h ha1
    replace h := Option.some.inj h
    subst h
    exact ⟨⟨100, 5, [.br false], [], [], [], round_of (ob := [(decide (sa < ((a0).length : Int))) = false]) (by kernel_rfl) ⟨(decide_eq_false ha1), trivial⟩⟩, nofun⟩
/- spillage/field.met: .lst false 10 a0, I a1, I a2, .agg [I a3, I a4, I a5, I a6, I a7, I a8, B a9] -/
def F_field_met (n : Nat) (a0 : List D) (a1 : Int) (a2 : Int) (a3 : Int) (a4 : Int) (a5 : Int) (a6 : Int) (a7 : Int) (a8 : Int) (a9 : Bool) : Option (Bool) :=
  (loopF (F_field_met_L1 n a0 a1 a2 a3 a4 a5 a6 a7 a8 a9) n 0).bind fun t1 => match t1 with
    | (.inl t1) => (
      some true)
    | (.inr t1) => (
      some false)
theorem c_field_met {n : Nat} {a0 : List D} {a1 : Int} {a2 : Int} {a3 : Int} {a4 : Int} {a5 : Int} {a6 : Int} {a7 : Int} {a8 : Int} {a9 : Bool} {r : Bool} (h : F_field_met n a0 a1 a2 a3 a4 a5 a6 a7 a8 a9 = some r) : Computes cx 131 [.lst false 10 a0, I a1, I a2, .agg [I a3, I a4, I a5, I a6, I a7, I a8, B a9]] (B r) := by
  unfold F_field_met at h
  obtain ⟨t1, h1, h⟩ := bnd_of h
  rcases t1 with t1 | t1
  · replace h := Option.some.inj h
    subst h
    exact run (n := 100) (f := 131) (args := [.lst false 10 a0, I a1, I a2, .agg [I a3, I a4, I a5, I a6, I a7, I a8, B a9]]) (orc := [.lp [] [1, 2, 7, 11, 12, 13] [0] .ret [(8, .d (B true))] [] 34]) (r := B true) (ob := [LoopN cx (loopAt cx.P 131 0) 28 0 false [(1, .d (I a1)), (2, .d (I a2)), (7, .ptr 0 0 0 0 0), (11, .d (.lst false 10 a0)), (12, .d (I ((a0).length : Int))), (13, .d (I 0))] [(0, .box (.d (.agg [I a3, I a4, I a5, I a6, I a7, I a8, B a9])))] .ret [(8, .d (B true))] []]) (by kernel_rfl) ⟨(loopF_to R_field_met_L1 h1), trivial⟩
  · replace h := Option.some.inj h
    subst h
    exact run (n := 100) (f := 131) (args := [.lst false 10 a0, I a1, I a2, .agg [I a3, I a4, I a5, I a6, I a7, I a8, B a9]]) (orc := [.lp [] [1, 2, 7, 11, 12, 13] [0] (.exit 0) [] [] 34]) (r := B false) (ob := [LoopN cx (loopAt cx.P 131 0) 28 0 false [(1, .d (I a1)), (2, .d (I a2)), (7, .ptr 0 0 0 0 0), (11, .d (.lst false 10 a0)), (12, .d (I ((a0).length : Int))), (13, .d (I 0))] [(0, .box (.d (.agg [I a3, I a4, I a5, I a6, I a7, I a8, B a9])))] (.exit 0) [] []]) (by kernel_rfl) ⟨(loopF_to R_field_met_L1 h1), trivial⟩
def F_field_dark_L2 (n : Nat) (a0 : List D) (a1 : Int) (a2 : Int) (a3 : Int) (a4 : Int) (a5 : Int) (t1 : ByteArray × Int × Int × Int × Int × Int × Int × Int × Int × Int) (t3 : Int) (sa : Int) (sb : (Unit) ⊕ (Int × List D)) : Option (((Unit) ⊕ (Int × List D)) ⊕ ((Unit) ⊕ (List D))) := match sb with
  | (.inl sb) => (
    if 0 < a5 then
      (F_field_times n a5 t1.2.1 t1.2.2.1 t1.2.2.2.1).bind fun tb2 =>
      if inI64 (1 - a5) then
      (F_field_times n (1 - a5) t1.2.2.2.2.1 t1.2.2.2.2.2.1 t1.2.2.2.2.2.2.1).bind fun tb4 =>
      if inI64 (2 * sa) then
      if inI64 ((2 * sa) + 1) then
      if inI64 (((2 * sa) + 1) - a5) then
      (F_field_times n (((2 * sa) + 1) - a5) t1.2.2.2.2.2.2.2.1 t1.2.2.2.2.2.2.2.2.1 t1.2.2.2.2.2.2.2.2.2).bind fun tb8 =>
      (F_field_plus n tb4.1 tb4.2.1 tb4.2.2 tb8.1 tb8.2.1 tb8.2.2).bind fun tb9 =>
      (F_field_plus n tb2.1 tb2.2.1 tb2.2.2 tb9.1 tb9.2.1 tb9.2.2).bind fun tb10 =>
      if inI64 (sa * a5) then
      if inI64 ((sa * a5) + 0) then
      some (.inl (.inr (1, [.agg [I ((sa * a5) + 0), I tb10.1, I tb10.2.1, I tb10.2.2]])))
      else none
      else none
      else none
      else none
      else none
      else none
    else
    some (.inr (.inl ())))
  | (.inr sb) => (
    if sb.1 < a5 then
      (F_field_times n a5 t1.2.1 t1.2.2.1 t1.2.2.2.1).bind fun tb2 =>
      if inI64 (2 * sb.1) then
      if inI64 ((2 * sb.1) + 1) then
      if inI64 (((2 * sb.1) + 1) - a5) then
      (F_field_times n (((2 * sb.1) + 1) - a5) t1.2.2.2.2.1 t1.2.2.2.2.2.1 t1.2.2.2.2.2.2.1).bind fun tb6 =>
      if inI64 (2 * sa) then
      if inI64 ((2 * sa) + 1) then
      if inI64 (((2 * sa) + 1) - a5) then
      (F_field_times n (((2 * sa) + 1) - a5) t1.2.2.2.2.2.2.2.1 t1.2.2.2.2.2.2.2.2.1 t1.2.2.2.2.2.2.2.2.2).bind fun tb10 =>
      (F_field_plus n tb6.1 tb6.2.1 tb6.2.2 tb10.1 tb10.2.1 tb10.2.2).bind fun tb11 =>
      (F_field_plus n tb2.1 tb2.2.1 tb2.2.2 tb11.1 tb11.2.1 tb11.2.2).bind fun tb12 =>
      if inI64 (sa * a5) then
      if inI64 ((sa * a5) + sb.1) then
      if roomP 32 ((sb.2).length + 1) then
      if inI64 (sb.1 + 1) then
      some (.inl (.inr ((sb.1 + 1), (sb.2 ++ ([.agg [I ((sa * a5) + sb.1), I tb12.1, I tb12.2.1, I tb12.2.2]] : List D)))))
      else none
      else none
      else none
      else none
      else none
      else none
      else none
      else none
      else none
      else none
    else
    some (.inr (.inr sb.2)))
noncomputable def T_field_dark_L2 (a0 : List D) (a1 : Int) (a2 : Int) (a3 : Int) (a4 : Int) (a5 : Int) (t1 : ByteArray × Int × Int × Int × Int × Int × Int × Int × Int × Int) (t3 : Int) (sa : Int) (sb : (Unit) ⊕ (Int × List D)) : List (Nat × AV) := match sb with
  | (.inl sb) => [(0, .own 37 0), (1, .ptr 26 0 0 0 0), (2, .ptr 25 0 0 0 0), (4, .d (I sa)), (7, .d (I a5)), (8, .d (I sa)), (11, .d (I a5)), (12, .d (I 0))]
  | (.inr sb) => [(0, .own 37 0), (1, .ptr 26 0 0 0 0), (2, .ptr 25 0 0 0 0), (4, .d (I sa)), (7, .d (I a5)), (8, .d (I sa)), (11, .d (I a5)), (12, .d (I sb.1))]
noncomputable def H_field_dark_L2 (a0 : List D) (a1 : Int) (a2 : Int) (a3 : Int) (a4 : Int) (a5 : Int) (t1 : ByteArray × Int × Int × Int × Int × Int × Int × Int × Int × Int) (t3 : Int) (sa : Int) (sb : (Unit) ⊕ (Int × List D)) : List (Nat × Blk) := match sb with
  | (.inl sb) => [(0, .box (.d (.lst false 10 a0))), (1, .box (.d (I a1))), (2, .box (.d (.agg [I a2, I a3, I a4]))), (3, .box (.d (I a5))), (9, .box (.d (.agg [.v (.string t1.1), I t1.2.1, I t1.2.2.1, I t1.2.2.2.1, I t1.2.2.2.2.1, I t1.2.2.2.2.2.1, I t1.2.2.2.2.2.2.1, I t1.2.2.2.2.2.2.2.1, I t1.2.2.2.2.2.2.2.2.1, I t1.2.2.2.2.2.2.2.2.2]))), (16, .box (.d (B (decide (t3 > 0))))), (25, .box (.d (.agg [.v (.string t1.1), I t1.2.1, I t1.2.2.1, I t1.2.2.2.1, I t1.2.2.2.2.1, I t1.2.2.2.2.2.1, I t1.2.2.2.2.2.2.1, I t1.2.2.2.2.2.2.2.1, I t1.2.2.2.2.2.2.2.2.1, I t1.2.2.2.2.2.2.2.2.2]))), (26, .box (.d (I a5))), (34, .box (.d (.lst true 0 []))), (37, .loop true [(6, .fn (.func 128) [] [.ptr 26 0 0 0 0, .ptr 25 0 0 0 0]), (4, .d (.lst true 0 [])), (2, .ptr 34 0 0 0 0), (1, .fn (.func 128) [] [.ptr 26 0 0 0 0, .ptr 25 0 0 0 0]), (0, .d (.lst true 0 []))] [7] (rangeAt cx.P 127 0).1 (rangeAt cx.P 127 0).2 13)]
  | (.inr sb) => [(0, .box (.d (.lst false 10 a0))), (1, .box (.d (I a1))), (2, .box (.d (.agg [I a2, I a3, I a4]))), (3, .box (.d (I a5))), (9, .box (.d (.agg [.v (.string t1.1), I t1.2.1, I t1.2.2.1, I t1.2.2.2.1, I t1.2.2.2.2.1, I t1.2.2.2.2.2.1, I t1.2.2.2.2.2.2.1, I t1.2.2.2.2.2.2.2.1, I t1.2.2.2.2.2.2.2.2.1, I t1.2.2.2.2.2.2.2.2.2]))), (16, .box (.d (B (decide (t3 > 0))))), (25, .box (.d (.agg [.v (.string t1.1), I t1.2.1, I t1.2.2.1, I t1.2.2.2.1, I t1.2.2.2.2.1, I t1.2.2.2.2.2.1, I t1.2.2.2.2.2.2.1, I t1.2.2.2.2.2.2.2.1, I t1.2.2.2.2.2.2.2.2.1, I t1.2.2.2.2.2.2.2.2.2]))), (26, .box (.d (I a5))), (34, .box (.own 87 0)), (37, .loop true [(6, .fn (.func 128) [] [.ptr 26 0 0 0 0, .ptr 25 0 0 0 0]), (4, .d (.lst true 0 [])), (2, .ptr 34 0 0 0 0), (1, .fn (.func 128) [] [.ptr 26 0 0 0 0, .ptr 25 0 0 0 0]), (0, .d (.lst true 0 []))] [7] (rangeAt cx.P 127 0).1 (rangeAt cx.P 127 0).2 13), (87, .row 0 4 sb.2)]
noncomputable def X_field_dark_L2 (a0 : List D) (a1 : Int) (a2 : Int) (a3 : Int) (a4 : Int) (a5 : Int) (t1 : ByteArray × Int × Int × Int × Int × Int × Int × Int × Int × Int) (t3 : Int) (sa : Int) (e : (Unit) ⊕ (List D)) : Ex := match e with
  | (.inl e) => (.exit 2)
  | (.inr e) => (.exit 2)
noncomputable def XT_field_dark_L2 (a0 : List D) (a1 : Int) (a2 : Int) (a3 : Int) (a4 : Int) (a5 : Int) (t1 : ByteArray × Int × Int × Int × Int × Int × Int × Int × Int × Int) (t3 : Int) (sa : Int) (e : (Unit) ⊕ (List D)) : List (Nat × AV) := match e with
  | (.inl e) => [(0, .own 37 0), (1, .ptr 26 0 0 0 0), (2, .ptr 25 0 0 0 0), (7, .d (I a5)), (8, .d (I sa))]
  | (.inr e) => [(0, .own 37 0), (1, .ptr 26 0 0 0 0), (2, .ptr 25 0 0 0 0), (7, .d (I a5)), (8, .d (I sa))]
noncomputable def XH_field_dark_L2 (a0 : List D) (a1 : Int) (a2 : Int) (a3 : Int) (a4 : Int) (a5 : Int) (t1 : ByteArray × Int × Int × Int × Int × Int × Int × Int × Int × Int) (t3 : Int) (sa : Int) (e : (Unit) ⊕ (List D)) : List (Nat × Blk) := match e with
  | (.inl e) => [(0, .box (.d (.lst false 10 a0))), (1, .box (.d (I a1))), (2, .box (.d (.agg [I a2, I a3, I a4]))), (3, .box (.d (I a5))), (9, .box (.d (.agg [.v (.string t1.1), I t1.2.1, I t1.2.2.1, I t1.2.2.2.1, I t1.2.2.2.2.1, I t1.2.2.2.2.2.1, I t1.2.2.2.2.2.2.1, I t1.2.2.2.2.2.2.2.1, I t1.2.2.2.2.2.2.2.2.1, I t1.2.2.2.2.2.2.2.2.2]))), (16, .box (.d (B (decide (t3 > 0))))), (25, .box (.d (.agg [.v (.string t1.1), I t1.2.1, I t1.2.2.1, I t1.2.2.2.1, I t1.2.2.2.2.1, I t1.2.2.2.2.2.1, I t1.2.2.2.2.2.2.1, I t1.2.2.2.2.2.2.2.1, I t1.2.2.2.2.2.2.2.2.1, I t1.2.2.2.2.2.2.2.2.2]))), (26, .box (.d (I a5))), (34, .box (.d (.lst true 0 []))), (37, .loop true [(6, .fn (.func 128) [] [.ptr 26 0 0 0 0, .ptr 25 0 0 0 0]), (4, .d (.lst true 0 [])), (2, .ptr 34 0 0 0 0), (1, .fn (.func 128) [] [.ptr 26 0 0 0 0, .ptr 25 0 0 0 0]), (0, .d (.lst true 0 []))] [7] (rangeAt cx.P 127 0).1 (rangeAt cx.P 127 0).2 13)]
  | (.inr e) => [(0, .box (.d (.lst false 10 a0))), (1, .box (.d (I a1))), (2, .box (.d (.agg [I a2, I a3, I a4]))), (3, .box (.d (I a5))), (9, .box (.d (.agg [.v (.string t1.1), I t1.2.1, I t1.2.2.1, I t1.2.2.2.1, I t1.2.2.2.2.1, I t1.2.2.2.2.2.1, I t1.2.2.2.2.2.2.1, I t1.2.2.2.2.2.2.2.1, I t1.2.2.2.2.2.2.2.2.1, I t1.2.2.2.2.2.2.2.2.2]))), (16, .box (.d (B (decide (t3 > 0))))), (25, .box (.d (.agg [.v (.string t1.1), I t1.2.1, I t1.2.2.1, I t1.2.2.2.1, I t1.2.2.2.2.1, I t1.2.2.2.2.2.1, I t1.2.2.2.2.2.2.1, I t1.2.2.2.2.2.2.2.1, I t1.2.2.2.2.2.2.2.2.1, I t1.2.2.2.2.2.2.2.2.2]))), (26, .box (.d (I a5))), (34, .box (.own 87 0)), (37, .loop true [(6, .fn (.func 128) [] [.ptr 26 0 0 0 0, .ptr 25 0 0 0 0]), (4, .d (.lst true 0 [])), (2, .ptr 34 0 0 0 0), (1, .fn (.func 128) [] [.ptr 26 0 0 0 0, .ptr 25 0 0 0 0]), (0, .d (.lst true 0 []))] [7] (rangeAt cx.P 127 0).1 (rangeAt cx.P 127 0).2 13), (87, .row 0 4 e)]
theorem R_field_dark_L2 {n : Nat} {a0 : List D} {a1 : Int} {a2 : Int} {a3 : Int} {a4 : Int} {a5 : Int} {t1 : ByteArray × Int × Int × Int × Int × Int × Int × Int × Int × Int} {t3 : Int} {sa : Int} (sb : (Unit) ⊕ (Int × List D)) (r) (h : F_field_dark_L2 n a0 a1 a2 a3 a4 a5 t1 t3 sa sb = some r) : Rd cx (loopAt cx.P 128 1) 49 38 false (T_field_dark_L2 a0 a1 a2 a3 a4 a5 t1 t3 sa) (H_field_dark_L2 a0 a1 a2 a3 a4 a5 t1 t3 sa) (X_field_dark_L2 a0 a1 a2 a3 a4 a5 t1 t3 sa) (XT_field_dark_L2 a0 a1 a2 a3 a4 a5 t1 t3 sa) (XH_field_dark_L2 a0 a1 a2 a3 a4 a5 t1 t3 sa) sb r := by
  unfold F_field_dark_L2 at h
  rcases sb with sb | sb
  · by_cases hb1 : 0 < a5
    · replace h := ite_t h hb1
      obtain ⟨tb2, hb2, h⟩ := bnd_of h
      obtain ⟨hb3, h⟩ := grd_of h
      obtain ⟨tb4, hb4, h⟩ := bnd_of h
      obtain ⟨hb5, h⟩ := grd_of h
      obtain ⟨hb6, h⟩ := grd_of h
      obtain ⟨hb7, h⟩ := grd_of h
      obtain ⟨tb8, hb8, h⟩ := bnd_of h
      obtain ⟨tb9, hb9, h⟩ := bnd_of h
      obtain ⟨tb10, hb10, h⟩ := bnd_of h
      obtain ⟨hb11, h⟩ := grd_of h
      obtain ⟨hb12, h⟩ := grd_of h
      replace h := Option.some.inj h
      subst h
      exact ⟨100, 45, [.br true, .ret (.agg [I tb2.1, I tb2.2.1, I tb2.2.2]), .ret (.agg [I tb4.1, I tb4.2.1, I tb4.2.2]), .ret (.agg [I tb8.1, I tb8.2.1, I tb8.2.2]), .ret (.agg [I tb9.1, I tb9.2.1, I tb9.2.2]), .ret (.agg [I tb10.1, I tb10.2.1, I tb10.2.2]), .no, .no, .no], [], [0, 1, 2, 4, 7, 8, 11, 12], [0, 1, 2, 3, 9, 16, 25, 26, 34, 37, 87], round_of (ob := [inI64 1, inI64 ((sa * a5) + 0), inI64 (sa * a5), Computes cx 112 [.agg [I tb2.1, I tb2.2.1, I tb2.2.2], .agg [I tb9.1, I tb9.2.1, I tb9.2.2]] (.agg [I tb10.1, I tb10.2.1, I tb10.2.2]), Computes cx 112 [.agg [I tb4.1, I tb4.2.1, I tb4.2.2], .agg [I tb8.1, I tb8.2.1, I tb8.2.2]] (.agg [I tb9.1, I tb9.2.1, I tb9.2.2]), Computes cx 113 [I (((2 * sa) + 1) - a5), .agg [I t1.2.2.2.2.2.2.2.1, I t1.2.2.2.2.2.2.2.2.1, I t1.2.2.2.2.2.2.2.2.2]] (.agg [I tb8.1, I tb8.2.1, I tb8.2.2]), inI64 (((2 * sa) + 1) - a5), inI64 ((2 * sa) + 1), inI64 (2 * sa), Computes cx 113 [I (1 - a5), .agg [I t1.2.2.2.2.1, I t1.2.2.2.2.2.1, I t1.2.2.2.2.2.2.1]] (.agg [I tb4.1, I tb4.2.1, I tb4.2.2]), inI64 (1 - a5), inI64 1, inI64 0, Computes cx 113 [I a5, .agg [I t1.2.1, I t1.2.2.1, I t1.2.2.2.1]] (.agg [I tb2.1, I tb2.2.1, I tb2.2.2]), (decide (0 < a5)) = true]) (by kernel_rfl) ⟨(by unfold inI64; omega), hb12, hb11, (c_field_plus hb10), (c_field_plus hb9), (c_field_times hb8), hb7, hb6, hb5, (c_field_times hb4), hb3, (by unfold inI64; omega), (by unfold inI64; omega), (c_field_times hb2), (decide_eq_true hb1), trivial⟩⟩
    · replace h := ite_f h hb1
      replace h := Option.some.inj h
      subst h
      exact ⟨⟨100, 45, [.br false], [], [0, 1, 2, 7, 8], [0, 1, 2, 3, 9, 16, 25, 26, 34, 37], round_of (ob := [(decide (0 < a5)) = false]) (by kernel_rfl) ⟨(decide_eq_false hb1), trivial⟩⟩, nofun⟩
  · by_cases hb1 : sb.1 < a5
    · replace h := ite_t h hb1
      obtain ⟨tb2, hb2, h⟩ := bnd_of h
      obtain ⟨hb3, h⟩ := grd_of h
      obtain ⟨hb4, h⟩ := grd_of h
      obtain ⟨hb5, h⟩ := grd_of h
      obtain ⟨tb6, hb6, h⟩ := bnd_of h
      obtain ⟨hb7, h⟩ := grd_of h
      obtain ⟨hb8, h⟩ := grd_of h
      obtain ⟨hb9, h⟩ := grd_of h
      obtain ⟨tb10, hb10, h⟩ := bnd_of h
      obtain ⟨tb11, hb11, h⟩ := bnd_of h
      obtain ⟨tb12, hb12, h⟩ := bnd_of h
      obtain ⟨hb13, h⟩ := grd_of h
      obtain ⟨hb14, h⟩ := grd_of h
      obtain ⟨hb15, h⟩ := grd_of h
      obtain ⟨hb16, h⟩ := grd_of h
      replace h := Option.some.inj h
      subst h
      exact ⟨100, 88, [.br true, .ret (.agg [I tb2.1, I tb2.2.1, I tb2.2.2]), .ret (.agg [I tb6.1, I tb6.2.1, I tb6.2.2]), .ret (.agg [I tb10.1, I tb10.2.1, I tb10.2.2]), .ret (.agg [I tb11.1, I tb11.2.1, I tb11.2.2]), .ret (.agg [I tb12.1, I tb12.2.1, I tb12.2.2]), .br true, .no], [], [0, 1, 2, 4, 7, 8, 11, 12], [0, 1, 2, 3, 9, 16, 25, 26, 34, 37, 87], round_of (ob := [inI64 (sb.1 + 1), room cx 149 ((sb.2).length + 1), inI64 ((sa * a5) + sb.1), inI64 (sa * a5), Computes cx 112 [.agg [I tb2.1, I tb2.2.1, I tb2.2.2], .agg [I tb11.1, I tb11.2.1, I tb11.2.2]] (.agg [I tb12.1, I tb12.2.1, I tb12.2.2]), Computes cx 112 [.agg [I tb6.1, I tb6.2.1, I tb6.2.2], .agg [I tb10.1, I tb10.2.1, I tb10.2.2]] (.agg [I tb11.1, I tb11.2.1, I tb11.2.2]), Computes cx 113 [I (((2 * sa) + 1) - a5), .agg [I t1.2.2.2.2.2.2.2.1, I t1.2.2.2.2.2.2.2.2.1, I t1.2.2.2.2.2.2.2.2.2]] (.agg [I tb10.1, I tb10.2.1, I tb10.2.2]), inI64 (((2 * sa) + 1) - a5), inI64 ((2 * sa) + 1), inI64 (2 * sa), Computes cx 113 [I (((2 * sb.1) + 1) - a5), .agg [I t1.2.2.2.2.1, I t1.2.2.2.2.2.1, I t1.2.2.2.2.2.2.1]] (.agg [I tb6.1, I tb6.2.1, I tb6.2.2]), inI64 (((2 * sb.1) + 1) - a5), inI64 ((2 * sb.1) + 1), inI64 (2 * sb.1), Computes cx 113 [I a5, .agg [I t1.2.1, I t1.2.2.1, I t1.2.2.2.1]] (.agg [I tb2.1, I tb2.2.1, I tb2.2.2]), (decide (sb.1 < a5)) = true]) (by kernel_rfl) ⟨hb16, (room_of (b := 32) (by kernel_rfl) (by decide) hb15), hb14, hb13, (c_field_plus hb12), (c_field_plus hb11), (c_field_times hb10), hb9, hb8, hb7, (c_field_times hb6), hb5, hb4, hb3, (c_field_times hb2), (decide_eq_true hb1), trivial⟩⟩
    · replace h := ite_f h hb1
      replace h := Option.some.inj h
      subst h
      exact ⟨⟨100, 88, [.br false], [], [0, 1, 2, 7, 8], [0, 1, 2, 3, 9, 16, 25, 26, 34, 37, 87], round_of (ob := [(decide (sb.1 < a5)) = false]) (by kernel_rfl) ⟨(decide_eq_false hb1), trivial⟩⟩, nofun⟩
def F_field_dark_L3 (n : Nat) (a0 : List D) (a1 : Int) (a2 : Int) (a3 : Int) (a4 : Int) (a5 : Int) (t1 : ByteArray × Int × Int × Int × Int × Int × Int × Int × Int × Int) (t3 : Int) (sa : Int × List D) (sb : (Int × List D)) : Option (((Int × List D)) ⊕ ((List D))) :=
  if sb.1 < a5 then
    (F_field_times n a5 t1.2.1 t1.2.2.1 t1.2.2.2.1).bind fun tb2 =>
    if inI64 (2 * sb.1) then
    if inI64 ((2 * sb.1) + 1) then
    if inI64 (((2 * sb.1) + 1) - a5) then
    (F_field_times n (((2 * sb.1) + 1) - a5) t1.2.2.2.2.1 t1.2.2.2.2.2.1 t1.2.2.2.2.2.2.1).bind fun tb6 =>
    if inI64 (2 * sa.1) then
    if inI64 ((2 * sa.1) + 1) then
    if inI64 (((2 * sa.1) + 1) - a5) then
    (F_field_times n (((2 * sa.1) + 1) - a5) t1.2.2.2.2.2.2.2.1 t1.2.2.2.2.2.2.2.2.1 t1.2.2.2.2.2.2.2.2.2).bind fun tb10 =>
    (F_field_plus n tb6.1 tb6.2.1 tb6.2.2 tb10.1 tb10.2.1 tb10.2.2).bind fun tb11 =>
    (F_field_plus n tb2.1 tb2.2.1 tb2.2.2 tb11.1 tb11.2.1 tb11.2.2).bind fun tb12 =>
    if inI64 (sa.1 * a5) then
    if inI64 ((sa.1 * a5) + sb.1) then
    if roomP 32 ((sb.2).length + 1) then
    if inI64 (sb.1 + 1) then
    some (.inl ((sb.1 + 1), (sb.2 ++ ([.agg [I ((sa.1 * a5) + sb.1), I tb12.1, I tb12.2.1, I tb12.2.2]] : List D))))
    else none
    else none
    else none
    else none
    else none
    else none
    else none
    else none
    else none
    else none
  else
  some (.inr sb.2)
noncomputable def T_field_dark_L3 (a0 : List D) (a1 : Int) (a2 : Int) (a3 : Int) (a4 : Int) (a5 : Int) (t1 : ByteArray × Int × Int × Int × Int × Int × Int × Int × Int × Int) (t3 : Int) (sa : Int × List D) (sb : (Int × List D)) : List (Nat × AV) := [(0, .own 37 0), (1, .ptr 26 0 0 0 0), (2, .ptr 25 0 0 0 0), (4, .d (I sa.1)), (7, .d (I a5)), (8, .d (I sa.1)), (11, .d (I a5)), (12, .d (I sb.1))]
noncomputable def H_field_dark_L3 (a0 : List D) (a1 : Int) (a2 : Int) (a3 : Int) (a4 : Int) (a5 : Int) (t1 : ByteArray × Int × Int × Int × Int × Int × Int × Int × Int × Int) (t3 : Int) (sa : Int × List D) (sb : (Int × List D)) : List (Nat × Blk) := [(0, .box (.d (.lst false 10 a0))), (1, .box (.d (I a1))), (2, .box (.d (.agg [I a2, I a3, I a4]))), (3, .box (.d (I a5))), (9, .box (.d (.agg [.v (.string t1.1), I t1.2.1, I t1.2.2.1, I t1.2.2.2.1, I t1.2.2.2.2.1, I t1.2.2.2.2.2.1, I t1.2.2.2.2.2.2.1, I t1.2.2.2.2.2.2.2.1, I t1.2.2.2.2.2.2.2.2.1, I t1.2.2.2.2.2.2.2.2.2]))), (16, .box (.d (B (decide (t3 > 0))))), (25, .box (.d (.agg [.v (.string t1.1), I t1.2.1, I t1.2.2.1, I t1.2.2.2.1, I t1.2.2.2.2.1, I t1.2.2.2.2.2.1, I t1.2.2.2.2.2.2.1, I t1.2.2.2.2.2.2.2.1, I t1.2.2.2.2.2.2.2.2.1, I t1.2.2.2.2.2.2.2.2.2]))), (26, .box (.d (I a5))), (34, .box (.own 87 0)), (37, .loop true [(6, .fn (.func 128) [] [.ptr 26 0 0 0 0, .ptr 25 0 0 0 0]), (4, .d (.lst true 0 [])), (2, .ptr 34 0 0 0 0), (1, .fn (.func 128) [] [.ptr 26 0 0 0 0, .ptr 25 0 0 0 0]), (0, .d (.lst true 0 []))] [7] (rangeAt cx.P 127 0).1 (rangeAt cx.P 127 0).2 13), (87, .row 0 4 sb.2)]
noncomputable def X_field_dark_L3 (a0 : List D) (a1 : Int) (a2 : Int) (a3 : Int) (a4 : Int) (a5 : Int) (t1 : ByteArray × Int × Int × Int × Int × Int × Int × Int × Int × Int) (t3 : Int) (sa : Int × List D) (e : (List D)) : Ex := (.exit 2)
noncomputable def XT_field_dark_L3 (a0 : List D) (a1 : Int) (a2 : Int) (a3 : Int) (a4 : Int) (a5 : Int) (t1 : ByteArray × Int × Int × Int × Int × Int × Int × Int × Int × Int) (t3 : Int) (sa : Int × List D) (e : (List D)) : List (Nat × AV) := [(0, .own 37 0), (1, .ptr 26 0 0 0 0), (2, .ptr 25 0 0 0 0), (7, .d (I a5)), (8, .d (I sa.1))]
noncomputable def XH_field_dark_L3 (a0 : List D) (a1 : Int) (a2 : Int) (a3 : Int) (a4 : Int) (a5 : Int) (t1 : ByteArray × Int × Int × Int × Int × Int × Int × Int × Int × Int) (t3 : Int) (sa : Int × List D) (e : (List D)) : List (Nat × Blk) := [(0, .box (.d (.lst false 10 a0))), (1, .box (.d (I a1))), (2, .box (.d (.agg [I a2, I a3, I a4]))), (3, .box (.d (I a5))), (9, .box (.d (.agg [.v (.string t1.1), I t1.2.1, I t1.2.2.1, I t1.2.2.2.1, I t1.2.2.2.2.1, I t1.2.2.2.2.2.1, I t1.2.2.2.2.2.2.1, I t1.2.2.2.2.2.2.2.1, I t1.2.2.2.2.2.2.2.2.1, I t1.2.2.2.2.2.2.2.2.2]))), (16, .box (.d (B (decide (t3 > 0))))), (25, .box (.d (.agg [.v (.string t1.1), I t1.2.1, I t1.2.2.1, I t1.2.2.2.1, I t1.2.2.2.2.1, I t1.2.2.2.2.2.1, I t1.2.2.2.2.2.2.1, I t1.2.2.2.2.2.2.2.1, I t1.2.2.2.2.2.2.2.2.1, I t1.2.2.2.2.2.2.2.2.2]))), (26, .box (.d (I a5))), (34, .box (.own 87 0)), (37, .loop true [(6, .fn (.func 128) [] [.ptr 26 0 0 0 0, .ptr 25 0 0 0 0]), (4, .d (.lst true 0 [])), (2, .ptr 34 0 0 0 0), (1, .fn (.func 128) [] [.ptr 26 0 0 0 0, .ptr 25 0 0 0 0]), (0, .d (.lst true 0 []))] [7] (rangeAt cx.P 127 0).1 (rangeAt cx.P 127 0).2 13), (87, .row 0 4 e)]
theorem R_field_dark_L3 {n : Nat} {a0 : List D} {a1 : Int} {a2 : Int} {a3 : Int} {a4 : Int} {a5 : Int} {t1 : ByteArray × Int × Int × Int × Int × Int × Int × Int × Int × Int} {t3 : Int} {sa : Int × List D} (sb : (Int × List D)) (r) (h : F_field_dark_L3 n a0 a1 a2 a3 a4 a5 t1 t3 sa sb = some r) : Rd cx (loopAt cx.P 128 1) 49 38 false (T_field_dark_L3 a0 a1 a2 a3 a4 a5 t1 t3 sa) (H_field_dark_L3 a0 a1 a2 a3 a4 a5 t1 t3 sa) (X_field_dark_L3 a0 a1 a2 a3 a4 a5 t1 t3 sa) (XT_field_dark_L3 a0 a1 a2 a3 a4 a5 t1 t3 sa) (XH_field_dark_L3 a0 a1 a2 a3 a4 a5 t1 t3 sa) sb r := by
  unfold F_field_dark_L3 at h
  by_cases hb1 : sb.1 < a5
  · replace h := ite_t h hb1
    obtain ⟨tb2, hb2, h⟩ := bnd_of h
    obtain ⟨hb3, h⟩ := grd_of h
    obtain ⟨hb4, h⟩ := grd_of h
    obtain ⟨hb5, h⟩ := grd_of h
    obtain ⟨tb6, hb6, h⟩ := bnd_of h
    obtain ⟨hb7, h⟩ := grd_of h
    obtain ⟨hb8, h⟩ := grd_of h
    obtain ⟨hb9, h⟩ := grd_of h
    obtain ⟨tb10, hb10, h⟩ := bnd_of h
    obtain ⟨tb11, hb11, h⟩ := bnd_of h
    obtain ⟨tb12, hb12, h⟩ := bnd_of h
    obtain ⟨hb13, h⟩ := grd_of h
    obtain ⟨hb14, h⟩ := grd_of h
    obtain ⟨hb15, h⟩ := grd_of h
    obtain ⟨hb16, h⟩ := grd_of h
    replace h := Option.some.inj h
    subst h
    exact ⟨100, 93, [.br true, .ret (.agg [I tb2.1, I tb2.2.1, I tb2.2.2]), .ret (.agg [I tb6.1, I tb6.2.1, I tb6.2.2]), .ret (.agg [I tb10.1, I tb10.2.1, I tb10.2.2]), .ret (.agg [I tb11.1, I tb11.2.1, I tb11.2.2]), .ret (.agg [I tb12.1, I tb12.2.1, I tb12.2.2]), .br true, .no], [], [0, 1, 2, 4, 7, 8, 11, 12], [0, 1, 2, 3, 9, 16, 25, 26, 34, 37, 87], round_of (ob := [inI64 (sb.1 + 1), room cx 149 ((sb.2).length + 1), inI64 ((sa.1 * a5) + sb.1), inI64 (sa.1 * a5), Computes cx 112 [.agg [I tb2.1, I tb2.2.1, I tb2.2.2], .agg [I tb11.1, I tb11.2.1, I tb11.2.2]] (.agg [I tb12.1, I tb12.2.1, I tb12.2.2]), Computes cx 112 [.agg [I tb6.1, I tb6.2.1, I tb6.2.2], .agg [I tb10.1, I tb10.2.1, I tb10.2.2]] (.agg [I tb11.1, I tb11.2.1, I tb11.2.2]), Computes cx 113 [I (((2 * sa.1) + 1) - a5), .agg [I t1.2.2.2.2.2.2.2.1, I t1.2.2.2.2.2.2.2.2.1, I t1.2.2.2.2.2.2.2.2.2]] (.agg [I tb10.1, I tb10.2.1, I tb10.2.2]), inI64 (((2 * sa.1) + 1) - a5), inI64 ((2 * sa.1) + 1), inI64 (2 * sa.1), Computes cx 113 [I (((2 * sb.1) + 1) - a5), .agg [I t1.2.2.2.2.1, I t1.2.2.2.2.2.1, I t1.2.2.2.2.2.2.1]] (.agg [I tb6.1, I tb6.2.1, I tb6.2.2]), inI64 (((2 * sb.1) + 1) - a5), inI64 ((2 * sb.1) + 1), inI64 (2 * sb.1), Computes cx 113 [I a5, .agg [I t1.2.1, I t1.2.2.1, I t1.2.2.2.1]] (.agg [I tb2.1, I tb2.2.1, I tb2.2.2]), (decide (sb.1 < a5)) = true]) (by kernel_rfl) ⟨hb16, (room_of (b := 32) (by kernel_rfl) (by decide) hb15), hb14, hb13, (c_field_plus hb12), (c_field_plus hb11), (c_field_times hb10), hb9, hb8, hb7, (c_field_times hb6), hb5, hb4, hb3, (c_field_times hb2), (decide_eq_true hb1), trivial⟩⟩
  · replace h := ite_f h hb1
    replace h := Option.some.inj h
    subst h
    exact ⟨⟨100, 93, [.br false], [], [0, 1, 2, 7, 8], [0, 1, 2, 3, 9, 16, 25, 26, 34, 37, 87], round_of (ob := [(decide (sb.1 < a5)) = false]) (by kernel_rfl) ⟨(decide_eq_false hb1), trivial⟩⟩, nofun⟩
def F_field_dark_L4 (n : Nat) (a0 : List D) (a1 : Int) (a2 : Int) (a3 : Int) (a4 : Int) (a5 : Int) (t1 : ByteArray × Int × Int × Int × Int × Int × Int × Int × Int × Int) (t3 : Int) (sa : (Int) ⊕ (Int × List D)) : Option (((Int) ⊕ (Int × List D)) ⊕ ((Unit) ⊕ (List D))) := match sa with
  | (.inl sa) => (
    if sa < a5 then
      (loopF (F_field_dark_L2 n a0 a1 a2 a3 a4 a5 t1 t3 sa) n (.inl ())).bind fun ta2 => match ta2 with
        | (.inl ta2) => (
          if inI64 (sa + 1) then
          some (.inl (.inl (sa + 1)))
          else none)
        | (.inr ta2) => (
          if inI64 (sa + 1) then
          some (.inl (.inr ((sa + 1), ta2)))
          else none)
    else
    some (.inr (.inl ())))
  | (.inr sa) => (
    if sa.1 < a5 then
      (loopF (F_field_dark_L3 n a0 a1 a2 a3 a4 a5 t1 t3 sa) n (0, sa.2)).bind fun ta2 =>
      if inI64 (sa.1 + 1) then
      some (.inl (.inr ((sa.1 + 1), ta2)))
      else none
    else
    some (.inr (.inr sa.2)))
noncomputable def T_field_dark_L4 (a0 : List D) (a1 : Int) (a2 : Int) (a3 : Int) (a4 : Int) (a5 : Int) (t1 : ByteArray × Int × Int × Int × Int × Int × Int × Int × Int × Int) (t3 : Int) (sa : (Int) ⊕ (Int × List D)) : List (Nat × AV) := match sa with
  | (.inl sa) => [(0, .own 37 0), (1, .ptr 26 0 0 0 0), (2, .ptr 25 0 0 0 0), (7, .d (I a5)), (8, .d (I sa))]
  | (.inr sa) => [(0, .own 37 0), (1, .ptr 26 0 0 0 0), (2, .ptr 25 0 0 0 0), (7, .d (I a5)), (8, .d (I sa.1))]
noncomputable def H_field_dark_L4 (a0 : List D) (a1 : Int) (a2 : Int) (a3 : Int) (a4 : Int) (a5 : Int) (t1 : ByteArray × Int × Int × Int × Int × Int × Int × Int × Int × Int) (t3 : Int) (sa : (Int) ⊕ (Int × List D)) : List (Nat × Blk) := match sa with
  | (.inl sa) => [(0, .box (.d (.lst false 10 a0))), (1, .box (.d (I a1))), (2, .box (.d (.agg [I a2, I a3, I a4]))), (3, .box (.d (I a5))), (9, .box (.d (.agg [.v (.string t1.1), I t1.2.1, I t1.2.2.1, I t1.2.2.2.1, I t1.2.2.2.2.1, I t1.2.2.2.2.2.1, I t1.2.2.2.2.2.2.1, I t1.2.2.2.2.2.2.2.1, I t1.2.2.2.2.2.2.2.2.1, I t1.2.2.2.2.2.2.2.2.2]))), (16, .box (.d (B (decide (t3 > 0))))), (25, .box (.d (.agg [.v (.string t1.1), I t1.2.1, I t1.2.2.1, I t1.2.2.2.1, I t1.2.2.2.2.1, I t1.2.2.2.2.2.1, I t1.2.2.2.2.2.2.1, I t1.2.2.2.2.2.2.2.1, I t1.2.2.2.2.2.2.2.2.1, I t1.2.2.2.2.2.2.2.2.2]))), (26, .box (.d (I a5))), (34, .box (.d (.lst true 0 []))), (37, .loop true [(6, .fn (.func 128) [] [.ptr 26 0 0 0 0, .ptr 25 0 0 0 0]), (4, .d (.lst true 0 [])), (2, .ptr 34 0 0 0 0), (1, .fn (.func 128) [] [.ptr 26 0 0 0 0, .ptr 25 0 0 0 0]), (0, .d (.lst true 0 []))] [7] (rangeAt cx.P 127 0).1 (rangeAt cx.P 127 0).2 13)]
  | (.inr sa) => [(0, .box (.d (.lst false 10 a0))), (1, .box (.d (I a1))), (2, .box (.d (.agg [I a2, I a3, I a4]))), (3, .box (.d (I a5))), (9, .box (.d (.agg [.v (.string t1.1), I t1.2.1, I t1.2.2.1, I t1.2.2.2.1, I t1.2.2.2.2.1, I t1.2.2.2.2.2.1, I t1.2.2.2.2.2.2.1, I t1.2.2.2.2.2.2.2.1, I t1.2.2.2.2.2.2.2.2.1, I t1.2.2.2.2.2.2.2.2.2]))), (16, .box (.d (B (decide (t3 > 0))))), (25, .box (.d (.agg [.v (.string t1.1), I t1.2.1, I t1.2.2.1, I t1.2.2.2.1, I t1.2.2.2.2.1, I t1.2.2.2.2.2.1, I t1.2.2.2.2.2.2.1, I t1.2.2.2.2.2.2.2.1, I t1.2.2.2.2.2.2.2.2.1, I t1.2.2.2.2.2.2.2.2.2]))), (26, .box (.d (I a5))), (34, .box (.own 87 0)), (37, .loop true [(6, .fn (.func 128) [] [.ptr 26 0 0 0 0, .ptr 25 0 0 0 0]), (4, .d (.lst true 0 [])), (2, .ptr 34 0 0 0 0), (1, .fn (.func 128) [] [.ptr 26 0 0 0 0, .ptr 25 0 0 0 0]), (0, .d (.lst true 0 []))] [7] (rangeAt cx.P 127 0).1 (rangeAt cx.P 127 0).2 13), (87, .row 0 4 sa.2)]
noncomputable def X_field_dark_L4 (a0 : List D) (a1 : Int) (a2 : Int) (a3 : Int) (a4 : Int) (a5 : Int) (t1 : ByteArray × Int × Int × Int × Int × Int × Int × Int × Int × Int) (t3 : Int) (e : (Unit) ⊕ (List D)) : Ex := match e with
  | (.inl e) => (.exit 0)
  | (.inr e) => (.exit 0)
noncomputable def XT_field_dark_L4 (a0 : List D) (a1 : Int) (a2 : Int) (a3 : Int) (a4 : Int) (a5 : Int) (t1 : ByteArray × Int × Int × Int × Int × Int × Int × Int × Int × Int) (t3 : Int) (e : (Unit) ⊕ (List D)) : List (Nat × AV) := match e with
  | (.inl e) => []
  | (.inr e) => []
noncomputable def XH_field_dark_L4 (a0 : List D) (a1 : Int) (a2 : Int) (a3 : Int) (a4 : Int) (a5 : Int) (t1 : ByteArray × Int × Int × Int × Int × Int × Int × Int × Int × Int) (t3 : Int) (e : (Unit) ⊕ (List D)) : List (Nat × Blk) := match e with
  | (.inl e) => [(0, .box (.d (.lst false 10 a0))), (1, .box (.d (I a1))), (2, .box (.d (.agg [I a2, I a3, I a4]))), (3, .box (.d (I a5))), (9, .box (.d (.agg [.v (.string t1.1), I t1.2.1, I t1.2.2.1, I t1.2.2.2.1, I t1.2.2.2.2.1, I t1.2.2.2.2.2.1, I t1.2.2.2.2.2.2.1, I t1.2.2.2.2.2.2.2.1, I t1.2.2.2.2.2.2.2.2.1, I t1.2.2.2.2.2.2.2.2.2]))), (16, .box (.d (B (decide (t3 > 0))))), (25, .box (.d (.agg [.v (.string t1.1), I t1.2.1, I t1.2.2.1, I t1.2.2.2.1, I t1.2.2.2.2.1, I t1.2.2.2.2.2.1, I t1.2.2.2.2.2.2.1, I t1.2.2.2.2.2.2.2.1, I t1.2.2.2.2.2.2.2.2.1, I t1.2.2.2.2.2.2.2.2.2]))), (26, .box (.d (I a5))), (34, .box (.d (.lst true 0 []))), (37, .loop true [(6, .fn (.func 128) [] [.ptr 26 0 0 0 0, .ptr 25 0 0 0 0]), (4, .d (.lst true 0 [])), (2, .ptr 34 0 0 0 0), (1, .fn (.func 128) [] [.ptr 26 0 0 0 0, .ptr 25 0 0 0 0]), (0, .d (.lst true 0 []))] [7] (rangeAt cx.P 127 0).1 (rangeAt cx.P 127 0).2 13)]
  | (.inr e) => [(0, .box (.d (.lst false 10 a0))), (1, .box (.d (I a1))), (2, .box (.d (.agg [I a2, I a3, I a4]))), (3, .box (.d (I a5))), (9, .box (.d (.agg [.v (.string t1.1), I t1.2.1, I t1.2.2.1, I t1.2.2.2.1, I t1.2.2.2.2.1, I t1.2.2.2.2.2.1, I t1.2.2.2.2.2.2.1, I t1.2.2.2.2.2.2.2.1, I t1.2.2.2.2.2.2.2.2.1, I t1.2.2.2.2.2.2.2.2.2]))), (16, .box (.d (B (decide (t3 > 0))))), (25, .box (.d (.agg [.v (.string t1.1), I t1.2.1, I t1.2.2.1, I t1.2.2.2.1, I t1.2.2.2.2.1, I t1.2.2.2.2.2.1, I t1.2.2.2.2.2.2.1, I t1.2.2.2.2.2.2.2.1, I t1.2.2.2.2.2.2.2.2.1, I t1.2.2.2.2.2.2.2.2.2]))), (26, .box (.d (I a5))), (34, .box (.own 87 0)), (37, .loop true [(6, .fn (.func 128) [] [.ptr 26 0 0 0 0, .ptr 25 0 0 0 0]), (4, .d (.lst true 0 [])), (2, .ptr 34 0 0 0 0), (1, .fn (.func 128) [] [.ptr 26 0 0 0 0, .ptr 25 0 0 0 0]), (0, .d (.lst true 0 []))] [7] (rangeAt cx.P 127 0).1 (rangeAt cx.P 127 0).2 13), (87, .row 0 4 e)]
theorem R_field_dark_L4 {n : Nat} {a0 : List D} {a1 : Int} {a2 : Int} {a3 : Int} {a4 : Int} {a5 : Int} {t1 : ByteArray × Int × Int × Int × Int × Int × Int × Int × Int × Int} {t3 : Int} (sa : (Int) ⊕ (Int × List D)) (r) (h : F_field_dark_L4 n a0 a1 a2 a3 a4 a5 t1 t3 sa = some r) : Rd cx (loopAt cx.P 128 0) 49 38 false (T_field_dark_L4 a0 a1 a2 a3 a4 a5 t1 t3) (H_field_dark_L4 a0 a1 a2 a3 a4 a5 t1 t3) (X_field_dark_L4 a0 a1 a2 a3 a4 a5 t1 t3) (XT_field_dark_L4 a0 a1 a2 a3 a4 a5 t1 t3) (XH_field_dark_L4 a0 a1 a2 a3 a4 a5 t1 t3) sa r := by
  unfold F_field_dark_L4 at h
  rcases sa with sa | sa
  · by_cases ha1 : sa < a5
    · replace h := ite_t h ha1
      obtain ⟨ta2, ha2, h⟩ := bnd_of h
      rcases ta2 with ta2 | ta2
      · obtain ⟨ha3, h⟩ := grd_of h
        replace h := Option.some.inj h
        subst h
        exact ⟨100, 40, [.br true, .lp [] [0, 1, 2, 4, 7, 8, 11, 12] [0, 1, 2, 3, 9, 16, 25, 26, 34, 37] (.exit 2) [(0, .own 37 0), (1, .ptr 26 0 0 0 0), (2, .ptr 25 0 0 0 0), (7, .d (I a5)), (8, .d (I sa))] [(0, .box (.d (.lst false 10 a0))), (1, .box (.d (I a1))), (2, .box (.d (.agg [I a2, I a3, I a4]))), (3, .box (.d (I a5))), (9, .box (.d (.agg [.v (.string t1.1), I t1.2.1, I t1.2.2.1, I t1.2.2.2.1, I t1.2.2.2.2.1, I t1.2.2.2.2.2.1, I t1.2.2.2.2.2.2.1, I t1.2.2.2.2.2.2.2.1, I t1.2.2.2.2.2.2.2.2.1, I t1.2.2.2.2.2.2.2.2.2]))), (16, .box (.d (B (decide (t3 > 0))))), (25, .box (.d (.agg [.v (.string t1.1), I t1.2.1, I t1.2.2.1, I t1.2.2.2.1, I t1.2.2.2.2.1, I t1.2.2.2.2.2.1, I t1.2.2.2.2.2.2.1, I t1.2.2.2.2.2.2.2.1, I t1.2.2.2.2.2.2.2.2.1, I t1.2.2.2.2.2.2.2.2.2]))), (26, .box (.d (I a5))), (34, .box (.d (.lst true 0 []))), (37, .loop true [(6, .fn (.func 128) [] [.ptr 26 0 0 0 0, .ptr 25 0 0 0 0]), (4, .d (.lst true 0 [])), (2, .ptr 34 0 0 0 0), (1, .fn (.func 128) [] [.ptr 26 0 0 0 0, .ptr 25 0 0 0 0]), (0, .d (.lst true 0 []))] [7] (rangeAt cx.P 127 0).1 (rangeAt cx.P 127 0).2 13)] 145], [], [0, 1, 2, 7, 8], [0, 1, 2, 3, 9, 16, 25, 26, 34, 37], round_of (ob := [inI64 (sa + 1), LoopN cx (loopAt cx.P 128 1) 49 38 false [(0, .own 37 0), (1, .ptr 26 0 0 0 0), (2, .ptr 25 0 0 0 0), (4, .d (I sa)), (7, .d (I a5)), (8, .d (I sa)), (11, .d (I a5)), (12, .d (I 0))] [(0, .box (.d (.lst false 10 a0))), (1, .box (.d (I a1))), (2, .box (.d (.agg [I a2, I a3, I a4]))), (3, .box (.d (I a5))), (9, .box (.d (.agg [.v (.string t1.1), I t1.2.1, I t1.2.2.1, I t1.2.2.2.1, I t1.2.2.2.2.1, I t1.2.2.2.2.2.1, I t1.2.2.2.2.2.2.1, I t1.2.2.2.2.2.2.2.1, I t1.2.2.2.2.2.2.2.2.1, I t1.2.2.2.2.2.2.2.2.2]))), (16, .box (.d (B (decide (t3 > 0))))), (25, .box (.d (.agg [.v (.string t1.1), I t1.2.1, I t1.2.2.1, I t1.2.2.2.1, I t1.2.2.2.2.1, I t1.2.2.2.2.2.1, I t1.2.2.2.2.2.2.1, I t1.2.2.2.2.2.2.2.1, I t1.2.2.2.2.2.2.2.2.1, I t1.2.2.2.2.2.2.2.2.2]))), (26, .box (.d (I a5))), (34, .box (.d (.lst true 0 []))), (37, .loop true [(6, .fn (.func 128) [] [.ptr 26 0 0 0 0, .ptr 25 0 0 0 0]), (4, .d (.lst true 0 [])), (2, .ptr 34 0 0 0 0), (1, .fn (.func 128) [] [.ptr 26 0 0 0 0, .ptr 25 0 0 0 0]), (0, .d (.lst true 0 []))] [7] (rangeAt cx.P 127 0).1 (rangeAt cx.P 127 0).2 13)] (.exit 2) [(0, .own 37 0), (1, .ptr 26 0 0 0 0), (2, .ptr 25 0 0 0 0), (7, .d (I a5)), (8, .d (I sa))] [(0, .box (.d (.lst false 10 a0))), (1, .box (.d (I a1))), (2, .box (.d (.agg [I a2, I a3, I a4]))), (3, .box (.d (I a5))), (9, .box (.d (.agg [.v (.string t1.1), I t1.2.1, I t1.2.2.1, I t1.2.2.2.1, I t1.2.2.2.2.1, I t1.2.2.2.2.2.1, I t1.2.2.2.2.2.2.1, I t1.2.2.2.2.2.2.2.1, I t1.2.2.2.2.2.2.2.2.1, I t1.2.2.2.2.2.2.2.2.2]))), (16, .box (.d (B (decide (t3 > 0))))), (25, .box (.d (.agg [.v (.string t1.1), I t1.2.1, I t1.2.2.1, I t1.2.2.2.1, I t1.2.2.2.2.1, I t1.2.2.2.2.2.1, I t1.2.2.2.2.2.2.1, I t1.2.2.2.2.2.2.2.1, I t1.2.2.2.2.2.2.2.2.1, I t1.2.2.2.2.2.2.2.2.2]))), (26, .box (.d (I a5))), (34, .box (.d (.lst true 0 []))), (37, .loop true [(6, .fn (.func 128) [] [.ptr 26 0 0 0 0, .ptr 25 0 0 0 0]), (4, .d (.lst true 0 [])), (2, .ptr 34 0 0 0 0), (1, .fn (.func 128) [] [.ptr 26 0 0 0 0, .ptr 25 0 0 0 0]), (0, .d (.lst true 0 []))] [7] (rangeAt cx.P 127 0).1 (rangeAt cx.P 127 0).2 13)], (decide (sa < a5)) = true]) (by kernel_rfl) ⟨ha3, (loopF_to R_field_dark_L2 ha2), (decide_eq_true ha1), trivial⟩⟩
      · obtain ⟨ha3, h⟩ := grd_of h
        replace h := Option.some.inj h
        subst h
        exact ⟨100, 40, [.br true, .lp [] [0, 1, 2, 4, 7, 8, 11, 12] [0, 1, 2, 3, 9, 16, 25, 26, 34, 37] (.exit 2) [(0, .own 37 0), (1, .ptr 26 0 0 0 0), (2, .ptr 25 0 0 0 0), (7, .d (I a5)), (8, .d (I sa))] [(0, .box (.d (.lst false 10 a0))), (1, .box (.d (I a1))), (2, .box (.d (.agg [I a2, I a3, I a4]))), (3, .box (.d (I a5))), (9, .box (.d (.agg [.v (.string t1.1), I t1.2.1, I t1.2.2.1, I t1.2.2.2.1, I t1.2.2.2.2.1, I t1.2.2.2.2.2.1, I t1.2.2.2.2.2.2.1, I t1.2.2.2.2.2.2.2.1, I t1.2.2.2.2.2.2.2.2.1, I t1.2.2.2.2.2.2.2.2.2]))), (16, .box (.d (B (decide (t3 > 0))))), (25, .box (.d (.agg [.v (.string t1.1), I t1.2.1, I t1.2.2.1, I t1.2.2.2.1, I t1.2.2.2.2.1, I t1.2.2.2.2.2.1, I t1.2.2.2.2.2.2.1, I t1.2.2.2.2.2.2.2.1, I t1.2.2.2.2.2.2.2.2.1, I t1.2.2.2.2.2.2.2.2.2]))), (26, .box (.d (I a5))), (34, .box (.own 87 0)), (37, .loop true [(6, .fn (.func 128) [] [.ptr 26 0 0 0 0, .ptr 25 0 0 0 0]), (4, .d (.lst true 0 [])), (2, .ptr 34 0 0 0 0), (1, .fn (.func 128) [] [.ptr 26 0 0 0 0, .ptr 25 0 0 0 0]), (0, .d (.lst true 0 []))] [7] (rangeAt cx.P 127 0).1 (rangeAt cx.P 127 0).2 13), (87, .row 0 4 ta2)] 145], [], [0, 1, 2, 7, 8], [0, 1, 2, 3, 9, 16, 25, 26, 34, 37, 87], round_of (ob := [inI64 (sa + 1), LoopN cx (loopAt cx.P 128 1) 49 38 false [(0, .own 37 0), (1, .ptr 26 0 0 0 0), (2, .ptr 25 0 0 0 0), (4, .d (I sa)), (7, .d (I a5)), (8, .d (I sa)), (11, .d (I a5)), (12, .d (I 0))] [(0, .box (.d (.lst false 10 a0))), (1, .box (.d (I a1))), (2, .box (.d (.agg [I a2, I a3, I a4]))), (3, .box (.d (I a5))), (9, .box (.d (.agg [.v (.string t1.1), I t1.2.1, I t1.2.2.1, I t1.2.2.2.1, I t1.2.2.2.2.1, I t1.2.2.2.2.2.1, I t1.2.2.2.2.2.2.1, I t1.2.2.2.2.2.2.2.1, I t1.2.2.2.2.2.2.2.2.1, I t1.2.2.2.2.2.2.2.2.2]))), (16, .box (.d (B (decide (t3 > 0))))), (25, .box (.d (.agg [.v (.string t1.1), I t1.2.1, I t1.2.2.1, I t1.2.2.2.1, I t1.2.2.2.2.1, I t1.2.2.2.2.2.1, I t1.2.2.2.2.2.2.1, I t1.2.2.2.2.2.2.2.1, I t1.2.2.2.2.2.2.2.2.1, I t1.2.2.2.2.2.2.2.2.2]))), (26, .box (.d (I a5))), (34, .box (.d (.lst true 0 []))), (37, .loop true [(6, .fn (.func 128) [] [.ptr 26 0 0 0 0, .ptr 25 0 0 0 0]), (4, .d (.lst true 0 [])), (2, .ptr 34 0 0 0 0), (1, .fn (.func 128) [] [.ptr 26 0 0 0 0, .ptr 25 0 0 0 0]), (0, .d (.lst true 0 []))] [7] (rangeAt cx.P 127 0).1 (rangeAt cx.P 127 0).2 13)] (.exit 2) [(0, .own 37 0), (1, .ptr 26 0 0 0 0), (2, .ptr 25 0 0 0 0), (7, .d (I a5)), (8, .d (I sa))] [(0, .box (.d (.lst false 10 a0))), (1, .box (.d (I a1))), (2, .box (.d (.agg [I a2, I a3, I a4]))), (3, .box (.d (I a5))), (9, .box (.d (.agg [.v (.string t1.1), I t1.2.1, I t1.2.2.1, I t1.2.2.2.1, I t1.2.2.2.2.1, I t1.2.2.2.2.2.1, I t1.2.2.2.2.2.2.1, I t1.2.2.2.2.2.2.2.1, I t1.2.2.2.2.2.2.2.2.1, I t1.2.2.2.2.2.2.2.2.2]))), (16, .box (.d (B (decide (t3 > 0))))), (25, .box (.d (.agg [.v (.string t1.1), I t1.2.1, I t1.2.2.1, I t1.2.2.2.1, I t1.2.2.2.2.1, I t1.2.2.2.2.2.1, I t1.2.2.2.2.2.2.1, I t1.2.2.2.2.2.2.2.1, I t1.2.2.2.2.2.2.2.2.1, I t1.2.2.2.2.2.2.2.2.2]))), (26, .box (.d (I a5))), (34, .box (.own 87 0)), (37, .loop true [(6, .fn (.func 128) [] [.ptr 26 0 0 0 0, .ptr 25 0 0 0 0]), (4, .d (.lst true 0 [])), (2, .ptr 34 0 0 0 0), (1, .fn (.func 128) [] [.ptr 26 0 0 0 0, .ptr 25 0 0 0 0]), (0, .d (.lst true 0 []))] [7] (rangeAt cx.P 127 0).1 (rangeAt cx.P 127 0).2 13), (87, .row 0 4 ta2)], (decide (sa < a5)) = true]) (by kernel_rfl) ⟨ha3, (loopF_to R_field_dark_L2 ha2), (decide_eq_true ha1), trivial⟩⟩
    · replace h := ite_f h ha1
      replace h := Option.some.inj h
      subst h
      exact ⟨⟨100, 40, [.br false], [], [], [0, 1, 2, 3, 9, 16, 25, 26, 34, 37], round_of (ob := [(decide (sa < a5)) = false]) (by kernel_rfl) ⟨(decide_eq_false ha1), trivial⟩⟩, nofun⟩
  · by_cases ha1 : sa.1 < a5
    · replace h := ite_t h ha1
      obtain ⟨ta2, ha2, h⟩ := bnd_of h
      obtain ⟨ha3, h⟩ := grd_of h
      replace h := Option.some.inj h
      subst h
      exact ⟨100, 88, [.br true, .lp [] [0, 1, 2, 4, 7, 8, 11, 12] [0, 1, 2, 3, 9, 16, 25, 26, 34, 37, 87] (.exit 2) [(0, .own 37 0), (1, .ptr 26 0 0 0 0), (2, .ptr 25 0 0 0 0), (7, .d (I a5)), (8, .d (I sa.1))] [(0, .box (.d (.lst false 10 a0))), (1, .box (.d (I a1))), (2, .box (.d (.agg [I a2, I a3, I a4]))), (3, .box (.d (I a5))), (9, .box (.d (.agg [.v (.string t1.1), I t1.2.1, I t1.2.2.1, I t1.2.2.2.1, I t1.2.2.2.2.1, I t1.2.2.2.2.2.1, I t1.2.2.2.2.2.2.1, I t1.2.2.2.2.2.2.2.1, I t1.2.2.2.2.2.2.2.2.1, I t1.2.2.2.2.2.2.2.2.2]))), (16, .box (.d (B (decide (t3 > 0))))), (25, .box (.d (.agg [.v (.string t1.1), I t1.2.1, I t1.2.2.1, I t1.2.2.2.1, I t1.2.2.2.2.1, I t1.2.2.2.2.2.1, I t1.2.2.2.2.2.2.1, I t1.2.2.2.2.2.2.2.1, I t1.2.2.2.2.2.2.2.2.1, I t1.2.2.2.2.2.2.2.2.2]))), (26, .box (.d (I a5))), (34, .box (.own 87 0)), (37, .loop true [(6, .fn (.func 128) [] [.ptr 26 0 0 0 0, .ptr 25 0 0 0 0]), (4, .d (.lst true 0 [])), (2, .ptr 34 0 0 0 0), (1, .fn (.func 128) [] [.ptr 26 0 0 0 0, .ptr 25 0 0 0 0]), (0, .d (.lst true 0 []))] [7] (rangeAt cx.P 127 0).1 (rangeAt cx.P 127 0).2 13), (87, .row 0 4 ta2)] 150], [], [0, 1, 2, 7, 8], [0, 1, 2, 3, 9, 16, 25, 26, 34, 37, 87], round_of (ob := [inI64 (sa.1 + 1), LoopN cx (loopAt cx.P 128 1) 49 38 false [(0, .own 37 0), (1, .ptr 26 0 0 0 0), (2, .ptr 25 0 0 0 0), (4, .d (I sa.1)), (7, .d (I a5)), (8, .d (I sa.1)), (11, .d (I a5)), (12, .d (I 0))] [(0, .box (.d (.lst false 10 a0))), (1, .box (.d (I a1))), (2, .box (.d (.agg [I a2, I a3, I a4]))), (3, .box (.d (I a5))), (9, .box (.d (.agg [.v (.string t1.1), I t1.2.1, I t1.2.2.1, I t1.2.2.2.1, I t1.2.2.2.2.1, I t1.2.2.2.2.2.1, I t1.2.2.2.2.2.2.1, I t1.2.2.2.2.2.2.2.1, I t1.2.2.2.2.2.2.2.2.1, I t1.2.2.2.2.2.2.2.2.2]))), (16, .box (.d (B (decide (t3 > 0))))), (25, .box (.d (.agg [.v (.string t1.1), I t1.2.1, I t1.2.2.1, I t1.2.2.2.1, I t1.2.2.2.2.1, I t1.2.2.2.2.2.1, I t1.2.2.2.2.2.2.1, I t1.2.2.2.2.2.2.2.1, I t1.2.2.2.2.2.2.2.2.1, I t1.2.2.2.2.2.2.2.2.2]))), (26, .box (.d (I a5))), (34, .box (.own 87 0)), (37, .loop true [(6, .fn (.func 128) [] [.ptr 26 0 0 0 0, .ptr 25 0 0 0 0]), (4, .d (.lst true 0 [])), (2, .ptr 34 0 0 0 0), (1, .fn (.func 128) [] [.ptr 26 0 0 0 0, .ptr 25 0 0 0 0]), (0, .d (.lst true 0 []))] [7] (rangeAt cx.P 127 0).1 (rangeAt cx.P 127 0).2 13), (87, .row 0 4 sa.2)] (.exit 2) [(0, .own 37 0), (1, .ptr 26 0 0 0 0), (2, .ptr 25 0 0 0 0), (7, .d (I a5)), (8, .d (I sa.1))] [(0, .box (.d (.lst false 10 a0))), (1, .box (.d (I a1))), (2, .box (.d (.agg [I a2, I a3, I a4]))), (3, .box (.d (I a5))), (9, .box (.d (.agg [.v (.string t1.1), I t1.2.1, I t1.2.2.1, I t1.2.2.2.1, I t1.2.2.2.2.1, I t1.2.2.2.2.2.1, I t1.2.2.2.2.2.2.1, I t1.2.2.2.2.2.2.2.1, I t1.2.2.2.2.2.2.2.2.1, I t1.2.2.2.2.2.2.2.2.2]))), (16, .box (.d (B (decide (t3 > 0))))), (25, .box (.d (.agg [.v (.string t1.1), I t1.2.1, I t1.2.2.1, I t1.2.2.2.1, I t1.2.2.2.2.1, I t1.2.2.2.2.2.1, I t1.2.2.2.2.2.2.1, I t1.2.2.2.2.2.2.2.1, I t1.2.2.2.2.2.2.2.2.1, I t1.2.2.2.2.2.2.2.2.2]))), (26, .box (.d (I a5))), (34, .box (.own 87 0)), (37, .loop true [(6, .fn (.func 128) [] [.ptr 26 0 0 0 0, .ptr 25 0 0 0 0]), (4, .d (.lst true 0 [])), (2, .ptr 34 0 0 0 0), (1, .fn (.func 128) [] [.ptr 26 0 0 0 0, .ptr 25 0 0 0 0]), (0, .d (.lst true 0 []))] [7] (rangeAt cx.P 127 0).1 (rangeAt cx.P 127 0).2 13), (87, .row 0 4 ta2)], (decide (sa.1 < a5)) = true]) (by kernel_rfl) ⟨ha3, (loopF_to R_field_dark_L3 ha2), (decide_eq_true ha1), trivial⟩⟩
    · replace h := ite_f h ha1
      replace h := Option.some.inj h
      subst h
      exact ⟨⟨100, 88, [.br false], [], [], [0, 1, 2, 3, 9, 16, 25, 26, 34, 37, 87], round_of (ob := [(decide (sa.1 < a5)) = false]) (by kernel_rfl) ⟨(decide_eq_false ha1), trivial⟩⟩, nofun⟩
def F_field_dark_L5 (n : Nat) (a0 : List D) (a1 : Int) (a2 : Int) (a3 : Int) (a4 : Int) (a5 : Int) (t1 : ByteArray × Int × Int × Int × Int × Int × Int × Int × Int × Int) (t3 : Int) (t4 : List D) (sa : (Int × List D)) : Option (((Int × List D)) ⊕ ((List D))) :=
  if sa.1 < ((t4).length : Int) then
    if 0 ≤ sa.1 ∧ sa.1 < ((t4).length : Int) then
    ((nth (t4) (Int.toNat sa.1)).bind un_Ai4Z).bind fun ta3 =>
    if (decide (t3 > 0)) = true then
      (F_field_met n a0 a1 a5 ta3.2.1 ta3.2.2.1 ta3.2.2.2 a2 a3 a4 false).bind fun ta5 =>
      if roomP 1 ((sa.2).length + 1) then
      if inI64 (sa.1 + 1) then
      some (.inl ((sa.1 + 1), (sa.2 ++ ([B ta5] : List D))))
      else none
      else none
    else
    if roomP 1 ((sa.2).length + 1) then
    if inI64 (sa.1 + 1) then
    some (.inl ((sa.1 + 1), (sa.2 ++ ([B true] : List D))))
    else none
    else none
    else none
  else
  some (.inr sa.2)
noncomputable def T_field_dark_L5 (a0 : List D) (a1 : Int) (a2 : Int) (a3 : Int) (a4 : Int) (a5 : Int) (t1 : ByteArray × Int × Int × Int × Int × Int × Int × Int × Int × Int) (t3 : Int) (t4 : List D) (sa : (Int × List D)) : List (Nat × AV) := [(1, .fn (.func 130) [] [.ptr 16 0 0 0 0, .ptr 0 0 0 0 0, .ptr 1 0 0 0 0, .ptr 3 0 0 0 0, .ptr 2 0 0 0 0]), (5, .own 170 0), (8, .own 87 0), (9, .d (I ((t4).length : Int))), (10, .d (I sa.1))]
noncomputable def H_field_dark_L5 (a0 : List D) (a1 : Int) (a2 : Int) (a3 : Int) (a4 : Int) (a5 : Int) (t1 : ByteArray × Int × Int × Int × Int × Int × Int × Int × Int × Int) (t3 : Int) (t4 : List D) (sa : (Int × List D)) : List (Nat × Blk) := [(0, .box (.d (.lst false 10 a0))), (1, .box (.d (I a1))), (2, .box (.d (.agg [I a2, I a3, I a4]))), (3, .box (.d (I a5))), (9, .box (.d (.agg [.v (.string t1.1), I t1.2.1, I t1.2.2.1, I t1.2.2.2.1, I t1.2.2.2.2.1, I t1.2.2.2.2.2.1, I t1.2.2.2.2.2.2.1, I t1.2.2.2.2.2.2.2.1, I t1.2.2.2.2.2.2.2.2.1, I t1.2.2.2.2.2.2.2.2.2]))), (16, .box (.d (B (decide (t3 > 0))))), (25, .box (.d (.agg [.v (.string t1.1), I t1.2.1, I t1.2.2.1, I t1.2.2.2.1, I t1.2.2.2.2.1, I t1.2.2.2.2.2.1, I t1.2.2.2.2.2.2.1, I t1.2.2.2.2.2.2.2.1, I t1.2.2.2.2.2.2.2.2.1, I t1.2.2.2.2.2.2.2.2.2]))), (26, .box (.d (I a5))), (34, .box (.own 87 0)), (37, .dead), (87, .row 0 4 t4), (170, .row 0 1 sa.2)]
noncomputable def X_field_dark_L5 (a0 : List D) (a1 : Int) (a2 : Int) (a3 : Int) (a4 : Int) (a5 : Int) (t1 : ByteArray × Int × Int × Int × Int × Int × Int × Int × Int × Int) (t3 : Int) (t4 : List D) (e : (List D)) : Ex := (.exit 0)
noncomputable def XT_field_dark_L5 (a0 : List D) (a1 : Int) (a2 : Int) (a3 : Int) (a4 : Int) (a5 : Int) (t1 : ByteArray × Int × Int × Int × Int × Int × Int × Int × Int × Int) (t3 : Int) (t4 : List D) (e : (List D)) : List (Nat × AV) := [(5, .own 170 0)]
noncomputable def XH_field_dark_L5 (a0 : List D) (a1 : Int) (a2 : Int) (a3 : Int) (a4 : Int) (a5 : Int) (t1 : ByteArray × Int × Int × Int × Int × Int × Int × Int × Int × Int) (t3 : Int) (t4 : List D) (e : (List D)) : List (Nat × Blk) := [(0, .box (.d (.lst false 10 a0))), (1, .box (.d (I a1))), (2, .box (.d (.agg [I a2, I a3, I a4]))), (3, .box (.d (I a5))), (9, .box (.d (.agg [.v (.string t1.1), I t1.2.1, I t1.2.2.1, I t1.2.2.2.1, I t1.2.2.2.2.1, I t1.2.2.2.2.2.1, I t1.2.2.2.2.2.2.1, I t1.2.2.2.2.2.2.2.1, I t1.2.2.2.2.2.2.2.2.1, I t1.2.2.2.2.2.2.2.2.2]))), (16, .box (.d (B (decide (t3 > 0))))), (25, .box (.d (.agg [.v (.string t1.1), I t1.2.1, I t1.2.2.1, I t1.2.2.2.1, I t1.2.2.2.2.1, I t1.2.2.2.2.2.1, I t1.2.2.2.2.2.2.1, I t1.2.2.2.2.2.2.2.1, I t1.2.2.2.2.2.2.2.2.1, I t1.2.2.2.2.2.2.2.2.2]))), (26, .box (.d (I a5))), (34, .box (.own 87 0)), (37, .dead), (87, .row 0 4 t4), (170, .row 0 1 e)]
theorem R_field_dark_L5 {n : Nat} {a0 : List D} {a1 : Int} {a2 : Int} {a3 : Int} {a4 : Int} {a5 : Int} {t1 : ByteArray × Int × Int × Int × Int × Int × Int × Int × Int × Int} {t3 : Int} {t4 : List D} (sa : (Int × List D)) (r) (h : F_field_dark_L5 n a0 a1 a2 a3 a4 a5 t1 t3 t4 sa = some r) : Rd cx (loopAt cx.P 129 0) 22 165 false (T_field_dark_L5 a0 a1 a2 a3 a4 a5 t1 t3 t4) (H_field_dark_L5 a0 a1 a2 a3 a4 a5 t1 t3 t4) (X_field_dark_L5 a0 a1 a2 a3 a4 a5 t1 t3 t4) (XT_field_dark_L5 a0 a1 a2 a3 a4 a5 t1 t3 t4) (XH_field_dark_L5 a0 a1 a2 a3 a4 a5 t1 t3 t4) sa r := by
  unfold F_field_dark_L5 at h
  by_cases ha1 : sa.1 < ((t4).length : Int)
  · replace h := ite_t h ha1
    obtain ⟨ha2, h⟩ := grd_of h
    obtain ⟨ta3, ha3, h⟩ := bnd_of h
    by_cases ha4 : (decide (t3 > 0)) = true
    · replace h := ite_t h ha4
      obtain ⟨ta5, ha5, h⟩ := bnd_of h
      obtain ⟨ha6, h⟩ := grd_of h
      obtain ⟨ha7, h⟩ := grd_of h
      replace h := Option.some.inj h
      subst h
      exact ⟨100, 171, [.br true, .br true, .el (.agg [I ta3.1, I ta3.2.1, I ta3.2.2.1, I ta3.2.2.2]), .br true, .br false, .ret (B ta5), .br true], [], [1, 5, 8, 9, 10], [0, 1, 2, 3, 9, 16, 25, 26, 34, 37, 87, 170], round_of (ob := [inI64 (sa.1 + 1), room cx 4 ((sa.2).length + 1), Computes cx 131 [.lst false 10 a0, I a1, I a5, .agg [I ta3.2.1, I ta3.2.2.1, I ta3.2.2.2, I a2, I a3, I a4, B false]] (B ta5), (!(decide (t3 > 0))) = false, nth (t4) (Int.toNat sa.1) = some (.agg [I ta3.1, I ta3.2.1, I ta3.2.2.1, I ta3.2.2.2]), 0 ≤ sa.1 ∧ sa.1 < ((t4).length : Int), (decide (sa.1 < ((t4).length : Int))) = true]) (by kernel_rfl) ⟨ha7, (room_of (b := 1) (by kernel_rfl) (by decide) ha6), (c_field_met ha5), (notf ha4), nel_ok un_Ai4Z_ok ha3, ha2, (decide_eq_true ha1), trivial⟩⟩
    · replace h := ite_f h ha4
      obtain ⟨ha5, h⟩ := grd_of h
      obtain ⟨ha6, h⟩ := grd_of h
      replace h := Option.some.inj h
      subst h
      exact ⟨100, 171, [.br true, .br true, .el (.agg [I ta3.1, I ta3.2.1, I ta3.2.2.1, I ta3.2.2.2]), .br true, .br true, .br true], [], [1, 5, 8, 9, 10], [0, 1, 2, 3, 9, 16, 25, 26, 34, 37, 87, 170], round_of (ob := [inI64 (sa.1 + 1), room cx 4 ((sa.2).length + 1), (!(decide (t3 > 0))) = true, nth (t4) (Int.toNat sa.1) = some (.agg [I ta3.1, I ta3.2.1, I ta3.2.2.1, I ta3.2.2.2]), 0 ≤ sa.1 ∧ sa.1 < ((t4).length : Int), (decide (sa.1 < ((t4).length : Int))) = true]) (by kernel_rfl) ⟨ha6, (room_of (b := 1) (by kernel_rfl) (by decide) ha5), (nott (bfalse ha4)), nel_ok un_Ai4Z_ok ha3, ha2, (decide_eq_true ha1), trivial⟩⟩
  · replace h := ite_f h ha1
    replace h := Option.some.inj h
    subst h
    exact ⟨⟨100, 171, [.br false], [], [5], [0, 1, 2, 3, 9, 16, 25, 26, 34, 37, 87, 170], round_of (ob := [(decide (sa.1 < ((t4).length : Int))) = false]) (by kernel_rfl) ⟨(decide_eq_false ha1), trivial⟩⟩, nofun⟩
/- spillage/field.dark: .lst false 10 a0, I a1, .agg [I a2, I a3, I a4], I a5 -/
def F_field_dark (n : Nat) (a0 : List D) (a1 : Int) (a2 : Int) (a3 : Int) (a4 : Int) (a5 : Int) : Option (List D) :=
  (el un_Asi9Z a0 a1).bind fun t1 =>
  (F_field_Mirror_normal n t1.1 t1.2.1 t1.2.2.1 t1.2.2.2.1 t1.2.2.2.2.1 t1.2.2.2.2.2.1 t1.2.2.2.2.2.2.1 t1.2.2.2.2.2.2.2.1 t1.2.2.2.2.2.2.2.2.1 t1.2.2.2.2.2.2.2.2.2).bind fun t2 =>
  (F_field_dot n t2.1 t2.2.1 t2.2.2 a2 a3 a4).bind fun t3 =>
  (loopF (F_field_dark_L4 n a0 a1 a2 a3 a4 a5 t1 t3) n (.inl 0)).bind fun t4 => match t4 with
    | (.inl t4) => (
      some [])
    | (.inr t4) => (
      (loopF (F_field_dark_L5 n a0 a1 a2 a3 a4 a5 t1 t3 t4) n (0, [])).bind fun t5 =>
      some t5)
theorem c_field_dark {n : Nat} {a0 : List D} {a1 : Int} {a2 : Int} {a3 : Int} {a4 : Int} {a5 : Int} {r : List D} (h : F_field_dark n a0 a1 a2 a3 a4 a5 = some r) : Computes cx 96 [.lst false 10 a0, I a1, .agg [I a2, I a3, I a4], I a5] (.lst false 1 r) := by
  unfold F_field_dark at h
  obtain ⟨t1, h1, h⟩ := bnd_of h
  obtain ⟨t2, h2, h⟩ := bnd_of h
  obtain ⟨t3, h3, h⟩ := bnd_of h
  obtain ⟨t4, h4, h⟩ := bnd_of h
  rcases t4 with t4 | t4
  · replace h := Option.some.inj h
    subst h
    exact (run (n := 100) (f := 96) (args := [.lst false 10 a0, I a1, .agg [I a2, I a3, I a4], I a5]) (orc := [.el (.agg [.v (.string t1.1), I t1.2.1, I t1.2.2.1, I t1.2.2.2.1, I t1.2.2.2.2.1, I t1.2.2.2.2.2.1, I t1.2.2.2.2.2.2.1, I t1.2.2.2.2.2.2.2.1, I t1.2.2.2.2.2.2.2.2.1, I t1.2.2.2.2.2.2.2.2.2]), .ret (.agg [I t2.1, I t2.2.1, I t2.2.2]), .ret (I t3), .br true, .br true, .br true, .lp [] [0, 1, 2, 7, 8] [0, 1, 2, 3, 9, 16, 25, 26, 34, 37] (.exit 0) [] [(0, .box (.d (.lst false 10 a0))), (1, .box (.d (I a1))), (2, .box (.d (.agg [I a2, I a3, I a4]))), (3, .box (.d (I a5))), (9, .box (.d (.agg [.v (.string t1.1), I t1.2.1, I t1.2.2.1, I t1.2.2.2.1, I t1.2.2.2.2.1, I t1.2.2.2.2.2.1, I t1.2.2.2.2.2.2.1, I t1.2.2.2.2.2.2.2.1, I t1.2.2.2.2.2.2.2.2.1, I t1.2.2.2.2.2.2.2.2.2]))), (16, .box (.d (B (decide (t3 > 0))))), (25, .box (.d (.agg [.v (.string t1.1), I t1.2.1, I t1.2.2.1, I t1.2.2.2.1, I t1.2.2.2.2.1, I t1.2.2.2.2.2.1, I t1.2.2.2.2.2.2.1, I t1.2.2.2.2.2.2.2.1, I t1.2.2.2.2.2.2.2.2.1, I t1.2.2.2.2.2.2.2.2.2]))), (26, .box (.d (I a5))), (34, .box (.d (.lst true 0 []))), (37, .loop true [(6, .fn (.func 128) [] [.ptr 26 0 0 0 0, .ptr 25 0 0 0 0]), (4, .d (.lst true 0 [])), (2, .ptr 34 0 0 0 0), (1, .fn (.func 128) [] [.ptr 26 0 0 0 0, .ptr 25 0 0 0 0]), (0, .d (.lst true 0 []))] [7] (rangeAt cx.P 127 0).1 (rangeAt cx.P 127 0).2 13)] 163, .br true, .no, .no]) (r := .lst true 0 []) (ob := [LoopN cx (loopAt cx.P 128 0) 49 38 false [(0, .own 37 0), (1, .ptr 26 0 0 0 0), (2, .ptr 25 0 0 0 0), (7, .d (I a5)), (8, .d (I 0))] [(0, .box (.d (.lst false 10 a0))), (1, .box (.d (I a1))), (2, .box (.d (.agg [I a2, I a3, I a4]))), (3, .box (.d (I a5))), (9, .box (.d (.agg [.v (.string t1.1), I t1.2.1, I t1.2.2.1, I t1.2.2.2.1, I t1.2.2.2.2.1, I t1.2.2.2.2.2.1, I t1.2.2.2.2.2.2.1, I t1.2.2.2.2.2.2.2.1, I t1.2.2.2.2.2.2.2.2.1, I t1.2.2.2.2.2.2.2.2.2]))), (16, .box (.d (B (decide (t3 > 0))))), (25, .box (.d (.agg [.v (.string t1.1), I t1.2.1, I t1.2.2.1, I t1.2.2.2.1, I t1.2.2.2.2.1, I t1.2.2.2.2.2.1, I t1.2.2.2.2.2.2.1, I t1.2.2.2.2.2.2.2.1, I t1.2.2.2.2.2.2.2.2.1, I t1.2.2.2.2.2.2.2.2.2]))), (26, .box (.d (I a5))), (34, .box (.d (.lst true 0 []))), (37, .loop true [(6, .fn (.func 128) [] [.ptr 26 0 0 0 0, .ptr 25 0 0 0 0]), (4, .d (.lst true 0 [])), (2, .ptr 34 0 0 0 0), (1, .fn (.func 128) [] [.ptr 26 0 0 0 0, .ptr 25 0 0 0 0]), (0, .d (.lst true 0 []))] [7] (rangeAt cx.P 127 0).1 (rangeAt cx.P 127 0).2 13)] (.exit 0) [] [(0, .box (.d (.lst false 10 a0))), (1, .box (.d (I a1))), (2, .box (.d (.agg [I a2, I a3, I a4]))), (3, .box (.d (I a5))), (9, .box (.d (.agg [.v (.string t1.1), I t1.2.1, I t1.2.2.1, I t1.2.2.2.1, I t1.2.2.2.2.1, I t1.2.2.2.2.2.1, I t1.2.2.2.2.2.2.1, I t1.2.2.2.2.2.2.2.1, I t1.2.2.2.2.2.2.2.2.1, I t1.2.2.2.2.2.2.2.2.2]))), (16, .box (.d (B (decide (t3 > 0))))), (25, .box (.d (.agg [.v (.string t1.1), I t1.2.1, I t1.2.2.1, I t1.2.2.2.1, I t1.2.2.2.2.1, I t1.2.2.2.2.2.1, I t1.2.2.2.2.2.2.1, I t1.2.2.2.2.2.2.2.1, I t1.2.2.2.2.2.2.2.2.1, I t1.2.2.2.2.2.2.2.2.2]))), (26, .box (.d (I a5))), (34, .box (.d (.lst true 0 []))), (37, .loop true [(6, .fn (.func 128) [] [.ptr 26 0 0 0 0, .ptr 25 0 0 0 0]), (4, .d (.lst true 0 [])), (2, .ptr 34 0 0 0 0), (1, .fn (.func 128) [] [.ptr 26 0 0 0 0, .ptr 25 0 0 0 0]), (0, .d (.lst true 0 []))] [7] (rangeAt cx.P 127 0).1 (rangeAt cx.P 127 0).2 13)], Computes cx 65 [.agg [I t2.1, I t2.2.1, I t2.2.2], .agg [I a2, I a3, I a4]] (I t3), Computes cx 66 [.agg [.v (.string t1.1), I t1.2.1, I t1.2.2.1, I t1.2.2.2.1, I t1.2.2.2.2.1, I t1.2.2.2.2.2.1, I t1.2.2.2.2.2.2.1, I t1.2.2.2.2.2.2.2.1, I t1.2.2.2.2.2.2.2.2.1, I t1.2.2.2.2.2.2.2.2.2]] (.agg [I t2.1, I t2.2.1, I t2.2.2]), (0 : Int) ≤ a1, nth (a0) (Int.toNat a1) = some (.agg [.v (.string t1.1), I t1.2.1, I t1.2.2.1, I t1.2.2.2.1, I t1.2.2.2.2.1, I t1.2.2.2.2.2.1, I t1.2.2.2.2.2.2.1, I t1.2.2.2.2.2.2.2.1, I t1.2.2.2.2.2.2.2.2.1, I t1.2.2.2.2.2.2.2.2.2])]) (by kernel_rfl) ⟨(loopF_to R_field_dark_L4 h4), (c_field_dot h3), (c_field_Mirror_normal h2), (el_ok un_Asi9Z_ok h1).1, (el_ok un_Asi9Z_ok h1).2, trivial⟩).le (LEs.refl _) (.lst _ _ _ _ _ nofun (.inl rfl))
  · obtain ⟨t5, h5, h⟩ := bnd_of h
    replace h := Option.some.inj h
    subst h
    exact run (n := 100) (f := 96) (args := [.lst false 10 a0, I a1, .agg [I a2, I a3, I a4], I a5]) (orc := [.el (.agg [.v (.string t1.1), I t1.2.1, I t1.2.2.1, I t1.2.2.2.1, I t1.2.2.2.2.1, I t1.2.2.2.2.2.1, I t1.2.2.2.2.2.2.1, I t1.2.2.2.2.2.2.2.1, I t1.2.2.2.2.2.2.2.2.1, I t1.2.2.2.2.2.2.2.2.2]), .ret (.agg [I t2.1, I t2.2.1, I t2.2.2]), .ret (I t3), .br true, .br true, .br true, .lp [] [0, 1, 2, 7, 8] [0, 1, 2, 3, 9, 16, 25, 26, 34, 37] (.exit 0) [] [(0, .box (.d (.lst false 10 a0))), (1, .box (.d (I a1))), (2, .box (.d (.agg [I a2, I a3, I a4]))), (3, .box (.d (I a5))), (9, .box (.d (.agg [.v (.string t1.1), I t1.2.1, I t1.2.2.1, I t1.2.2.2.1, I t1.2.2.2.2.1, I t1.2.2.2.2.2.1, I t1.2.2.2.2.2.2.1, I t1.2.2.2.2.2.2.2.1, I t1.2.2.2.2.2.2.2.2.1, I t1.2.2.2.2.2.2.2.2.2]))), (16, .box (.d (B (decide (t3 > 0))))), (25, .box (.d (.agg [.v (.string t1.1), I t1.2.1, I t1.2.2.1, I t1.2.2.2.1, I t1.2.2.2.2.1, I t1.2.2.2.2.2.1, I t1.2.2.2.2.2.2.1, I t1.2.2.2.2.2.2.2.1, I t1.2.2.2.2.2.2.2.2.1, I t1.2.2.2.2.2.2.2.2.2]))), (26, .box (.d (I a5))), (34, .box (.own 87 0)), (37, .loop true [(6, .fn (.func 128) [] [.ptr 26 0 0 0 0, .ptr 25 0 0 0 0]), (4, .d (.lst true 0 [])), (2, .ptr 34 0 0 0 0), (1, .fn (.func 128) [] [.ptr 26 0 0 0 0, .ptr 25 0 0 0 0]), (0, .d (.lst true 0 []))] [7] (rangeAt cx.P 127 0).1 (rangeAt cx.P 127 0).2 13), (87, .row 0 4 t4)] 163, .br true, .lp [5, 1] [1, 5, 8, 9, 10] [0, 1, 2, 3, 9, 16, 25, 26, 34, 37, 87, 170] (.exit 0) [(5, .own 170 0)] [(0, .box (.d (.lst false 10 a0))), (1, .box (.d (I a1))), (2, .box (.d (.agg [I a2, I a3, I a4]))), (3, .box (.d (I a5))), (9, .box (.d (.agg [.v (.string t1.1), I t1.2.1, I t1.2.2.1, I t1.2.2.2.1, I t1.2.2.2.2.1, I t1.2.2.2.2.2.1, I t1.2.2.2.2.2.2.1, I t1.2.2.2.2.2.2.2.1, I t1.2.2.2.2.2.2.2.2.1, I t1.2.2.2.2.2.2.2.2.2]))), (16, .box (.d (B (decide (t3 > 0))))), (25, .box (.d (.agg [.v (.string t1.1), I t1.2.1, I t1.2.2.1, I t1.2.2.2.1, I t1.2.2.2.2.1, I t1.2.2.2.2.2.1, I t1.2.2.2.2.2.2.1, I t1.2.2.2.2.2.2.2.1, I t1.2.2.2.2.2.2.2.2.1, I t1.2.2.2.2.2.2.2.2.2]))), (26, .box (.d (I a5))), (34, .box (.own 87 0)), (37, .dead), (87, .row 0 4 t4), (170, .row 0 1 t5)] 211]) (r := .lst false 1 t5) (ob := [LoopN cx (loopAt cx.P 129 0) 22 165 false [(1, .fn (.func 130) [] [.ptr 16 0 0 0 0, .ptr 0 0 0 0 0, .ptr 1 0 0 0 0, .ptr 3 0 0 0 0, .ptr 2 0 0 0 0]), (5, .own 170 0), (8, .own 87 0), (9, .d (I ((t4).length : Int))), (10, .d (I 0))] [(0, .box (.d (.lst false 10 a0))), (1, .box (.d (I a1))), (2, .box (.d (.agg [I a2, I a3, I a4]))), (3, .box (.d (I a5))), (9, .box (.d (.agg [.v (.string t1.1), I t1.2.1, I t1.2.2.1, I t1.2.2.2.1, I t1.2.2.2.2.1, I t1.2.2.2.2.2.1, I t1.2.2.2.2.2.2.1, I t1.2.2.2.2.2.2.2.1, I t1.2.2.2.2.2.2.2.2.1, I t1.2.2.2.2.2.2.2.2.2]))), (16, .box (.d (B (decide (t3 > 0))))), (25, .box (.d (.agg [.v (.string t1.1), I t1.2.1, I t1.2.2.1, I t1.2.2.2.1, I t1.2.2.2.2.1, I t1.2.2.2.2.2.1, I t1.2.2.2.2.2.2.1, I t1.2.2.2.2.2.2.2.1, I t1.2.2.2.2.2.2.2.2.1, I t1.2.2.2.2.2.2.2.2.2]))), (26, .box (.d (I a5))), (34, .box (.own 87 0)), (37, .dead), (87, .row 0 4 t4), (170, .row 0 1 [])] (.exit 0) [(5, .own 170 0)] [(0, .box (.d (.lst false 10 a0))), (1, .box (.d (I a1))), (2, .box (.d (.agg [I a2, I a3, I a4]))), (3, .box (.d (I a5))), (9, .box (.d (.agg [.v (.string t1.1), I t1.2.1, I t1.2.2.1, I t1.2.2.2.1, I t1.2.2.2.2.1, I t1.2.2.2.2.2.1, I t1.2.2.2.2.2.2.1, I t1.2.2.2.2.2.2.2.1, I t1.2.2.2.2.2.2.2.2.1, I t1.2.2.2.2.2.2.2.2.2]))), (16, .box (.d (B (decide (t3 > 0))))), (25, .box (.d (.agg [.v (.string t1.1), I t1.2.1, I t1.2.2.1, I t1.2.2.2.1, I t1.2.2.2.2.1, I t1.2.2.2.2.2.1, I t1.2.2.2.2.2.2.1, I t1.2.2.2.2.2.2.2.1, I t1.2.2.2.2.2.2.2.2.1, I t1.2.2.2.2.2.2.2.2.2]))), (26, .box (.d (I a5))), (34, .box (.own 87 0)), (37, .dead), (87, .row 0 4 t4), (170, .row 0 1 t5)], LoopN cx (loopAt cx.P 128 0) 49 38 false [(0, .own 37 0), (1, .ptr 26 0 0 0 0), (2, .ptr 25 0 0 0 0), (7, .d (I a5)), (8, .d (I 0))] [(0, .box (.d (.lst false 10 a0))), (1, .box (.d (I a1))), (2, .box (.d (.agg [I a2, I a3, I a4]))), (3, .box (.d (I a5))), (9, .box (.d (.agg [.v (.string t1.1), I t1.2.1, I t1.2.2.1, I t1.2.2.2.1, I t1.2.2.2.2.1, I t1.2.2.2.2.2.1, I t1.2.2.2.2.2.2.1, I t1.2.2.2.2.2.2.2.1, I t1.2.2.2.2.2.2.2.2.1, I t1.2.2.2.2.2.2.2.2.2]))), (16, .box (.d (B (decide (t3 > 0))))), (25, .box (.d (.agg [.v (.string t1.1), I t1.2.1, I t1.2.2.1, I t1.2.2.2.1, I t1.2.2.2.2.1, I t1.2.2.2.2.2.1, I t1.2.2.2.2.2.2.1, I t1.2.2.2.2.2.2.2.1, I t1.2.2.2.2.2.2.2.2.1, I t1.2.2.2.2.2.2.2.2.2]))), (26, .box (.d (I a5))), (34, .box (.d (.lst true 0 []))), (37, .loop true [(6, .fn (.func 128) [] [.ptr 26 0 0 0 0, .ptr 25 0 0 0 0]), (4, .d (.lst true 0 [])), (2, .ptr 34 0 0 0 0), (1, .fn (.func 128) [] [.ptr 26 0 0 0 0, .ptr 25 0 0 0 0]), (0, .d (.lst true 0 []))] [7] (rangeAt cx.P 127 0).1 (rangeAt cx.P 127 0).2 13)] (.exit 0) [] [(0, .box (.d (.lst false 10 a0))), (1, .box (.d (I a1))), (2, .box (.d (.agg [I a2, I a3, I a4]))), (3, .box (.d (I a5))), (9, .box (.d (.agg [.v (.string t1.1), I t1.2.1, I t1.2.2.1, I t1.2.2.2.1, I t1.2.2.2.2.1, I t1.2.2.2.2.2.1, I t1.2.2.2.2.2.2.1, I t1.2.2.2.2.2.2.2.1, I t1.2.2.2.2.2.2.2.2.1, I t1.2.2.2.2.2.2.2.2.2]))), (16, .box (.d (B (decide (t3 > 0))))), (25, .box (.d (.agg [.v (.string t1.1), I t1.2.1, I t1.2.2.1, I t1.2.2.2.1, I t1.2.2.2.2.1, I t1.2.2.2.2.2.1, I t1.2.2.2.2.2.2.1, I t1.2.2.2.2.2.2.2.1, I t1.2.2.2.2.2.2.2.2.1, I t1.2.2.2.2.2.2.2.2.2]))), (26, .box (.d (I a5))), (34, .box (.own 87 0)), (37, .loop true [(6, .fn (.func 128) [] [.ptr 26 0 0 0 0, .ptr 25 0 0 0 0]), (4, .d (.lst true 0 [])), (2, .ptr 34 0 0 0 0), (1, .fn (.func 128) [] [.ptr 26 0 0 0 0, .ptr 25 0 0 0 0]), (0, .d (.lst true 0 []))] [7] (rangeAt cx.P 127 0).1 (rangeAt cx.P 127 0).2 13), (87, .row 0 4 t4)], Computes cx 65 [.agg [I t2.1, I t2.2.1, I t2.2.2], .agg [I a2, I a3, I a4]] (I t3), Computes cx 66 [.agg [.v (.string t1.1), I t1.2.1, I t1.2.2.1, I t1.2.2.2.1, I t1.2.2.2.2.1, I t1.2.2.2.2.2.1, I t1.2.2.2.2.2.2.1, I t1.2.2.2.2.2.2.2.1, I t1.2.2.2.2.2.2.2.2.1, I t1.2.2.2.2.2.2.2.2.2]] (.agg [I t2.1, I t2.2.1, I t2.2.2]), (0 : Int) ≤ a1, nth (a0) (Int.toNat a1) = some (.agg [.v (.string t1.1), I t1.2.1, I t1.2.2.1, I t1.2.2.2.1, I t1.2.2.2.2.1, I t1.2.2.2.2.2.1, I t1.2.2.2.2.2.2.1, I t1.2.2.2.2.2.2.2.1, I t1.2.2.2.2.2.2.2.2.1, I t1.2.2.2.2.2.2.2.2.2])]) (by kernel_rfl) ⟨(loopF_to R_field_dark_L5 h5), (loopF_to R_field_dark_L4 h4), (c_field_dot h3), (c_field_Mirror_normal h2), (el_ok un_Asi9Z_ok h1).1, (el_ok un_Asi9Z_ok h1).2, trivial⟩
/- spillage/field.Dark: .lst false 10 a0, I a1, .agg [I a2, I a3, I a4], I a5 -/
def F_field_Dark (n : Nat) (a0 : List D) (a1 : Int) (a2 : Int) (a3 : Int) (a4 : Int) (a5 : Int) : Option (List D × Int) :=
  (F_field_checkIndex n a0 a1).bind fun t1 =>
  (F_field_checkDirection n a2 a3 a4 1024).bind fun t2 =>
  (F_field_checkK n a5).bind fun t3 =>
  (F_field_first n ([I t1, I t2, I t3])).bind fun t4 =>
  if t4 = 0 then
    (F_field_dark n a0 a1 a2 a3 a4 a5).bind fun t6 =>
    some (t6, 0)
  else
  some ([], t4)
theorem c_field_Dark {n : Nat} {a0 : List D} {a1 : Int} {a2 : Int} {a3 : Int} {a4 : Int} {a5 : Int} {r : List D × Int} (h : F_field_Dark n a0 a1 a2 a3 a4 a5 = some r) : Computes cx 42 [.lst false 10 a0, I a1, .agg [I a2, I a3, I a4], I a5] (.tup [.lst false 1 r.1, I r.2]) := by
  unfold F_field_Dark at h
  obtain ⟨t1, h1, h⟩ := bnd_of h
  obtain ⟨t2, h2, h⟩ := bnd_of h
  obtain ⟨t3, h3, h⟩ := bnd_of h
  obtain ⟨t4, h4, h⟩ := bnd_of h
  by_cases h5 : t4 = 0
  · replace h := ite_t h h5
    obtain ⟨t6, h6, h⟩ := bnd_of h
    replace h := Option.some.inj h
    subst h
    exact run (n := 100) (f := 42) (args := [.lst false 10 a0, I a1, .agg [I a2, I a3, I a4], I a5]) (orc := [.ret (I t1), .ret (I t2), .ret (I t3), .ret (I t4), .br false, .ret (.lst false 1 t6)]) (r := .tup [.lst false 1 t6, I 0]) (ob := [Computes cx 96 [.lst false 10 a0, I a1, .agg [I a2, I a3, I a4], I a5] (.lst false 1 t6), (t4 != 0) = false, Computes cx 62 [.lst true 1 [I t1, I t2, I t3]] (I t4), Computes cx 81 [I a5] (I t3), Computes cx 64 [.agg [I a2, I a3, I a4], I 1024] (I t2), Computes cx 95 [.lst false 10 a0, I a1] (I t1)]) (by kernel_rfl) ⟨(c_field_dark h6), (nef h5), ((c_field_first h4).le (.cons (.full _ _ _) (.nil)) (.refl _)), (c_field_checkK h3), (c_field_checkDirection h2), (c_field_checkIndex h1), trivial⟩
  · replace h := ite_f h h5
    replace h := Option.some.inj h
    subst h
    exact (run (n := 100) (f := 42) (args := [.lst false 10 a0, I a1, .agg [I a2, I a3, I a4], I a5]) (orc := [.ret (I t1), .ret (I t2), .ret (I t3), .ret (I t4), .br true]) (r := .tup [.lst true 0 [], I t4]) (ob := [(t4 != 0) = true, Computes cx 62 [.lst true 1 [I t1, I t2, I t3]] (I t4), Computes cx 81 [I a5] (I t3), Computes cx 64 [.agg [I a2, I a3, I a4], I 1024] (I t2), Computes cx 95 [.lst false 10 a0, I a1] (I t1)]) (by kernel_rfl) ⟨(net h5), ((c_field_first h4).le (.cons (.full _ _ _) (.nil)) (.refl _)), (c_field_checkK h3), (c_field_checkDirection h2), (c_field_checkIndex h1), trivial⟩).le (LEs.refl _) (.tups (.cons (.lst _ _ _ _ _ nofun (.inl rfl)) (.cons (.refl _) (.nil))))
def F_field_blocked_L2 (n : Nat) (a0 : List D) (a1 : Int) (a2 : Int) (a3 : Int) (a4 : Int) (a5 : Int) (t1 : ByteArray × Int × Int × Int × Int × Int × Int × Int × Int × Int) (sa : Int) (sb : (Unit) ⊕ (Int × List D)) : Option (((Unit) ⊕ (Int × List D)) ⊕ ((Unit) ⊕ (List D))) := match sb with
  | (.inl sb) => (
    if 0 < a5 then
      (F_field_times n a5 t1.2.1 t1.2.2.1 t1.2.2.2.1).bind fun tb2 =>
      if inI64 (1 - a5) then
      (F_field_times n (1 - a5) t1.2.2.2.2.1 t1.2.2.2.2.2.1 t1.2.2.2.2.2.2.1).bind fun tb4 =>
      if inI64 (2 * sa) then
      if inI64 ((2 * sa) + 1) then
      if inI64 (((2 * sa) + 1) - a5) then
      (F_field_times n (((2 * sa) + 1) - a5) t1.2.2.2.2.2.2.2.1 t1.2.2.2.2.2.2.2.2.1 t1.2.2.2.2.2.2.2.2.2).bind fun tb8 =>
      (F_field_plus n tb4.1 tb4.2.1 tb4.2.2 tb8.1 tb8.2.1 tb8.2.2).bind fun tb9 =>
      (F_field_plus n tb2.1 tb2.2.1 tb2.2.2 tb9.1 tb9.2.1 tb9.2.2).bind fun tb10 =>
      if inI64 (sa * a5) then
      if inI64 ((sa * a5) + 0) then
      some (.inl (.inr (1, [.agg [I ((sa * a5) + 0), I tb10.1, I tb10.2.1, I tb10.2.2]])))
      else none
      else none
      else none
      else none
      else none
      else none
    else
    some (.inr (.inl ())))
  | (.inr sb) => (
    if sb.1 < a5 then
      (F_field_times n a5 t1.2.1 t1.2.2.1 t1.2.2.2.1).bind fun tb2 =>
      if inI64 (2 * sb.1) then
      if inI64 ((2 * sb.1) + 1) then
      if inI64 (((2 * sb.1) + 1) - a5) then
      (F_field_times n (((2 * sb.1) + 1) - a5) t1.2.2.2.2.1 t1.2.2.2.2.2.1 t1.2.2.2.2.2.2.1).bind fun tb6 =>
      if inI64 (2 * sa) then
      if inI64 ((2 * sa) + 1) then
      if inI64 (((2 * sa) + 1) - a5) then
      (F_field_times n (((2 * sa) + 1) - a5) t1.2.2.2.2.2.2.2.1 t1.2.2.2.2.2.2.2.2.1 t1.2.2.2.2.2.2.2.2.2).bind fun tb10 =>
      (F_field_plus n tb6.1 tb6.2.1 tb6.2.2 tb10.1 tb10.2.1 tb10.2.2).bind fun tb11 =>
      (F_field_plus n tb2.1 tb2.2.1 tb2.2.2 tb11.1 tb11.2.1 tb11.2.2).bind fun tb12 =>
      if inI64 (sa * a5) then
      if inI64 ((sa * a5) + sb.1) then
      if roomP 32 ((sb.2).length + 1) then
      if inI64 (sb.1 + 1) then
      some (.inl (.inr ((sb.1 + 1), (sb.2 ++ ([.agg [I ((sa * a5) + sb.1), I tb12.1, I tb12.2.1, I tb12.2.2]] : List D)))))
      else none
      else none
      else none
      else none
      else none
      else none
      else none
      else none
      else none
      else none
    else
    some (.inr (.inr sb.2)))
noncomputable def T_field_blocked_L2 (a0 : List D) (a1 : Int) (a2 : Int) (a3 : Int) (a4 : Int) (a5 : Int) (t1 : ByteArray × Int × Int × Int × Int × Int × Int × Int × Int × Int) (sa : Int) (sb : (Unit) ⊕ (Int × List D)) : List (Nat × AV) := match sb with
  | (.inl sb) => [(0, .own 30 0), (1, .ptr 19 0 0 0 0), (2, .ptr 18 0 0 0 0), (4, .d (I sa)), (7, .d (I a5)), (8, .d (I sa)), (11, .d (I a5)), (12, .d (I 0))]
  | (.inr sb) => [(0, .own 30 0), (1, .ptr 19 0 0 0 0), (2, .ptr 18 0 0 0 0), (4, .d (I sa)), (7, .d (I a5)), (8, .d (I sa)), (11, .d (I a5)), (12, .d (I sb.1))]
noncomputable def H_field_blocked_L2 (a0 : List D) (a1 : Int) (a2 : Int) (a3 : Int) (a4 : Int) (a5 : Int) (t1 : ByteArray × Int × Int × Int × Int × Int × Int × Int × Int × Int) (sa : Int) (sb : (Unit) ⊕ (Int × List D)) : List (Nat × Blk) := match sb with
  | (.inl sb) => [(0, .box (.d (.lst false 10 a0))), (1, .box (.d (I a1))), (2, .box (.d (.agg [I a2, I a3, I a4]))), (3, .box (.d (I a5))), (9, .box (.d (.agg [.v (.string t1.1), I t1.2.1, I t1.2.2.1, I t1.2.2.2.1, I t1.2.2.2.2.1, I t1.2.2.2.2.2.1, I t1.2.2.2.2.2.2.1, I t1.2.2.2.2.2.2.2.1, I t1.2.2.2.2.2.2.2.2.1, I t1.2.2.2.2.2.2.2.2.2]))), (18, .box (.d (.agg [.v (.string t1.1), I t1.2.1, I t1.2.2.1, I t1.2.2.2.1, I t1.2.2.2.2.1, I t1.2.2.2.2.2.1, I t1.2.2.2.2.2.2.1, I t1.2.2.2.2.2.2.2.1, I t1.2.2.2.2.2.2.2.2.1, I t1.2.2.2.2.2.2.2.2.2]))), (19, .box (.d (I a5))), (27, .box (.d (.lst true 0 []))), (30, .loop true [(6, .fn (.func 128) [] [.ptr 19 0 0 0 0, .ptr 18 0 0 0 0]), (4, .d (.lst true 0 [])), (2, .ptr 27 0 0 0 0), (1, .fn (.func 128) [] [.ptr 19 0 0 0 0, .ptr 18 0 0 0 0]), (0, .d (.lst true 0 []))] [7] (rangeAt cx.P 127 0).1 (rangeAt cx.P 127 0).2 13)]
  | (.inr sb) => [(0, .box (.d (.lst false 10 a0))), (1, .box (.d (I a1))), (2, .box (.d (.agg [I a2, I a3, I a4]))), (3, .box (.d (I a5))), (9, .box (.d (.agg [.v (.string t1.1), I t1.2.1, I t1.2.2.1, I t1.2.2.2.1, I t1.2.2.2.2.1, I t1.2.2.2.2.2.1, I t1.2.2.2.2.2.2.1, I t1.2.2.2.2.2.2.2.1, I t1.2.2.2.2.2.2.2.2.1, I t1.2.2.2.2.2.2.2.2.2]))), (18, .box (.d (.agg [.v (.string t1.1), I t1.2.1, I t1.2.2.1, I t1.2.2.2.1, I t1.2.2.2.2.1, I t1.2.2.2.2.2.1, I t1.2.2.2.2.2.2.1, I t1.2.2.2.2.2.2.2.1, I t1.2.2.2.2.2.2.2.2.1, I t1.2.2.2.2.2.2.2.2.2]))), (19, .box (.d (I a5))), (27, .box (.own 80 0)), (30, .loop true [(6, .fn (.func 128) [] [.ptr 19 0 0 0 0, .ptr 18 0 0 0 0]), (4, .d (.lst true 0 [])), (2, .ptr 27 0 0 0 0), (1, .fn (.func 128) [] [.ptr 19 0 0 0 0, .ptr 18 0 0 0 0]), (0, .d (.lst true 0 []))] [7] (rangeAt cx.P 127 0).1 (rangeAt cx.P 127 0).2 13), (80, .row 0 4 sb.2)]
noncomputable def X_field_blocked_L2 (a0 : List D) (a1 : Int) (a2 : Int) (a3 : Int) (a4 : Int) (a5 : Int) (t1 : ByteArray × Int × Int × Int × Int × Int × Int × Int × Int × Int) (sa : Int) (e : (Unit) ⊕ (List D)) : Ex := match e with
  | (.inl e) => (.exit 2)
  | (.inr e) => (.exit 2)
noncomputable def XT_field_blocked_L2 (a0 : List D) (a1 : Int) (a2 : Int) (a3 : Int) (a4 : Int) (a5 : Int) (t1 : ByteArray × Int × Int × Int × Int × Int × Int × Int × Int × Int) (sa : Int) (e : (Unit) ⊕ (List D)) : List (Nat × AV) := match e with
  | (.inl e) => [(0, .own 30 0), (1, .ptr 19 0 0 0 0), (2, .ptr 18 0 0 0 0), (7, .d (I a5)), (8, .d (I sa))]
  | (.inr e) => [(0, .own 30 0), (1, .ptr 19 0 0 0 0), (2, .ptr 18 0 0 0 0), (7, .d (I a5)), (8, .d (I sa))]
noncomputable def XH_field_blocked_L2 (a0 : List D) (a1 : Int) (a2 : Int) (a3 : Int) (a4 : Int) (a5 : Int) (t1 : ByteArray × Int × Int × Int × Int × Int × Int × Int × Int × Int) (sa : Int) (e : (Unit) ⊕ (List D)) : List (Nat × Blk) := match e with
  | (.inl e) => [(0, .box (.d (.lst false 10 a0))), (1, .box (.d (I a1))), (2, .box (.d (.agg [I a2, I a3, I a4]))), (3, .box (.d (I a5))), (9, .box (.d (.agg [.v (.string t1.1), I t1.2.1, I t1.2.2.1, I t1.2.2.2.1, I t1.2.2.2.2.1, I t1.2.2.2.2.2.1, I t1.2.2.2.2.2.2.1, I t1.2.2.2.2.2.2.2.1, I t1.2.2.2.2.2.2.2.2.1, I t1.2.2.2.2.2.2.2.2.2]))), (18, .box (.d (.agg [.v (.string t1.1), I t1.2.1, I t1.2.2.1, I t1.2.2.2.1, I t1.2.2.2.2.1, I t1.2.2.2.2.2.1, I t1.2.2.2.2.2.2.1, I t1.2.2.2.2.2.2.2.1, I t1.2.2.2.2.2.2.2.2.1, I t1.2.2.2.2.2.2.2.2.2]))), (19, .box (.d (I a5))), (27, .box (.d (.lst true 0 []))), (30, .loop true [(6, .fn (.func 128) [] [.ptr 19 0 0 0 0, .ptr 18 0 0 0 0]), (4, .d (.lst true 0 [])), (2, .ptr 27 0 0 0 0), (1, .fn (.func 128) [] [.ptr 19 0 0 0 0, .ptr 18 0 0 0 0]), (0, .d (.lst true 0 []))] [7] (rangeAt cx.P 127 0).1 (rangeAt cx.P 127 0).2 13)]
  | (.inr e) => [(0, .box (.d (.lst false 10 a0))), (1, .box (.d (I a1))), (2, .box (.d (.agg [I a2, I a3, I a4]))), (3, .box (.d (I a5))), (9, .box (.d (.agg [.v (.string t1.1), I t1.2.1, I t1.2.2.1, I t1.2.2.2.1, I t1.2.2.2.2.1, I t1.2.2.2.2.2.1, I t1.2.2.2.2.2.2.1, I t1.2.2.2.2.2.2.2.1, I t1.2.2.2.2.2.2.2.2.1, I t1.2.2.2.2.2.2.2.2.2]))), (18, .box (.d (.agg [.v (.string t1.1), I t1.2.1, I t1.2.2.1, I t1.2.2.2.1, I t1.2.2.2.2.1, I t1.2.2.2.2.2.1, I t1.2.2.2.2.2.2.1, I t1.2.2.2.2.2.2.2.1, I t1.2.2.2.2.2.2.2.2.1, I t1.2.2.2.2.2.2.2.2.2]))), (19, .box (.d (I a5))), (27, .box (.own 80 0)), (30, .loop true [(6, .fn (.func 128) [] [.ptr 19 0 0 0 0, .ptr 18 0 0 0 0]), (4, .d (.lst true 0 [])), (2, .ptr 27 0 0 0 0), (1, .fn (.func 128) [] [.ptr 19 0 0 0 0, .ptr 18 0 0 0 0]), (0, .d (.lst true 0 []))] [7] (rangeAt cx.P 127 0).1 (rangeAt cx.P 127 0).2 13), (80, .row 0 4 e)]
theorem R_field_blocked_L2 {n : Nat} {a0 : List D} {a1 : Int} {a2 : Int} {a3 : Int} {a4 : Int} {a5 : Int} {t1 : ByteArray × Int × Int × Int × Int × Int × Int × Int × Int × Int} {sa : Int} (sb : (Unit) ⊕ (Int × List D)) (r) (h : F_field_blocked_L2 n a0 a1 a2 a3 a4 a5 t1 sa sb = some r) : Rd cx (loopAt cx.P 128 1) 49 31 false (T_field_blocked_L2 a0 a1 a2 a3 a4 a5 t1 sa) (H_field_blocked_L2 a0 a1 a2 a3 a4 a5 t1 sa) (X_field_blocked_L2 a0 a1 a2 a3 a4 a5 t1 sa) (XT_field_blocked_L2 a0 a1 a2 a3 a4 a5 t1 sa) (XH_field_blocked_L2 a0 a1 a2 a3 a4 a5 t1 sa) sb r := by
  unfold F_field_blocked_L2 at h
  rcases sb with sb | sb
  · by_cases hb1 : 0 < a5
    · replace h := ite_t h hb1
      obtain ⟨tb2, hb2, h⟩ := bnd_of h
      obtain ⟨hb3, h⟩ := grd_of h
      obtain ⟨tb4, hb4, h⟩ := bnd_of h
      obtain ⟨hb5, h⟩ := grd_of h
      obtain ⟨hb6, h⟩ := grd_of h
      obtain ⟨hb7, h⟩ := grd_of h
      obtain ⟨tb8, hb8, h⟩ := bnd_of h
      obtain ⟨tb9, hb9, h⟩ := bnd_of h
      obtain ⟨tb10, hb10, h⟩ := bnd_of h
      obtain ⟨hb11, h⟩ := grd_of h
      obtain ⟨hb12, h⟩ := grd_of h
      replace h := Option.some.inj h
      subst h
      exact ⟨100, 38, [.br true, .ret (.agg [I tb2.1, I tb2.2.1, I tb2.2.2]), .ret (.agg [I tb4.1, I tb4.2.1, I tb4.2.2]), .ret (.agg [I tb8.1, I tb8.2.1, I tb8.2.2]), .ret (.agg [I tb9.1, I tb9.2.1, I tb9.2.2]), .ret (.agg [I tb10.1, I tb10.2.1, I tb10.2.2]), .no, .no, .no], [], [0, 1, 2, 4, 7, 8, 11, 12], [0, 1, 2, 3, 9, 18, 19, 27, 30, 80], round_of (ob := [inI64 1, inI64 ((sa * a5) + 0), inI64 (sa * a5), Computes cx 112 [.agg [I tb2.1, I tb2.2.1, I tb2.2.2], .agg [I tb9.1, I tb9.2.1, I tb9.2.2]] (.agg [I tb10.1, I tb10.2.1, I tb10.2.2]), Computes cx 112 [.agg [I tb4.1, I tb4.2.1, I tb4.2.2], .agg [I tb8.1, I tb8.2.1, I tb8.2.2]] (.agg [I tb9.1, I tb9.2.1, I tb9.2.2]), Computes cx 113 [I (((2 * sa) + 1) - a5), .agg [I t1.2.2.2.2.2.2.2.1, I t1.2.2.2.2.2.2.2.2.1, I t1.2.2.2.2.2.2.2.2.2]] (.agg [I tb8.1, I tb8.2.1, I tb8.2.2]), inI64 (((2 * sa) + 1) - a5), inI64 ((2 * sa) + 1), inI64 (2 * sa), Computes cx 113 [I (1 - a5), .agg [I t1.2.2.2.2.1, I t1.2.2.2.2.2.1, I t1.2.2.2.2.2.2.1]] (.agg [I tb4.1, I tb4.2.1, I tb4.2.2]), inI64 (1 - a5), inI64 1, inI64 0, Computes cx 113 [I a5, .agg [I t1.2.1, I t1.2.2.1, I t1.2.2.2.1]] (.agg [I tb2.1, I tb2.2.1, I tb2.2.2]), (decide (0 < a5)) = true]) (by kernel_rfl) ⟨(by unfold inI64; omega), hb12, hb11, (c_field_plus hb10), (c_field_plus hb9), (c_field_times hb8), hb7, hb6, hb5, (c_field_times hb4), hb3, (by unfold inI64; omega), (by unfold inI64; omega), (c_field_times hb2), (decide_eq_true hb1), trivial⟩⟩
    · replace h := ite_f h hb1
      replace h := Option.some.inj h
      subst h
      exact ⟨⟨100, 38, [.br false], [], [0, 1, 2, 7, 8], [0, 1, 2, 3, 9, 18, 19, 27, 30], round_of (ob := [(decide (0 < a5)) = false]) (by kernel_rfl) ⟨(decide_eq_false hb1), trivial⟩⟩, nofun⟩
  · by_cases hb1 : sb.1 < a5
    · replace h := ite_t h hb1
      obtain ⟨tb2, hb2, h⟩ := bnd_of h
      obtain ⟨hb3, h⟩ := grd_of h
      obtain ⟨hb4, h⟩ := grd_of h
      obtain ⟨hb5, h⟩ := grd_of h
      obtain ⟨tb6, hb6, h⟩ := bnd_of h
      obtain ⟨hb7, h⟩ := grd_of h
      obtain ⟨hb8, h⟩ := grd_of h
      obtain ⟨hb9, h⟩ := grd_of h
      obtain ⟨tb10, hb10, h⟩ := bnd_of h
      obtain ⟨tb11, hb11, h⟩ := bnd_of h
      obtain ⟨tb12, hb12, h⟩ := bnd_of h
      obtain ⟨hb13, h⟩ := grd_of h
      obtain ⟨hb14, h⟩ := grd_of h
      obtain ⟨hb15, h⟩ := grd_of h
      obtain ⟨hb16, h⟩ := grd_of h
      replace h := Option.some.inj h
      subst h
      exact ⟨100, 81, [.br true, .ret (.agg [I tb2.1, I tb2.2.1, I tb2.2.2]), .ret (.agg [I tb6.1, I tb6.2.1, I tb6.2.2]), .ret (.agg [I tb10.1, I tb10.2.1, I tb10.2.2]), .ret (.agg [I tb11.1, I tb11.2.1, I tb11.2.2]), .ret (.agg [I tb12.1, I tb12.2.1, I tb12.2.2]), .br true, .no], [], [0, 1, 2, 4, 7, 8, 11, 12], [0, 1, 2, 3, 9, 18, 19, 27, 30, 80], round_of (ob := [inI64 (sb.1 + 1), room cx 149 ((sb.2).length + 1), inI64 ((sa * a5) + sb.1), inI64 (sa * a5), Computes cx 112 [.agg [I tb2.1, I tb2.2.1, I tb2.2.2], .agg [I tb11.1, I tb11.2.1, I tb11.2.2]] (.agg [I tb12.1, I tb12.2.1, I tb12.2.2]), Computes cx 112 [.agg [I tb6.1, I tb6.2.1, I tb6.2.2], .agg [I tb10.1, I tb10.2.1, I tb10.2.2]] (.agg [I tb11.1, I tb11.2.1, I tb11.2.2]), Computes cx 113 [I (((2 * sa) + 1) - a5), .agg [I t1.2.2.2.2.2.2.2.1, I t1.2.2.2.2.2.2.2.2.1, I t1.2.2.2.2.2.2.2.2.2]] (.agg [I tb10.1, I tb10.2.1, I tb10.2.2]), inI64 (((2 * sa) + 1) - a5), inI64 ((2 * sa) + 1), inI64 (2 * sa), Computes cx 113 [I (((2 * sb.1) + 1) - a5), .agg [I t1.2.2.2.2.1, I t1.2.2.2.2.2.1, I t1.2.2.2.2.2.2.1]] (.agg [I tb6.1, I tb6.2.1, I tb6.2.2]), inI64 (((2 * sb.1) + 1) - a5), inI64 ((2 * sb.1) + 1), inI64 (2 * sb.1), Computes cx 113 [I a5, .agg [I t1.2.1, I t1.2.2.1, I t1.2.2.2.1]] (.agg [I tb2.1, I tb2.2.1, I tb2.2.2]), (decide (sb.1 < a5)) = true]) (by kernel_rfl) ⟨hb16, (room_of (b := 32) (by kernel_rfl) (by decide) hb15), hb14, hb13, (c_field_plus hb12), (c_field_plus hb11), (c_field_times hb10), hb9, hb8, hb7, (c_field_times hb6), hb5, hb4, hb3, (c_field_times hb2), (decide_eq_true hb1), trivial⟩⟩
    · replace h := ite_f h hb1
      replace h := Option.some.inj h
      subst h
      exact ⟨⟨100, 81, [.br false], [], [0, 1, 2, 7, 8], [0, 1, 2, 3, 9, 18, 19, 27, 30, 80], round_of (ob := [(decide (sb.1 < a5)) = false]) (by kernel_rfl) ⟨(decide_eq_false hb1), trivial⟩⟩, nofun⟩
def F_field_blocked_L3 (n : Nat) (a0 : List D) (a1 : Int) (a2 : Int) (a3 : Int) (a4 : Int) (a5 : Int) (t1 : ByteArray × Int × Int × Int × Int × Int × Int × Int × Int × Int) (sa : Int × List D) (sb : (Int × List D)) : Option (((Int × List D)) ⊕ ((List D))) :=
  if sb.1 < a5 then
    (F_field_times n a5 t1.2.1 t1.2.2.1 t1.2.2.2.1).bind fun tb2 =>
    if inI64 (2 * sb.1) then
    if inI64 ((2 * sb.1) + 1) then
    if inI64 (((2 * sb.1) + 1) - a5) then
    (F_field_times n (((2 * sb.1) + 1) - a5) t1.2.2.2.2.1 t1.2.2.2.2.2.1 t1.2.2.2.2.2.2.1).bind fun tb6 =>
    if inI64 (2 * sa.1) then
    if inI64 ((2 * sa.1) + 1) then
    if inI64 (((2 * sa.1) + 1) - a5) then
    (F_field_times n (((2 * sa.1) + 1) - a5) t1.2.2.2.2.2.2.2.1 t1.2.2.2.2.2.2.2.2.1 t1.2.2.2.2.2.2.2.2.2).bind fun tb10 =>
    (F_field_plus n tb6.1 tb6.2.1 tb6.2.2 tb10.1 tb10.2.1 tb10.2.2).bind fun tb11 =>
    (F_field_plus n tb2.1 tb2.2.1 tb2.2.2 tb11.1 tb11.2.1 tb11.2.2).bind fun tb12 =>
    if inI64 (sa.1 * a5) then
    if inI64 ((sa.1 * a5) + sb.1) then
    if roomP 32 ((sb.2).length + 1) then
    if inI64 (sb.1 + 1) then
    some (.inl ((sb.1 + 1), (sb.2 ++ ([.agg [I ((sa.1 * a5) + sb.1), I tb12.1, I tb12.2.1, I tb12.2.2]] : List D))))
    else none
    else none
    else none
    else none
    else none
    else none
    else none
    else none
    else none
    else none
  else
  some (.inr sb.2)
noncomputable def T_field_blocked_L3 (a0 : List D) (a1 : Int) (a2 : Int) (a3 : Int) (a4 : Int) (a5 : Int) (t1 : ByteArray × Int × Int × Int × Int × Int × Int × Int × Int × Int) (sa : Int × List D) (sb : (Int × List D)) : List (Nat × AV) := [(0, .own 30 0), (1, .ptr 19 0 0 0 0), (2, .ptr 18 0 0 0 0), (4, .d (I sa.1)), (7, .d (I a5)), (8, .d (I sa.1)), (11, .d (I a5)), (12, .d (I sb.1))]
noncomputable def H_field_blocked_L3 (a0 : List D) (a1 : Int) (a2 : Int) (a3 : Int) (a4 : Int) (a5 : Int) (t1 : ByteArray × Int × Int × Int × Int × Int × Int × Int × Int × Int) (sa : Int × List D) (sb : (Int × List D)) : List (Nat × Blk) := [(0, .box (.d (.lst false 10 a0))), (1, .box (.d (I a1))), (2, .box (.d (.agg [I a2, I a3, I a4]))), (3, .box (.d (I a5))), (9, .box (.d (.agg [.v (.string t1.1), I t1.2.1, I t1.2.2.1, I t1.2.2.2.1, I t1.2.2.2.2.1, I t1.2.2.2.2.2.1, I t1.2.2.2.2.2.2.1, I t1.2.2.2.2.2.2.2.1, I t1.2.2.2.2.2.2.2.2.1, I t1.2.2.2.2.2.2.2.2.2]))), (18, .box (.d (.agg [.v (.string t1.1), I t1.2.1, I t1.2.2.1, I t1.2.2.2.1, I t1.2.2.2.2.1, I t1.2.2.2.2.2.1, I t1.2.2.2.2.2.2.1, I t1.2.2.2.2.2.2.2.1, I t1.2.2.2.2.2.2.2.2.1, I t1.2.2.2.2.2.2.2.2.2]))), (19, .box (.d (I a5))), (27, .box (.own 80 0)), (30, .loop true [(6, .fn (.func 128) [] [.ptr 19 0 0 0 0, .ptr 18 0 0 0 0]), (4, .d (.lst true 0 [])), (2, .ptr 27 0 0 0 0), (1, .fn (.func 128) [] [.ptr 19 0 0 0 0, .ptr 18 0 0 0 0]), (0, .d (.lst true 0 []))] [7] (rangeAt cx.P 127 0).1 (rangeAt cx.P 127 0).2 13), (80, .row 0 4 sb.2)]
noncomputable def X_field_blocked_L3 (a0 : List D) (a1 : Int) (a2 : Int) (a3 : Int) (a4 : Int) (a5 : Int) (t1 : ByteArray × Int × Int × Int × Int × Int × Int × Int × Int × Int) (sa : Int × List D) (e : (List D)) : Ex := (.exit 2)
noncomputable def XT_field_blocked_L3 (a0 : List D) (a1 : Int) (a2 : Int) (a3 : Int) (a4 : Int) (a5 : Int) (t1 : ByteArray × Int × Int × Int × Int × Int × Int × Int × Int × Int) (sa : Int × List D) (e : (List D)) : List (Nat × AV) := [(0, .own 30 0), (1, .ptr 19 0 0 0 0), (2, .ptr 18 0 0 0 0), (7, .d (I a5)), (8, .d (I sa.1))]
noncomputable def XH_field_blocked_L3 (a0 : List D) (a1 : Int) (a2 : Int) (a3 : Int) (a4 : Int) (a5 : Int) (t1 : ByteArray × Int × Int × Int × Int × Int × Int × Int × Int × Int) (sa : Int × List D) (e : (List D)) : List (Nat × Blk) := [(0, .box (.d (.lst false 10 a0))), (1, .box (.d (I a1))), (2, .box (.d (.agg [I a2, I a3, I a4]))), (3, .box (.d (I a5))), (9, .box (.d (.agg [.v (.string t1.1), I t1.2.1, I t1.2.2.1, I t1.2.2.2.1, I t1.2.2.2.2.1, I t1.2.2.2.2.2.1, I t1.2.2.2.2.2.2.1, I t1.2.2.2.2.2.2.2.1, I t1.2.2.2.2.2.2.2.2.1, I t1.2.2.2.2.2.2.2.2.2]))), (18, .box (.d (.agg [.v (.string t1.1), I t1.2.1, I t1.2.2.1, I t1.2.2.2.1, I t1.2.2.2.2.1, I t1.2.2.2.2.2.1, I t1.2.2.2.2.2.2.1, I t1.2.2.2.2.2.2.2.1, I t1.2.2.2.2.2.2.2.2.1, I t1.2.2.2.2.2.2.2.2.2]))), (19, .box (.d (I a5))), (27, .box (.own 80 0)), (30, .loop true [(6, .fn (.func 128) [] [.ptr 19 0 0 0 0, .ptr 18 0 0 0 0]), (4, .d (.lst true 0 [])), (2, .ptr 27 0 0 0 0), (1, .fn (.func 128) [] [.ptr 19 0 0 0 0, .ptr 18 0 0 0 0]), (0, .d (.lst true 0 []))] [7] (rangeAt cx.P 127 0).1 (rangeAt cx.P 127 0).2 13), (80, .row 0 4 e)]
theorem R_field_blocked_L3 {n : Nat} {a0 : List D} {a1 : Int} {a2 : Int} {a3 : Int} {a4 : Int} {a5 : Int} {t1 : ByteArray × Int × Int × Int × Int × Int × Int × Int × Int × Int} {sa : Int × List D} (sb : (Int × List D)) (r) (h : F_field_blocked_L3 n a0 a1 a2 a3 a4 a5 t1 sa sb = some r) : Rd cx (loopAt cx.P 128 1) 49 31 false (T_field_blocked_L3 a0 a1 a2 a3 a4 a5 t1 sa) (H_field_blocked_L3 a0 a1 a2 a3 a4 a5 t1 sa) (X_field_blocked_L3 a0 a1 a2 a3 a4 a5 t1 sa) (XT_field_blocked_L3 a0 a1 a2 a3 a4 a5 t1 sa) (XH_field_blocked_L3 a0 a1 a2 a3 a4 a5 t1 sa) sb r := by
  unfold F_field_blocked_L3 at h
  by_cases hb1 : sb.1 < a5
  · replace h := ite_t h hb1
    obtain ⟨tb2, hb2, h⟩ := bnd_of h
    obtain ⟨hb3, h⟩ := grd_of h
    obtain ⟨hb4, h⟩ := grd_of h
    obtain ⟨hb5, h⟩ := grd_of h
    obtain ⟨tb6, hb6, h⟩ := bnd_of h
    obtain ⟨hb7, h⟩ := grd_of h
    obtain ⟨hb8, h⟩ := grd_of h
    obtain ⟨hb9, h⟩ := grd_of h
    obtain ⟨tb10, hb10, h⟩ := bnd_of h
    obtain ⟨tb11, hb11, h⟩ := bnd_of h
    obtain ⟨tb12, hb12, h⟩ := bnd_of h
    obtain ⟨hb13, h⟩ := grd_of h
    obtain ⟨hb14, h⟩ := grd_of h
    obtain ⟨hb15, h⟩ := grd_of h
    obtain ⟨hb16, h⟩ := grd_of h
    replace h := Option.some.inj h
    subst h
    exact ⟨100, 86, [.br true, .ret (.agg [I tb2.1, I tb2.2.1, I tb2.2.2]), .ret (.agg [I tb6.1, I tb6.2.1, I tb6.2.2]), .ret (.agg [I tb10.1, I tb10.2.1, I tb10.2.2]), .ret (.agg [I tb11.1, I tb11.2.1, I tb11.2.2]), .ret (.agg [I tb12.1, I tb12.2.1, I tb12.2.2]), .br true, .no], [], [0, 1, 2, 4, 7, 8, 11, 12], [0, 1, 2, 3, 9, 18, 19, 27, 30, 80], round_of (ob := [inI64 (sb.1 + 1), room cx 149 ((sb.2).length + 1), inI64 ((sa.1 * a5) + sb.1), inI64 (sa.1 * a5), Computes cx 112 [.agg [I tb2.1, I tb2.2.1, I tb2.2.2], .agg [I tb11.1, I tb11.2.1, I tb11.2.2]] (.agg [I tb12.1, I tb12.2.1, I tb12.2.2]), Computes cx 112 [.agg [I tb6.1, I tb6.2.1, I tb6.2.2], .agg [I tb10.1, I tb10.2.1, I tb10.2.2]] (.agg [I tb11.1, I tb11.2.1, I tb11.2.2]), Computes cx 113 [I (((2 * sa.1) + 1) - a5), .agg [I t1.2.2.2.2.2.2.2.1, I t1.2.2.2.2.2.2.2.2.1, I t1.2.2.2.2.2.2.2.2.2]] (.agg [I tb10.1, I tb10.2.1, I tb10.2.2]), inI64 (((2 * sa.1) + 1) - a5), inI64 ((2 * sa.1) + 1), inI64 (2 * sa.1), Computes cx 113 [I (((2 * sb.1) + 1) - a5), .agg [I t1.2.2.2.2.1, I t1.2.2.2.2.2.1, I t1.2.2.2.2.2.2.1]] (.agg [I tb6.1, I tb6.2.1, I tb6.2.2]), inI64 (((2 * sb.1) + 1) - a5), inI64 ((2 * sb.1) + 1), inI64 (2 * sb.1), Computes cx 113 [I a5, .agg [I t1.2.1, I t1.2.2.1, I t1.2.2.2.1]] (.agg [I tb2.1, I tb2.2.1, I tb2.2.2]), (decide (sb.1 < a5)) = true]) (by kernel_rfl) ⟨hb16, (room_of (b := 32) (by kernel_rfl) (by decide) hb15), hb14, hb13, (c_field_plus hb12), (c_field_plus hb11), (c_field_times hb10), hb9, hb8, hb7, (c_field_times hb6), hb5, hb4, hb3, (c_field_times hb2), (decide_eq_true hb1), trivial⟩⟩
  · replace h := ite_f h hb1
    replace h := Option.some.inj h
    subst h
    exact ⟨⟨100, 86, [.br false], [], [0, 1, 2, 7, 8], [0, 1, 2, 3, 9, 18, 19, 27, 30, 80], round_of (ob := [(decide (sb.1 < a5)) = false]) (by kernel_rfl) ⟨(decide_eq_false hb1), trivial⟩⟩, nofun⟩
def F_field_blocked_L4 (n : Nat) (a0 : List D) (a1 : Int) (a2 : Int) (a3 : Int) (a4 : Int) (a5 : Int) (t1 : ByteArray × Int × Int × Int × Int × Int × Int × Int × Int × Int) (sa : (Int) ⊕ (Int × List D)) : Option (((Int) ⊕ (Int × List D)) ⊕ ((Unit) ⊕ (List D))) := match sa with
  | (.inl sa) => (
    if sa < a5 then
      (loopF (F_field_blocked_L2 n a0 a1 a2 a3 a4 a5 t1 sa) n (.inl ())).bind fun ta2 => match ta2 with
        | (.inl ta2) => (
          if inI64 (sa + 1) then
          some (.inl (.inl (sa + 1)))
          else none)
        | (.inr ta2) => (
          if inI64 (sa + 1) then
          some (.inl (.inr ((sa + 1), ta2)))
          else none)
    else
    some (.inr (.inl ())))
  | (.inr sa) => (
    if sa.1 < a5 then
      (loopF (F_field_blocked_L3 n a0 a1 a2 a3 a4 a5 t1 sa) n (0, sa.2)).bind fun ta2 =>
      if inI64 (sa.1 + 1) then
      some (.inl (.inr ((sa.1 + 1), ta2)))
      else none
    else
    some (.inr (.inr sa.2)))
noncomputable def T_field_blocked_L4 (a0 : List D) (a1 : Int) (a2 : Int) (a3 : Int) (a4 : Int) (a5 : Int) (t1 : ByteArray × Int × Int × Int × Int × Int × Int × Int × Int × Int) (sa : (Int) ⊕ (Int × List D)) : List (Nat × AV) := match sa with
  | (.inl sa) => [(0, .own 30 0), (1, .ptr 19 0 0 0 0), (2, .ptr 18 0 0 0 0), (7, .d (I a5)), (8, .d (I sa))]
  | (.inr sa) => [(0, .own 30 0), (1, .ptr 19 0 0 0 0), (2, .ptr 18 0 0 0 0), (7, .d (I a5)), (8, .d (I sa.1))]
noncomputable def H_field_blocked_L4 (a0 : List D) (a1 : Int) (a2 : Int) (a3 : Int) (a4 : Int) (a5 : Int) (t1 : ByteArray × Int × Int × Int × Int × Int × Int × Int × Int × Int) (sa : (Int) ⊕ (Int × List D)) : List (Nat × Blk) := match sa with
  | (.inl sa) => [(0, .box (.d (.lst false 10 a0))), (1, .box (.d (I a1))), (2, .box (.d (.agg [I a2, I a3, I a4]))), (3, .box (.d (I a5))), (9, .box (.d (.agg [.v (.string t1.1), I t1.2.1, I t1.2.2.1, I t1.2.2.2.1, I t1.2.2.2.2.1, I t1.2.2.2.2.2.1, I t1.2.2.2.2.2.2.1, I t1.2.2.2.2.2.2.2.1, I t1.2.2.2.2.2.2.2.2.1, I t1.2.2.2.2.2.2.2.2.2]))), (18, .box (.d (.agg [.v (.string t1.1), I t1.2.1, I t1.2.2.1, I t1.2.2.2.1, I t1.2.2.2.2.1, I t1.2.2.2.2.2.1, I t1.2.2.2.2.2.2.1, I t1.2.2.2.2.2.2.2.1, I t1.2.2.2.2.2.2.2.2.1, I t1.2.2.2.2.2.2.2.2.2]))), (19, .box (.d (I a5))), (27, .box (.d (.lst true 0 []))), (30, .loop true [(6, .fn (.func 128) [] [.ptr 19 0 0 0 0, .ptr 18 0 0 0 0]), (4, .d (.lst true 0 [])), (2, .ptr 27 0 0 0 0), (1, .fn (.func 128) [] [.ptr 19 0 0 0 0, .ptr 18 0 0 0 0]), (0, .d (.lst true 0 []))] [7] (rangeAt cx.P 127 0).1 (rangeAt cx.P 127 0).2 13)]
  | (.inr sa) => [(0, .box (.d (.lst false 10 a0))), (1, .box (.d (I a1))), (2, .box (.d (.agg [I a2, I a3, I a4]))), (3, .box (.d (I a5))), (9, .box (.d (.agg [.v (.string t1.1), I t1.2.1, I t1.2.2.1, I t1.2.2.2.1, I t1.2.2.2.2.1, I t1.2.2.2.2.2.1, I t1.2.2.2.2.2.2.1, I t1.2.2.2.2.2.2.2.1, I t1.2.2.2.2.2.2.2.2.1, I t1.2.2.2.2.2.2.2.2.2]))), (18, .box (.d (.agg [.v (.string t1.1), I t1.2.1, I t1.2.2.1, I t1.2.2.2.1, I t1.2.2.2.2.1, I t1.2.2.2.2.2.1, I t1.2.2.2.2.2.2.1, I t1.2.2.2.2.2.2.2.1, I t1.2.2.2.2.2.2.2.2.1, I t1.2.2.2.2.2.2.2.2.2]))), (19, .box (.d (I a5))), (27, .box (.own 80 0)), (30, .loop true [(6, .fn (.func 128) [] [.ptr 19 0 0 0 0, .ptr 18 0 0 0 0]), (4, .d (.lst true 0 [])), (2, .ptr 27 0 0 0 0), (1, .fn (.func 128) [] [.ptr 19 0 0 0 0, .ptr 18 0 0 0 0]), (0, .d (.lst true 0 []))] [7] (rangeAt cx.P 127 0).1 (rangeAt cx.P 127 0).2 13), (80, .row 0 4 sa.2)]
noncomputable def X_field_blocked_L4 (a0 : List D) (a1 : Int) (a2 : Int) (a3 : Int) (a4 : Int) (a5 : Int) (t1 : ByteArray × Int × Int × Int × Int × Int × Int × Int × Int × Int) (e : (Unit) ⊕ (List D)) : Ex := match e with
  | (.inl e) => (.exit 0)
  | (.inr e) => (.exit 0)
noncomputable def XT_field_blocked_L4 (a0 : List D) (a1 : Int) (a2 : Int) (a3 : Int) (a4 : Int) (a5 : Int) (t1 : ByteArray × Int × Int × Int × Int × Int × Int × Int × Int × Int) (e : (Unit) ⊕ (List D)) : List (Nat × AV) := match e with
  | (.inl e) => []
  | (.inr e) => []
noncomputable def XH_field_blocked_L4 (a0 : List D) (a1 : Int) (a2 : Int) (a3 : Int) (a4 : Int) (a5 : Int) (t1 : ByteArray × Int × Int × Int × Int × Int × Int × Int × Int × Int) (e : (Unit) ⊕ (List D)) : List (Nat × Blk) := match e with
  | (.inl e) => [(0, .box (.d (.lst false 10 a0))), (1, .box (.d (I a1))), (2, .box (.d (.agg [I a2, I a3, I a4]))), (3, .box (.d (I a5))), (9, .box (.d (.agg [.v (.string t1.1), I t1.2.1, I t1.2.2.1, I t1.2.2.2.1, I t1.2.2.2.2.1, I t1.2.2.2.2.2.1, I t1.2.2.2.2.2.2.1, I t1.2.2.2.2.2.2.2.1, I t1.2.2.2.2.2.2.2.2.1, I t1.2.2.2.2.2.2.2.2.2]))), (18, .box (.d (.agg [.v (.string t1.1), I t1.2.1, I t1.2.2.1, I t1.2.2.2.1, I t1.2.2.2.2.1, I t1.2.2.2.2.2.1, I t1.2.2.2.2.2.2.1, I t1.2.2.2.2.2.2.2.1, I t1.2.2.2.2.2.2.2.2.1, I t1.2.2.2.2.2.2.2.2.2]))), (19, .box (.d (I a5))), (27, .box (.d (.lst true 0 []))), (30, .loop true [(6, .fn (.func 128) [] [.ptr 19 0 0 0 0, .ptr 18 0 0 0 0]), (4, .d (.lst true 0 [])), (2, .ptr 27 0 0 0 0), (1, .fn (.func 128) [] [.ptr 19 0 0 0 0, .ptr 18 0 0 0 0]), (0, .d (.lst true 0 []))] [7] (rangeAt cx.P 127 0).1 (rangeAt cx.P 127 0).2 13)]
  | (.inr e) => [(0, .box (.d (.lst false 10 a0))), (1, .box (.d (I a1))), (2, .box (.d (.agg [I a2, I a3, I a4]))), (3, .box (.d (I a5))), (9, .box (.d (.agg [.v (.string t1.1), I t1.2.1, I t1.2.2.1, I t1.2.2.2.1, I t1.2.2.2.2.1, I t1.2.2.2.2.2.1, I t1.2.2.2.2.2.2.1, I t1.2.2.2.2.2.2.2.1, I t1.2.2.2.2.2.2.2.2.1, I t1.2.2.2.2.2.2.2.2.2]))), (18, .box (.d (.agg [.v (.string t1.1), I t1.2.1, I t1.2.2.1, I t1.2.2.2.1, I t1.2.2.2.2.1, I t1.2.2.2.2.2.1, I t1.2.2.2.2.2.2.1, I t1.2.2.2.2.2.2.2.1, I t1.2.2.2.2.2.2.2.2.1, I t1.2.2.2.2.2.2.2.2.2]))), (19, .box (.d (I a5))), (27, .box (.own 80 0)), (30, .loop true [(6, .fn (.func 128) [] [.ptr 19 0 0 0 0, .ptr 18 0 0 0 0]), (4, .d (.lst true 0 [])), (2, .ptr 27 0 0 0 0), (1, .fn (.func 128) [] [.ptr 19 0 0 0 0, .ptr 18 0 0 0 0]), (0, .d (.lst true 0 []))] [7] (rangeAt cx.P 127 0).1 (rangeAt cx.P 127 0).2 13), (80, .row 0 4 e)]
theorem R_field_blocked_L4 {n : Nat} {a0 : List D} {a1 : Int} {a2 : Int} {a3 : Int} {a4 : Int} {a5 : Int} {t1 : ByteArray × Int × Int × Int × Int × Int × Int × Int × Int × Int} (sa : (Int) ⊕ (Int × List D)) (r) (h : F_field_blocked_L4 n a0 a1 a2 a3 a4 a5 t1 sa = some r) : Rd cx (loopAt cx.P 128 0) 49 31 false (T_field_blocked_L4 a0 a1 a2 a3 a4 a5 t1) (H_field_blocked_L4 a0 a1 a2 a3 a4 a5 t1) (X_field_blocked_L4 a0 a1 a2 a3 a4 a5 t1) (XT_field_blocked_L4 a0 a1 a2 a3 a4 a5 t1) (XH_field_blocked_L4 a0 a1 a2 a3 a4 a5 t1) sa r := by
  unfold F_field_blocked_L4 at h
  rcases sa with sa | sa
  · by_cases ha1 : sa < a5
    · replace h := ite_t h ha1
      obtain ⟨ta2, ha2, h⟩ := bnd_of h
      rcases ta2 with ta2 | ta2
      · obtain ⟨ha3, h⟩ := grd_of h
        replace h := Option.some.inj h
        subst h
        exact ⟨100, 33, [.br true, .lp [] [0, 1, 2, 4, 7, 8, 11, 12] [0, 1, 2, 3, 9, 18, 19, 27, 30] (.exit 2) [(0, .own 30 0), (1, .ptr 19 0 0 0 0), (2, .ptr 18 0 0 0 0), (7, .d (I a5)), (8, .d (I sa))] [(0, .box (.d (.lst false 10 a0))), (1, .box (.d (I a1))), (2, .box (.d (.agg [I a2, I a3, I a4]))), (3, .box (.d (I a5))), (9, .box (.d (.agg [.v (.string t1.1), I t1.2.1, I t1.2.2.1, I t1.2.2.2.1, I t1.2.2.2.2.1, I t1.2.2.2.2.2.1, I t1.2.2.2.2.2.2.1, I t1.2.2.2.2.2.2.2.1, I t1.2.2.2.2.2.2.2.2.1, I t1.2.2.2.2.2.2.2.2.2]))), (18, .box (.d (.agg [.v (.string t1.1), I t1.2.1, I t1.2.2.1, I t1.2.2.2.1, I t1.2.2.2.2.1, I t1.2.2.2.2.2.1, I t1.2.2.2.2.2.2.1, I t1.2.2.2.2.2.2.2.1, I t1.2.2.2.2.2.2.2.2.1, I t1.2.2.2.2.2.2.2.2.2]))), (19, .box (.d (I a5))), (27, .box (.d (.lst true 0 []))), (30, .loop true [(6, .fn (.func 128) [] [.ptr 19 0 0 0 0, .ptr 18 0 0 0 0]), (4, .d (.lst true 0 [])), (2, .ptr 27 0 0 0 0), (1, .fn (.func 128) [] [.ptr 19 0 0 0 0, .ptr 18 0 0 0 0]), (0, .d (.lst true 0 []))] [7] (rangeAt cx.P 127 0).1 (rangeAt cx.P 127 0).2 13)] 138], [], [0, 1, 2, 7, 8], [0, 1, 2, 3, 9, 18, 19, 27, 30], round_of (ob := [inI64 (sa + 1), LoopN cx (loopAt cx.P 128 1) 49 31 false [(0, .own 30 0), (1, .ptr 19 0 0 0 0), (2, .ptr 18 0 0 0 0), (4, .d (I sa)), (7, .d (I a5)), (8, .d (I sa)), (11, .d (I a5)), (12, .d (I 0))] [(0, .box (.d (.lst false 10 a0))), (1, .box (.d (I a1))), (2, .box (.d (.agg [I a2, I a3, I a4]))), (3, .box (.d (I a5))), (9, .box (.d (.agg [.v (.string t1.1), I t1.2.1, I t1.2.2.1, I t1.2.2.2.1, I t1.2.2.2.2.1, I t1.2.2.2.2.2.1, I t1.2.2.2.2.2.2.1, I t1.2.2.2.2.2.2.2.1, I t1.2.2.2.2.2.2.2.2.1, I t1.2.2.2.2.2.2.2.2.2]))), (18, .box (.d (.agg [.v (.string t1.1), I t1.2.1, I t1.2.2.1, I t1.2.2.2.1, I t1.2.2.2.2.1, I t1.2.2.2.2.2.1, I t1.2.2.2.2.2.2.1, I t1.2.2.2.2.2.2.2.1, I t1.2.2.2.2.2.2.2.2.1, I t1.2.2.2.2.2.2.2.2.2]))), (19, .box (.d (I a5))), (27, .box (.d (.lst true 0 []))), (30, .loop true [(6, .fn (.func 128) [] [.ptr 19 0 0 0 0, .ptr 18 0 0 0 0]), (4, .d (.lst true 0 [])), (2, .ptr 27 0 0 0 0), (1, .fn (.func 128) [] [.ptr 19 0 0 0 0, .ptr 18 0 0 0 0]), (0, .d (.lst true 0 []))] [7] (rangeAt cx.P 127 0).1 (rangeAt cx.P 127 0).2 13)] (.exit 2) [(0, .own 30 0), (1, .ptr 19 0 0 0 0), (2, .ptr 18 0 0 0 0), (7, .d (I a5)), (8, .d (I sa))] [(0, .box (.d (.lst false 10 a0))), (1, .box (.d (I a1))), (2, .box (.d (.agg [I a2, I a3, I a4]))), (3, .box (.d (I a5))), (9, .box (.d (.agg [.v (.string t1.1), I t1.2.1, I t1.2.2.1, I t1.2.2.2.1, I t1.2.2.2.2.1, I t1.2.2.2.2.2.1, I t1.2.2.2.2.2.2.1, I t1.2.2.2.2.2.2.2.1, I t1.2.2.2.2.2.2.2.2.1, I t1.2.2.2.2.2.2.2.2.2]))), (18, .box (.d (.agg [.v (.string t1.1), I t1.2.1, I t1.2.2.1, I t1.2.2.2.1, I t1.2.2.2.2.1, I t1.2.2.2.2.2.1, I t1.2.2.2.2.2.2.1, I t1.2.2.2.2.2.2.2.1, I t1.2.2.2.2.2.2.2.2.1, I t1.2.2.2.2.2.2.2.2.2]))), (19, .box (.d (I a5))), (27, .box (.d (.lst true 0 []))), (30, .loop true [(6, .fn (.func 128) [] [.ptr 19 0 0 0 0, .ptr 18 0 0 0 0]), (4, .d (.lst true 0 [])), (2, .ptr 27 0 0 0 0), (1, .fn (.func 128) [] [.ptr 19 0 0 0 0, .ptr 18 0 0 0 0]), (0, .d (.lst true 0 []))] [7] (rangeAt cx.P 127 0).1 (rangeAt cx.P 127 0).2 13)], (decide (sa < a5)) = true]) (by kernel_rfl) ⟨ha3, (loopF_to R_field_blocked_L2 ha2), (decide_eq_true ha1), trivial⟩⟩
      · obtain ⟨ha3, h⟩ := grd_of h
        replace h := Option.some.inj h
        subst h
        exact ⟨100, 33, [.br true, .lp [] [0, 1, 2, 4, 7, 8, 11, 12] [0, 1, 2, 3, 9, 18, 19, 27, 30] (.exit 2) [(0, .own 30 0), (1, .ptr 19 0 0 0 0), (2, .ptr 18 0 0 0 0), (7, .d (I a5)), (8, .d (I sa))] [(0, .box (.d (.lst false 10 a0))), (1, .box (.d (I a1))), (2, .box (.d (.agg [I a2, I a3, I a4]))), (3, .box (.d (I a5))), (9, .box (.d (.agg [.v (.string t1.1), I t1.2.1, I t1.2.2.1, I t1.2.2.2.1, I t1.2.2.2.2.1, I t1.2.2.2.2.2.1, I t1.2.2.2.2.2.2.1, I t1.2.2.2.2.2.2.2.1, I t1.2.2.2.2.2.2.2.2.1, I t1.2.2.2.2.2.2.2.2.2]))), (18, .box (.d (.agg [.v (.string t1.1), I t1.2.1, I t1.2.2.1, I t1.2.2.2.1, I t1.2.2.2.2.1, I t1.2.2.2.2.2.1, I t1.2.2.2.2.2.2.1, I t1.2.2.2.2.2.2.2.1, I t1.2.2.2.2.2.2.2.2.1, I t1.2.2.2.2.2.2.2.2.2]))), (19, .box (.d (I a5))), (27, .box (.own 80 0)), (30, .loop true [(6, .fn (.func 128) [] [.ptr 19 0 0 0 0, .ptr 18 0 0 0 0]), (4, .d (.lst true 0 [])), (2, .ptr 27 0 0 0 0), (1, .fn (.func 128) [] [.ptr 19 0 0 0 0, .ptr 18 0 0 0 0]), (0, .d (.lst true 0 []))] [7] (rangeAt cx.P 127 0).1 (rangeAt cx.P 127 0).2 13), (80, .row 0 4 ta2)] 138], [], [0, 1, 2, 7, 8], [0, 1, 2, 3, 9, 18, 19, 27, 30, 80], round_of (ob := [inI64 (sa + 1), LoopN cx (loopAt cx.P 128 1) 49 31 false [(0, .own 30 0), (1, .ptr 19 0 0 0 0), (2, .ptr 18 0 0 0 0), (4, .d (I sa)), (7, .d (I a5)), (8, .d (I sa)), (11, .d (I a5)), (12, .d (I 0))] [(0, .box (.d (.lst false 10 a0))), (1, .box (.d (I a1))), (2, .box (.d (.agg [I a2, I a3, I a4]))), (3, .box (.d (I a5))), (9, .box (.d (.agg [.v (.string t1.1), I t1.2.1, I t1.2.2.1, I t1.2.2.2.1, I t1.2.2.2.2.1, I t1.2.2.2.2.2.1, I t1.2.2.2.2.2.2.1, I t1.2.2.2.2.2.2.2.1, I t1.2.2.2.2.2.2.2.2.1, I t1.2.2.2.2.2.2.2.2.2]))), (18, .box (.d (.agg [.v (.string t1.1), I t1.2.1, I t1.2.2.1, I t1.2.2.2.1, I t1.2.2.2.2.1, I t1.2.2.2.2.2.1, I t1.2.2.2.2.2.2.1, I t1.2.2.2.2.2.2.2.1, I t1.2.2.2.2.2.2.2.2.1, I t1.2.2.2.2.2.2.2.2.2]))), (19, .box (.d (I a5))), (27, .box (.d (.lst true 0 []))), (30, .loop true [(6, .fn (.func 128) [] [.ptr 19 0 0 0 0, .ptr 18 0 0 0 0]), (4, .d (.lst true 0 [])), (2, .ptr 27 0 0 0 0), (1, .fn (.func 128) [] [.ptr 19 0 0 0 0, .ptr 18 0 0 0 0]), (0, .d (.lst true 0 []))] [7] (rangeAt cx.P 127 0).1 (rangeAt cx.P 127 0).2 13)] (.exit 2) [(0, .own 30 0), (1, .ptr 19 0 0 0 0), (2, .ptr 18 0 0 0 0), (7, .d (I a5)), (8, .d (I sa))] [(0, .box (.d (.lst false 10 a0))), (1, .box (.d (I a1))), (2, .box (.d (.agg [I a2, I a3, I a4]))), (3, .box (.d (I a5))), (9, .box (.d (.agg [.v (.string t1.1), I t1.2.1, I t1.2.2.1, I t1.2.2.2.1, I t1.2.2.2.2.1, I t1.2.2.2.2.2.1, I t1.2.2.2.2.2.2.1, I t1.2.2.2.2.2.2.2.1, I t1.2.2.2.2.2.2.2.2.1, I t1.2.2.2.2.2.2.2.2.2]))), (18, .box (.d (.agg [.v (.string t1.1), I t1.2.1, I t1.2.2.1, I t1.2.2.2.1, I t1.2.2.2.2.1, I t1.2.2.2.2.2.1, I t1.2.2.2.2.2.2.1, I t1.2.2.2.2.2.2.2.1, I t1.2.2.2.2.2.2.2.2.1, I t1.2.2.2.2.2.2.2.2.2]))), (19, .box (.d (I a5))), (27, .box (.own 80 0)), (30, .loop true [(6, .fn (.func 128) [] [.ptr 19 0 0 0 0, .ptr 18 0 0 0 0]), (4, .d (.lst true 0 [])), (2, .ptr 27 0 0 0 0), (1, .fn (.func 128) [] [.ptr 19 0 0 0 0, .ptr 18 0 0 0 0]), (0, .d (.lst true 0 []))] [7] (rangeAt cx.P 127 0).1 (rangeAt cx.P 127 0).2 13), (80, .row 0 4 ta2)], (decide (sa < a5)) = true]) (by kernel_rfl) ⟨ha3, (loopF_to R_field_blocked_L2 ha2), (decide_eq_true ha1), trivial⟩⟩
    · replace h := ite_f h ha1
      replace h := Option.some.inj h
      subst h
      exact ⟨⟨100, 33, [.br false], [], [], [0, 1, 2, 3, 9, 18, 19, 27, 30], round_of (ob := [(decide (sa < a5)) = false]) (by kernel_rfl) ⟨(decide_eq_false ha1), trivial⟩⟩, nofun⟩
  · by_cases ha1 : sa.1 < a5
    · replace h := ite_t h ha1
      obtain ⟨ta2, ha2, h⟩ := bnd_of h
      obtain ⟨ha3, h⟩ := grd_of h
      replace h := Option.some.inj h
      subst h
      exact ⟨100, 81, [.br true, .lp [] [0, 1, 2, 4, 7, 8, 11, 12] [0, 1, 2, 3, 9, 18, 19, 27, 30, 80] (.exit 2) [(0, .own 30 0), (1, .ptr 19 0 0 0 0), (2, .ptr 18 0 0 0 0), (7, .d (I a5)), (8, .d (I sa.1))] [(0, .box (.d (.lst false 10 a0))), (1, .box (.d (I a1))), (2, .box (.d (.agg [I a2, I a3, I a4]))), (3, .box (.d (I a5))), (9, .box (.d (.agg [.v (.string t1.1), I t1.2.1, I t1.2.2.1, I t1.2.2.2.1, I t1.2.2.2.2.1, I t1.2.2.2.2.2.1, I t1.2.2.2.2.2.2.1, I t1.2.2.2.2.2.2.2.1, I t1.2.2.2.2.2.2.2.2.1, I t1.2.2.2.2.2.2.2.2.2]))), (18, .box (.d (.agg [.v (.string t1.1), I t1.2.1, I t1.2.2.1, I t1.2.2.2.1, I t1.2.2.2.2.1, I t1.2.2.2.2.2.1, I t1.2.2.2.2.2.2.1, I t1.2.2.2.2.2.2.2.1, I t1.2.2.2.2.2.2.2.2.1, I t1.2.2.2.2.2.2.2.2.2]))), (19, .box (.d (I a5))), (27, .box (.own 80 0)), (30, .loop true [(6, .fn (.func 128) [] [.ptr 19 0 0 0 0, .ptr 18 0 0 0 0]), (4, .d (.lst true 0 [])), (2, .ptr 27 0 0 0 0), (1, .fn (.func 128) [] [.ptr 19 0 0 0 0, .ptr 18 0 0 0 0]), (0, .d (.lst true 0 []))] [7] (rangeAt cx.P 127 0).1 (rangeAt cx.P 127 0).2 13), (80, .row 0 4 ta2)] 143], [], [0, 1, 2, 7, 8], [0, 1, 2, 3, 9, 18, 19, 27, 30, 80], round_of (ob := [inI64 (sa.1 + 1), LoopN cx (loopAt cx.P 128 1) 49 31 false [(0, .own 30 0), (1, .ptr 19 0 0 0 0), (2, .ptr 18 0 0 0 0), (4, .d (I sa.1)), (7, .d (I a5)), (8, .d (I sa.1)), (11, .d (I a5)), (12, .d (I 0))] [(0, .box (.d (.lst false 10 a0))), (1, .box (.d (I a1))), (2, .box (.d (.agg [I a2, I a3, I a4]))), (3, .box (.d (I a5))), (9, .box (.d (.agg [.v (.string t1.1), I t1.2.1, I t1.2.2.1, I t1.2.2.2.1, I t1.2.2.2.2.1, I t1.2.2.2.2.2.1, I t1.2.2.2.2.2.2.1, I t1.2.2.2.2.2.2.2.1, I t1.2.2.2.2.2.2.2.2.1, I t1.2.2.2.2.2.2.2.2.2]))), (18, .box (.d (.agg [.v (.string t1.1), I t1.2.1, I t1.2.2.1, I t1.2.2.2.1, I t1.2.2.2.2.1, I t1.2.2.2.2.2.1, I t1.2.2.2.2.2.2.1, I t1.2.2.2.2.2.2.2.1, I t1.2.2.2.2.2.2.2.2.1, I t1.2.2.2.2.2.2.2.2.2]))), (19, .box (.d (I a5))), (27, .box (.own 80 0)), (30, .loop true [(6, .fn (.func 128) [] [.ptr 19 0 0 0 0, .ptr 18 0 0 0 0]), (4, .d (.lst true 0 [])), (2, .ptr 27 0 0 0 0), (1, .fn (.func 128) [] [.ptr 19 0 0 0 0, .ptr 18 0 0 0 0]), (0, .d (.lst true 0 []))] [7] (rangeAt cx.P 127 0).1 (rangeAt cx.P 127 0).2 13), (80, .row 0 4 sa.2)] (.exit 2) [(0, .own 30 0), (1, .ptr 19 0 0 0 0), (2, .ptr 18 0 0 0 0), (7, .d (I a5)), (8, .d (I sa.1))] [(0, .box (.d (.lst false 10 a0))), (1, .box (.d (I a1))), (2, .box (.d (.agg [I a2, I a3, I a4]))), (3, .box (.d (I a5))), (9, .box (.d (.agg [.v (.string t1.1), I t1.2.1, I t1.2.2.1, I t1.2.2.2.1, I t1.2.2.2.2.1, I t1.2.2.2.2.2.1, I t1.2.2.2.2.2.2.1, I t1.2.2.2.2.2.2.2.1, I t1.2.2.2.2.2.2.2.2.1, I t1.2.2.2.2.2.2.2.2.2]))), (18, .box (.d (.agg [.v (.string t1.1), I t1.2.1, I t1.2.2.1, I t1.2.2.2.1, I t1.2.2.2.2.1, I t1.2.2.2.2.2.1, I t1.2.2.2.2.2.2.1, I t1.2.2.2.2.2.2.2.1, I t1.2.2.2.2.2.2.2.2.1, I t1.2.2.2.2.2.2.2.2.2]))), (19, .box (.d (I a5))), (27, .box (.own 80 0)), (30, .loop true [(6, .fn (.func 128) [] [.ptr 19 0 0 0 0, .ptr 18 0 0 0 0]), (4, .d (.lst true 0 [])), (2, .ptr 27 0 0 0 0), (1, .fn (.func 128) [] [.ptr 19 0 0 0 0, .ptr 18 0 0 0 0]), (0, .d (.lst true 0 []))] [7] (rangeAt cx.P 127 0).1 (rangeAt cx.P 127 0).2 13), (80, .row 0 4 ta2)], (decide (sa.1 < a5)) = true]) (by kernel_rfl) ⟨ha3, (loopF_to R_field_blocked_L3 ha2), (decide_eq_true ha1), trivial⟩⟩
    · replace h := ite_f h ha1
      replace h := Option.some.inj h
      subst h
      exact ⟨⟨100, 81, [.br false], [], [], [0, 1, 2, 3, 9, 18, 19, 27, 30, 80], round_of (ob := [(decide (sa.1 < a5)) = false]) (by kernel_rfl) ⟨(decide_eq_false ha1), trivial⟩⟩, nofun⟩
def F_field_blocked_L5 (n : Nat) (a0 : List D) (a1 : Int) (a2 : Int) (a3 : Int) (a4 : Int) (a5 : Int) (t1 : ByteArray × Int × Int × Int × Int × Int × Int × Int × Int × Int) (t2 : List D) (sa : (Int × List D)) : Option (((Int × List D)) ⊕ ((List D))) :=
  if sa.1 < ((t2).length : Int) then
    if 0 ≤ sa.1 ∧ sa.1 < ((t2).length : Int) then
    ((nth (t2) (Int.toNat sa.1)).bind un_Ai4Z).bind fun ta3 =>
    (F_field_times n a5 a2 a3 a4).bind fun ta4 =>
    (F_field_times n (-1) ta3.2.1 ta3.2.2.1 ta3.2.2.2).bind fun ta5 =>
    (F_field_plus n ta4.1 ta4.2.1 ta4.2.2 ta5.1 ta5.2.1 ta5.2.2).bind fun ta6 =>
    (F_field_Mirror_normal n t1.1 t1.2.1 t1.2.2.1 t1.2.2.2.1 t1.2.2.2.2.1 t1.2.2.2.2.2.1 t1.2.2.2.2.2.2.1 t1.2.2.2.2.2.2.2.1 t1.2.2.2.2.2.2.2.2.1 t1.2.2.2.2.2.2.2.2.2).bind fun ta7 =>
    (F_field_dot n ta7.1 ta7.2.1 ta7.2.2 ta6.1 ta6.2.1 ta6.2.2).bind fun ta8 =>
    if ta8 ≤ 0 then
      if roomP 1 ((sa.2).length + 1) then
      if inI64 (sa.1 + 1) then
      some (.inl ((sa.1 + 1), (sa.2 ++ ([B true] : List D))))
      else none
      else none
    else
    (F_field_met n a0 a1 a5 ta3.2.1 ta3.2.2.1 ta3.2.2.2 ta6.1 ta6.2.1 ta6.2.2 true).bind fun ta10 =>
    if roomP 1 ((sa.2).length + 1) then
    if inI64 (sa.1 + 1) then
    some (.inl ((sa.1 + 1), (sa.2 ++ ([B ta10] : List D))))
    else none
    else none
    else none
  else
  some (.inr sa.2)
noncomputable def T_field_blocked_L5 (a0 : List D) (a1 : Int) (a2 : Int) (a3 : Int) (a4 : Int) (a5 : Int) (t1 : ByteArray × Int × Int × Int × Int × Int × Int × Int × Int × Int) (t2 : List D) (sa : (Int × List D)) : List (Nat × AV) := [(1, .fn (.func 132) [] [.ptr 3 0 0 0 0, .ptr 2 0 0 0 0, .ptr 9 0 0 0 0, .ptr 0 0 0 0 0, .ptr 1 0 0 0 0]), (5, .own 163 0), (8, .own 80 0), (9, .d (I ((t2).length : Int))), (10, .d (I sa.1))]
noncomputable def H_field_blocked_L5 (a0 : List D) (a1 : Int) (a2 : Int) (a3 : Int) (a4 : Int) (a5 : Int) (t1 : ByteArray × Int × Int × Int × Int × Int × Int × Int × Int × Int) (t2 : List D) (sa : (Int × List D)) : List (Nat × Blk) := [(0, .box (.d (.lst false 10 a0))), (1, .box (.d (I a1))), (2, .box (.d (.agg [I a2, I a3, I a4]))), (3, .box (.d (I a5))), (9, .box (.d (.agg [.v (.string t1.1), I t1.2.1, I t1.2.2.1, I t1.2.2.2.1, I t1.2.2.2.2.1, I t1.2.2.2.2.2.1, I t1.2.2.2.2.2.2.1, I t1.2.2.2.2.2.2.2.1, I t1.2.2.2.2.2.2.2.2.1, I t1.2.2.2.2.2.2.2.2.2]))), (18, .box (.d (.agg [.v (.string t1.1), I t1.2.1, I t1.2.2.1, I t1.2.2.2.1, I t1.2.2.2.2.1, I t1.2.2.2.2.2.1, I t1.2.2.2.2.2.2.1, I t1.2.2.2.2.2.2.2.1, I t1.2.2.2.2.2.2.2.2.1, I t1.2.2.2.2.2.2.2.2.2]))), (19, .box (.d (I a5))), (27, .box (.own 80 0)), (30, .dead), (80, .row 0 4 t2), (163, .row 0 1 sa.2)]
noncomputable def X_field_blocked_L5 (a0 : List D) (a1 : Int) (a2 : Int) (a3 : Int) (a4 : Int) (a5 : Int) (t1 : ByteArray × Int × Int × Int × Int × Int × Int × Int × Int × Int) (t2 : List D) (e : (List D)) : Ex := (.exit 0)
noncomputable def XT_field_blocked_L5 (a0 : List D) (a1 : Int) (a2 : Int) (a3 : Int) (a4 : Int) (a5 : Int) (t1 : ByteArray × Int × Int × Int × Int × Int × Int × Int × Int × Int) (t2 : List D) (e : (List D)) : List (Nat × AV) := [(5, .own 163 0)]
noncomputable def XH_field_blocked_L5 (a0 : List D) (a1 : Int) (a2 : Int) (a3 : Int) (a4 : Int) (a5 : Int) (t1 : ByteArray × Int × Int × Int × Int × Int × Int × Int × Int × Int) (t2 : List D) (e : (List D)) : List (Nat × Blk) := [(0, .box (.d (.lst false 10 a0))), (1, .box (.d (I a1))), (2, .box (.d (.agg [I a2, I a3, I a4]))), (3, .box (.d (I a5))), (9, .box (.d (.agg [.v (.string t1.1), I t1.2.1, I t1.2.2.1, I t1.2.2.2.1, I t1.2.2.2.2.1, I t1.2.2.2.2.2.1, I t1.2.2.2.2.2.2.1, I t1.2.2.2.2.2.2.2.1, I t1.2.2.2.2.2.2.2.2.1, I t1.2.2.2.2.2.2.2.2.2]))), (18, .box (.d (.agg [.v (.string t1.1), I t1.2.1, I t1.2.2.1, I t1.2.2.2.1, I t1.2.2.2.2.1, I t1.2.2.2.2.2.1, I t1.2.2.2.2.2.2.1, I t1.2.2.2.2.2.2.2.1, I t1.2.2.2.2.2.2.2.2.1, I t1.2.2.2.2.2.2.2.2.2]))), (19, .box (.d (I a5))), (27, .box (.own 80 0)), (30, .dead), (80, .row 0 4 t2), (163, .row 0 1 e)]
theorem R_field_blocked_L5 {n : Nat} {a0 : List D} {a1 : Int} {a2 : Int} {a3 : Int} {a4 : Int} {a5 : Int} {t1 : ByteArray × Int × Int × Int × Int × Int × Int × Int × Int × Int} {t2 : List D} (sa : (Int × List D)) (r) (h : F_field_blocked_L5 n a0 a1 a2 a3 a4 a5 t1 t2 sa = some r) : Rd cx (loopAt cx.P 129 0) 22 158 false (T_field_blocked_L5 a0 a1 a2 a3 a4 a5 t1 t2) (H_field_blocked_L5 a0 a1 a2 a3 a4 a5 t1 t2) (X_field_blocked_L5 a0 a1 a2 a3 a4 a5 t1 t2) (XT_field_blocked_L5 a0 a1 a2 a3 a4 a5 t1 t2) (XH_field_blocked_L5 a0 a1 a2 a3 a4 a5 t1 t2) sa r := by
  unfold F_field_blocked_L5 at h
  by_cases ha1 : sa.1 < ((t2).length : Int)
  · replace h := ite_t h ha1
    obtain ⟨ha2, h⟩ := grd_of h
    obtain ⟨ta3, ha3, h⟩ := bnd_of h
    obtain ⟨ta4, ha4, h⟩ := bnd_of h
    obtain ⟨ta5, ha5, h⟩ := bnd_of h
    obtain ⟨ta6, ha6, h⟩ := bnd_of h
    obtain ⟨ta7, ha7, h⟩ := bnd_of h
    obtain ⟨ta8, ha8, h⟩ := bnd_of h
    by_cases ha9 : ta8 ≤ 0
    · replace h := ite_t h ha9
      obtain ⟨ha10, h⟩ := grd_of h
      obtain ⟨ha11, h⟩ := grd_of h
      replace h := Option.some.inj h
      subst h
      exact ⟨100, 164, [.br true, .br true, .el (.agg [I ta3.1, I ta3.2.1, I ta3.2.2.1, I ta3.2.2.2]), .br true, .ret (.agg [I ta4.1, I ta4.2.1, I ta4.2.2]), .ret (.agg [I ta5.1, I ta5.2.1, I ta5.2.2]), .ret (.agg [I ta6.1, I ta6.2.1, I ta6.2.2]), .ret (.agg [I ta7.1, I ta7.2.1, I ta7.2.2]), .ret (I ta8), .br true, .br true], [], [1, 5, 8, 9, 10], [0, 1, 2, 3, 9, 18, 19, 27, 30, 80, 163], round_of (ob := [inI64 (sa.1 + 1), room cx 4 ((sa.2).length + 1), (decide (ta8 ≤ 0)) = true, Computes cx 65 [.agg [I ta7.1, I ta7.2.1, I ta7.2.2], .agg [I ta6.1, I ta6.2.1, I ta6.2.2]] (I ta8), Computes cx 66 [.agg [.v (.string t1.1), I t1.2.1, I t1.2.2.1, I t1.2.2.2.1, I t1.2.2.2.2.1, I t1.2.2.2.2.2.1, I t1.2.2.2.2.2.2.1, I t1.2.2.2.2.2.2.2.1, I t1.2.2.2.2.2.2.2.2.1, I t1.2.2.2.2.2.2.2.2.2]] (.agg [I ta7.1, I ta7.2.1, I ta7.2.2]), Computes cx 112 [.agg [I ta4.1, I ta4.2.1, I ta4.2.2], .agg [I ta5.1, I ta5.2.1, I ta5.2.2]] (.agg [I ta6.1, I ta6.2.1, I ta6.2.2]), Computes cx 113 [I (-1), .agg [I ta3.2.1, I ta3.2.2.1, I ta3.2.2.2]] (.agg [I ta5.1, I ta5.2.1, I ta5.2.2]), Computes cx 113 [I a5, .agg [I a2, I a3, I a4]] (.agg [I ta4.1, I ta4.2.1, I ta4.2.2]), nth (t2) (Int.toNat sa.1) = some (.agg [I ta3.1, I ta3.2.1, I ta3.2.2.1, I ta3.2.2.2]), 0 ≤ sa.1 ∧ sa.1 < ((t2).length : Int), (decide (sa.1 < ((t2).length : Int))) = true]) (by kernel_rfl) ⟨ha11, (room_of (b := 1) (by kernel_rfl) (by decide) ha10), (decide_eq_true ha9), (c_field_dot ha8), (c_field_Mirror_normal ha7), (c_field_plus ha6), (c_field_times ha5), (c_field_times ha4), nel_ok un_Ai4Z_ok ha3, ha2, (decide_eq_true ha1), trivial⟩⟩
    · replace h := ite_f h ha9
      obtain ⟨ta10, ha10, h⟩ := bnd_of h
      obtain ⟨ha11, h⟩ := grd_of h
      obtain ⟨ha12, h⟩ := grd_of h
      replace h := Option.some.inj h
      subst h
      exact ⟨100, 164, [.br true, .br true, .el (.agg [I ta3.1, I ta3.2.1, I ta3.2.2.1, I ta3.2.2.2]), .br true, .ret (.agg [I ta4.1, I ta4.2.1, I ta4.2.2]), .ret (.agg [I ta5.1, I ta5.2.1, I ta5.2.2]), .ret (.agg [I ta6.1, I ta6.2.1, I ta6.2.2]), .ret (.agg [I ta7.1, I ta7.2.1, I ta7.2.2]), .ret (I ta8), .br false, .ret (B ta10), .br true], [], [1, 5, 8, 9, 10], [0, 1, 2, 3, 9, 18, 19, 27, 30, 80, 163], round_of (ob := [inI64 (sa.1 + 1), room cx 4 ((sa.2).length + 1), Computes cx 131 [.lst false 10 a0, I a1, I a5, .agg [I ta3.2.1, I ta3.2.2.1, I ta3.2.2.2, I ta6.1, I ta6.2.1, I ta6.2.2, B true]] (B ta10), (decide (ta8 ≤ 0)) = false, Computes cx 65 [.agg [I ta7.1, I ta7.2.1, I ta7.2.2], .agg [I ta6.1, I ta6.2.1, I ta6.2.2]] (I ta8), Computes cx 66 [.agg [.v (.string t1.1), I t1.2.1, I t1.2.2.1, I t1.2.2.2.1, I t1.2.2.2.2.1, I t1.2.2.2.2.2.1, I t1.2.2.2.2.2.2.1, I t1.2.2.2.2.2.2.2.1, I t1.2.2.2.2.2.2.2.2.1, I t1.2.2.2.2.2.2.2.2.2]] (.agg [I ta7.1, I ta7.2.1, I ta7.2.2]), Computes cx 112 [.agg [I ta4.1, I ta4.2.1, I ta4.2.2], .agg [I ta5.1, I ta5.2.1, I ta5.2.2]] (.agg [I ta6.1, I ta6.2.1, I ta6.2.2]), Computes cx 113 [I (-1), .agg [I ta3.2.1, I ta3.2.2.1, I ta3.2.2.2]] (.agg [I ta5.1, I ta5.2.1, I ta5.2.2]), Computes cx 113 [I a5, .agg [I a2, I a3, I a4]] (.agg [I ta4.1, I ta4.2.1, I ta4.2.2]), nth (t2) (Int.toNat sa.1) = some (.agg [I ta3.1, I ta3.2.1, I ta3.2.2.1, I ta3.2.2.2]), 0 ≤ sa.1 ∧ sa.1 < ((t2).length : Int), (decide (sa.1 < ((t2).length : Int))) = true]) (by kernel_rfl) ⟨ha12, (room_of (b := 1) (by kernel_rfl) (by decide) ha11), (c_field_met ha10), (decide_eq_false ha9), (c_field_dot ha8), (c_field_Mirror_normal ha7), (c_field_plus ha6), (c_field_times ha5), (c_field_times ha4), nel_ok un_Ai4Z_ok ha3, ha2, (decide_eq_true ha1), trivial⟩⟩
  · replace h := ite_f h ha1
    replace h := Option.some.inj h
    subst h
    exact ⟨⟨100, 164, [.br false], [], [5], [0, 1, 2, 3, 9, 18, 19, 27, 30, 80, 163], round_of (ob := [(decide (sa.1 < ((t2).length : Int))) = false]) (by kernel_rfl) ⟨(decide_eq_false ha1), trivial⟩⟩, nofun⟩
/- spillage/field.blocked: .lst false 10 a0, I a1, .agg [I a2, I a3, I a4], I a5 -/
def F_field_blocked (n : Nat) (a0 : List D) (a1 : Int) (a2 : Int) (a3 : Int) (a4 : Int) (a5 : Int) : Option (List D) :=
  (el un_Asi9Z a0 a1).bind fun t1 =>
  (loopF (F_field_blocked_L4 n a0 a1 a2 a3 a4 a5 t1) n (.inl 0)).bind fun t2 => match t2 with
    | (.inl t2) => (
      some [])
    | (.inr t2) => (
      (loopF (F_field_blocked_L5 n a0 a1 a2 a3 a4 a5 t1 t2) n (0, [])).bind fun t3 =>
      some t3)
theorem c_field_blocked {n : Nat} {a0 : List D} {a1 : Int} {a2 : Int} {a3 : Int} {a4 : Int} {a5 : Int} {r : List D} (h : F_field_blocked n a0 a1 a2 a3 a4 a5 = some r) : Computes cx 97 [.lst false 10 a0, I a1, .agg [I a2, I a3, I a4], I a5] (.lst false 1 r) := by
  unfold F_field_blocked at h
  obtain ⟨t1, h1, h⟩ := bnd_of h
  obtain ⟨t2, h2, h⟩ := bnd_of h
  rcases t2 with t2 | t2
  · replace h := Option.some.inj h
    subst h
    exact (run (n := 100) (f := 97) (args := [.lst false 10 a0, I a1, .agg [I a2, I a3, I a4], I a5]) (orc := [.el (.agg [.v (.string t1.1), I t1.2.1, I t1.2.2.1, I t1.2.2.2.1, I t1.2.2.2.2.1, I t1.2.2.2.2.2.1, I t1.2.2.2.2.2.2.1, I t1.2.2.2.2.2.2.2.1, I t1.2.2.2.2.2.2.2.2.1, I t1.2.2.2.2.2.2.2.2.2]), .br true, .br true, .br true, .lp [] [0, 1, 2, 7, 8] [0, 1, 2, 3, 9, 18, 19, 27, 30] (.exit 0) [] [(0, .box (.d (.lst false 10 a0))), (1, .box (.d (I a1))), (2, .box (.d (.agg [I a2, I a3, I a4]))), (3, .box (.d (I a5))), (9, .box (.d (.agg [.v (.string t1.1), I t1.2.1, I t1.2.2.1, I t1.2.2.2.1, I t1.2.2.2.2.1, I t1.2.2.2.2.2.1, I t1.2.2.2.2.2.2.1, I t1.2.2.2.2.2.2.2.1, I t1.2.2.2.2.2.2.2.2.1, I t1.2.2.2.2.2.2.2.2.2]))), (18, .box (.d (.agg [.v (.string t1.1), I t1.2.1, I t1.2.2.1, I t1.2.2.2.1, I t1.2.2.2.2.1, I t1.2.2.2.2.2.1, I t1.2.2.2.2.2.2.1, I t1.2.2.2.2.2.2.2.1, I t1.2.2.2.2.2.2.2.2.1, I t1.2.2.2.2.2.2.2.2.2]))), (19, .box (.d (I a5))), (27, .box (.d (.lst true 0 []))), (30, .loop true [(6, .fn (.func 128) [] [.ptr 19 0 0 0 0, .ptr 18 0 0 0 0]), (4, .d (.lst true 0 [])), (2, .ptr 27 0 0 0 0), (1, .fn (.func 128) [] [.ptr 19 0 0 0 0, .ptr 18 0 0 0 0]), (0, .d (.lst true 0 []))] [7] (rangeAt cx.P 127 0).1 (rangeAt cx.P 127 0).2 13)] 156, .br true, .no, .no]) (r := .lst true 0 []) (ob := [LoopN cx (loopAt cx.P 128 0) 49 31 false [(0, .own 30 0), (1, .ptr 19 0 0 0 0), (2, .ptr 18 0 0 0 0), (7, .d (I a5)), (8, .d (I 0))] [(0, .box (.d (.lst false 10 a0))), (1, .box (.d (I a1))), (2, .box (.d (.agg [I a2, I a3, I a4]))), (3, .box (.d (I a5))), (9, .box (.d (.agg [.v (.string t1.1), I t1.2.1, I t1.2.2.1, I t1.2.2.2.1, I t1.2.2.2.2.1, I t1.2.2.2.2.2.1, I t1.2.2.2.2.2.2.1, I t1.2.2.2.2.2.2.2.1, I t1.2.2.2.2.2.2.2.2.1, I t1.2.2.2.2.2.2.2.2.2]))), (18, .box (.d (.agg [.v (.string t1.1), I t1.2.1, I t1.2.2.1, I t1.2.2.2.1, I t1.2.2.2.2.1, I t1.2.2.2.2.2.1, I t1.2.2.2.2.2.2.1, I t1.2.2.2.2.2.2.2.1, I t1.2.2.2.2.2.2.2.2.1, I t1.2.2.2.2.2.2.2.2.2]))), (19, .box (.d (I a5))), (27, .box (.d (.lst true 0 []))), (30, .loop true [(6, .fn (.func 128) [] [.ptr 19 0 0 0 0, .ptr 18 0 0 0 0]), (4, .d (.lst true 0 [])), (2, .ptr 27 0 0 0 0), (1, .fn (.func 128) [] [.ptr 19 0 0 0 0, .ptr 18 0 0 0 0]), (0, .d (.lst true 0 []))] [7] (rangeAt cx.P 127 0).1 (rangeAt cx.P 127 0).2 13)] (.exit 0) [] [(0, .box (.d (.lst false 10 a0))), (1, .box (.d (I a1))), (2, .box (.d (.agg [I a2, I a3, I a4]))), (3, .box (.d (I a5))), (9, .box (.d (.agg [.v (.string t1.1), I t1.2.1, I t1.2.2.1, I t1.2.2.2.1, I t1.2.2.2.2.1, I t1.2.2.2.2.2.1, I t1.2.2.2.2.2.2.1, I t1.2.2.2.2.2.2.2.1, I t1.2.2.2.2.2.2.2.2.1, I t1.2.2.2.2.2.2.2.2.2]))), (18, .box (.d (.agg [.v (.string t1.1), I t1.2.1, I t1.2.2.1, I t1.2.2.2.1, I t1.2.2.2.2.1, I t1.2.2.2.2.2.1, I t1.2.2.2.2.2.2.1, I t1.2.2.2.2.2.2.2.1, I t1.2.2.2.2.2.2.2.2.1, I t1.2.2.2.2.2.2.2.2.2]))), (19, .box (.d (I a5))), (27, .box (.d (.lst true 0 []))), (30, .loop true [(6, .fn (.func 128) [] [.ptr 19 0 0 0 0, .ptr 18 0 0 0 0]), (4, .d (.lst true 0 [])), (2, .ptr 27 0 0 0 0), (1, .fn (.func 128) [] [.ptr 19 0 0 0 0, .ptr 18 0 0 0 0]), (0, .d (.lst true 0 []))] [7] (rangeAt cx.P 127 0).1 (rangeAt cx.P 127 0).2 13)], (0 : Int) ≤ a1, nth (a0) (Int.toNat a1) = some (.agg [.v (.string t1.1), I t1.2.1, I t1.2.2.1, I t1.2.2.2.1, I t1.2.2.2.2.1, I t1.2.2.2.2.2.1, I t1.2.2.2.2.2.2.1, I t1.2.2.2.2.2.2.2.1, I t1.2.2.2.2.2.2.2.2.1, I t1.2.2.2.2.2.2.2.2.2])]) (by kernel_rfl) ⟨(loopF_to R_field_blocked_L4 h2), (el_ok un_Asi9Z_ok h1).1, (el_ok un_Asi9Z_ok h1).2, trivial⟩).le (LEs.refl _) (.lst _ _ _ _ _ nofun (.inl rfl))
  · obtain ⟨t3, h3, h⟩ := bnd_of h
    replace h := Option.some.inj h
    subst h
    exact run (n := 100) (f := 97) (args := [.lst false 10 a0, I a1, .agg [I a2, I a3, I a4], I a5]) (orc := [.el (.agg [.v (.string t1.1), I t1.2.1, I t1.2.2.1, I t1.2.2.2.1, I t1.2.2.2.2.1, I t1.2.2.2.2.2.1, I t1.2.2.2.2.2.2.1, I t1.2.2.2.2.2.2.2.1, I t1.2.2.2.2.2.2.2.2.1, I t1.2.2.2.2.2.2.2.2.2]), .br true, .br true, .br true, .lp [] [0, 1, 2, 7, 8] [0, 1, 2, 3, 9, 18, 19, 27, 30] (.exit 0) [] [(0, .box (.d (.lst false 10 a0))), (1, .box (.d (I a1))), (2, .box (.d (.agg [I a2, I a3, I a4]))), (3, .box (.d (I a5))), (9, .box (.d (.agg [.v (.string t1.1), I t1.2.1, I t1.2.2.1, I t1.2.2.2.1, I t1.2.2.2.2.1, I t1.2.2.2.2.2.1, I t1.2.2.2.2.2.2.1, I t1.2.2.2.2.2.2.2.1, I t1.2.2.2.2.2.2.2.2.1, I t1.2.2.2.2.2.2.2.2.2]))), (18, .box (.d (.agg [.v (.string t1.1), I t1.2.1, I t1.2.2.1, I t1.2.2.2.1, I t1.2.2.2.2.1, I t1.2.2.2.2.2.1, I t1.2.2.2.2.2.2.1, I t1.2.2.2.2.2.2.2.1, I t1.2.2.2.2.2.2.2.2.1, I t1.2.2.2.2.2.2.2.2.2]))), (19, .box (.d (I a5))), (27, .box (.own 80 0)), (30, .loop true [(6, .fn (.func 128) [] [.ptr 19 0 0 0 0, .ptr 18 0 0 0 0]), (4, .d (.lst true 0 [])), (2, .ptr 27 0 0 0 0), (1, .fn (.func 128) [] [.ptr 19 0 0 0 0, .ptr 18 0 0 0 0]), (0, .d (.lst true 0 []))] [7] (rangeAt cx.P 127 0).1 (rangeAt cx.P 127 0).2 13), (80, .row 0 4 t2)] 156, .br true, .lp [5, 1] [1, 5, 8, 9, 10] [0, 1, 2, 3, 9, 18, 19, 27, 30, 80, 163] (.exit 0) [(5, .own 163 0)] [(0, .box (.d (.lst false 10 a0))), (1, .box (.d (I a1))), (2, .box (.d (.agg [I a2, I a3, I a4]))), (3, .box (.d (I a5))), (9, .box (.d (.agg [.v (.string t1.1), I t1.2.1, I t1.2.2.1, I t1.2.2.2.1, I t1.2.2.2.2.1, I t1.2.2.2.2.2.1, I t1.2.2.2.2.2.2.1, I t1.2.2.2.2.2.2.2.1, I t1.2.2.2.2.2.2.2.2.1, I t1.2.2.2.2.2.2.2.2.2]))), (18, .box (.d (.agg [.v (.string t1.1), I t1.2.1, I t1.2.2.1, I t1.2.2.2.1, I t1.2.2.2.2.1, I t1.2.2.2.2.2.1, I t1.2.2.2.2.2.2.1, I t1.2.2.2.2.2.2.2.1, I t1.2.2.2.2.2.2.2.2.1, I t1.2.2.2.2.2.2.2.2.2]))), (19, .box (.d (I a5))), (27, .box (.own 80 0)), (30, .dead), (80, .row 0 4 t2), (163, .row 0 1 t3)] 216]) (r := .lst false 1 t3) (ob := [LoopN cx (loopAt cx.P 129 0) 22 158 false [(1, .fn (.func 132) [] [.ptr 3 0 0 0 0, .ptr 2 0 0 0 0, .ptr 9 0 0 0 0, .ptr 0 0 0 0 0, .ptr 1 0 0 0 0]), (5, .own 163 0), (8, .own 80 0), (9, .d (I ((t2).length : Int))), (10, .d (I 0))] [(0, .box (.d (.lst false 10 a0))), (1, .box (.d (I a1))), (2, .box (.d (.agg [I a2, I a3, I a4]))), (3, .box (.d (I a5))), (9, .box (.d (.agg [.v (.string t1.1), I t1.2.1, I t1.2.2.1, I t1.2.2.2.1, I t1.2.2.2.2.1, I t1.2.2.2.2.2.1, I t1.2.2.2.2.2.2.1, I t1.2.2.2.2.2.2.2.1, I t1.2.2.2.2.2.2.2.2.1, I t1.2.2.2.2.2.2.2.2.2]))), (18, .box (.d (.agg [.v (.string t1.1), I t1.2.1, I t1.2.2.1, I t1.2.2.2.1, I t1.2.2.2.2.1, I t1.2.2.2.2.2.1, I t1.2.2.2.2.2.2.1, I t1.2.2.2.2.2.2.2.1, I t1.2.2.2.2.2.2.2.2.1, I t1.2.2.2.2.2.2.2.2.2]))), (19, .box (.d (I a5))), (27, .box (.own 80 0)), (30, .dead), (80, .row 0 4 t2), (163, .row 0 1 [])] (.exit 0) [(5, .own 163 0)] [(0, .box (.d (.lst false 10 a0))), (1, .box (.d (I a1))), (2, .box (.d (.agg [I a2, I a3, I a4]))), (3, .box (.d (I a5))), (9, .box (.d (.agg [.v (.string t1.1), I t1.2.1, I t1.2.2.1, I t1.2.2.2.1, I t1.2.2.2.2.1, I t1.2.2.2.2.2.1, I t1.2.2.2.2.2.2.1, I t1.2.2.2.2.2.2.2.1, I t1.2.2.2.2.2.2.2.2.1, I t1.2.2.2.2.2.2.2.2.2]))), (18, .box (.d (.agg [.v (.string t1.1), I t1.2.1, I t1.2.2.1, I t1.2.2.2.1, I t1.2.2.2.2.1, I t1.2.2.2.2.2.1, I t1.2.2.2.2.2.2.1, I t1.2.2.2.2.2.2.2.1, I t1.2.2.2.2.2.2.2.2.1, I t1.2.2.2.2.2.2.2.2.2]))), (19, .box (.d (I a5))), (27, .box (.own 80 0)), (30, .dead), (80, .row 0 4 t2), (163, .row 0 1 t3)], LoopN cx (loopAt cx.P 128 0) 49 31 false [(0, .own 30 0), (1, .ptr 19 0 0 0 0), (2, .ptr 18 0 0 0 0), (7, .d (I a5)), (8, .d (I 0))] [(0, .box (.d (.lst false 10 a0))), (1, .box (.d (I a1))), (2, .box (.d (.agg [I a2, I a3, I a4]))), (3, .box (.d (I a5))), (9, .box (.d (.agg [.v (.string t1.1), I t1.2.1, I t1.2.2.1, I t1.2.2.2.1, I t1.2.2.2.2.1, I t1.2.2.2.2.2.1, I t1.2.2.2.2.2.2.1, I t1.2.2.2.2.2.2.2.1, I t1.2.2.2.2.2.2.2.2.1, I t1.2.2.2.2.2.2.2.2.2]))), (18, .box (.d (.agg [.v (.string t1.1), I t1.2.1, I t1.2.2.1, I t1.2.2.2.1, I t1.2.2.2.2.1, I t1.2.2.2.2.2.1, I t1.2.2.2.2.2.2.1, I t1.2.2.2.2.2.2.2.1, I t1.2.2.2.2.2.2.2.2.1, I t1.2.2.2.2.2.2.2.2.2]))), (19, .box (.d (I a5))), (27, .box (.d (.lst true 0 []))), (30, .loop true [(6, .fn (.func 128) [] [.ptr 19 0 0 0 0, .ptr 18 0 0 0 0]), (4, .d (.lst true 0 [])), (2, .ptr 27 0 0 0 0), (1, .fn (.func 128) [] [.ptr 19 0 0 0 0, .ptr 18 0 0 0 0]), (0, .d (.lst true 0 []))] [7] (rangeAt cx.P 127 0).1 (rangeAt cx.P 127 0).2 13)] (.exit 0) [] [(0, .box (.d (.lst false 10 a0))), (1, .box (.d (I a1))), (2, .box (.d (.agg [I a2, I a3, I a4]))), (3, .box (.d (I a5))), (9, .box (.d (.agg [.v (.string t1.1), I t1.2.1, I t1.2.2.1, I t1.2.2.2.1, I t1.2.2.2.2.1, I t1.2.2.2.2.2.1, I t1.2.2.2.2.2.2.1, I t1.2.2.2.2.2.2.2.1, I t1.2.2.2.2.2.2.2.2.1, I t1.2.2.2.2.2.2.2.2.2]))), (18, .box (.d (.agg [.v (.string t1.1), I t1.2.1, I t1.2.2.1, I t1.2.2.2.1, I t1.2.2.2.2.1, I t1.2.2.2.2.2.1, I t1.2.2.2.2.2.2.1, I t1.2.2.2.2.2.2.2.1, I t1.2.2.2.2.2.2.2.2.1, I t1.2.2.2.2.2.2.2.2.2]))), (19, .box (.d (I a5))), (27, .box (.own 80 0)), (30, .loop true [(6, .fn (.func 128) [] [.ptr 19 0 0 0 0, .ptr 18 0 0 0 0]), (4, .d (.lst true 0 [])), (2, .ptr 27 0 0 0 0), (1, .fn (.func 128) [] [.ptr 19 0 0 0 0, .ptr 18 0 0 0 0]), (0, .d (.lst true 0 []))] [7] (rangeAt cx.P 127 0).1 (rangeAt cx.P 127 0).2 13), (80, .row 0 4 t2)], (0 : Int) ≤ a1, nth (a0) (Int.toNat a1) = some (.agg [.v (.string t1.1), I t1.2.1, I t1.2.2.1, I t1.2.2.2.1, I t1.2.2.2.2.1, I t1.2.2.2.2.2.1, I t1.2.2.2.2.2.2.1, I t1.2.2.2.2.2.2.2.1, I t1.2.2.2.2.2.2.2.2.1, I t1.2.2.2.2.2.2.2.2.2])]) (by kernel_rfl) ⟨(loopF_to R_field_blocked_L5 h3), (loopF_to R_field_blocked_L4 h2), (el_ok un_Asi9Z_ok h1).1, (el_ok un_Asi9Z_ok h1).2, trivial⟩
/- spillage/field.Blocked: .lst false 10 a0, I a1, .agg [I a2, I a3, I a4], I a5 -/
def F_field_Blocked (n : Nat) (a0 : List D) (a1 : Int) (a2 : Int) (a3 : Int) (a4 : Int) (a5 : Int) : Option (List D × Int) :=
  (F_field_checkIndex n a0 a1).bind fun t1 =>
  (F_field_checkParts n a2 a3 a4 4096).bind fun t2 =>
  (F_field_checkK n a5).bind fun t3 =>
  (F_field_first n ([I t1, I t2, I t3])).bind fun t4 =>
  if t4 = 0 then
    (F_field_blocked n a0 a1 a2 a3 a4 a5).bind fun t6 =>
    some (t6, 0)
  else
  some ([], t4)
theorem c_field_Blocked {n : Nat} {a0 : List D} {a1 : Int} {a2 : Int} {a3 : Int} {a4 : Int} {a5 : Int} {r : List D × Int} (h : F_field_Blocked n a0 a1 a2 a3 a4 a5 = some r) : Computes cx 43 [.lst false 10 a0, I a1, .agg [I a2, I a3, I a4], I a5] (.tup [.lst false 1 r.1, I r.2]) := by
  unfold F_field_Blocked at h
  obtain ⟨t1, h1, h⟩ := bnd_of h
  obtain ⟨t2, h2, h⟩ := bnd_of h
  obtain ⟨t3, h3, h⟩ := bnd_of h
  obtain ⟨t4, h4, h⟩ := bnd_of h
  by_cases h5 : t4 = 0
  · replace h := ite_t h h5
    obtain ⟨t6, h6, h⟩ := bnd_of h
    replace h := Option.some.inj h
    subst h
    exact run (n := 100) (f := 43) (args := [.lst false 10 a0, I a1, .agg [I a2, I a3, I a4], I a5]) (orc := [.ret (I t1), .ret (I t2), .ret (I t3), .ret (I t4), .br false, .ret (.lst false 1 t6)]) (r := .tup [.lst false 1 t6, I 0]) (ob := [Computes cx 97 [.lst false 10 a0, I a1, .agg [I a2, I a3, I a4], I a5] (.lst false 1 t6), (t4 != 0) = false, Computes cx 62 [.lst true 1 [I t1, I t2, I t3]] (I t4), Computes cx 81 [I a5] (I t3), Computes cx 82 [.agg [I a2, I a3, I a4], I 4096] (I t2), Computes cx 95 [.lst false 10 a0, I a1] (I t1)]) (by kernel_rfl) ⟨(c_field_blocked h6), (nef h5), ((c_field_first h4).le (.cons (.full _ _ _) (.nil)) (.refl _)), (c_field_checkK h3), (c_field_checkParts h2), (c_field_checkIndex h1), trivial⟩
  · replace h := ite_f h h5
    replace h := Option.some.inj h
    subst h
    exact (run (n := 100) (f := 43) (args := [.lst false 10 a0, I a1, .agg [I a2, I a3, I a4], I a5]) (orc := [.ret (I t1), .ret (I t2), .ret (I t3), .ret (I t4), .br true]) (r := .tup [.lst true 0 [], I t4]) (ob := [(t4 != 0) = true, Computes cx 62 [.lst true 1 [I t1, I t2, I t3]] (I t4), Computes cx 81 [I a5] (I t3), Computes cx 82 [.agg [I a2, I a3, I a4], I 4096] (I t2), Computes cx 95 [.lst false 10 a0, I a1] (I t1)]) (by kernel_rfl) ⟨(net h5), ((c_field_first h4).le (.cons (.full _ _ _) (.nil)) (.refl _)), (c_field_checkK h3), (c_field_checkParts h2), (c_field_checkIndex h1), trivial⟩).le (LEs.refl _) (.tups (.cons (.lst _ _ _ _ _ nofun (.inl rfl)) (.cons (.refl _) (.nil))))
/- spillage/spillageref01.When: B true, I 10 -/
def F_ref01_When_3 (n : Nat)  : Option (Int) :=
  some 10
theorem c_ref01_When_3 {n : Nat}  {r : Int} (h : F_ref01_When_3 n  = some r) : Computes cx 15 [B true, I 10] (I r) := by
  unfold F_ref01_When_3 at h
  replace h := Option.some.inj h
  subst h
  exact run (n := 100) (f := 15) (args := [B true, I 10]) (orc := [.no]) (r := I 10) (ob := []) (by kernel_rfl) trivial
/- spillage/spillagelaw04.checkMirror: .lst false 10 a0, I a1 -/
def F_law04_checkMirror (n : Nat) (a0 : List D) (a1 : Int) : Option (Int) :=
  (F_ref04_CheckMirrors n a0).bind fun t1 =>
  if t1 = 0 then
    if a1 < 0 then
      (F_ref01_When_3 n).bind fun t4 =>
      some t4
    else
    (F_ref01_When n (decide (a1 ≥ ((a0).length : Int))) 10).bind fun t4 =>
    some t4
  else
  some t1
theorem c_law04_checkMirror {n : Nat} {a0 : List D} {a1 : Int} {r : Int} (h : F_law04_checkMirror n a0 a1 = some r) : Computes cx 44 [.lst false 10 a0, I a1] (I r) := by
  unfold F_law04_checkMirror at h
  obtain ⟨t1, h1, h⟩ := bnd_of h
  by_cases h2 : t1 = 0
  · replace h := ite_t h h2
    by_cases h3 : a1 < 0
    · replace h := ite_t h h3
      obtain ⟨t4, h4, h⟩ := bnd_of h
      replace h := Option.some.inj h
      subst h
      exact run (n := 100) (f := 44) (args := [.lst false 10 a0, I a1]) (orc := [.ret (I t1), .br false, .br true, .ret (I t4)]) (r := I t4) (ob := [Computes cx 15 [B true, I 10] (I t4), (decide (a1 < 0)) = true, (t1 != 0) = false, Computes cx 40 [.lst false 10 a0] (I t1)]) (by kernel_rfl) ⟨(c_ref01_When_3 h4), (decide_eq_true h3), (nef h2), (c_ref04_CheckMirrors h1), trivial⟩
    · replace h := ite_f h h3
      obtain ⟨t4, h4, h⟩ := bnd_of h
      replace h := Option.some.inj h
      subst h
      exact run (n := 100) (f := 44) (args := [.lst false 10 a0, I a1]) (orc := [.ret (I t1), .br false, .br false, .ret (I t4)]) (r := I t4) (ob := [Computes cx 15 [B (decide (a1 ≥ ((a0).length : Int))), I 10] (I t4), (decide (a1 < 0)) = false, (t1 != 0) = false, Computes cx 40 [.lst false 10 a0] (I t1)]) (by kernel_rfl) ⟨(c_ref01_When h4), (decide_eq_false h3), (nef h2), (c_ref04_CheckMirrors h1), trivial⟩
  · replace h := ite_f h h2
    replace h := Option.some.inj h
    subst h
    exact run (n := 100) (f := 44) (args := [.lst false 10 a0, I a1]) (orc := [.ret (I t1), .br true]) (r := I t1) (ob := [(t1 != 0) = true, Computes cx 40 [.lst false 10 a0] (I t1)]) (by kernel_rfl) ⟨(net h2), (c_ref04_CheckMirrors h1), trivial⟩
/- spillage/spillageref04.CheckDirection: .agg [I a0, I a1, I a2] -/
def F_ref04_CheckDirection (n : Nat) (a0 : Int) (a1 : Int) (a2 : Int) : Option (Int) :=
  (F_ref04_checkParts n a0 a1 a2 1024).bind fun t1 =>
  (F_ref01_When n ((a0 == 0) && ((a1 == 0) && ((a2 == 0) && true))) 6).bind fun t2 =>
  (F_ref01_First n ([I t1, I t2])).bind fun t3 =>
  some t3
theorem c_ref04_CheckDirection {n : Nat} {a0 : Int} {a1 : Int} {a2 : Int} {r : Int} (h : F_ref04_CheckDirection n a0 a1 a2 = some r) : Computes cx 14 [.agg [I a0, I a1, I a2]] (I r) := by
  unfold F_ref04_CheckDirection at h
  obtain ⟨t1, h1, h⟩ := bnd_of h
  obtain ⟨t2, h2, h⟩ := bnd_of h
  obtain ⟨t3, h3, h⟩ := bnd_of h
  replace h := Option.some.inj h
  subst h
  exact run (n := 100) (f := 14) (args := [.agg [I a0, I a1, I a2]]) (orc := [.ret (I t1), .ret (I t2), .ret (I t3)]) (r := I t3) (ob := [Computes cx 12 [.lst true 1 [I t1, I t2]] (I t3), Computes cx 15 [B ((a0 == 0) && ((a1 == 0) && ((a2 == 0) && true))), I 6] (I t2), Computes cx 76 [.agg [I a0, I a1, I a2], I 1024] (I t1)]) (by kernel_rfl) ⟨((c_ref01_First h3).le (.cons (.full _ _ _) (.nil)) (.refl _)), (c_ref01_When h2), (c_ref04_checkParts h1), trivial⟩
/- spillage/spillageref04.CheckTarget: .agg [I a0, I a1, I a2] -/
def F_ref04_CheckTarget (n : Nat) (a0 : Int) (a1 : Int) (a2 : Int) : Option (Int) :=
  (F_ref04_checkParts n a0 a1 a2 4096).bind fun t1 =>
  some t1
theorem c_ref04_CheckTarget {n : Nat} {a0 : Int} {a1 : Int} {a2 : Int} {r : Int} (h : F_ref04_CheckTarget n a0 a1 a2 = some r) : Computes cx 45 [.agg [I a0, I a1, I a2]] (I r) := by
  unfold F_ref04_CheckTarget at h
  obtain ⟨t1, h1, h⟩ := bnd_of h
  replace h := Option.some.inj h
  subst h
  exact run (n := 100) (f := 45) (args := [.agg [I a0, I a1, I a2]]) (orc := [.ret (I t1)]) (r := I t1) (ob := [Computes cx 76 [.agg [I a0, I a1, I a2], I 4096] (I t1)]) (by kernel_rfl) ⟨(c_ref04_checkParts h1), trivial⟩
def F_ref04_hidden_L1 (n : Nat) (a0 : List D) (a1 : Int) (a2 : Int) (a3 : Int) (a4 : Int) (a5 : Int) (a6 : Int) (a7 : Int) (a8 : Int) (a9 : Bool) (sa : (Int)) : Option (((Int)) ⊕ ((Unit) ⊕ (Unit))) :=
  if sa < ((a0).length : Int) then
    if sa = a1 then
      if inI64 (sa + 1) then
      some (.inl (sa + 1))
      else none
    else
    (el un_Asi9Z a0 sa).bind fun ta3 =>
    (F_ref04_Meets n ta3.1 ta3.2.1 ta3.2.2.1 ta3.2.2.2.1 ta3.2.2.2.2.1 ta3.2.2.2.2.2.1 ta3.2.2.2.2.2.2.1 ta3.2.2.2.2.2.2.2.1 ta3.2.2.2.2.2.2.2.2.1 ta3.2.2.2.2.2.2.2.2.2 a2 a3 a4 a5 a6 a7 a8 a9).bind fun ta4 =>
    if ta4 = true then
      some (.inr (.inl ()))
    else
    if inI64 (sa + 1) then
    some (.inl (sa + 1))
    else none
  else
  some (.inr (.inr ()))
noncomputable def T_ref04_hidden_L1 (a0 : List D) (a1 : Int) (a2 : Int) (a3 : Int) (a4 : Int) (a5 : Int) (a6 : Int) (a7 : Int) (a8 : Int) (a9 : Bool) (sa : (Int)) : List (Nat × AV) := [(0, .d (.lst false 10 a0)), (1, .d (I a1)), (2, .d (I a2)), (5, .d (B a9)), (9, .ptr 0 0 0 0 0), (10, .ptr 1 0 0 0 0), (13, .d (I sa))]
noncomputable def H_ref04_hidden_L1 (a0 : List D) (a1 : Int) (a2 : Int) (a3 : Int) (a4 : Int) (a5 : Int) (a6 : Int) (a7 : Int) (a8 : Int) (a9 : Bool) (sa : (Int)) : List (Nat × Blk) := [(0, .box (.d (.agg [I a3, I a4, I a5]))), (1, .box (.d (.agg [I a6, I a7, I a8])))]
noncomputable def X_ref04_hidden_L1 (a0 : List D) (a1 : Int) (a2 : Int) (a3 : Int) (a4 : Int) (a5 : Int) (a6 : Int) (a7 : Int) (a8 : Int) (a9 : Bool) (e : (Unit) ⊕ (Unit)) : Ex := match e with
  | (.inl e) => .ret
  | (.inr e) => (.exit 0)
noncomputable def XT_ref04_hidden_L1 (a0 : List D) (a1 : Int) (a2 : Int) (a3 : Int) (a4 : Int) (a5 : Int) (a6 : Int) (a7 : Int) (a8 : Int) (a9 : Bool) (e : (Unit) ⊕ (Unit)) : List (Nat × AV) := match e with
  | (.inl e) => [(12, .d (B true))]
  | (.inr e) => []
noncomputable def XH_ref04_hidden_L1 (a0 : List D) (a1 : Int) (a2 : Int) (a3 : Int) (a4 : Int) (a5 : Int) (a6 : Int) (a7 : Int) (a8 : Int) (a9 : Bool) (e : (Unit) ⊕ (Unit)) : List (Nat × Blk) := match e with
  | (.inl e) => []
  | (.inr e) => []
theorem R_ref04_hidden_L1 {n : Nat} {a0 : List D} {a1 : Int} {a2 : Int} {a3 : Int} {a4 : Int} {a5 : Int} {a6 : Int} {a7 : Int} {a8 : Int} {a9 : Bool} (sa : (Int)) (r) (h : F_ref04_hidden_L1 n a0 a1 a2 a3 a4 a5 a6 a7 a8 a9 sa = some r) : Rd cx (loopAt cx.P 98 0) 34 0 false (T_ref04_hidden_L1 a0 a1 a2 a3 a4 a5 a6 a7 a8 a9) (H_ref04_hidden_L1 a0 a1 a2 a3 a4 a5 a6 a7 a8 a9) (X_ref04_hidden_L1 a0 a1 a2 a3 a4 a5 a6 a7 a8 a9) (XT_ref04_hidden_L1 a0 a1 a2 a3 a4 a5 a6 a7 a8 a9) (XH_ref04_hidden_L1 a0 a1 a2 a3 a4 a5 a6 a7 a8 a9) sa r := by
  unfold F_ref04_hidden_L1 at h
  by_cases ha1 : sa < ((a0).length : Int)
  · replace h := ite_t h ha1
    by_cases ha2 : sa = a1
    · replace h := ite_t h ha2
      obtain ⟨ha3, h⟩ := grd_of h
      replace h := Option.some.inj h
      subst h
      exact ⟨100, 4, [.br true, .br false, .no], [], [0, 1, 2, 5, 9, 10, 13], [0, 1], round_of (ob := [inI64 (sa + 1), (sa != a1) = false, (decide (sa < ((a0).length : Int))) = true]) (by kernel_rfl) ⟨ha3, (nef ha2), (decide_eq_true ha1), trivial⟩⟩
    · replace h := ite_f h ha2
      obtain ⟨ta3, ha3, h⟩ := bnd_of h
      obtain ⟨ta4, ha4, h⟩ := bnd_of h
      by_cases ha5 : ta4 = true
      · replace h := ite_t h ha5
        replace h := Option.some.inj h
        subst h
        exact ⟨⟨100, 4, [.br true, .br true, .el (.agg [.v (.string ta3.1), I ta3.2.1, I ta3.2.2.1, I ta3.2.2.2.1, I ta3.2.2.2.2.1, I ta3.2.2.2.2.2.1, I ta3.2.2.2.2.2.2.1, I ta3.2.2.2.2.2.2.2.1, I ta3.2.2.2.2.2.2.2.2.1, I ta3.2.2.2.2.2.2.2.2.2]), .ret (B ta4), .br true], [], [12], [], round_of (ob := [ta4 = true, Computes cx 23 [.agg [.v (.string ta3.1), I ta3.2.1, I ta3.2.2.1, I ta3.2.2.2.1, I ta3.2.2.2.2.1, I ta3.2.2.2.2.2.1, I ta3.2.2.2.2.2.2.1, I ta3.2.2.2.2.2.2.2.1, I ta3.2.2.2.2.2.2.2.2.1, I ta3.2.2.2.2.2.2.2.2.2], I a2, .agg [I a3, I a4, I a5], .agg [I a6, I a7, I a8], B a9] (B ta4), (0 : Int) ≤ sa, nth (a0) (Int.toNat sa) = some (.agg [.v (.string ta3.1), I ta3.2.1, I ta3.2.2.1, I ta3.2.2.2.1, I ta3.2.2.2.2.1, I ta3.2.2.2.2.2.1, I ta3.2.2.2.2.2.2.1, I ta3.2.2.2.2.2.2.2.1, I ta3.2.2.2.2.2.2.2.2.1, I ta3.2.2.2.2.2.2.2.2.2]), (sa != a1) = true, (decide (sa < ((a0).length : Int))) = true]) (by kernel_rfl) ⟨ha5, (c_ref04_Meets ha4), (el_ok un_Asi9Z_ok ha3).1, (el_ok un_Asi9Z_ok ha3).2, (net ha2), (decide_eq_true ha1), trivial⟩⟩, nofun⟩
      · replace h := ite_f h ha5
        obtain ⟨ha6, h⟩ := grd_of h
        replace h := Option.some.inj h
        subst h
        exact ⟨100, 4, [.br true, .br true, .el (.agg [.v (.string ta3.1), I ta3.2.1, I ta3.2.2.1, I ta3.2.2.2.1, I ta3.2.2.2.2.1, I ta3.2.2.2.2.2.1, I ta3.2.2.2.2.2.2.1, I ta3.2.2.2.2.2.2.2.1, I ta3.2.2.2.2.2.2.2.2.1, I ta3.2.2.2.2.2.2.2.2.2]), .ret (B ta4), .br false], [], [0, 1, 2, 5, 9, 10, 13], [0, 1], round_of (ob := [inI64 (sa + 1), ta4 = false, Computes cx 23 [.agg [.v (.string ta3.1), I ta3.2.1, I ta3.2.2.1, I ta3.2.2.2.1, I ta3.2.2.2.2.1, I ta3.2.2.2.2.2.1, I ta3.2.2.2.2.2.2.1, I ta3.2.2.2.2.2.2.2.1, I ta3.2.2.2.2.2.2.2.2.1, I ta3.2.2.2.2.2.2.2.2.2], I a2, .agg [I a3, I a4, I a5], .agg [I a6, I a7, I a8], B a9] (B ta4), (0 : Int) ≤ sa, nth (a0) (Int.toNat sa) = some (.agg [.v (.string ta3.1), I ta3.2.1, I ta3.2.2.1, I ta3.2.2.2.1, I ta3.2.2.2.2.1, I ta3.2.2.2.2.2.1, I ta3.2.2.2.2.2.2.1, I ta3.2.2.2.2.2.2.2.1, I ta3.2.2.2.2.2.2.2.2.1, I ta3.2.2.2.2.2.2.2.2.2]), (sa != a1) = true, (decide (sa < ((a0).length : Int))) = true]) (by kernel_rfl) ⟨ha6, (bfalse ha5), (c_ref04_Meets ha4), (el_ok un_Asi9Z_ok ha3).1, (el_ok un_Asi9Z_ok ha3).2, (net ha2), (decide_eq_true ha1), trivial⟩⟩
  · replace h := ite_f h ha1
    replace h := Option.some.inj h
    subst h
    exact ⟨⟨100, 4, [.br false], [], [], [], round_of (ob := [(decide (sa < ((a0).length : Int))) = false]) (by kernel_rfl) ⟨(decide_eq_false ha1), trivial⟩⟩, nofun⟩
/- spillage/spillageref04.hidden: .lst false 10 a0, I a1, I a2, .agg [I a3, I a4, I a5], .agg [I a6, I a7, I a8], B a9 -/
def F_ref04_hidden (n : Nat) (a0 : List D) (a1 : Int) (a2 : Int) (a3 : Int) (a4 : Int) (a5 : Int) (a6 : Int) (a7 : Int) (a8 : Int) (a9 : Bool) : Option (Bool) :=
  (loopF (F_ref04_hidden_L1 n a0 a1 a2 a3 a4 a5 a6 a7 a8 a9) n 0).bind fun t1 => match t1 with
    | (.inl t1) => (
      some true)
    | (.inr t1) => (
      some false)
theorem c_ref04_hidden {n : Nat} {a0 : List D} {a1 : Int} {a2 : Int} {a3 : Int} {a4 : Int} {a5 : Int} {a6 : Int} {a7 : Int} {a8 : Int} {a9 : Bool} {r : Bool} (h : F_ref04_hidden n a0 a1 a2 a3 a4 a5 a6 a7 a8 a9 = some r) : Computes cx 98 [.lst false 10 a0, I a1, I a2, .agg [I a3, I a4, I a5], .agg [I a6, I a7, I a8], B a9] (B r) := by
  unfold F_ref04_hidden at h
  obtain ⟨t1, h1, h⟩ := bnd_of h
  rcases t1 with t1 | t1
  · replace h := Option.some.inj h
    subst h
    exact run (n := 100) (f := 98) (args := [.lst false 10 a0, I a1, I a2, .agg [I a3, I a4, I a5], .agg [I a6, I a7, I a8], B a9]) (orc := [.lp [] [0, 1, 2, 5, 9, 10, 13] [0, 1] .ret [(12, .d (B true))] [] 36]) (r := B true) (ob := [LoopN cx (loopAt cx.P 98 0) 34 0 false [(0, .d (.lst false 10 a0)), (1, .d (I a1)), (2, .d (I a2)), (5, .d (B a9)), (9, .ptr 0 0 0 0 0), (10, .ptr 1 0 0 0 0), (13, .d (I 0))] [(0, .box (.d (.agg [I a3, I a4, I a5]))), (1, .box (.d (.agg [I a6, I a7, I a8])))] .ret [(12, .d (B true))] []]) (by kernel_rfl) ⟨(loopF_to R_ref04_hidden_L1 h1), trivial⟩
  · replace h := Option.some.inj h
    subst h
    exact run (n := 100) (f := 98) (args := [.lst false 10 a0, I a1, I a2, .agg [I a3, I a4, I a5], .agg [I a6, I a7, I a8], B a9]) (orc := [.lp [] [0, 1, 2, 5, 9, 10, 13] [0, 1] (.exit 0) [] [] 36]) (r := B false) (ob := [LoopN cx (loopAt cx.P 98 0) 34 0 false [(0, .d (.lst false 10 a0)), (1, .d (I a1)), (2, .d (I a2)), (5, .d (B a9)), (9, .ptr 0 0 0 0 0), (10, .ptr 1 0 0 0 0), (13, .d (I 0))] [(0, .box (.d (.agg [I a3, I a4, I a5]))), (1, .box (.d (.agg [I a6, I a7, I a8])))] (.exit 0) [] []]) (by kernel_rfl) ⟨(loopF_to R_ref04_hidden_L1 h1), trivial⟩
def F_ref04_Dark_L1 (n : Nat) (a0 : List D) (a1 : Int) (a2 : Int) (a3 : Int) (a4 : Int) (a5 : Int) (t2 : List D) (sa : (Int × List D)) : Option (((Int × List D)) ⊕ ((List D))) :=
  if sa.1 < ((t2).length : Int) then
    (el un_Asi9Z a0 a1).bind fun ta2 =>
    (F_ref04_Normal n ta2.1 ta2.2.1 ta2.2.2.1 ta2.2.2.2.1 ta2.2.2.2.2.1 ta2.2.2.2.2.2.1 ta2.2.2.2.2.2.2.1 ta2.2.2.2.2.2.2.2.1 ta2.2.2.2.2.2.2.2.2.1 ta2.2.2.2.2.2.2.2.2.2).bind fun ta3 =>
    (F_ref04_Dot n ta3.1 ta3.2.1 ta3.2.2 a2 a3 a4).bind fun ta4 =>
    if ta4 ≤ 0 then
      if roomP 1 ((sa.2).length + 1) then
      if inI64 (sa.1 + 1) then
      some (.inl ((sa.1 + 1), (sa.2 ++ ([B true] : List D))))
      else none
      else none
    else
    (el un_Ai3Z t2 sa.1).bind fun ta6 =>
    (F_ref04_hidden n a0 a1 a5 ta6.1 ta6.2.1 ta6.2.2 a2 a3 a4 false).bind fun ta7 =>
    if roomP 1 ((sa.2).length + 1) then
    if inI64 (sa.1 + 1) then
    some (.inl ((sa.1 + 1), (sa.2 ++ ([B ta7] : List D))))
    else none
    else none
  else
  some (.inr sa.2)
noncomputable def T_ref04_Dark_L1 (a0 : List D) (a1 : Int) (a2 : Int) (a3 : Int) (a4 : Int) (a5 : Int) (t2 : List D) (sa : (Int × List D)) : List (Nat × AV) := [(0, .d (.lst false 10 a0)), (1, .d (I a1)), (3, .d (I a5)), (6, .ptr 0 0 0 0 0), (9, .own 11 0), (10, .d (.lst false 3 t2)), (11, .d (I sa.1))]
noncomputable def H_ref04_Dark_L1 (a0 : List D) (a1 : Int) (a2 : Int) (a3 : Int) (a4 : Int) (a5 : Int) (t2 : List D) (sa : (Int × List D)) : List (Nat × Blk) := [(0, .box (.d (.agg [I a2, I a3, I a4]))), (11, .row 0 1 sa.2)]
noncomputable def X_ref04_Dark_L1 (a0 : List D) (a1 : Int) (a2 : Int) (a3 : Int) (a4 : Int) (a5 : Int) (t2 : List D) (e : (List D)) : Ex := (.exit 0)
noncomputable def XT_ref04_Dark_L1 (a0 : List D) (a1 : Int) (a2 : Int) (a3 : Int) (a4 : Int) (a5 : Int) (t2 : List D) (e : (List D)) : List (Nat × AV) := [(9, .own 11 0)]
noncomputable def XH_ref04_Dark_L1 (a0 : List D) (a1 : Int) (a2 : Int) (a3 : Int) (a4 : Int) (a5 : Int) (t2 : List D) (e : (List D)) : List (Nat × Blk) := [(11, .row 0 1 e)]
theorem R_ref04_Dark_L1 {n : Nat} {a0 : List D} {a1 : Int} {a2 : Int} {a3 : Int} {a4 : Int} {a5 : Int} {t2 : List D} (sa : (Int × List D)) (r) (h : F_ref04_Dark_L1 n a0 a1 a2 a3 a4 a5 t2 sa = some r) : Rd cx (loopAt cx.P 46 0) 47 0 false (T_ref04_Dark_L1 a0 a1 a2 a3 a4 a5 t2) (H_ref04_Dark_L1 a0 a1 a2 a3 a4 a5 t2) (X_ref04_Dark_L1 a0 a1 a2 a3 a4 a5 t2) (XT_ref04_Dark_L1 a0 a1 a2 a3 a4 a5 t2) (XH_ref04_Dark_L1 a0 a1 a2 a3 a4 a5 t2) sa r := by
  unfold F_ref04_Dark_L1 at h
  by_cases ha1 : sa.1 < ((t2).length : Int)
  · replace h := ite_t h ha1
    obtain ⟨ta2, ha2, h⟩ := bnd_of h
    obtain ⟨ta3, ha3, h⟩ := bnd_of h
    obtain ⟨ta4, ha4, h⟩ := bnd_of h
    by_cases ha5 : ta4 ≤ 0
    · replace h := ite_t h ha5
      obtain ⟨ha6, h⟩ := grd_of h
      obtain ⟨ha7, h⟩ := grd_of h
      replace h := Option.some.inj h
      subst h
      exact ⟨100, 12, [.br true, .el (.agg [.v (.string ta2.1), I ta2.2.1, I ta2.2.2.1, I ta2.2.2.2.1, I ta2.2.2.2.2.1, I ta2.2.2.2.2.2.1, I ta2.2.2.2.2.2.2.1, I ta2.2.2.2.2.2.2.2.1, I ta2.2.2.2.2.2.2.2.2.1, I ta2.2.2.2.2.2.2.2.2.2]), .ret (.agg [I ta3.1, I ta3.2.1, I ta3.2.2]), .ret (I ta4), .br true, .br true], [], [0, 1, 3, 6, 9, 10, 11], [0, 11], round_of (ob := [inI64 (sa.1 + 1), room cx 4 ((sa.2).length + 1), (decide (ta4 ≤ 0)) = true, Computes cx 78 [.agg [I ta3.1, I ta3.2.1, I ta3.2.2], .agg [I a2, I a3, I a4]] (I ta4), Computes cx 35 [.agg [.v (.string ta2.1), I ta2.2.1, I ta2.2.2.1, I ta2.2.2.2.1, I ta2.2.2.2.2.1, I ta2.2.2.2.2.2.1, I ta2.2.2.2.2.2.2.1, I ta2.2.2.2.2.2.2.2.1, I ta2.2.2.2.2.2.2.2.2.1, I ta2.2.2.2.2.2.2.2.2.2]] (.agg [I ta3.1, I ta3.2.1, I ta3.2.2]), (0 : Int) ≤ a1, nth (a0) (Int.toNat a1) = some (.agg [.v (.string ta2.1), I ta2.2.1, I ta2.2.2.1, I ta2.2.2.2.1, I ta2.2.2.2.2.1, I ta2.2.2.2.2.2.1, I ta2.2.2.2.2.2.2.1, I ta2.2.2.2.2.2.2.2.1, I ta2.2.2.2.2.2.2.2.2.1, I ta2.2.2.2.2.2.2.2.2.2]), (decide (sa.1 < ((t2).length : Int))) = true]) (by kernel_rfl) ⟨ha7, (room_of (b := 1) (by kernel_rfl) (by decide) ha6), (decide_eq_true ha5), (c_ref04_Dot ha4), (c_ref04_Normal ha3), (el_ok un_Asi9Z_ok ha2).1, (el_ok un_Asi9Z_ok ha2).2, (decide_eq_true ha1), trivial⟩⟩
    · replace h := ite_f h ha5
      obtain ⟨ta6, ha6, h⟩ := bnd_of h
      obtain ⟨ta7, ha7, h⟩ := bnd_of h
      obtain ⟨ha8, h⟩ := grd_of h
      obtain ⟨ha9, h⟩ := grd_of h
      replace h := Option.some.inj h
      subst h
      exact ⟨100, 12, [.br true, .el (.agg [.v (.string ta2.1), I ta2.2.1, I ta2.2.2.1, I ta2.2.2.2.1, I ta2.2.2.2.2.1, I ta2.2.2.2.2.2.1, I ta2.2.2.2.2.2.2.1, I ta2.2.2.2.2.2.2.2.1, I ta2.2.2.2.2.2.2.2.2.1, I ta2.2.2.2.2.2.2.2.2.2]), .ret (.agg [I ta3.1, I ta3.2.1, I ta3.2.2]), .ret (I ta4), .br false, .el (.agg [I ta6.1, I ta6.2.1, I ta6.2.2]), .ret (B ta7), .br true], [], [0, 1, 3, 6, 9, 10, 11], [0, 11], round_of (ob := [inI64 (sa.1 + 1), room cx 4 ((sa.2).length + 1), Computes cx 98 [.lst false 10 a0, I a1, I a5, .agg [I ta6.1, I ta6.2.1, I ta6.2.2], .agg [I a2, I a3, I a4], B false] (B ta7), (0 : Int) ≤ sa.1, nth (t2) (Int.toNat sa.1) = some (.agg [I ta6.1, I ta6.2.1, I ta6.2.2]), (decide (ta4 ≤ 0)) = false, Computes cx 78 [.agg [I ta3.1, I ta3.2.1, I ta3.2.2], .agg [I a2, I a3, I a4]] (I ta4), Computes cx 35 [.agg [.v (.string ta2.1), I ta2.2.1, I ta2.2.2.1, I ta2.2.2.2.1, I ta2.2.2.2.2.1, I ta2.2.2.2.2.2.1, I ta2.2.2.2.2.2.2.1, I ta2.2.2.2.2.2.2.2.1, I ta2.2.2.2.2.2.2.2.2.1, I ta2.2.2.2.2.2.2.2.2.2]] (.agg [I ta3.1, I ta3.2.1, I ta3.2.2]), (0 : Int) ≤ a1, nth (a0) (Int.toNat a1) = some (.agg [.v (.string ta2.1), I ta2.2.1, I ta2.2.2.1, I ta2.2.2.2.1, I ta2.2.2.2.2.1, I ta2.2.2.2.2.2.1, I ta2.2.2.2.2.2.2.1, I ta2.2.2.2.2.2.2.2.1, I ta2.2.2.2.2.2.2.2.2.1, I ta2.2.2.2.2.2.2.2.2.2]), (decide (sa.1 < ((t2).length : Int))) = true]) (by kernel_rfl) ⟨ha9, (room_of (b := 1) (by kernel_rfl) (by decide) ha8), (c_ref04_hidden ha7), (el_ok un_Ai3Z_ok ha6).1, (el_ok un_Ai3Z_ok ha6).2, (decide_eq_false ha5), (c_ref04_Dot ha4), (c_ref04_Normal ha3), (el_ok un_Asi9Z_ok ha2).1, (el_ok un_Asi9Z_ok ha2).2, (decide_eq_true ha1), trivial⟩⟩
  · replace h := ite_f h ha1
    replace h := Option.some.inj h
    subst h
    exact ⟨⟨100, 12, [.br false], [], [9], [11], round_of (ob := [(decide (sa.1 < ((t2).length : Int))) = false]) (by kernel_rfl) ⟨(decide_eq_false ha1), trivial⟩⟩, nofun⟩
/- spillage/spillageref04.Dark: .lst false 10 a0, I a1, .agg [I a2, I a3, I a4], I a5 -/
def F_ref04_Dark (n : Nat) (a0 : List D) (a1 : Int) (a2 : Int) (a3 : Int) (a4 : Int) (a5 : Int) : Option (List D) :=
  (el un_Asi9Z a0 a1).bind fun t1 =>
  (F_ref04_Facets n t1.1 t1.2.1 t1.2.2.1 t1.2.2.2.1 t1.2.2.2.2.1 t1.2.2.2.2.2.1 t1.2.2.2.2.2.2.1 t1.2.2.2.2.2.2.2.1 t1.2.2.2.2.2.2.2.2.1 t1.2.2.2.2.2.2.2.2.2 a5).bind fun t2 =>
  (loopF (F_ref04_Dark_L1 n a0 a1 a2 a3 a4 a5 t2) n (0, [])).bind fun t3 =>
  some t3
theorem c_ref04_Dark {n : Nat} {a0 : List D} {a1 : Int} {a2 : Int} {a3 : Int} {a4 : Int} {a5 : Int} {r : List D} (h : F_ref04_Dark n a0 a1 a2 a3 a4 a5 = some r) : Computes cx 46 [.lst false 10 a0, I a1, .agg [I a2, I a3, I a4], I a5] (.lst false 1 r) := by
  unfold F_ref04_Dark at h
  obtain ⟨t1, h1, h⟩ := bnd_of h
  obtain ⟨t2, h2, h⟩ := bnd_of h
  obtain ⟨t3, h3, h⟩ := bnd_of h
  replace h := Option.some.inj h
  subst h
  exact run (n := 100) (f := 46) (args := [.lst false 10 a0, I a1, .agg [I a2, I a3, I a4], I a5]) (orc := [.el (.agg [.v (.string t1.1), I t1.2.1, I t1.2.2.1, I t1.2.2.2.1, I t1.2.2.2.2.1, I t1.2.2.2.2.2.1, I t1.2.2.2.2.2.2.1, I t1.2.2.2.2.2.2.2.1, I t1.2.2.2.2.2.2.2.2.1, I t1.2.2.2.2.2.2.2.2.2]), .ret (.lst false 3 t2), .lp [9, 1] [0, 1, 3, 6, 9, 10, 11] [0, 11] (.exit 0) [(9, .own 11 0)] [(11, .row 0 1 t3)] 53]) (r := .lst false 1 t3) (ob := [LoopN cx (loopAt cx.P 46 0) 47 0 false [(0, .d (.lst false 10 a0)), (1, .d (I a1)), (3, .d (I a5)), (6, .ptr 0 0 0 0 0), (9, .own 11 0), (10, .d (.lst false 3 t2)), (11, .d (I 0))] [(0, .box (.d (.agg [I a2, I a3, I a4]))), (11, .row 0 1 [])] (.exit 0) [(9, .own 11 0)] [(11, .row 0 1 t3)], Computes cx 36 [.agg [.v (.string t1.1), I t1.2.1, I t1.2.2.1, I t1.2.2.2.1, I t1.2.2.2.2.1, I t1.2.2.2.2.2.1, I t1.2.2.2.2.2.2.1, I t1.2.2.2.2.2.2.2.1, I t1.2.2.2.2.2.2.2.2.1, I t1.2.2.2.2.2.2.2.2.2], I a5] (.lst false 3 t2), (0 : Int) ≤ a1, nth (a0) (Int.toNat a1) = some (.agg [.v (.string t1.1), I t1.2.1, I t1.2.2.1, I t1.2.2.2.1, I t1.2.2.2.2.1, I t1.2.2.2.2.2.1, I t1.2.2.2.2.2.2.1, I t1.2.2.2.2.2.2.2.1, I t1.2.2.2.2.2.2.2.2.1, I t1.2.2.2.2.2.2.2.2.2])]) (by kernel_rfl) ⟨(loopF_to R_ref04_Dark_L1 h3), (c_ref04_Facets h2), (el_ok un_Asi9Z_ok h1).1, (el_ok un_Asi9Z_ok h1).2, trivial⟩
def F_ref04_Blocked_L1 (n : Nat) (a0 : List D) (a1 : Int) (a2 : Int) (a3 : Int) (a4 : Int) (a5 : Int) (t2 : List D) (sa : (Int × List D)) : Option (((Int × List D)) ⊕ ((List D))) :=
  if sa.1 < ((t2).length : Int) then
    (F_ref04_times n a5 a2 a3 a4).bind fun ta2 =>
    (el un_Ai3Z t2 sa.1).bind fun ta3 =>
    (F_ref04_times n (-1) ta3.1 ta3.2.1 ta3.2.2).bind fun ta4 =>
    (F_ref04_plus n ta2.1 ta2.2.1 ta2.2.2 ta4.1 ta4.2.1 ta4.2.2).bind fun ta5 =>
    (el un_Asi9Z a0 a1).bind fun ta6 =>
    (F_ref04_Normal n ta6.1 ta6.2.1 ta6.2.2.1 ta6.2.2.2.1 ta6.2.2.2.2.1 ta6.2.2.2.2.2.1 ta6.2.2.2.2.2.2.1 ta6.2.2.2.2.2.2.2.1 ta6.2.2.2.2.2.2.2.2.1 ta6.2.2.2.2.2.2.2.2.2).bind fun ta7 =>
    (F_ref04_Dot n ta7.1 ta7.2.1 ta7.2.2 ta5.1 ta5.2.1 ta5.2.2).bind fun ta8 =>
    if ta8 ≤ 0 then
      if roomP 1 ((sa.2).length + 1) then
      if inI64 (sa.1 + 1) then
      some (.inl ((sa.1 + 1), (sa.2 ++ ([B true] : List D))))
      else none
      else none
    else
    (F_ref04_hidden n a0 a1 a5 ta3.1 ta3.2.1 ta3.2.2 ta5.1 ta5.2.1 ta5.2.2 true).bind fun ta10 =>
    if roomP 1 ((sa.2).length + 1) then
    if inI64 (sa.1 + 1) then
    some (.inl ((sa.1 + 1), (sa.2 ++ ([B ta10] : List D))))
    else none
    else none
  else
  some (.inr sa.2)
noncomputable def T_ref04_Blocked_L1 (a0 : List D) (a1 : Int) (a2 : Int) (a3 : Int) (a4 : Int) (a5 : Int) (t2 : List D) (sa : (Int × List D)) : List (Nat × AV) := [(0, .d (.lst false 10 a0)), (1, .d (I a1)), (3, .d (I a5)), (6, .ptr 0 0 0 0 0), (9, .own 11 0), (10, .d (.lst false 3 t2)), (11, .d (I sa.1))]
noncomputable def H_ref04_Blocked_L1 (a0 : List D) (a1 : Int) (a2 : Int) (a3 : Int) (a4 : Int) (a5 : Int) (t2 : List D) (sa : (Int × List D)) : List (Nat × Blk) := [(0, .box (.d (.agg [I a2, I a3, I a4]))), (11, .row 0 1 sa.2)]
noncomputable def X_ref04_Blocked_L1 (a0 : List D) (a1 : Int) (a2 : Int) (a3 : Int) (a4 : Int) (a5 : Int) (t2 : List D) (e : (List D)) : Ex := (.exit 0)
noncomputable def XT_ref04_Blocked_L1 (a0 : List D) (a1 : Int) (a2 : Int) (a3 : Int) (a4 : Int) (a5 : Int) (t2 : List D) (e : (List D)) : List (Nat × AV) := [(9, .own 11 0)]
noncomputable def XH_ref04_Blocked_L1 (a0 : List D) (a1 : Int) (a2 : Int) (a3 : Int) (a4 : Int) (a5 : Int) (t2 : List D) (e : (List D)) : List (Nat × Blk) := [(11, .row 0 1 e)]
theorem R_ref04_Blocked_L1 {n : Nat} {a0 : List D} {a1 : Int} {a2 : Int} {a3 : Int} {a4 : Int} {a5 : Int} {t2 : List D} (sa : (Int × List D)) (r) (h : F_ref04_Blocked_L1 n a0 a1 a2 a3 a4 a5 t2 sa = some r) : Rd cx (loopAt cx.P 47 0) 57 0 false (T_ref04_Blocked_L1 a0 a1 a2 a3 a4 a5 t2) (H_ref04_Blocked_L1 a0 a1 a2 a3 a4 a5 t2) (X_ref04_Blocked_L1 a0 a1 a2 a3 a4 a5 t2) (XT_ref04_Blocked_L1 a0 a1 a2 a3 a4 a5 t2) (XH_ref04_Blocked_L1 a0 a1 a2 a3 a4 a5 t2) sa r := by
  unfold F_ref04_Blocked_L1 at h
  by_cases ha1 : sa.1 < ((t2).length : Int)
  · replace h := ite_t h ha1
    obtain ⟨ta2, ha2, h⟩ := bnd_of h
    obtain ⟨ta3, ha3, h⟩ := bnd_of h
    obtain ⟨ta4, ha4, h⟩ := bnd_of h
    obtain ⟨ta5, ha5, h⟩ := bnd_of h
    obtain ⟨ta6, ha6, h⟩ := bnd_of h
    obtain ⟨ta7, ha7, h⟩ := bnd_of h
    obtain ⟨ta8, ha8, h⟩ := bnd_of h
    by_cases ha9 : ta8 ≤ 0
    · replace h := ite_t h ha9
      obtain ⟨ha10, h⟩ := grd_of h
      obtain ⟨ha11, h⟩ := grd_of h
      replace h := Option.some.inj h
      subst h
      exact ⟨100, 12, [.br true, .ret (.agg [I ta2.1, I ta2.2.1, I ta2.2.2]), .el (.agg [I ta3.1, I ta3.2.1, I ta3.2.2]), .ret (.agg [I ta4.1, I ta4.2.1, I ta4.2.2]), .ret (.agg [I ta5.1, I ta5.2.1, I ta5.2.2]), .el (.agg [.v (.string ta6.1), I ta6.2.1, I ta6.2.2.1, I ta6.2.2.2.1, I ta6.2.2.2.2.1, I ta6.2.2.2.2.2.1, I ta6.2.2.2.2.2.2.1, I ta6.2.2.2.2.2.2.2.1, I ta6.2.2.2.2.2.2.2.2.1, I ta6.2.2.2.2.2.2.2.2.2]), .ret (.agg [I ta7.1, I ta7.2.1, I ta7.2.2]), .ret (I ta8), .br true, .br true], [], [0, 1, 3, 6, 9, 10, 11], [0, 11], round_of (ob := [inI64 (sa.1 + 1), room cx 4 ((sa.2).length + 1), (decide (ta8 ≤ 0)) = true, Computes cx 78 [.agg [I ta7.1, I ta7.2.1, I ta7.2.2], .agg [I ta5.1, I ta5.2.1, I ta5.2.2]] (I ta8), Computes cx 35 [.agg [.v (.string ta6.1), I ta6.2.1, I ta6.2.2.1, I ta6.2.2.2.1, I ta6.2.2.2.2.1, I ta6.2.2.2.2.2.1, I ta6.2.2.2.2.2.2.1, I ta6.2.2.2.2.2.2.2.1, I ta6.2.2.2.2.2.2.2.2.1, I ta6.2.2.2.2.2.2.2.2.2]] (.agg [I ta7.1, I ta7.2.1, I ta7.2.2]), (0 : Int) ≤ a1, nth (a0) (Int.toNat a1) = some (.agg [.v (.string ta6.1), I ta6.2.1, I ta6.2.2.1, I ta6.2.2.2.1, I ta6.2.2.2.2.1, I ta6.2.2.2.2.2.1, I ta6.2.2.2.2.2.2.1, I ta6.2.2.2.2.2.2.2.1, I ta6.2.2.2.2.2.2.2.2.1, I ta6.2.2.2.2.2.2.2.2.2]), Computes cx 85 [.agg [I ta2.1, I ta2.2.1, I ta2.2.2], .agg [I ta4.1, I ta4.2.1, I ta4.2.2]] (.agg [I ta5.1, I ta5.2.1, I ta5.2.2]), Computes cx 86 [I (-1), .agg [I ta3.1, I ta3.2.1, I ta3.2.2]] (.agg [I ta4.1, I ta4.2.1, I ta4.2.2]), (0 : Int) ≤ sa.1, nth (t2) (Int.toNat sa.1) = some (.agg [I ta3.1, I ta3.2.1, I ta3.2.2]), Computes cx 86 [I a5, .agg [I a2, I a3, I a4]] (.agg [I ta2.1, I ta2.2.1, I ta2.2.2]), (decide (sa.1 < ((t2).length : Int))) = true]) (by kernel_rfl) ⟨ha11, (room_of (b := 1) (by kernel_rfl) (by decide) ha10), (decide_eq_true ha9), (c_ref04_Dot ha8), (c_ref04_Normal ha7), (el_ok un_Asi9Z_ok ha6).1, (el_ok un_Asi9Z_ok ha6).2, (c_ref04_plus ha5), (c_ref04_times ha4), (el_ok un_Ai3Z_ok ha3).1, (el_ok un_Ai3Z_ok ha3).2, (c_ref04_times ha2), (decide_eq_true ha1), trivial⟩⟩
    · replace h := ite_f h ha9
      obtain ⟨ta10, ha10, h⟩ := bnd_of h
      obtain ⟨ha11, h⟩ := grd_of h
      obtain ⟨ha12, h⟩ := grd_of h
      replace h := Option.some.inj h
      subst h
      exact ⟨100, 12, [.br true, .ret (.agg [I ta2.1, I ta2.2.1, I ta2.2.2]), .el (.agg [I ta3.1, I ta3.2.1, I ta3.2.2]), .ret (.agg [I ta4.1, I ta4.2.1, I ta4.2.2]), .ret (.agg [I ta5.1, I ta5.2.1, I ta5.2.2]), .el (.agg [.v (.string ta6.1), I ta6.2.1, I ta6.2.2.1, I ta6.2.2.2.1, I ta6.2.2.2.2.1, I ta6.2.2.2.2.2.1, I ta6.2.2.2.2.2.2.1, I ta6.2.2.2.2.2.2.2.1, I ta6.2.2.2.2.2.2.2.2.1, I ta6.2.2.2.2.2.2.2.2.2]), .ret (.agg [I ta7.1, I ta7.2.1, I ta7.2.2]), .ret (I ta8), .br false, .el (.agg [I ta3.1, I ta3.2.1, I ta3.2.2]), .ret (B ta10), .br true], [], [0, 1, 3, 6, 9, 10, 11], [0, 11], round_of (ob := [inI64 (sa.1 + 1), room cx 4 ((sa.2).length + 1), Computes cx 98 [.lst false 10 a0, I a1, I a5, .agg [I ta3.1, I ta3.2.1, I ta3.2.2], .agg [I ta5.1, I ta5.2.1, I ta5.2.2], B true] (B ta10), (0 : Int) ≤ sa.1, nth (t2) (Int.toNat sa.1) = some (.agg [I ta3.1, I ta3.2.1, I ta3.2.2]), (decide (ta8 ≤ 0)) = false, Computes cx 78 [.agg [I ta7.1, I ta7.2.1, I ta7.2.2], .agg [I ta5.1, I ta5.2.1, I ta5.2.2]] (I ta8), Computes cx 35 [.agg [.v (.string ta6.1), I ta6.2.1, I ta6.2.2.1, I ta6.2.2.2.1, I ta6.2.2.2.2.1, I ta6.2.2.2.2.2.1, I ta6.2.2.2.2.2.2.1, I ta6.2.2.2.2.2.2.2.1, I ta6.2.2.2.2.2.2.2.2.1, I ta6.2.2.2.2.2.2.2.2.2]] (.agg [I ta7.1, I ta7.2.1, I ta7.2.2]), (0 : Int) ≤ a1, nth (a0) (Int.toNat a1) = some (.agg [.v (.string ta6.1), I ta6.2.1, I ta6.2.2.1, I ta6.2.2.2.1, I ta6.2.2.2.2.1, I ta6.2.2.2.2.2.1, I ta6.2.2.2.2.2.2.1, I ta6.2.2.2.2.2.2.2.1, I ta6.2.2.2.2.2.2.2.2.1, I ta6.2.2.2.2.2.2.2.2.2]), Computes cx 85 [.agg [I ta2.1, I ta2.2.1, I ta2.2.2], .agg [I ta4.1, I ta4.2.1, I ta4.2.2]] (.agg [I ta5.1, I ta5.2.1, I ta5.2.2]), Computes cx 86 [I (-1), .agg [I ta3.1, I ta3.2.1, I ta3.2.2]] (.agg [I ta4.1, I ta4.2.1, I ta4.2.2]), (0 : Int) ≤ sa.1, nth (t2) (Int.toNat sa.1) = some (.agg [I ta3.1, I ta3.2.1, I ta3.2.2]), Computes cx 86 [I a5, .agg [I a2, I a3, I a4]] (.agg [I ta2.1, I ta2.2.1, I ta2.2.2]), (decide (sa.1 < ((t2).length : Int))) = true]) (by kernel_rfl) ⟨ha12, (room_of (b := 1) (by kernel_rfl) (by decide) ha11), (c_ref04_hidden ha10), (el_ok un_Ai3Z_ok ha3).1, (el_ok un_Ai3Z_ok ha3).2, (decide_eq_false ha9), (c_ref04_Dot ha8), (c_ref04_Normal ha7), (el_ok un_Asi9Z_ok ha6).1, (el_ok un_Asi9Z_ok ha6).2, (c_ref04_plus ha5), (c_ref04_times ha4), (el_ok un_Ai3Z_ok ha3).1, (el_ok un_Ai3Z_ok ha3).2, (c_ref04_times ha2), (decide_eq_true ha1), trivial⟩⟩
  · replace h := ite_f h ha1
    replace h := Option.some.inj h
    subst h
    exact ⟨⟨100, 12, [.br false], [], [9], [11], round_of (ob := [(decide (sa.1 < ((t2).length : Int))) = false]) (by kernel_rfl) ⟨(decide_eq_false ha1), trivial⟩⟩, nofun⟩
/- spillage/spillageref04.Blocked: .lst false 10 a0, I a1, .agg [I a2, I a3, I a4], I a5 -/
def F_ref04_Blocked (n : Nat) (a0 : List D) (a1 : Int) (a2 : Int) (a3 : Int) (a4 : Int) (a5 : Int) : Option (List D) :=
  (el un_Asi9Z a0 a1).bind fun t1 =>
  (F_ref04_Facets n t1.1 t1.2.1 t1.2.2.1 t1.2.2.2.1 t1.2.2.2.2.1 t1.2.2.2.2.2.1 t1.2.2.2.2.2.2.1 t1.2.2.2.2.2.2.2.1 t1.2.2.2.2.2.2.2.2.1 t1.2.2.2.2.2.2.2.2.2 a5).bind fun t2 =>
  (loopF (F_ref04_Blocked_L1 n a0 a1 a2 a3 a4 a5 t2) n (0, [])).bind fun t3 =>
  some t3
theorem c_ref04_Blocked {n : Nat} {a0 : List D} {a1 : Int} {a2 : Int} {a3 : Int} {a4 : Int} {a5 : Int} {r : List D} (h : F_ref04_Blocked n a0 a1 a2 a3 a4 a5 = some r) : Computes cx 47 [.lst false 10 a0, I a1, .agg [I a2, I a3, I a4], I a5] (.lst false 1 r) := by
  unfold F_ref04_Blocked at h
  obtain ⟨t1, h1, h⟩ := bnd_of h
  obtain ⟨t2, h2, h⟩ := bnd_of h
  obtain ⟨t3, h3, h⟩ := bnd_of h
  replace h := Option.some.inj h
  subst h
  exact run (n := 100) (f := 47) (args := [.lst false 10 a0, I a1, .agg [I a2, I a3, I a4], I a5]) (orc := [.el (.agg [.v (.string t1.1), I t1.2.1, I t1.2.2.1, I t1.2.2.2.1, I t1.2.2.2.2.1, I t1.2.2.2.2.2.1, I t1.2.2.2.2.2.2.1, I t1.2.2.2.2.2.2.2.1, I t1.2.2.2.2.2.2.2.2.1, I t1.2.2.2.2.2.2.2.2.2]), .ret (.lst false 3 t2), .lp [9, 1] [0, 1, 3, 6, 9, 10, 11] [0, 11] (.exit 0) [(9, .own 11 0)] [(11, .row 0 1 t3)] 64]) (r := .lst false 1 t3) (ob := [LoopN cx (loopAt cx.P 47 0) 57 0 false [(0, .d (.lst false 10 a0)), (1, .d (I a1)), (3, .d (I a5)), (6, .ptr 0 0 0 0 0), (9, .own 11 0), (10, .d (.lst false 3 t2)), (11, .d (I 0))] [(0, .box (.d (.agg [I a2, I a3, I a4]))), (11, .row 0 1 [])] (.exit 0) [(9, .own 11 0)] [(11, .row 0 1 t3)], Computes cx 36 [.agg [.v (.string t1.1), I t1.2.1, I t1.2.2.1, I t1.2.2.2.1, I t1.2.2.2.2.1, I t1.2.2.2.2.2.1, I t1.2.2.2.2.2.2.1, I t1.2.2.2.2.2.2.2.1, I t1.2.2.2.2.2.2.2.2.1, I t1.2.2.2.2.2.2.2.2.2], I a5] (.lst false 3 t2), (0 : Int) ≤ a1, nth (a0) (Int.toNat a1) = some (.agg [.v (.string t1.1), I t1.2.1, I t1.2.2.1, I t1.2.2.2.1, I t1.2.2.2.2.1, I t1.2.2.2.2.2.1, I t1.2.2.2.2.2.2.1, I t1.2.2.2.2.2.2.2.1, I t1.2.2.2.2.2.2.2.2.1, I t1.2.2.2.2.2.2.2.2.2])]) (by kernel_rfl) ⟨(loopF_to R_ref04_Blocked_L1 h3), (c_ref04_Facets h2), (el_ok un_Asi9Z_ok h1).1, (el_ok un_Asi9Z_ok h1).2, trivial⟩
def F_ref04_SameFlags_L1 (n : Nat) (a0 : List D) (a1 : List D) (sa : (Int)) : Option (((Int)) ⊕ ((Unit) ⊕ (Unit))) :=
  if sa < ((a0).length : Int) then
    (el un_b a0 sa).bind fun ta2 =>
    (el un_b a1 sa).bind fun ta3 =>
    if (!(ta2 == ta3)) = true then
      some (.inr (.inl ()))
    else
    if inI64 (sa + 1) then
    some (.inl (sa + 1))
    else none
  else
  some (.inr (.inr ()))
noncomputable def T_ref04_SameFlags_L1 (a0 : List D) (a1 : List D) (sa : (Int)) : List (Nat × AV) := [(0, .d (.lst false 1 a0)), (1, .d (.lst false 1 a1)), (5, .d (I sa))]
noncomputable def H_ref04_SameFlags_L1 (a0 : List D) (a1 : List D) (sa : (Int)) : List (Nat × Blk) := []
noncomputable def X_ref04_SameFlags_L1 (a0 : List D) (a1 : List D) (e : (Unit) ⊕ (Unit)) : Ex := match e with
  | (.inl e) => .ret
  | (.inr e) => (.exit 0)
noncomputable def XT_ref04_SameFlags_L1 (a0 : List D) (a1 : List D) (e : (Unit) ⊕ (Unit)) : List (Nat × AV) := match e with
  | (.inl e) => [(4, .d (B false))]
  | (.inr e) => []
noncomputable def XH_ref04_SameFlags_L1 (a0 : List D) (a1 : List D) (e : (Unit) ⊕ (Unit)) : List (Nat × Blk) := match e with
  | (.inl e) => []
  | (.inr e) => []
theorem R_ref04_SameFlags_L1 {n : Nat} {a0 : List D} {a1 : List D} (sa : (Int)) (r) (h : F_ref04_SameFlags_L1 n a0 a1 sa = some r) : Rd cx (loopAt cx.P 60 0) 26 0 false (T_ref04_SameFlags_L1 a0 a1) (H_ref04_SameFlags_L1 a0 a1) (X_ref04_SameFlags_L1 a0 a1) (XT_ref04_SameFlags_L1 a0 a1) (XH_ref04_SameFlags_L1 a0 a1) sa r := by
  unfold F_ref04_SameFlags_L1 at h
  by_cases ha1 : sa < ((a0).length : Int)
  · replace h := ite_t h ha1
    obtain ⟨ta2, ha2, h⟩ := bnd_of h
    obtain ⟨ta3, ha3, h⟩ := bnd_of h
    by_cases ha4 : (!(ta2 == ta3)) = true
    · replace h := ite_t h ha4
      replace h := Option.some.inj h
      subst h
      exact ⟨⟨100, 7, [.br true, .el (B ta2), .el (B ta3), .br true], [], [4], [], round_of (ob := [(!(ta2 == ta3)) = true, (0 : Int) ≤ sa, nth (a1) (Int.toNat sa) = some (B ta3), (0 : Int) ≤ sa, nth (a0) (Int.toNat sa) = some (B ta2), (decide (sa < ((a0).length : Int))) = true]) (by kernel_rfl) ⟨ha4, (el_ok un_b_ok ha3).1, (el_ok un_b_ok ha3).2, (el_ok un_b_ok ha2).1, (el_ok un_b_ok ha2).2, (decide_eq_true ha1), trivial⟩⟩, nofun⟩
    · replace h := ite_f h ha4
      obtain ⟨ha5, h⟩ := grd_of h
      replace h := Option.some.inj h
      subst h
      exact ⟨100, 7, [.br true, .el (B ta2), .el (B ta3), .br false], [], [0, 1, 5], [], round_of (ob := [inI64 (sa + 1), (!(ta2 == ta3)) = false, (0 : Int) ≤ sa, nth (a1) (Int.toNat sa) = some (B ta3), (0 : Int) ≤ sa, nth (a0) (Int.toNat sa) = some (B ta2), (decide (sa < ((a0).length : Int))) = true]) (by kernel_rfl) ⟨ha5, (bfalse ha4), (el_ok un_b_ok ha3).1, (el_ok un_b_ok ha3).2, (el_ok un_b_ok ha2).1, (el_ok un_b_ok ha2).2, (decide_eq_true ha1), trivial⟩⟩
  · replace h := ite_f h ha1
    replace h := Option.some.inj h
    subst h
    exact ⟨⟨100, 7, [.br false], [], [], [], round_of (ob := [(decide (sa < ((a0).length : Int))) = false]) (by kernel_rfl) ⟨(decide_eq_false ha1), trivial⟩⟩, nofun⟩
/- spillage/spillageref04.SameFlags: .lst false 1 a0, .lst false 1 a1 -/
def F_ref04_SameFlags (n : Nat) (a0 : List D) (a1 : List D) : Option (Bool) :=
  if ((a0).length : Int) = ((a1).length : Int) then
    (loopF (F_ref04_SameFlags_L1 n a0 a1) n 0).bind fun t2 => match t2 with
      | (.inl t2) => (
        some false)
      | (.inr t2) => (
        some true)
  else
  some false
theorem c_ref04_SameFlags {n : Nat} {a0 : List D} {a1 : List D} {r : Bool} (h : F_ref04_SameFlags n a0 a1 = some r) : Computes cx 60 [.lst false 1 a0, .lst false 1 a1] (B r) := by
  unfold F_ref04_SameFlags at h
  by_cases h1 : ((a0).length : Int) = ((a1).length : Int)
  · replace h := ite_t h h1
    obtain ⟨t2, h2, h⟩ := bnd_of h
    rcases t2 with t2 | t2
    · replace h := Option.some.inj h
      subst h
      exact run (n := 100) (f := 60) (args := [.lst false 1 a0, .lst false 1 a1]) (orc := [.br false, .lp [] [0, 1, 5] [] .ret [(4, .d (B false))] [] 34]) (r := B false) (ob := [LoopN cx (loopAt cx.P 60 0) 26 0 false [(0, .d (.lst false 1 a0)), (1, .d (.lst false 1 a1)), (5, .d (I 0))] [] .ret [(4, .d (B false))] [], (((a0).length : Int) != ((a1).length : Int)) = false]) (by kernel_rfl) ⟨(loopF_to R_ref04_SameFlags_L1 h2), (nef h1), trivial⟩
    · replace h := Option.some.inj h
      subst h
      exact run (n := 100) (f := 60) (args := [.lst false 1 a0, .lst false 1 a1]) (orc := [.br false, .lp [] [0, 1, 5] [] (.exit 0) [] [] 34]) (r := B true) (ob := [LoopN cx (loopAt cx.P 60 0) 26 0 false [(0, .d (.lst false 1 a0)), (1, .d (.lst false 1 a1)), (5, .d (I 0))] [] (.exit 0) [] [], (((a0).length : Int) != ((a1).length : Int)) = false]) (by kernel_rfl) ⟨(loopF_to R_ref04_SameFlags_L1 h2), (nef h1), trivial⟩
  · replace h := ite_f h h1
    replace h := Option.some.inj h
    subst h
    exact run (n := 100) (f := 60) (args := [.lst false 1 a0, .lst false 1 a1]) (orc := [.br true]) (r := B false) (ob := [(((a0).length : Int) != ((a1).length : Int)) = true]) (by kernel_rfl) ⟨(net h1), trivial⟩
/- spillage/spillagelaw04.flags: .lst false 1 a0, I a1, I a2, .lst false 1 a3 -/
def F_law04_flags (n : Nat) (a0 : List D) (a1 : Int) (a2 : Int) (a3 : List D) : Option (Bool) :=
  if a1 = a2 then
    if a2 = 0 then
      (F_ref04_SameFlags n a0 a3).bind fun t3 =>
      some t3
    else
    if ((a0).length : Int) = 0 then
      some true
    else
    some false
  else
  some false
theorem c_law04_flags {n : Nat} {a0 : List D} {a1 : Int} {a2 : Int} {a3 : List D} {r : Bool} (h : F_law04_flags n a0 a1 a2 a3 = some r) : Computes cx 48 [.lst false 1 a0, I a1, I a2, .lst false 1 a3] (B r) := by
  unfold F_law04_flags at h
  by_cases h1 : a1 = a2
  · replace h := ite_t h h1
    by_cases h2 : a2 = 0
    · replace h := ite_t h h2
      obtain ⟨t3, h3, h⟩ := bnd_of h
      replace h := Option.some.inj h
      subst h
      exact run (n := 100) (f := 48) (args := [.lst false 1 a0, I a1, I a2, .lst false 1 a3]) (orc := [.br true, .br false, .no, .br true, .ret (B t3)]) (r := B t3) (ob := [Computes cx 60 [.lst false 1 a0, .lst false 1 a3] (B t3), (a2 == 0) = true, (a2 != 0) = false, (a1 == a2) = true]) (by kernel_rfl) ⟨(c_ref04_SameFlags h3), (eqt h2), (nef h2), (eqt h1), trivial⟩
    · replace h := ite_f h h2
      by_cases h3 : ((a0).length : Int) = 0
      · replace h := ite_t h h3
        replace h := Option.some.inj h
        subst h
        exact run (n := 100) (f := 48) (args := [.lst false 1 a0, I a1, I a2, .lst false 1 a3]) (orc := [.br true, .br true, .br true]) (r := B true) (ob := [(((a0).length : Int) == 0) = true, (a2 != 0) = true, (a1 == a2) = true]) (by kernel_rfl) ⟨(eqt h3), (net h2), (eqt h1), trivial⟩
      · replace h := ite_f h h3
        replace h := Option.some.inj h
        subst h
        exact run (n := 100) (f := 48) (args := [.lst false 1 a0, I a1, I a2, .lst false 1 a3]) (orc := [.br true, .br true, .br false, .br false]) (r := B false) (ob := [(a2 == 0) = false, (((a0).length : Int) == 0) = false, (a2 != 0) = true, (a1 == a2) = true]) (by kernel_rfl) ⟨(eqf h2), (eqf h3), (net h2), (eqt h1), trivial⟩
  · replace h := ite_f h h1
    replace h := Option.some.inj h
    subst h
    exact run (n := 100) (f := 48) (args := [.lst false 1 a0, I a1, I a2, .lst false 1 a3]) (orc := [.br false]) (r := B false) (ob := [(a1 == a2) = false]) (by kernel_rfl) ⟨(eqf h1), trivial⟩
/- spillage/spillagelaw04.FieldHidden: .lst false 10 a0, .agg [I a1, I a2, I a3, I a4, I a5, I a6, I a7, I a8] -/
def F_law04_FieldHidden (n : Nat) (a0 : List D) (a1 : Int) (a2 : Int) (a3 : Int) (a4 : Int) (a5 : Int) (a6 : Int) (a7 : Int) (a8 : Int) : Option (Bool) :=
  (F_law04_awake n).bind fun t1 =>
  if t1 = true then
    (F_ref04_Short n a0).bind fun t3 =>
    if t3 = true then
      (F_law04_own n a0).bind fun t5 =>
      (F_field_Dark n t5 a1 a2 a3 a4 a8).bind fun t6 =>
      (F_field_Blocked n t5 a1 a5 a6 a7 a8).bind fun t7 =>
      (F_law04_checkMirror n a0 a1).bind fun t8 =>
      (F_ref04_CheckDirection n a2 a3 a4).bind fun t9 =>
      (F_ref04_CheckFacets n a8).bind fun t10 =>
      (F_ref01_First n ([I t8, I t9, I t10])).bind fun t11 =>
      (F_ref04_CheckTarget n a5 a6 a7).bind fun t12 =>
      (F_ref01_First n ([I t8, I t12, I t10])).bind fun t13 =>
      if t11 = 0 then
        (F_ref04_Dark n a0 a1 a2 a3 a4 a8).bind fun t15 =>
        if t13 = 0 then
          (F_ref04_Blocked n a0 a1 a5 a6 a7 a8).bind fun t17 =>
          (F_law04_flags n t6.1 t6.2 t11 t15).bind fun t18 =>
          if t18 = true then
            (F_law04_flags n t7.1 t7.2 t13 t17).bind fun t20 =>
            some t20
          else
          none /- false -/
        else
        (F_law04_flags n t6.1 t6.2 t11 t15).bind fun t17 =>
        if t17 = true then
          (F_law04_flags n t7.1 t7.2 t13 ([])).bind fun t19 =>
          some t19
        else
        none /- false -/
      else
      if t13 = 0 then
        (F_ref04_Blocked n a0 a1 a5 a6 a7 a8).bind fun t16 =>
        (F_law04_flags n t6.1 t6.2 t11 ([])).bind fun t17 =>
        if t17 = true then
          (F_law04_flags n t7.1 t7.2 t13 t16).bind fun t19 =>
          some t19
        else
        none /- false -/
      else
      (F_law04_flags n t6.1 t6.2 t11 ([])).bind fun t16 =>
      if t16 = true then
        (F_law04_flags n t7.1 t7.2 t13 ([])).bind fun t18 =>
        some t18
      else
      none /- false -/
    else
    some t1
  else
  some t1
theorem c_law04_FieldHidden {n : Nat} {a0 : List D} {a1 : Int} {a2 : Int} {a3 : Int} {a4 : Int} {a5 : Int} {a6 : Int} {a7 : Int} {a8 : Int} {r : Bool} (h : F_law04_FieldHidden n a0 a1 a2 a3 a4 a5 a6 a7 a8 = some r) : Computes cx 7 [.lst false 10 a0, .agg [I a1, I a2, I a3, I a4, I a5, I a6, I a7, I a8]] (B r) := by
  unfold F_law04_FieldHidden at h
  obtain ⟨t1, h1, h⟩ := bnd_of h
  by_cases h2 : t1 = true
  · replace h := ite_t h h2
    obtain ⟨t3, h3, h⟩ := bnd_of h
    by_cases h4 : t3 = true
    · replace h := ite_t h h4
      obtain ⟨t5, h5, h⟩ := bnd_of h
      obtain ⟨t6, h6, h⟩ := bnd_of h
      obtain ⟨t7, h7, h⟩ := bnd_of h
      obtain ⟨t8, h8, h⟩ := bnd_of h
      obtain ⟨t9, h9, h⟩ := bnd_of h
      obtain ⟨t10, h10, h⟩ := bnd_of h
      obtain ⟨t11, h11, h⟩ := bnd_of h
      obtain ⟨t12, h12, h⟩ := bnd_of h
      obtain ⟨t13, h13, h⟩ := bnd_of h
      by_cases h14 : t11 = 0
      · replace h := ite_t h h14
        obtain ⟨t15, h15, h⟩ := bnd_of h
        by_cases h16 : t13 = 0
        · replace h := ite_t h h16
          obtain ⟨t17, h17, h⟩ := bnd_of h
          obtain ⟨t18, h18, h⟩ := bnd_of h
          by_cases h19 : t18 = true
          · replace h := ite_t h h19
            obtain ⟨t20, h20, h⟩ := bnd_of h
            replace h := Option.some.inj h
            subst h
            exact run (n := 100) (f := 7) (args := [.lst false 10 a0, .agg [I a1, I a2, I a3, I a4, I a5, I a6, I a7, I a8]]) (orc := [.ret (B t1), .br false, .ret (B t3), .br false, .ret (.lst false 10 t5), .ret (.tup [.lst false 1 t6.1, I t6.2]), .ret (.lst false 10 t5), .ret (.tup [.lst false 1 t7.1, I t7.2]), .ret (I t8), .ret (I t9), .ret (I t10), .ret (I t11), .ret (I t12), .ret (I t10), .ret (I t13), .br true, .ret (.lst false 1 t15), .br true, .ret (.lst false 1 t17), .ret (B t18), .br true, .ret (B t20)]) (r := B t20) (ob := [Computes cx 48 [.lst false 1 t7.1, I t7.2, I t13, .lst false 1 t17] (B t20), t18 = true, Computes cx 48 [.lst false 1 t6.1, I t6.2, I t11, .lst false 1 t15] (B t18), Computes cx 47 [.lst false 10 a0, I a1, .agg [I a5, I a6, I a7], I a8] (.lst false 1 t17), (t13 == 0) = true, Computes cx 46 [.lst false 10 a0, I a1, .agg [I a2, I a3, I a4], I a8] (.lst false 1 t15), (t11 == 0) = true, Computes cx 12 [.lst true 1 [I t8, I t12, I t10]] (I t13), Computes cx 20 [I a8] (I t10), Computes cx 45 [.agg [I a5, I a6, I a7]] (I t12), Computes cx 12 [.lst true 1 [I t8, I t9, I t10]] (I t11), Computes cx 20 [I a8] (I t10), Computes cx 14 [.agg [I a2, I a3, I a4]] (I t9), Computes cx 44 [.lst false 10 a0, I a1] (I t8), Computes cx 43 [.lst false 10 t5, I a1, .agg [I a5, I a6, I a7], I a8] (.tup [.lst false 1 t7.1, I t7.2]), Computes cx 39 [.lst false 10 a0] (.lst false 10 t5), Computes cx 42 [.lst false 10 t5, I a1, .agg [I a2, I a3, I a4], I a8] (.tup [.lst false 1 t6.1, I t6.2]), Computes cx 39 [.lst false 10 a0] (.lst false 10 t5), (!t3) = false, Computes cx 30 [.lst false 10 a0] (B t3), (!t1) = false, Computes cx 8 [] (B t1)]) (by kernel_rfl) ⟨(c_law04_flags h20), h19, (c_law04_flags h18), (c_ref04_Blocked h17), (eqt h16), (c_ref04_Dark h15), (eqt h14), ((c_ref01_First h13).le (.cons (.full _ _ _) (.nil)) (.refl _)), (c_ref04_CheckFacets h10), (c_ref04_CheckTarget h12), ((c_ref01_First h11).le (.cons (.full _ _ _) (.nil)) (.refl _)), (c_ref04_CheckFacets h10), (c_ref04_CheckDirection h9), (c_law04_checkMirror h8), (c_field_Blocked h7), (c_law04_own h5), (c_field_Dark h6), (c_law04_own h5), (notf h4), (c_ref04_Short h3), (notf h2), (c_law04_awake h1), trivial⟩
          · replace h := ite_f h h19
            cases h
        · replace h := ite_f h h16
          obtain ⟨t17, h17, h⟩ := bnd_of h
          by_cases h18 : t17 = true
          · replace h := ite_t h h18
            obtain ⟨t19, h19, h⟩ := bnd_of h
            replace h := Option.some.inj h
            subst h
            exact run (n := 100) (f := 7) (args := [.lst false 10 a0, .agg [I a1, I a2, I a3, I a4, I a5, I a6, I a7, I a8]]) (orc := [.ret (B t1), .br false, .ret (B t3), .br false, .ret (.lst false 10 t5), .ret (.tup [.lst false 1 t6.1, I t6.2]), .ret (.lst false 10 t5), .ret (.tup [.lst false 1 t7.1, I t7.2]), .ret (I t8), .ret (I t9), .ret (I t10), .ret (I t11), .ret (I t12), .ret (I t10), .ret (I t13), .br true, .ret (.lst false 1 t15), .br false, .ret (B t17), .br true, .ret (B t19)]) (r := B t19) (ob := [Computes cx 48 [.lst false 1 t7.1, I t7.2, I t13, .lst true 0 []] (B t19), t17 = true, Computes cx 48 [.lst false 1 t6.1, I t6.2, I t11, .lst false 1 t15] (B t17), (t13 == 0) = false, Computes cx 46 [.lst false 10 a0, I a1, .agg [I a2, I a3, I a4], I a8] (.lst false 1 t15), (t11 == 0) = true, Computes cx 12 [.lst true 1 [I t8, I t12, I t10]] (I t13), Computes cx 20 [I a8] (I t10), Computes cx 45 [.agg [I a5, I a6, I a7]] (I t12), Computes cx 12 [.lst true 1 [I t8, I t9, I t10]] (I t11), Computes cx 20 [I a8] (I t10), Computes cx 14 [.agg [I a2, I a3, I a4]] (I t9), Computes cx 44 [.lst false 10 a0, I a1] (I t8), Computes cx 43 [.lst false 10 t5, I a1, .agg [I a5, I a6, I a7], I a8] (.tup [.lst false 1 t7.1, I t7.2]), Computes cx 39 [.lst false 10 a0] (.lst false 10 t5), Computes cx 42 [.lst false 10 t5, I a1, .agg [I a2, I a3, I a4], I a8] (.tup [.lst false 1 t6.1, I t6.2]), Computes cx 39 [.lst false 10 a0] (.lst false 10 t5), (!t3) = false, Computes cx 30 [.lst false 10 a0] (B t3), (!t1) = false, Computes cx 8 [] (B t1)]) (by kernel_rfl) ⟨((c_law04_flags h19).le (.cons (.refl _) (.cons (.refl _) (.cons (.refl _) (.cons (.lst _ _ _ _ _ nofun (.inl rfl)) (.nil))))) (.refl _)), h18, (c_law04_flags h17), (eqf h16), (c_ref04_Dark h15), (eqt h14), ((c_ref01_First h13).le (.cons (.full _ _ _) (.nil)) (.refl _)), (c_ref04_CheckFacets h10), (c_ref04_CheckTarget h12), ((c_ref01_First h11).le (.cons (.full _ _ _) (.nil)) (.refl _)), (c_ref04_CheckFacets h10), (c_ref04_CheckDirection h9), (c_law04_checkMirror h8), (c_field_Blocked h7), (c_law04_own h5), (c_field_Dark h6), (c_law04_own h5), (notf h4), (c_ref04_Short h3), (notf h2), (c_law04_awake h1), trivial⟩
          · replace h := ite_f h h18
            cases h
      · replace h := ite_f h h14
        by_cases h15 : t13 = 0
        · replace h := ite_t h h15
          obtain ⟨t16, h16, h⟩ := bnd_of h
          obtain ⟨t17, h17, h⟩ := bnd_of h
          by_cases h18 : t17 = true
          · replace h := ite_t h h18
            obtain ⟨t19, h19, h⟩ := bnd_of h
            replace h := Option.some.inj h
            subst h
            exact run (n := 100) (f := 7) (args := [.lst false 10 a0, .agg [I a1, I a2, I a3, I a4, I a5, I a6, I a7, I a8]]) (orc := [.ret (B t1), .br false, .ret (B t3), .br false, .ret (.lst false 10 t5), .ret (.tup [.lst false 1 t6.1, I t6.2]), .ret (.lst false 10 t5), .ret (.tup [.lst false 1 t7.1, I t7.2]), .ret (I t8), .ret (I t9), .ret (I t10), .ret (I t11), .ret (I t12), .ret (I t10), .ret (I t13), .br false, .br true, .ret (.lst false 1 t16), .ret (B t17), .br true, .ret (B t19)]) (r := B t19) (ob := [Computes cx 48 [.lst false 1 t7.1, I t7.2, I t13, .lst false 1 t16] (B t19), t17 = true, Computes cx 48 [.lst false 1 t6.1, I t6.2, I t11, .lst true 0 []] (B t17), Computes cx 47 [.lst false 10 a0, I a1, .agg [I a5, I a6, I a7], I a8] (.lst false 1 t16), (t13 == 0) = true, (t11 == 0) = false, Computes cx 12 [.lst true 1 [I t8, I t12, I t10]] (I t13), Computes cx 20 [I a8] (I t10), Computes cx 45 [.agg [I a5, I a6, I a7]] (I t12), Computes cx 12 [.lst true 1 [I t8, I t9, I t10]] (I t11), Computes cx 20 [I a8] (I t10), Computes cx 14 [.agg [I a2, I a3, I a4]] (I t9), Computes cx 44 [.lst false 10 a0, I a1] (I t8), Computes cx 43 [.lst false 10 t5, I a1, .agg [I a5, I a6, I a7], I a8] (.tup [.lst false 1 t7.1, I t7.2]), Computes cx 39 [.lst false 10 a0] (.lst false 10 t5), Computes cx 42 [.lst false 10 t5, I a1, .agg [I a2, I a3, I a4], I a8] (.tup [.lst false 1 t6.1, I t6.2]), Computes cx 39 [.lst false 10 a0] (.lst false 10 t5), (!t3) = false, Computes cx 30 [.lst false 10 a0] (B t3), (!t1) = false, Computes cx 8 [] (B t1)]) (by kernel_rfl) ⟨(c_law04_flags h19), h18, ((c_law04_flags h17).le (.cons (.refl _) (.cons (.refl _) (.cons (.refl _) (.cons (.lst _ _ _ _ _ nofun (.inl rfl)) (.nil))))) (.refl _)), (c_ref04_Blocked h16), (eqt h15), (eqf h14), ((c_ref01_First h13).le (.cons (.full _ _ _) (.nil)) (.refl _)), (c_ref04_CheckFacets h10), (c_ref04_CheckTarget h12), ((c_ref01_First h11).le (.cons (.full _ _ _) (.nil)) (.refl _)), (c_ref04_CheckFacets h10), (c_ref04_CheckDirection h9), (c_law04_checkMirror h8), (c_field_Blocked h7), (c_law04_own h5), (c_field_Dark h6), (c_law04_own h5), (notf h4), (c_ref04_Short h3), (notf h2), (c_law04_awake h1), trivial⟩
          · replace h := ite_f h h18
            cases h
        · replace h := ite_f h h15
          obtain ⟨t16, h16, h⟩ := bnd_of h
          by_cases h17 : t16 = true
          · replace h := ite_t h h17
            obtain ⟨t18, h18, h⟩ := bnd_of h
            replace h := Option.some.inj h
            subst h
            exact run (n := 100) (f := 7) (args := [.lst false 10 a0, .agg [I a1, I a2, I a3, I a4, I a5, I a6, I a7, I a8]]) (orc := [.ret (B t1), .br false, .ret (B t3), .br false, .ret (.lst false 10 t5), .ret (.tup [.lst false 1 t6.1, I t6.2]), .ret (.lst false 10 t5), .ret (.tup [.lst false 1 t7.1, I t7.2]), .ret (I t8), .ret (I t9), .ret (I t10), .ret (I t11), .ret (I t12), .ret (I t10), .ret (I t13), .br false, .br false, .ret (B t16), .br true, .ret (B t18)]) (r := B t18) (ob := [Computes cx 48 [.lst false 1 t7.1, I t7.2, I t13, .lst true 0 []] (B t18), t16 = true, Computes cx 48 [.lst false 1 t6.1, I t6.2, I t11, .lst true 0 []] (B t16), (t13 == 0) = false, (t11 == 0) = false, Computes cx 12 [.lst true 1 [I t8, I t12, I t10]] (I t13), Computes cx 20 [I a8] (I t10), Computes cx 45 [.agg [I a5, I a6, I a7]] (I t12), Computes cx 12 [.lst true 1 [I t8, I t9, I t10]] (I t11), Computes cx 20 [I a8] (I t10), Computes cx 14 [.agg [I a2, I a3, I a4]] (I t9), Computes cx 44 [.lst false 10 a0, I a1] (I t8), Computes cx 43 [.lst false 10 t5, I a1, .agg [I a5, I a6, I a7], I a8] (.tup [.lst false 1 t7.1, I t7.2]), Computes cx 39 [.lst false 10 a0] (.lst false 10 t5), Computes cx 42 [.lst false 10 t5, I a1, .agg [I a2, I a3, I a4], I a8] (.tup [.lst false 1 t6.1, I t6.2]), Computes cx 39 [.lst false 10 a0] (.lst false 10 t5), (!t3) = false, Computes cx 30 [.lst false 10 a0] (B t3), (!t1) = false, Computes cx 8 [] (B t1)]) (by kernel_rfl) ⟨((c_law04_flags h18).le (.cons (.refl _) (.cons (.refl _) (.cons (.refl _) (.cons (.lst _ _ _ _ _ nofun (.inl rfl)) (.nil))))) (.refl _)), h17, ((c_law04_flags h16).le (.cons (.refl _) (.cons (.refl _) (.cons (.refl _) (.cons (.lst _ _ _ _ _ nofun (.inl rfl)) (.nil))))) (.refl _)), (eqf h15), (eqf h14), ((c_ref01_First h13).le (.cons (.full _ _ _) (.nil)) (.refl _)), (c_ref04_CheckFacets h10), (c_ref04_CheckTarget h12), ((c_ref01_First h11).le (.cons (.full _ _ _) (.nil)) (.refl _)), (c_ref04_CheckFacets h10), (c_ref04_CheckDirection h9), (c_law04_checkMirror h8), (c_field_Blocked h7), (c_law04_own h5), (c_field_Dark h6), (c_law04_own h5), (notf h4), (c_ref04_Short h3), (notf h2), (c_law04_awake h1), trivial⟩
          · replace h := ite_f h h17
            cases h
    · replace h := ite_f h h4
      replace h := Option.some.inj h
      subst h
      exact run (n := 100) (f := 7) (args := [.lst false 10 a0, .agg [I a1, I a2, I a3, I a4, I a5, I a6, I a7, I a8]]) (orc := [.ret (B t1), .br false, .ret (B t3), .br true, .ret (B t1)]) (r := B t1) (ob := [Computes cx 8 [] (B t1), (!t3) = true, Computes cx 30 [.lst false 10 a0] (B t3), (!t1) = false, Computes cx 8 [] (B t1)]) (by kernel_rfl) ⟨(c_law04_awake h1), (nott (bfalse h4)), (c_ref04_Short h3), (notf h2), (c_law04_awake h1), trivial⟩
  · replace h := ite_f h h2
    replace h := Option.some.inj h
    subst h
    exact run (n := 100) (f := 7) (args := [.lst false 10 a0, .agg [I a1, I a2, I a3, I a4, I a5, I a6, I a7, I a8]]) (orc := [.ret (B t1), .br true, .no, .ret (B t1)]) (r := B t1) (ob := [Computes cx 8 [] (B t1), (!t1) = true, Computes cx 8 [] (B t1)]) (by kernel_rfl) ⟨(c_law04_awake h1), (nott (bfalse h2)), (c_law04_awake h1), trivial⟩
end Go.Proofs.YtbjibgaknkaifaaGreatDoor
