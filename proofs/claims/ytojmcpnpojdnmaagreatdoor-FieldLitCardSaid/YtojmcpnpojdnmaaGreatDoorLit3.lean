/-
  Printed by gsx.py: functions of the program as Lean functions, and that the code computes them.
-/
import Derived.Test.YtojmcpnpojdnmaaGreatDoorLit2
set_option linter.unusedVariables false
set_option linter.unusedSimpArgs false
set_option linter.unnecessarySimpa false
set_option maxRecDepth 10000
namespace Go.Proofs.YtojmcpnpojdnmaaGreatDoor
open Go.SX
def F_ref04_Dark_L1 (n : Nat) (a0 : List D) (a1 : Int) (a2 : Int) (a3 : Int) (a4 : Int) (a5 : Int) (t2 : List D) (sa : (Int × List D)) : Option (((Int × List D)) ⊕ ((List D))) :=
  if sa.1 < ((t2).length : Int) then
    (el un_Asi9Z a0 a1).bind fun ta2 =>
    (F_ref04_Normal n ta2.1 ta2.2.1 ta2.2.2.1 ta2.2.2.2.1 ta2.2.2.2.2.1 ta2.2.2.2.2.2.1 ta2.2.2.2.2.2.2.1 ta2.2.2.2.2.2.2.2.1 ta2.2.2.2.2.2.2.2.2.1 ta2.2.2.2.2.2.2.2.2.2).bind fun ta3 =>
    (F_ref04_Dot n ta3.1 ta3.2.1 ta3.2.2 a2 a3 a4).bind fun ta4 =>
    if ta4 ≤ 0 then
      if roomP 1 ((sa.2).length + 1) then
      if inI64 (sa.1 + 1) then
      some (.inl ((sa.1 + 1), (sa.2 ++ ([B true] : List D))))
      else none
      else none
    else
    (el un_Ai3Z t2 sa.1).bind fun ta6 =>
    (F_ref04_hidden n a0 a1 a5 ta6.1 ta6.2.1 ta6.2.2 a2 a3 a4 false).bind fun ta7 =>
    if roomP 1 ((sa.2).length + 1) then
    if inI64 (sa.1 + 1) then
    some (.inl ((sa.1 + 1), (sa.2 ++ ([B ta7] : List D))))
    else none
    else none
  else
  some (.inr sa.2)
noncomputable def T_ref04_Dark_L1 (a0 : List D) (a1 : Int) (a2 : Int) (a3 : Int) (a4 : Int) (a5 : Int) (t2 : List D) (sa : (Int × List D)) : List (Nat × AV) := [(0, .d (.lst false 10 a0)), (1, .d (I a1)), (3, .d (I a5)), (6, .ptr 0 0 0 0 0), (9, .own 11 0), (10, .d (.lst false 3 t2)), (11, .d (I sa.1))]
noncomputable def H_ref04_Dark_L1 (a0 : List D) (a1 : Int) (a2 : Int) (a3 : Int) (a4 : Int) (a5 : Int) (t2 : List D) (sa : (Int × List D)) : List (Nat × Blk) := [(0, .box (.d (.agg [I a2, I a3, I a4]))), (11, .row 0 1 sa.2)]
noncomputable def X_ref04_Dark_L1 (a0 : List D) (a1 : Int) (a2 : Int) (a3 : Int) (a4 : Int) (a5 : Int) (t2 : List D) (e : (List D)) : Ex := (.exit 0)
noncomputable def XT_ref04_Dark_L1 (a0 : List D) (a1 : Int) (a2 : Int) (a3 : Int) (a4 : Int) (a5 : Int) (t2 : List D) (e : (List D)) : List (Nat × AV) := [(9, .own 11 0)]
noncomputable def XH_ref04_Dark_L1 (a0 : List D) (a1 : Int) (a2 : Int) (a3 : Int) (a4 : Int) (a5 : Int) (t2 : List D) (e : (List D)) : List (Nat × Blk) := [(11, .row 0 1 e)]
theorem R_ref04_Dark_L1 {n : Nat} {a0 : List D} {a1 : Int} {a2 : Int} {a3 : Int} {a4 : Int} {a5 : Int} {t2 : List D} (sa : (Int × List D)) (r) (h : F_ref04_Dark_L1 n a0 a1 a2 a3 a4 a5 t2 sa = some r) : Rd cx (loopAt cx.P 86 0) 47 0 false (T_ref04_Dark_L1 a0 a1 a2 a3 a4 a5 t2) (H_ref04_Dark_L1 a0 a1 a2 a3 a4 a5 t2) (X_ref04_Dark_L1 a0 a1 a2 a3 a4 a5 t2) (XT_ref04_Dark_L1 a0 a1 a2 a3 a4 a5 t2) (XH_ref04_Dark_L1 a0 a1 a2 a3 a4 a5 t2) sa r := by
  unfold F_ref04_Dark_L1 at h
  by_cases ha1 : sa.1 < ((t2).length : Int)
  · replace h := ite_t h ha1
    obtain ⟨ta2, ha2, h⟩ := bnd_of h
    obtain ⟨ta3, ha3, h⟩ := bnd_of h
    obtain ⟨ta4, ha4, h⟩ := bnd_of h
    by_cases ha5 : ta4 ≤ 0
    · replace h := ite_t h ha5
      obtain ⟨ha6, h⟩ := grd_of h
      obtain ⟨ha7, h⟩ := grd_of h
      replace h := Option.some.inj h
      subst h
      exact ⟨100, 12, [.br true, .el (.agg [.v (.string ta2.1), I ta2.2.1, I ta2.2.2.1, I ta2.2.2.2.1, I ta2.2.2.2.2.1, I ta2.2.2.2.2.2.1, I ta2.2.2.2.2.2.2.1, I ta2.2.2.2.2.2.2.2.1, I ta2.2.2.2.2.2.2.2.2.1, I ta2.2.2.2.2.2.2.2.2.2]), .ret (.agg [I ta3.1, I ta3.2.1, I ta3.2.2]), .ret (I ta4), .br true, .br true], [], [0, 1, 3, 6, 9, 10, 11], [0, 11], round_of (ob := [inI64 (sa.1 + 1), room cx 4 ((sa.2).length + 1), (decide (ta4 ≤ 0)) = true, Computes cx 76 [.agg [I ta3.1, I ta3.2.1, I ta3.2.2], .agg [I a2, I a3, I a4]] (I ta4), Computes cx 75 [.agg [.v (.string ta2.1), I ta2.2.1, I ta2.2.2.1, I ta2.2.2.2.1, I ta2.2.2.2.2.1, I ta2.2.2.2.2.2.1, I ta2.2.2.2.2.2.2.1, I ta2.2.2.2.2.2.2.2.1, I ta2.2.2.2.2.2.2.2.2.1, I ta2.2.2.2.2.2.2.2.2.2]] (.agg [I ta3.1, I ta3.2.1, I ta3.2.2]), (0 : Int) ≤ a1, nth (a0) (Int.toNat a1) = some (.agg [.v (.string ta2.1), I ta2.2.1, I ta2.2.2.1, I ta2.2.2.2.1, I ta2.2.2.2.2.1, I ta2.2.2.2.2.2.1, I ta2.2.2.2.2.2.2.1, I ta2.2.2.2.2.2.2.2.1, I ta2.2.2.2.2.2.2.2.2.1, I ta2.2.2.2.2.2.2.2.2.2]), (decide (sa.1 < ((t2).length : Int))) = true]) (by kernel_rfl) ⟨ha7, (room_of (b := 1) (by kernel_rfl) (by decide) ha6), (decide_eq_true ha5), (c_ref04_Dot ha4), (c_ref04_Normal ha3), (el_ok un_Asi9Z_ok ha2).1, (el_ok un_Asi9Z_ok ha2).2, (decide_eq_true ha1), trivial⟩⟩
    · replace h := ite_f h ha5
      obtain ⟨ta6, ha6, h⟩ := bnd_of h
      obtain ⟨ta7, ha7, h⟩ := bnd_of h
      obtain ⟨ha8, h⟩ := grd_of h
      obtain ⟨ha9, h⟩ := grd_of h
      replace h := Option.some.inj h
      subst h
      exact ⟨100, 12, [.br true, .el (.agg [.v (.string ta2.1), I ta2.2.1, I ta2.2.2.1, I ta2.2.2.2.1, I ta2.2.2.2.2.1, I ta2.2.2.2.2.2.1, I ta2.2.2.2.2.2.2.1, I ta2.2.2.2.2.2.2.2.1, I ta2.2.2.2.2.2.2.2.2.1, I ta2.2.2.2.2.2.2.2.2.2]), .ret (.agg [I ta3.1, I ta3.2.1, I ta3.2.2]), .ret (I ta4), .br false, .el (.agg [I ta6.1, I ta6.2.1, I ta6.2.2]), .ret (B ta7), .br true], [], [0, 1, 3, 6, 9, 10, 11], [0, 11], round_of (ob := [inI64 (sa.1 + 1), room cx 4 ((sa.2).length + 1), Computes cx 135 [.lst false 10 a0, I a1, I a5, .agg [I ta6.1, I ta6.2.1, I ta6.2.2], .agg [I a2, I a3, I a4], B false] (B ta7), (0 : Int) ≤ sa.1, nth (t2) (Int.toNat sa.1) = some (.agg [I ta6.1, I ta6.2.1, I ta6.2.2]), (decide (ta4 ≤ 0)) = false, Computes cx 76 [.agg [I ta3.1, I ta3.2.1, I ta3.2.2], .agg [I a2, I a3, I a4]] (I ta4), Computes cx 75 [.agg [.v (.string ta2.1), I ta2.2.1, I ta2.2.2.1, I ta2.2.2.2.1, I ta2.2.2.2.2.1, I ta2.2.2.2.2.2.1, I ta2.2.2.2.2.2.2.1, I ta2.2.2.2.2.2.2.2.1, I ta2.2.2.2.2.2.2.2.2.1, I ta2.2.2.2.2.2.2.2.2.2]] (.agg [I ta3.1, I ta3.2.1, I ta3.2.2]), (0 : Int) ≤ a1, nth (a0) (Int.toNat a1) = some (.agg [.v (.string ta2.1), I ta2.2.1, I ta2.2.2.1, I ta2.2.2.2.1, I ta2.2.2.2.2.1, I ta2.2.2.2.2.2.1, I ta2.2.2.2.2.2.2.1, I ta2.2.2.2.2.2.2.2.1, I ta2.2.2.2.2.2.2.2.2.1, I ta2.2.2.2.2.2.2.2.2.2]), (decide (sa.1 < ((t2).length : Int))) = true]) (by kernel_rfl) ⟨ha9, (room_of (b := 1) (by kernel_rfl) (by decide) ha8), (c_ref04_hidden ha7), (el_ok un_Ai3Z_ok ha6).1, (el_ok un_Ai3Z_ok ha6).2, (decide_eq_false ha5), (c_ref04_Dot ha4), (c_ref04_Normal ha3), (el_ok un_Asi9Z_ok ha2).1, (el_ok un_Asi9Z_ok ha2).2, (decide_eq_true ha1), trivial⟩⟩
  · replace h := ite_f h ha1
    replace h := Option.some.inj h
    subst h
    exact ⟨⟨100, 12, [.br false], [], [9], [11], round_of (ob := [(decide (sa.1 < ((t2).length : Int))) = false]) (by kernel_rfl) ⟨(decide_eq_false ha1), trivial⟩⟩, nofun⟩
/- spillage/spillageref04.Dark: .lst false 10 a0, I a1, .agg [I a2, I a3, I a4], I a5 -/
def F_ref04_Dark (n : Nat) (a0 : List D) (a1 : Int) (a2 : Int) (a3 : Int) (a4 : Int) (a5 : Int) : Option (List D) :=
  (el un_Asi9Z a0 a1).bind fun t1 =>
  (F_ref04_Facets n t1.1 t1.2.1 t1.2.2.1 t1.2.2.2.1 t1.2.2.2.2.1 t1.2.2.2.2.2.1 t1.2.2.2.2.2.2.1 t1.2.2.2.2.2.2.2.1 t1.2.2.2.2.2.2.2.2.1 t1.2.2.2.2.2.2.2.2.2 a5).bind fun t2 =>
  (loopF (F_ref04_Dark_L1 n a0 a1 a2 a3 a4 a5 t2) n (0, [])).bind fun t3 =>
  some t3
theorem c_ref04_Dark {n : Nat} {a0 : List D} {a1 : Int} {a2 : Int} {a3 : Int} {a4 : Int} {a5 : Int} {r : List D} (h : F_ref04_Dark n a0 a1 a2 a3 a4 a5 = some r) : Computes cx 86 [.lst false 10 a0, I a1, .agg [I a2, I a3, I a4], I a5] (.lst false 1 r) := by
  unfold F_ref04_Dark at h
  obtain ⟨t1, h1, h⟩ := bnd_of h
  obtain ⟨t2, h2, h⟩ := bnd_of h
  obtain ⟨t3, h3, h⟩ := bnd_of h
  replace h := Option.some.inj h
  subst h
  exact run (n := 100) (f := 86) (args := [.lst false 10 a0, I a1, .agg [I a2, I a3, I a4], I a5]) (orc := [.el (.agg [.v (.string t1.1), I t1.2.1, I t1.2.2.1, I t1.2.2.2.1, I t1.2.2.2.2.1, I t1.2.2.2.2.2.1, I t1.2.2.2.2.2.2.1, I t1.2.2.2.2.2.2.2.1, I t1.2.2.2.2.2.2.2.2.1, I t1.2.2.2.2.2.2.2.2.2]), .ret (.lst false 3 t2), .lp [9, 1] [0, 1, 3, 6, 9, 10, 11] [0, 11] (.exit 0) [(9, .own 11 0)] [(11, .row 0 1 t3)] 53]) (r := .lst false 1 t3) (ob := [LoopN cx (loopAt cx.P 86 0) 47 0 false [(0, .d (.lst false 10 a0)), (1, .d (I a1)), (3, .d (I a5)), (6, .ptr 0 0 0 0 0), (9, .own 11 0), (10, .d (.lst false 3 t2)), (11, .d (I 0))] [(0, .box (.d (.agg [I a2, I a3, I a4]))), (11, .row 0 1 [])] (.exit 0) [(9, .own 11 0)] [(11, .row 0 1 t3)], Computes cx 134 [.agg [.v (.string t1.1), I t1.2.1, I t1.2.2.1, I t1.2.2.2.1, I t1.2.2.2.2.1, I t1.2.2.2.2.2.1, I t1.2.2.2.2.2.2.1, I t1.2.2.2.2.2.2.2.1, I t1.2.2.2.2.2.2.2.2.1, I t1.2.2.2.2.2.2.2.2.2], I a5] (.lst false 3 t2), (0 : Int) ≤ a1, nth (a0) (Int.toNat a1) = some (.agg [.v (.string t1.1), I t1.2.1, I t1.2.2.1, I t1.2.2.2.1, I t1.2.2.2.2.1, I t1.2.2.2.2.2.1, I t1.2.2.2.2.2.2.1, I t1.2.2.2.2.2.2.2.1, I t1.2.2.2.2.2.2.2.2.1, I t1.2.2.2.2.2.2.2.2.2])]) (by kernel_rfl) ⟨(loopF_to R_ref04_Dark_L1 h3), (c_ref04_Facets h2), (el_ok un_Asi9Z_ok h1).1, (el_ok un_Asi9Z_ok h1).2, trivial⟩
def F_ref04_Blocked_L1 (n : Nat) (a0 : List D) (a1 : Int) (a2 : Int) (a3 : Int) (a4 : Int) (a5 : Int) (t2 : List D) (sa : (Int × List D)) : Option (((Int × List D)) ⊕ ((List D))) :=
  if sa.1 < ((t2).length : Int) then
    (F_ref04_times n a5 a2 a3 a4).bind fun ta2 =>
    (el un_Ai3Z t2 sa.1).bind fun ta3 =>
    (F_ref04_times n (-1) ta3.1 ta3.2.1 ta3.2.2).bind fun ta4 =>
    (F_ref04_plus n ta2.1 ta2.2.1 ta2.2.2 ta4.1 ta4.2.1 ta4.2.2).bind fun ta5 =>
    (el un_Asi9Z a0 a1).bind fun ta6 =>
    (F_ref04_Normal n ta6.1 ta6.2.1 ta6.2.2.1 ta6.2.2.2.1 ta6.2.2.2.2.1 ta6.2.2.2.2.2.1 ta6.2.2.2.2.2.2.1 ta6.2.2.2.2.2.2.2.1 ta6.2.2.2.2.2.2.2.2.1 ta6.2.2.2.2.2.2.2.2.2).bind fun ta7 =>
    (F_ref04_Dot n ta7.1 ta7.2.1 ta7.2.2 ta5.1 ta5.2.1 ta5.2.2).bind fun ta8 =>
    if ta8 ≤ 0 then
      if roomP 1 ((sa.2).length + 1) then
      if inI64 (sa.1 + 1) then
      some (.inl ((sa.1 + 1), (sa.2 ++ ([B true] : List D))))
      else none
      else none
    else
    (F_ref04_hidden n a0 a1 a5 ta3.1 ta3.2.1 ta3.2.2 ta5.1 ta5.2.1 ta5.2.2 true).bind fun ta10 =>
    if roomP 1 ((sa.2).length + 1) then
    if inI64 (sa.1 + 1) then
    some (.inl ((sa.1 + 1), (sa.2 ++ ([B ta10] : List D))))
    else none
    else none
  else
  some (.inr sa.2)
noncomputable def T_ref04_Blocked_L1 (a0 : List D) (a1 : Int) (a2 : Int) (a3 : Int) (a4 : Int) (a5 : Int) (t2 : List D) (sa : (Int × List D)) : List (Nat × AV) := [(0, .d (.lst false 10 a0)), (1, .d (I a1)), (3, .d (I a5)), (6, .ptr 0 0 0 0 0), (9, .own 11 0), (10, .d (.lst false 3 t2)), (11, .d (I sa.1))]
noncomputable def H_ref04_Blocked_L1 (a0 : List D) (a1 : Int) (a2 : Int) (a3 : Int) (a4 : Int) (a5 : Int) (t2 : List D) (sa : (Int × List D)) : List (Nat × Blk) := [(0, .box (.d (.agg [I a2, I a3, I a4]))), (11, .row 0 1 sa.2)]
noncomputable def X_ref04_Blocked_L1 (a0 : List D) (a1 : Int) (a2 : Int) (a3 : Int) (a4 : Int) (a5 : Int) (t2 : List D) (e : (List D)) : Ex := (.exit 0)
noncomputable def XT_ref04_Blocked_L1 (a0 : List D) (a1 : Int) (a2 : Int) (a3 : Int) (a4 : Int) (a5 : Int) (t2 : List D) (e : (List D)) : List (Nat × AV) := [(9, .own 11 0)]
noncomputable def XH_ref04_Blocked_L1 (a0 : List D) (a1 : Int) (a2 : Int) (a3 : Int) (a4 : Int) (a5 : Int) (t2 : List D) (e : (List D)) : List (Nat × Blk) := [(11, .row 0 1 e)]
theorem R_ref04_Blocked_L1 {n : Nat} {a0 : List D} {a1 : Int} {a2 : Int} {a3 : Int} {a4 : Int} {a5 : Int} {t2 : List D} (sa : (Int × List D)) (r) (h : F_ref04_Blocked_L1 n a0 a1 a2 a3 a4 a5 t2 sa = some r) : Rd cx (loopAt cx.P 87 0) 57 0 false (T_ref04_Blocked_L1 a0 a1 a2 a3 a4 a5 t2) (H_ref04_Blocked_L1 a0 a1 a2 a3 a4 a5 t2) (X_ref04_Blocked_L1 a0 a1 a2 a3 a4 a5 t2) (XT_ref04_Blocked_L1 a0 a1 a2 a3 a4 a5 t2) (XH_ref04_Blocked_L1 a0 a1 a2 a3 a4 a5 t2) sa r := by
  unfold F_ref04_Blocked_L1 at h
  by_cases ha1 : sa.1 < ((t2).length : Int)
  · replace h := ite_t h ha1
    obtain ⟨ta2, ha2, h⟩ := bnd_of h
    obtain ⟨ta3, ha3, h⟩ := bnd_of h
    obtain ⟨ta4, ha4, h⟩ := bnd_of h
    obtain ⟨ta5, ha5, h⟩ := bnd_of h
    obtain ⟨ta6, ha6, h⟩ := bnd_of h
    obtain ⟨ta7, ha7, h⟩ := bnd_of h
    obtain ⟨ta8, ha8, h⟩ := bnd_of h
    by_cases ha9 : ta8 ≤ 0
    · replace h := ite_t h ha9
      obtain ⟨ha10, h⟩ := grd_of h
      obtain ⟨ha11, h⟩ := grd_of h
      replace h := Option.some.inj h
      subst h
      exact ⟨100, 12, [.br true, .ret (.agg [I ta2.1, I ta2.2.1, I ta2.2.2]), .el (.agg [I ta3.1, I ta3.2.1, I ta3.2.2]), .ret (.agg [I ta4.1, I ta4.2.1, I ta4.2.2]), .ret (.agg [I ta5.1, I ta5.2.1, I ta5.2.2]), .el (.agg [.v (.string ta6.1), I ta6.2.1, I ta6.2.2.1, I ta6.2.2.2.1, I ta6.2.2.2.2.1, I ta6.2.2.2.2.2.1, I ta6.2.2.2.2.2.2.1, I ta6.2.2.2.2.2.2.2.1, I ta6.2.2.2.2.2.2.2.2.1, I ta6.2.2.2.2.2.2.2.2.2]), .ret (.agg [I ta7.1, I ta7.2.1, I ta7.2.2]), .ret (I ta8), .br true, .br true], [], [0, 1, 3, 6, 9, 10, 11], [0, 11], round_of (ob := [inI64 (sa.1 + 1), room cx 4 ((sa.2).length + 1), (decide (ta8 ≤ 0)) = true, Computes cx 76 [.agg [I ta7.1, I ta7.2.1, I ta7.2.2], .agg [I ta5.1, I ta5.2.1, I ta5.2.2]] (I ta8), Computes cx 75 [.agg [.v (.string ta6.1), I ta6.2.1, I ta6.2.2.1, I ta6.2.2.2.1, I ta6.2.2.2.2.1, I ta6.2.2.2.2.2.1, I ta6.2.2.2.2.2.2.1, I ta6.2.2.2.2.2.2.2.1, I ta6.2.2.2.2.2.2.2.2.1, I ta6.2.2.2.2.2.2.2.2.2]] (.agg [I ta7.1, I ta7.2.1, I ta7.2.2]), (0 : Int) ≤ a1, nth (a0) (Int.toNat a1) = some (.agg [.v (.string ta6.1), I ta6.2.1, I ta6.2.2.1, I ta6.2.2.2.1, I ta6.2.2.2.2.1, I ta6.2.2.2.2.2.1, I ta6.2.2.2.2.2.2.1, I ta6.2.2.2.2.2.2.2.1, I ta6.2.2.2.2.2.2.2.2.1, I ta6.2.2.2.2.2.2.2.2.2]), Computes cx 126 [.agg [I ta2.1, I ta2.2.1, I ta2.2.2], .agg [I ta4.1, I ta4.2.1, I ta4.2.2]] (.agg [I ta5.1, I ta5.2.1, I ta5.2.2]), Computes cx 127 [I (-1), .agg [I ta3.1, I ta3.2.1, I ta3.2.2]] (.agg [I ta4.1, I ta4.2.1, I ta4.2.2]), (0 : Int) ≤ sa.1, nth (t2) (Int.toNat sa.1) = some (.agg [I ta3.1, I ta3.2.1, I ta3.2.2]), Computes cx 127 [I a5, .agg [I a2, I a3, I a4]] (.agg [I ta2.1, I ta2.2.1, I ta2.2.2]), (decide (sa.1 < ((t2).length : Int))) = true]) (by kernel_rfl) ⟨ha11, (room_of (b := 1) (by kernel_rfl) (by decide) ha10), (decide_eq_true ha9), (c_ref04_Dot ha8), (c_ref04_Normal ha7), (el_ok un_Asi9Z_ok ha6).1, (el_ok un_Asi9Z_ok ha6).2, (c_ref04_plus ha5), (c_ref04_times ha4), (el_ok un_Ai3Z_ok ha3).1, (el_ok un_Ai3Z_ok ha3).2, (c_ref04_times ha2), (decide_eq_true ha1), trivial⟩⟩
    · replace h := ite_f h ha9
      obtain ⟨ta10, ha10, h⟩ := bnd_of h
      obtain ⟨ha11, h⟩ := grd_of h
      obtain ⟨ha12, h⟩ := grd_of h
      replace h := Option.some.inj h
      subst h
      exact ⟨100, 12, [.br true, .ret (.agg [I ta2.1, I ta2.2.1, I ta2.2.2]), .el (.agg [I ta3.1, I ta3.2.1, I ta3.2.2]), .ret (.agg [I ta4.1, I ta4.2.1, I ta4.2.2]), .ret (.agg [I ta5.1, I ta5.2.1, I ta5.2.2]), .el (.agg [.v (.string ta6.1), I ta6.2.1, I ta6.2.2.1, I ta6.2.2.2.1, I ta6.2.2.2.2.1, I ta6.2.2.2.2.2.1, I ta6.2.2.2.2.2.2.1, I ta6.2.2.2.2.2.2.2.1, I ta6.2.2.2.2.2.2.2.2.1, I ta6.2.2.2.2.2.2.2.2.2]), .ret (.agg [I ta7.1, I ta7.2.1, I ta7.2.2]), .ret (I ta8), .br false, .el (.agg [I ta3.1, I ta3.2.1, I ta3.2.2]), .ret (B ta10), .br true], [], [0, 1, 3, 6, 9, 10, 11], [0, 11], round_of (ob := [inI64 (sa.1 + 1), room cx 4 ((sa.2).length + 1), Computes cx 135 [.lst false 10 a0, I a1, I a5, .agg [I ta3.1, I ta3.2.1, I ta3.2.2], .agg [I ta5.1, I ta5.2.1, I ta5.2.2], B true] (B ta10), (0 : Int) ≤ sa.1, nth (t2) (Int.toNat sa.1) = some (.agg [I ta3.1, I ta3.2.1, I ta3.2.2]), (decide (ta8 ≤ 0)) = false, Computes cx 76 [.agg [I ta7.1, I ta7.2.1, I ta7.2.2], .agg [I ta5.1, I ta5.2.1, I ta5.2.2]] (I ta8), Computes cx 75 [.agg [.v (.string ta6.1), I ta6.2.1, I ta6.2.2.1, I ta6.2.2.2.1, I ta6.2.2.2.2.1, I ta6.2.2.2.2.2.1, I ta6.2.2.2.2.2.2.1, I ta6.2.2.2.2.2.2.2.1, I ta6.2.2.2.2.2.2.2.2.1, I ta6.2.2.2.2.2.2.2.2.2]] (.agg [I ta7.1, I ta7.2.1, I ta7.2.2]), (0 : Int) ≤ a1, nth (a0) (Int.toNat a1) = some (.agg [.v (.string ta6.1), I ta6.2.1, I ta6.2.2.1, I ta6.2.2.2.1, I ta6.2.2.2.2.1, I ta6.2.2.2.2.2.1, I ta6.2.2.2.2.2.2.1, I ta6.2.2.2.2.2.2.2.1, I ta6.2.2.2.2.2.2.2.2.1, I ta6.2.2.2.2.2.2.2.2.2]), Computes cx 126 [.agg [I ta2.1, I ta2.2.1, I ta2.2.2], .agg [I ta4.1, I ta4.2.1, I ta4.2.2]] (.agg [I ta5.1, I ta5.2.1, I ta5.2.2]), Computes cx 127 [I (-1), .agg [I ta3.1, I ta3.2.1, I ta3.2.2]] (.agg [I ta4.1, I ta4.2.1, I ta4.2.2]), (0 : Int) ≤ sa.1, nth (t2) (Int.toNat sa.1) = some (.agg [I ta3.1, I ta3.2.1, I ta3.2.2]), Computes cx 127 [I a5, .agg [I a2, I a3, I a4]] (.agg [I ta2.1, I ta2.2.1, I ta2.2.2]), (decide (sa.1 < ((t2).length : Int))) = true]) (by kernel_rfl) ⟨ha12, (room_of (b := 1) (by kernel_rfl) (by decide) ha11), (c_ref04_hidden ha10), (el_ok un_Ai3Z_ok ha3).1, (el_ok un_Ai3Z_ok ha3).2, (decide_eq_false ha9), (c_ref04_Dot ha8), (c_ref04_Normal ha7), (el_ok un_Asi9Z_ok ha6).1, (el_ok un_Asi9Z_ok ha6).2, (c_ref04_plus ha5), (c_ref04_times ha4), (el_ok un_Ai3Z_ok ha3).1, (el_ok un_Ai3Z_ok ha3).2, (c_ref04_times ha2), (decide_eq_true ha1), trivial⟩⟩
  · replace h := ite_f h ha1
    replace h := Option.some.inj h
    subst h
    exact ⟨⟨100, 12, [.br false], [], [9], [11], round_of (ob := [(decide (sa.1 < ((t2).length : Int))) = false]) (by kernel_rfl) ⟨(decide_eq_false ha1), trivial⟩⟩, nofun⟩
/- spillage/spillageref04.Blocked: .lst false 10 a0, I a1, .agg [I a2, I a3, I a4], I a5 -/
def F_ref04_Blocked (n : Nat) (a0 : List D) (a1 : Int) (a2 : Int) (a3 : Int) (a4 : Int) (a5 : Int) : Option (List D) :=
  (el un_Asi9Z a0 a1).bind fun t1 =>
  (F_ref04_Facets n t1.1 t1.2.1 t1.2.2.1 t1.2.2.2.1 t1.2.2.2.2.1 t1.2.2.2.2.2.1 t1.2.2.2.2.2.2.1 t1.2.2.2.2.2.2.2.1 t1.2.2.2.2.2.2.2.2.1 t1.2.2.2.2.2.2.2.2.2 a5).bind fun t2 =>
  (loopF (F_ref04_Blocked_L1 n a0 a1 a2 a3 a4 a5 t2) n (0, [])).bind fun t3 =>
  some t3
theorem c_ref04_Blocked {n : Nat} {a0 : List D} {a1 : Int} {a2 : Int} {a3 : Int} {a4 : Int} {a5 : Int} {r : List D} (h : F_ref04_Blocked n a0 a1 a2 a3 a4 a5 = some r) : Computes cx 87 [.lst false 10 a0, I a1, .agg [I a2, I a3, I a4], I a5] (.lst false 1 r) := by
  unfold F_ref04_Blocked at h
  obtain ⟨t1, h1, h⟩ := bnd_of h
  obtain ⟨t2, h2, h⟩ := bnd_of h
  obtain ⟨t3, h3, h⟩ := bnd_of h
  replace h := Option.some.inj h
  subst h
  exact run (n := 100) (f := 87) (args := [.lst false 10 a0, I a1, .agg [I a2, I a3, I a4], I a5]) (orc := [.el (.agg [.v (.string t1.1), I t1.2.1, I t1.2.2.1, I t1.2.2.2.1, I t1.2.2.2.2.1, I t1.2.2.2.2.2.1, I t1.2.2.2.2.2.2.1, I t1.2.2.2.2.2.2.2.1, I t1.2.2.2.2.2.2.2.2.1, I t1.2.2.2.2.2.2.2.2.2]), .ret (.lst false 3 t2), .lp [9, 1] [0, 1, 3, 6, 9, 10, 11] [0, 11] (.exit 0) [(9, .own 11 0)] [(11, .row 0 1 t3)] 64]) (r := .lst false 1 t3) (ob := [LoopN cx (loopAt cx.P 87 0) 57 0 false [(0, .d (.lst false 10 a0)), (1, .d (I a1)), (3, .d (I a5)), (6, .ptr 0 0 0 0 0), (9, .own 11 0), (10, .d (.lst false 3 t2)), (11, .d (I 0))] [(0, .box (.d (.agg [I a2, I a3, I a4]))), (11, .row 0 1 [])] (.exit 0) [(9, .own 11 0)] [(11, .row 0 1 t3)], Computes cx 134 [.agg [.v (.string t1.1), I t1.2.1, I t1.2.2.1, I t1.2.2.2.1, I t1.2.2.2.2.1, I t1.2.2.2.2.2.1, I t1.2.2.2.2.2.2.1, I t1.2.2.2.2.2.2.2.1, I t1.2.2.2.2.2.2.2.2.1, I t1.2.2.2.2.2.2.2.2.2], I a5] (.lst false 3 t2), (0 : Int) ≤ a1, nth (a0) (Int.toNat a1) = some (.agg [.v (.string t1.1), I t1.2.1, I t1.2.2.1, I t1.2.2.2.1, I t1.2.2.2.2.1, I t1.2.2.2.2.2.1, I t1.2.2.2.2.2.2.1, I t1.2.2.2.2.2.2.2.1, I t1.2.2.2.2.2.2.2.2.1, I t1.2.2.2.2.2.2.2.2.2])]) (by kernel_rfl) ⟨(loopF_to R_ref04_Blocked_L1 h3), (c_ref04_Facets h2), (el_ok un_Asi9Z_ok h1).1, (el_ok un_Asi9Z_ok h1).2, trivial⟩
def F_ref04_Lit_L1 (n : Nat) (t1 : List D) (t2 : List D) (sa : (Int × Int × Int × Int)) : Option (((Int × Int × Int × Int)) ⊕ ((Int × Int × Int))) :=
  if sa.1 < ((t1).length : Int) then
    (el un_b t1 sa.1).bind fun ta2 =>
    if ta2 = true then
      if inI64 (sa.2.1 + 1) then
      if inI64 (sa.1 + 1) then
      some (.inl ((sa.1 + 1), (sa.2.1 + 1), sa.2.2.1, sa.2.2.2))
      else none
      else none
    else
    (el un_b t2 sa.1).bind fun ta4 =>
    if ta4 = true then
      if inI64 (sa.2.2.1 + 1) then
      if inI64 (sa.1 + 1) then
      some (.inl ((sa.1 + 1), sa.2.1, (sa.2.2.1 + 1), sa.2.2.2))
      else none
      else none
    else
    if inI64 (sa.2.2.2 + 1) then
    if inI64 (sa.1 + 1) then
    some (.inl ((sa.1 + 1), sa.2.1, sa.2.2.1, (sa.2.2.2 + 1)))
    else none
    else none
  else
  some (.inr (sa.2.1, sa.2.2.1, sa.2.2.2))
noncomputable def T_ref04_Lit_L1 (t1 : List D) (t2 : List D) (sa : (Int × Int × Int × Int)) : List (Nat × AV) := [(10, .ptr 2 0 0 0 0), (11, .ptr 3 0 0 0 0), (12, .d (.lst false 1 t1)), (13, .d (.lst false 1 t2)), (14, .d (I sa.1))]
noncomputable def H_ref04_Lit_L1 (t1 : List D) (t2 : List D) (sa : (Int × Int × Int × Int)) : List (Nat × Blk) := [(2, .box (.d (.agg [I 0, I 0, I 0]))), (3, .box (.d (.agg [I sa.2.1, I sa.2.2.1, I sa.2.2.2])))]
noncomputable def X_ref04_Lit_L1 (t1 : List D) (t2 : List D) (e : (Int × Int × Int)) : Ex := (.exit 0)
noncomputable def XT_ref04_Lit_L1 (t1 : List D) (t2 : List D) (e : (Int × Int × Int)) : List (Nat × AV) := [(10, .ptr 2 0 0 0 0), (11, .ptr 3 0 0 0 0)]
noncomputable def XH_ref04_Lit_L1 (t1 : List D) (t2 : List D) (e : (Int × Int × Int)) : List (Nat × Blk) := [(2, .box (.d (.agg [I 0, I 0, I 0]))), (3, .box (.d (.agg [I e.1, I e.2.1, I e.2.2])))]
theorem R_ref04_Lit_L1 {n : Nat} {t1 : List D} {t2 : List D} (sa : (Int × Int × Int × Int)) (r) (h : F_ref04_Lit_L1 n t1 t2 sa = some r) : Rd cx (loopAt cx.P 28 0) 52 0 false (T_ref04_Lit_L1 t1 t2) (H_ref04_Lit_L1 t1 t2) (X_ref04_Lit_L1 t1 t2) (XT_ref04_Lit_L1 t1 t2) (XH_ref04_Lit_L1 t1 t2) sa r := by
  unfold F_ref04_Lit_L1 at h
  by_cases ha1 : sa.1 < ((t1).length : Int)
  · replace h := ite_t h ha1
    obtain ⟨ta2, ha2, h⟩ := bnd_of h
    by_cases ha3 : ta2 = true
    · replace h := ite_t h ha3
      obtain ⟨ha4, h⟩ := grd_of h
      obtain ⟨ha5, h⟩ := grd_of h
      replace h := Option.some.inj h
      subst h
      exact ⟨100, 17, [.br true, .el (B ta2), .br true], [], [10, 11, 12, 13, 14], [2, 3], round_of (ob := [inI64 (sa.1 + 1), inI64 (sa.2.1 + 1), ta2 = true, (0 : Int) ≤ sa.1, nth (t1) (Int.toNat sa.1) = some (B ta2), (decide (sa.1 < ((t1).length : Int))) = true]) (by kernel_rfl) ⟨ha5, ha4, ha3, (el_ok un_b_ok ha2).1, (el_ok un_b_ok ha2).2, (decide_eq_true ha1), trivial⟩⟩
    · replace h := ite_f h ha3
      obtain ⟨ta4, ha4, h⟩ := bnd_of h
      by_cases ha5 : ta4 = true
      · replace h := ite_t h ha5
        obtain ⟨ha6, h⟩ := grd_of h
        obtain ⟨ha7, h⟩ := grd_of h
        replace h := Option.some.inj h
        subst h
        exact ⟨100, 17, [.br true, .el (B ta2), .br false, .el (B ta4), .br true], [], [10, 11, 12, 13, 14], [2, 3], round_of (ob := [inI64 (sa.1 + 1), inI64 (sa.2.2.1 + 1), ta4 = true, (0 : Int) ≤ sa.1, nth (t2) (Int.toNat sa.1) = some (B ta4), ta2 = false, (0 : Int) ≤ sa.1, nth (t1) (Int.toNat sa.1) = some (B ta2), (decide (sa.1 < ((t1).length : Int))) = true]) (by kernel_rfl) ⟨ha7, ha6, ha5, (el_ok un_b_ok ha4).1, (el_ok un_b_ok ha4).2, (bfalse ha3), (el_ok un_b_ok ha2).1, (el_ok un_b_ok ha2).2, (decide_eq_true ha1), trivial⟩⟩
      · replace h := ite_f h ha5
        obtain ⟨ha6, h⟩ := grd_of h
        obtain ⟨ha7, h⟩ := grd_of h
        replace h := Option.some.inj h
        subst h
        exact ⟨100, 17, [.br true, .el (B ta2), .br false, .el (B ta4), .br false], [], [10, 11, 12, 13, 14], [2, 3], round_of (ob := [inI64 (sa.1 + 1), inI64 (sa.2.2.2 + 1), ta4 = false, (0 : Int) ≤ sa.1, nth (t2) (Int.toNat sa.1) = some (B ta4), ta2 = false, (0 : Int) ≤ sa.1, nth (t1) (Int.toNat sa.1) = some (B ta2), (decide (sa.1 < ((t1).length : Int))) = true]) (by kernel_rfl) ⟨ha7, ha6, (bfalse ha5), (el_ok un_b_ok ha4).1, (el_ok un_b_ok ha4).2, (bfalse ha3), (el_ok un_b_ok ha2).1, (el_ok un_b_ok ha2).2, (decide_eq_true ha1), trivial⟩⟩
  · replace h := ite_f h ha1
    replace h := Option.some.inj h
    subst h
    exact ⟨⟨100, 17, [.br false], [], [10, 11], [2, 3], round_of (ob := [(decide (sa.1 < ((t1).length : Int))) = false]) (by kernel_rfl) ⟨(decide_eq_false ha1), trivial⟩⟩, nofun⟩
/- spillage/spillageref04.Lit: .lst false 10 a0, I a1, .agg [I a2, I a3, I a4], .agg [I a5, I a6, I a7], I a8 -/
def F_ref04_Lit (n : Nat) (a0 : List D) (a1 : Int) (a2 : Int) (a3 : Int) (a4 : Int) (a5 : Int) (a6 : Int) (a7 : Int) (a8 : Int) : Option (Int × Int × Int) :=
  (F_ref04_Dark n a0 a1 a2 a3 a4 a8).bind fun t1 =>
  (F_ref04_Blocked n a0 a1 a5 a6 a7 a8).bind fun t2 =>
  (loopF (F_ref04_Lit_L1 n t1 t2) n (0, 0, 0, 0)).bind fun t3 =>
  some (t3.1, t3.2.1, t3.2.2)
theorem c_ref04_Lit {n : Nat} {a0 : List D} {a1 : Int} {a2 : Int} {a3 : Int} {a4 : Int} {a5 : Int} {a6 : Int} {a7 : Int} {a8 : Int} {r : Int × Int × Int} (h : F_ref04_Lit n a0 a1 a2 a3 a4 a5 a6 a7 a8 = some r) : Computes cx 28 [.lst false 10 a0, I a1, .agg [I a2, I a3, I a4], .agg [I a5, I a6, I a7], I a8] (.agg [I r.1, I r.2.1, I r.2.2]) := by
  unfold F_ref04_Lit at h
  obtain ⟨t1, h1, h⟩ := bnd_of h
  obtain ⟨t2, h2, h⟩ := bnd_of h
  obtain ⟨t3, h3, h⟩ := bnd_of h
  replace h := Option.some.inj h
  subst h
  exact run (n := 100) (f := 28) (args := [.lst false 10 a0, I a1, .agg [I a2, I a3, I a4], .agg [I a5, I a6, I a7], I a8]) (orc := [.ret (.lst false 1 t1), .ret (.lst false 1 t2), .lp [] [10, 11, 12, 13, 14] [2, 3] (.exit 0) [(10, .ptr 2 0 0 0 0), (11, .ptr 3 0 0 0 0)] [(2, .box (.d (.agg [I 0, I 0, I 0]))), (3, .box (.d (.agg [I t3.1, I t3.2.1, I t3.2.2])))] 48]) (r := .agg [I t3.1, I t3.2.1, I t3.2.2]) (ob := [LoopN cx (loopAt cx.P 28 0) 52 0 false [(10, .ptr 2 0 0 0 0), (11, .ptr 3 0 0 0 0), (12, .d (.lst false 1 t1)), (13, .d (.lst false 1 t2)), (14, .d (I 0))] [(2, .box (.d (.agg [I 0, I 0, I 0]))), (3, .box (.d (.agg [I 0, I 0, I 0])))] (.exit 0) [(10, .ptr 2 0 0 0 0), (11, .ptr 3 0 0 0 0)] [(2, .box (.d (.agg [I 0, I 0, I 0]))), (3, .box (.d (.agg [I t3.1, I t3.2.1, I t3.2.2])))], Computes cx 87 [.lst false 10 a0, I a1, .agg [I a5, I a6, I a7], I a8] (.lst false 1 t2), Computes cx 86 [.lst false 10 a0, I a1, .agg [I a2, I a3, I a4], I a8] (.lst false 1 t1)]) (by kernel_rfl) ⟨(loopF_to R_ref04_Lit_L1 h3), (c_ref04_Blocked h2), (c_ref04_Dark h1), trivial⟩
def F_ref04_Ranked_L1 (n : Nat) (a0 : List D) (a1 : Int) (a2 : Int) (a3 : Int) (a4 : Int) (a5 : Int) (a6 : Int) (a7 : Int) (sa : (Int × List D)) : Option (((Int × List D)) ⊕ ((List D))) :=
  if sa.1 < ((a0).length : Int) then
    (F_ref04_Lit n a0 sa.1 a1 a2 a3 a4 a5 a6 a7).bind fun ta2 =>
    if roomP 8 ((sa.2).length + 1) then
    if inI64 (sa.1 + 1) then
    some (.inl ((sa.1 + 1), (sa.2 ++ ([I ta2.2.2] : List D))))
    else none
    else none
  else
  some (.inr sa.2)
noncomputable def T_ref04_Ranked_L1 (a0 : List D) (a1 : Int) (a2 : Int) (a3 : Int) (a4 : Int) (a5 : Int) (a6 : Int) (a7 : Int) (sa : (Int × List D)) : List (Nat × AV) := [(0, .d (.lst false 10 a0)), (3, .d (I a7)), (5, .ptr 0 0 0 0 0), (6, .ptr 1 0 0 0 0), (9, .own 6 0), (10, .d (.lst true 0 [])), (11, .d (I sa.1))]
noncomputable def H_ref04_Ranked_L1 (a0 : List D) (a1 : Int) (a2 : Int) (a3 : Int) (a4 : Int) (a5 : Int) (a6 : Int) (a7 : Int) (sa : (Int × List D)) : List (Nat × Blk) := [(0, .box (.d (.agg [I a1, I a2, I a3]))), (1, .box (.d (.agg [I a4, I a5, I a6]))), (6, .row 0 1 sa.2)]
noncomputable def X_ref04_Ranked_L1 (a0 : List D) (a1 : Int) (a2 : Int) (a3 : Int) (a4 : Int) (a5 : Int) (a6 : Int) (a7 : Int) (e : (List D)) : Ex := (.exit 0)
noncomputable def XT_ref04_Ranked_L1 (a0 : List D) (a1 : Int) (a2 : Int) (a3 : Int) (a4 : Int) (a5 : Int) (a6 : Int) (a7 : Int) (e : (List D)) : List (Nat × AV) := [(0, .d (.lst false 10 a0)), (3, .d (I a7)), (9, .own 6 0), (10, .d (.lst true 0 []))]
noncomputable def XH_ref04_Ranked_L1 (a0 : List D) (a1 : Int) (a2 : Int) (a3 : Int) (a4 : Int) (a5 : Int) (a6 : Int) (a7 : Int) (e : (List D)) : List (Nat × Blk) := [(6, .row 0 1 e)]
theorem R_ref04_Ranked_L1 {n : Nat} {a0 : List D} {a1 : Int} {a2 : Int} {a3 : Int} {a4 : Int} {a5 : Int} {a6 : Int} {a7 : Int} (sa : (Int × List D)) (r) (h : F_ref04_Ranked_L1 n a0 a1 a2 a3 a4 a5 a6 a7 sa = some r) : Rd cx (loopAt cx.P 29 0) 56 0 false (T_ref04_Ranked_L1 a0 a1 a2 a3 a4 a5 a6 a7) (H_ref04_Ranked_L1 a0 a1 a2 a3 a4 a5 a6 a7) (X_ref04_Ranked_L1 a0 a1 a2 a3 a4 a5 a6 a7) (XT_ref04_Ranked_L1 a0 a1 a2 a3 a4 a5 a6 a7) (XH_ref04_Ranked_L1 a0 a1 a2 a3 a4 a5 a6 a7) sa r := by
  unfold F_ref04_Ranked_L1 at h
  by_cases ha1 : sa.1 < ((a0).length : Int)
  · replace h := ite_t h ha1
    obtain ⟨ta2, ha2, h⟩ := bnd_of h
    obtain ⟨ha3, h⟩ := grd_of h
    obtain ⟨ha4, h⟩ := grd_of h
    replace h := Option.some.inj h
    subst h
    exact ⟨100, 7, [.br true, .ret (.agg [I ta2.1, I ta2.2.1, I ta2.2.2]), .br true], [], [0, 3, 5, 6, 9, 10, 11], [0, 1, 6], round_of (ob := [inI64 (sa.1 + 1), room cx 3 ((sa.2).length + 1), Computes cx 28 [.lst false 10 a0, I sa.1, .agg [I a1, I a2, I a3], .agg [I a4, I a5, I a6], I a7] (.agg [I ta2.1, I ta2.2.1, I ta2.2.2]), (decide (sa.1 < ((a0).length : Int))) = true]) (by kernel_rfl) ⟨ha4, (room_of (b := 8) (by kernel_rfl) (by decide) ha3), (c_ref04_Lit ha2), (decide_eq_true ha1), trivial⟩⟩
  · replace h := ite_f h ha1
    replace h := Option.some.inj h
    subst h
    exact ⟨⟨100, 7, [.br false], [], [0, 3, 9, 10], [6], round_of (ob := [(decide (sa.1 < ((a0).length : Int))) = false]) (by kernel_rfl) ⟨(decide_eq_false ha1), trivial⟩⟩, nofun⟩
def F_ref04_Ranked_L3 (n : Nat) (a0 : List D) (t1 : List D) (sa : Int × List D) (sb : (Int × List D)) : Option (((Int × List D)) ⊕ ((List D))) :=
  if sb.1 < ((a0).length : Int) then
    if 0 ≤ sb.1 ∧ sb.1 < ((t1).length : Int) then
    ((nth (t1) (Int.toNat sb.1)).bind un_i).bind fun tb3 =>
    if tb3 = sa.1 then
      if roomP 8 ((sb.2).length + 1) then
      if inI64 (sb.1 + 1) then
      some (.inl ((sb.1 + 1), (sb.2 ++ ([I sb.1] : List D))))
      else none
      else none
    else
    if inI64 (sb.1 + 1) then
    some (.inl ((sb.1 + 1), sb.2))
    else none
    else none
  else
  some (.inr sb.2)
noncomputable def T_ref04_Ranked_L3 (a0 : List D) (t1 : List D) (sa : Int × List D) (sb : (Int × List D)) : List (Nat × AV) := [(0, .d (.lst false 10 a0)), (9, .own 6 0), (10, .own 43 0), (13, .d (I sa.1)), (14, .d (I sb.1))]
noncomputable def H_ref04_Ranked_L3 (a0 : List D) (t1 : List D) (sa : Int × List D) (sb : (Int × List D)) : List (Nat × Blk) := [(6, .row 0 1 t1), (43, .row 0 1 sb.2)]
noncomputable def X_ref04_Ranked_L3 (a0 : List D) (t1 : List D) (sa : Int × List D) (e : (List D)) : Ex := (.exit 4)
noncomputable def XT_ref04_Ranked_L3 (a0 : List D) (t1 : List D) (sa : Int × List D) (e : (List D)) : List (Nat × AV) := [(0, .d (.lst false 10 a0)), (9, .own 6 0), (10, .own 43 0), (13, .d (I sa.1))]
noncomputable def XH_ref04_Ranked_L3 (a0 : List D) (t1 : List D) (sa : Int × List D) (e : (List D)) : List (Nat × Blk) := [(6, .row 0 1 t1), (43, .row 0 1 e)]
theorem R_ref04_Ranked_L3 {n : Nat} {a0 : List D} {t1 : List D} {sa : Int × List D} (sb : (Int × List D)) (r) (h : F_ref04_Ranked_L3 n a0 t1 sa sb = some r) : Rd cx (loopAt cx.P 29 2) 56 0 false (T_ref04_Ranked_L3 a0 t1 sa) (H_ref04_Ranked_L3 a0 t1 sa) (X_ref04_Ranked_L3 a0 t1 sa) (XT_ref04_Ranked_L3 a0 t1 sa) (XH_ref04_Ranked_L3 a0 t1 sa) sb r := by
  unfold F_ref04_Ranked_L3 at h
  by_cases hb1 : sb.1 < ((a0).length : Int)
  · replace h := ite_t h hb1
    obtain ⟨hb2, h⟩ := grd_of h
    obtain ⟨tb3, hb3, h⟩ := bnd_of h
    by_cases hb4 : tb3 = sa.1
    · replace h := ite_t h hb4
      obtain ⟨hb5, h⟩ := grd_of h
      obtain ⟨hb6, h⟩ := grd_of h
      replace h := Option.some.inj h
      subst h
      exact ⟨100, 47, [.br true, .br true, .el (I tb3), .br true, .br true], [], [0, 9, 10, 13, 14], [6, 43], round_of (ob := [inI64 (sb.1 + 1), room cx 3 ((sb.2).length + 1), (tb3 == sa.1) = true, nth (t1) (Int.toNat sb.1) = some (I tb3), 0 ≤ sb.1 ∧ sb.1 < ((t1).length : Int), (decide (sb.1 < ((a0).length : Int))) = true]) (by kernel_rfl) ⟨hb6, (room_of (b := 8) (by kernel_rfl) (by decide) hb5), (eqt hb4), nel_ok un_i_ok hb3, hb2, (decide_eq_true hb1), trivial⟩⟩
    · replace h := ite_f h hb4
      obtain ⟨hb5, h⟩ := grd_of h
      replace h := Option.some.inj h
      subst h
      exact ⟨100, 47, [.br true, .br true, .el (I tb3), .br false], [], [0, 9, 10, 13, 14], [6, 43], round_of (ob := [inI64 (sb.1 + 1), (tb3 == sa.1) = false, nth (t1) (Int.toNat sb.1) = some (I tb3), 0 ≤ sb.1 ∧ sb.1 < ((t1).length : Int), (decide (sb.1 < ((a0).length : Int))) = true]) (by kernel_rfl) ⟨hb5, (eqf hb4), nel_ok un_i_ok hb3, hb2, (decide_eq_true hb1), trivial⟩⟩
  · replace h := ite_f h hb1
    replace h := Option.some.inj h
    subst h
    exact ⟨⟨100, 47, [.br false], [], [0, 9, 10, 13], [6, 43], round_of (ob := [(decide (sb.1 < ((a0).length : Int))) = false]) (by kernel_rfl) ⟨(decide_eq_false hb1), trivial⟩⟩, nofun⟩
def F_ref04_Ranked_L4 (n : Nat) (a0 : List D) (t1 : List D) (sa : (Int × List D)) : Option (((Int × List D)) ⊕ ((List D))) :=
  if sa.1 ≥ 0 then
    (loopF (F_ref04_Ranked_L3 n a0 t1 sa) n (0, sa.2)).bind fun ta2 =>
    if inI64 (sa.1 - 1) then
    some (.inl ((sa.1 - 1), ta2))
    else none
  else
  some (.inr sa.2)
noncomputable def T_ref04_Ranked_L4 (a0 : List D) (t1 : List D) (sa : (Int × List D)) : List (Nat × AV) := [(0, .d (.lst false 10 a0)), (9, .own 6 0), (10, .own 43 0), (13, .d (I sa.1))]
noncomputable def H_ref04_Ranked_L4 (a0 : List D) (t1 : List D) (sa : (Int × List D)) : List (Nat × Blk) := [(6, .row 0 1 t1), (43, .row 0 1 sa.2)]
noncomputable def X_ref04_Ranked_L4 (a0 : List D) (t1 : List D) (e : (List D)) : Ex := (.exit 2)
noncomputable def XT_ref04_Ranked_L4 (a0 : List D) (t1 : List D) (e : (List D)) : List (Nat × AV) := [(10, .own 43 0)]
noncomputable def XH_ref04_Ranked_L4 (a0 : List D) (t1 : List D) (e : (List D)) : List (Nat × Blk) := [(43, .row 0 1 e)]
theorem R_ref04_Ranked_L4 {n : Nat} {a0 : List D} {t1 : List D} (sa : (Int × List D)) (r) (h : F_ref04_Ranked_L4 n a0 t1 sa = some r) : Rd cx (loopAt cx.P 29 1) 56 0 false (T_ref04_Ranked_L4 a0 t1) (H_ref04_Ranked_L4 a0 t1) (X_ref04_Ranked_L4 a0 t1) (XT_ref04_Ranked_L4 a0 t1) (XH_ref04_Ranked_L4 a0 t1) sa r := by
  unfold F_ref04_Ranked_L4 at h
  by_cases ha1 : sa.1 ≥ 0
  · replace h := ite_t h ha1
    obtain ⟨ta2, ha2, h⟩ := bnd_of h
    obtain ⟨ha3, h⟩ := grd_of h
    replace h := Option.some.inj h
    subst h
    exact ⟨100, 44, [.br true, .lp [] [0, 9, 10, 13, 14] [6, 43] (.exit 4) [(0, .d (.lst false 10 a0)), (9, .own 6 0), (10, .own 43 0), (13, .d (I sa.1))] [(6, .row 0 1 t1), (43, .row 0 1 ta2)] 76], [], [0, 9, 10, 13], [6, 43], round_of (ob := [inI64 (sa.1 - 1), LoopN cx (loopAt cx.P 29 2) 56 0 false [(0, .d (.lst false 10 a0)), (9, .own 6 0), (10, .own 43 0), (13, .d (I sa.1)), (14, .d (I 0))] [(6, .row 0 1 t1), (43, .row 0 1 sa.2)] (.exit 4) [(0, .d (.lst false 10 a0)), (9, .own 6 0), (10, .own 43 0), (13, .d (I sa.1))] [(6, .row 0 1 t1), (43, .row 0 1 ta2)], (decide (sa.1 ≥ 0)) = true]) (by kernel_rfl) ⟨ha3, (loopF_to R_ref04_Ranked_L3 ha2), (decide_eq_true ha1), trivial⟩⟩
  · replace h := ite_f h ha1
    replace h := Option.some.inj h
    subst h
    exact ⟨⟨100, 44, [.br false], [], [10], [43], round_of (ob := [(decide (sa.1 ≥ 0)) = false]) (by kernel_rfl) ⟨(decide_eq_false ha1), trivial⟩⟩, nofun⟩
/- spillage/spillageref04.Ranked: .lst false 10 a0, .agg [I a1, I a2, I a3], .agg [I a4, I a5, I a6], I a7 -/
def F_ref04_Ranked (n : Nat) (a0 : List D) (a1 : Int) (a2 : Int) (a3 : Int) (a4 : Int) (a5 : Int) (a6 : Int) (a7 : Int) : Option (List D) :=
  (loopF (F_ref04_Ranked_L1 n a0 a1 a2 a3 a4 a5 a6 a7) n (0, [])).bind fun t1 =>
  if inI64 (a7 * a7) then
  (loopF (F_ref04_Ranked_L4 n a0 t1) n ((a7 * a7), [])).bind fun t3 =>
  some t3
  else none
theorem c_ref04_Ranked {n : Nat} {a0 : List D} {a1 : Int} {a2 : Int} {a3 : Int} {a4 : Int} {a5 : Int} {a6 : Int} {a7 : Int} {r : List D} (h : F_ref04_Ranked n a0 a1 a2 a3 a4 a5 a6 a7 = some r) : Computes cx 29 [.lst false 10 a0, .agg [I a1, I a2, I a3], .agg [I a4, I a5, I a6], I a7] (.lst false 1 r) := by
  unfold F_ref04_Ranked at h
  obtain ⟨t1, h1, h⟩ := bnd_of h
  obtain ⟨h2, h⟩ := grd_of h
  obtain ⟨t3, h3, h⟩ := bnd_of h
  replace h := Option.some.inj h
  subst h
  exact run (n := 100) (f := 29) (args := [.lst false 10 a0, .agg [I a1, I a2, I a3], .agg [I a4, I a5, I a6], I a7]) (orc := [.lp [9, 1] [0, 3, 5, 6, 9, 10, 11] [0, 1, 6] (.exit 0) [(0, .d (.lst false 10 a0)), (3, .d (I a7)), (9, .own 6 0), (10, .d (.lst true 0 []))] [(6, .row 0 1 t1)] 39, .lp [10, 1] [0, 9, 10, 13] [6, 43] (.exit 2) [(10, .own 43 0)] [(43, .row 0 1 t3)] 90]) (r := .lst false 1 t3) (ob := [LoopN cx (loopAt cx.P 29 1) 56 0 false [(0, .d (.lst false 10 a0)), (9, .own 6 0), (10, .own 43 0), (13, .d (I (a7 * a7)))] [(6, .row 0 1 t1), (43, .row 0 1 [])] (.exit 2) [(10, .own 43 0)] [(43, .row 0 1 t3)], inI64 (a7 * a7), LoopN cx (loopAt cx.P 29 0) 56 0 false [(0, .d (.lst false 10 a0)), (3, .d (I a7)), (5, .ptr 0 0 0 0 0), (6, .ptr 1 0 0 0 0), (9, .own 6 0), (10, .d (.lst true 0 [])), (11, .d (I 0))] [(0, .box (.d (.agg [I a1, I a2, I a3]))), (1, .box (.d (.agg [I a4, I a5, I a6]))), (6, .row 0 1 [])] (.exit 0) [(0, .d (.lst false 10 a0)), (3, .d (I a7)), (9, .own 6 0), (10, .d (.lst true 0 []))] [(6, .row 0 1 t1)]]) (by kernel_rfl) ⟨(loopF_to R_ref04_Ranked_L4 h3), h2, (loopF_to R_ref04_Ranked_L1 h1), trivial⟩
/- spillage/spillagelaw04.FieldLit: .lst false 10 a0, .agg [I a1, I a2, I a3, I a4, I a5, I a6, I a7, I a8] -/
def F_law04_FieldLit (n : Nat) (a0 : List D) (a1 : Int) (a2 : Int) (a3 : Int) (a4 : Int) (a5 : Int) (a6 : Int) (a7 : Int) (a8 : Int) : Option (Bool) :=
  (F_law04_awake n).bind fun t1 =>
  if t1 = true then
    (F_ref04_Short n a0).bind fun t3 =>
    if t3 = true then
      (F_law04_own n a0).bind fun t5 =>
      (F_field_Lit n t5 a1 a2 a3 a4 a5 a6 a7 a8).bind fun t6 =>
      (F_field_Ranked n t5 a2 a3 a4 a5 a6 a7 a8).bind fun t7 =>
      (F_ref04_CheckDirection n a2 a3 a4).bind fun t8 =>
      (F_ref04_CheckTarget n a5 a6 a7).bind fun t9 =>
      (F_ref04_CheckFacets n a8).bind fun t10 =>
      (F_ref01_First n ([I t8, I t9, I t10])).bind fun t11 =>
      (F_law04_checkMirror n a0 a1).bind fun t12 =>
      (F_ref01_First n ([I t12, I t11])).bind fun t13 =>
      (F_ref04_CheckMirrors n a0).bind fun t14 =>
      (F_ref01_First n ([I t14, I t11])).bind fun t15 =>
      if t13 = 0 then
        (F_ref04_Lit n a0 a1 a2 a3 a4 a5 a6 a7 a8).bind fun t17 =>
        if t15 = 0 then
          (F_ref04_Ranked n a0 a2 a3 a4 a5 a6 a7 a8).bind fun t19 =>
          if ((t6.1 == t17.1) && ((t6.2.1 == t17.2.1) && ((t6.2.2.1 == t17.2.2) && true))) = true then
            if t6.2.2.2 = t13 then
              (F_law04_numbers n t7.1 t7.2 t15 t19).bind fun t22 =>
              some t22
            else
            none /- false -/
          else
          none /- false -/
        else
        if ((t6.1 == t17.1) && ((t6.2.1 == t17.2.1) && ((t6.2.2.1 == t17.2.2) && true))) = true then
          if t6.2.2.2 = t13 then
            (F_law04_numbers n t7.1 t7.2 t15 ([])).bind fun t21 =>
            some t21
          else
          none /- false -/
        else
        none /- false -/
      else
      if t15 = 0 then
        (F_ref04_Ranked n a0 a2 a3 a4 a5 a6 a7 a8).bind fun t18 =>
        if ((t6.1 == 0) && ((t6.2.1 == 0) && ((t6.2.2.1 == 0) && true))) = true then
          if t6.2.2.2 = t13 then
            (F_law04_numbers n t7.1 t7.2 t15 t18).bind fun t21 =>
            some t21
          else
          none /- false -/
        else
        none /- false -/
      else
      if ((t6.1 == 0) && ((t6.2.1 == 0) && ((t6.2.2.1 == 0) && true))) = true then
        if t6.2.2.2 = t13 then
          (F_law04_numbers n t7.1 t7.2 t15 ([])).bind fun t20 =>
          some t20
        else
        none /- false -/
      else
      none /- false -/
    else
    some t1
  else
  some t1
theorem c_law04_FieldLit {n : Nat} {a0 : List D} {a1 : Int} {a2 : Int} {a3 : Int} {a4 : Int} {a5 : Int} {a6 : Int} {a7 : Int} {a8 : Int} {r : Bool} (h : F_law04_FieldLit n a0 a1 a2 a3 a4 a5 a6 a7 a8 = some r) : Computes cx 4 [.lst false 10 a0, .agg [I a1, I a2, I a3, I a4, I a5, I a6, I a7, I a8]] (B r) := by
  unfold F_law04_FieldLit at h
  obtain ⟨t1, h1, h⟩ := bnd_of h
  by_cases h2 : t1 = true
  · replace h := ite_t h h2
    obtain ⟨t3, h3, h⟩ := bnd_of h
    by_cases h4 : t3 = true
    · replace h := ite_t h h4
      obtain ⟨t5, h5, h⟩ := bnd_of h
      obtain ⟨t6, h6, h⟩ := bnd_of h
      obtain ⟨t7, h7, h⟩ := bnd_of h
      obtain ⟨t8, h8, h⟩ := bnd_of h
      obtain ⟨t9, h9, h⟩ := bnd_of h
      obtain ⟨t10, h10, h⟩ := bnd_of h
      obtain ⟨t11, h11, h⟩ := bnd_of h
      obtain ⟨t12, h12, h⟩ := bnd_of h
      obtain ⟨t13, h13, h⟩ := bnd_of h
      obtain ⟨t14, h14, h⟩ := bnd_of h
      obtain ⟨t15, h15, h⟩ := bnd_of h
      by_cases h16 : t13 = 0
      · replace h := ite_t h h16
        obtain ⟨t17, h17, h⟩ := bnd_of h
        by_cases h18 : t15 = 0
        · replace h := ite_t h h18
          obtain ⟨t19, h19, h⟩ := bnd_of h
          by_cases h20 : ((t6.1 == t17.1) && ((t6.2.1 == t17.2.1) && ((t6.2.2.1 == t17.2.2) && true))) = true
          · replace h := ite_t h h20
            by_cases h21 : t6.2.2.2 = t13
            · replace h := ite_t h h21
              obtain ⟨t22, h22, h⟩ := bnd_of h
              replace h := Option.some.inj h
              subst h
              exact run (n := 100) (f := 4) (args := [.lst false 10 a0, .agg [I a1, I a2, I a3, I a4, I a5, I a6, I a7, I a8]]) (orc := [.ret (B t1), .br false, .ret (B t3), .br false, .ret (.lst false 10 t5), .ret (.tup [.agg [I t6.1, I t6.2.1, I t6.2.2.1], I t6.2.2.2]), .ret (.lst false 10 t5), .ret (.tup [.lst false 1 t7.1, I t7.2]), .ret (I t8), .ret (I t9), .ret (I t10), .ret (I t11), .ret (I t12), .ret (I t13), .ret (I t14), .ret (I t15), .br true, .ret (.agg [I t17.1, I t17.2.1, I t17.2.2]), .br true, .ret (.lst false 1 t19), .br true, .br true, .ret (B t22)]) (r := B t22) (ob := [Computes cx 30 [.lst false 1 t7.1, I t7.2, I t15, .lst false 1 t19] (B t22), (t6.2.2.2 == t13) = true, ((t6.1 == t17.1) && ((t6.2.1 == t17.2.1) && ((t6.2.2.1 == t17.2.2) && true))) = true, Computes cx 29 [.lst false 10 a0, .agg [I a2, I a3, I a4], .agg [I a5, I a6, I a7], I a8] (.lst false 1 t19), (t15 == 0) = true, Computes cx 28 [.lst false 10 a0, I a1, .agg [I a2, I a3, I a4], .agg [I a5, I a6, I a7], I a8] (.agg [I t17.1, I t17.2.1, I t17.2.2]), (t13 == 0) = true, Computes cx 13 [.lst true 1 [I t14, I t11]] (I t15), Computes cx 27 [.lst false 10 a0] (I t14), Computes cx 13 [.lst true 1 [I t12, I t11]] (I t13), Computes cx 26 [.lst false 10 a0, I a1] (I t12), Computes cx 13 [.lst true 1 [I t8, I t9, I t10]] (I t11), Computes cx 25 [I a8] (I t10), Computes cx 24 [.agg [I a5, I a6, I a7]] (I t9), Computes cx 15 [.agg [I a2, I a3, I a4]] (I t8), Computes cx 23 [.lst false 10 t5, .agg [I a2, I a3, I a4], .agg [I a5, I a6, I a7], I a8] (.tup [.lst false 1 t7.1, I t7.2]), Computes cx 22 [.lst false 10 a0] (.lst false 10 t5), Computes cx 21 [.lst false 10 t5, I a1, .agg [I a2, I a3, I a4], .agg [I a5, I a6, I a7], I a8] (.tup [.agg [I t6.1, I t6.2.1, I t6.2.2.1], I t6.2.2.2]), Computes cx 22 [.lst false 10 a0] (.lst false 10 t5), (!t3) = false, Computes cx 20 [.lst false 10 a0] (B t3), (!t1) = false, Computes cx 9 [] (B t1)]) (by kernel_rfl) ⟨(c_law04_numbers h22), (eqt h21), h20, (c_ref04_Ranked h19), (eqt h18), (c_ref04_Lit h17), (eqt h16), ((c_ref01_First h15).le (.cons (.full _ _ _) (.nil)) (.refl _)), (c_ref04_CheckMirrors h14), ((c_ref01_First h13).le (.cons (.full _ _ _) (.nil)) (.refl _)), (c_law04_checkMirror h12), ((c_ref01_First h11).le (.cons (.full _ _ _) (.nil)) (.refl _)), (c_ref04_CheckFacets h10), (c_ref04_CheckTarget h9), (c_ref04_CheckDirection h8), (c_field_Ranked h7), (c_law04_own h5), (c_field_Lit h6), (c_law04_own h5), (notf h4), (c_ref04_Short h3), (notf h2), (c_law04_awake h1), trivial⟩
            · replace h := ite_f h h21
              cases h
          · replace h := ite_f h h20
            cases h
        · replace h := ite_f h h18
          by_cases h19 : ((t6.1 == t17.1) && ((t6.2.1 == t17.2.1) && ((t6.2.2.1 == t17.2.2) && true))) = true
          · replace h := ite_t h h19
            by_cases h20 : t6.2.2.2 = t13
            · replace h := ite_t h h20
              obtain ⟨t21, h21, h⟩ := bnd_of h
              replace h := Option.some.inj h
              subst h
              exact run (n := 100) (f := 4) (args := [.lst false 10 a0, .agg [I a1, I a2, I a3, I a4, I a5, I a6, I a7, I a8]]) (orc := [.ret (B t1), .br false, .ret (B t3), .br false, .ret (.lst false 10 t5), .ret (.tup [.agg [I t6.1, I t6.2.1, I t6.2.2.1], I t6.2.2.2]), .ret (.lst false 10 t5), .ret (.tup [.lst false 1 t7.1, I t7.2]), .ret (I t8), .ret (I t9), .ret (I t10), .ret (I t11), .ret (I t12), .ret (I t13), .ret (I t14), .ret (I t15), .br true, .ret (.agg [I t17.1, I t17.2.1, I t17.2.2]), .br false, .br true, .br true, .ret (B t21)]) (r := B t21) (ob := [Computes cx 30 [.lst false 1 t7.1, I t7.2, I t15, .lst true 0 []] (B t21), (t6.2.2.2 == t13) = true, ((t6.1 == t17.1) && ((t6.2.1 == t17.2.1) && ((t6.2.2.1 == t17.2.2) && true))) = true, (t15 == 0) = false, Computes cx 28 [.lst false 10 a0, I a1, .agg [I a2, I a3, I a4], .agg [I a5, I a6, I a7], I a8] (.agg [I t17.1, I t17.2.1, I t17.2.2]), (t13 == 0) = true, Computes cx 13 [.lst true 1 [I t14, I t11]] (I t15), Computes cx 27 [.lst false 10 a0] (I t14), Computes cx 13 [.lst true 1 [I t12, I t11]] (I t13), Computes cx 26 [.lst false 10 a0, I a1] (I t12), Computes cx 13 [.lst true 1 [I t8, I t9, I t10]] (I t11), Computes cx 25 [I a8] (I t10), Computes cx 24 [.agg [I a5, I a6, I a7]] (I t9), Computes cx 15 [.agg [I a2, I a3, I a4]] (I t8), Computes cx 23 [.lst false 10 t5, .agg [I a2, I a3, I a4], .agg [I a5, I a6, I a7], I a8] (.tup [.lst false 1 t7.1, I t7.2]), Computes cx 22 [.lst false 10 a0] (.lst false 10 t5), Computes cx 21 [.lst false 10 t5, I a1, .agg [I a2, I a3, I a4], .agg [I a5, I a6, I a7], I a8] (.tup [.agg [I t6.1, I t6.2.1, I t6.2.2.1], I t6.2.2.2]), Computes cx 22 [.lst false 10 a0] (.lst false 10 t5), (!t3) = false, Computes cx 20 [.lst false 10 a0] (B t3), (!t1) = false, Computes cx 9 [] (B t1)]) (by kernel_rfl) ⟨((c_law04_numbers h21).le (.cons (.refl _) (.cons (.refl _) (.cons (.refl _) (.cons (.lst _ _ _ _ _ nofun (.inl rfl)) (.nil))))) (.refl _)), (eqt h20), h19, (eqf h18), (c_ref04_Lit h17), (eqt h16), ((c_ref01_First h15).le (.cons (.full _ _ _) (.nil)) (.refl _)), (c_ref04_CheckMirrors h14), ((c_ref01_First h13).le (.cons (.full _ _ _) (.nil)) (.refl _)), (c_law04_checkMirror h12), ((c_ref01_First h11).le (.cons (.full _ _ _) (.nil)) (.refl _)), (c_ref04_CheckFacets h10), (c_ref04_CheckTarget h9), (c_ref04_CheckDirection h8), (c_field_Ranked h7), (c_law04_own h5), (c_field_Lit h6), (c_law04_own h5), (notf h4), (c_ref04_Short h3), (notf h2), (c_law04_awake h1), trivial⟩
            · replace h := ite_f h h20
              cases h
          · replace h := ite_f h h19
            cases h
      · replace h := ite_f h h16
        by_cases h17 : t15 = 0
        · replace h := ite_t h h17
          obtain ⟨t18, h18, h⟩ := bnd_of h
          by_cases h19 : ((t6.1 == 0) && ((t6.2.1 == 0) && ((t6.2.2.1 == 0) && true))) = true
          · replace h := ite_t h h19
            by_cases h20 : t6.2.2.2 = t13
            · replace h := ite_t h h20
              obtain ⟨t21, h21, h⟩ := bnd_of h
              replace h := Option.some.inj h
              subst h
              exact run (n := 100) (f := 4) (args := [.lst false 10 a0, .agg [I a1, I a2, I a3, I a4, I a5, I a6, I a7, I a8]]) (orc := [.ret (B t1), .br false, .ret (B t3), .br false, .ret (.lst false 10 t5), .ret (.tup [.agg [I t6.1, I t6.2.1, I t6.2.2.1], I t6.2.2.2]), .ret (.lst false 10 t5), .ret (.tup [.lst false 1 t7.1, I t7.2]), .ret (I t8), .ret (I t9), .ret (I t10), .ret (I t11), .ret (I t12), .ret (I t13), .ret (I t14), .ret (I t15), .br false, .br true, .ret (.lst false 1 t18), .br true, .br true, .ret (B t21)]) (r := B t21) (ob := [Computes cx 30 [.lst false 1 t7.1, I t7.2, I t15, .lst false 1 t18] (B t21), (t6.2.2.2 == t13) = true, ((t6.1 == 0) && ((t6.2.1 == 0) && ((t6.2.2.1 == 0) && true))) = true, Computes cx 29 [.lst false 10 a0, .agg [I a2, I a3, I a4], .agg [I a5, I a6, I a7], I a8] (.lst false 1 t18), (t15 == 0) = true, (t13 == 0) = false, Computes cx 13 [.lst true 1 [I t14, I t11]] (I t15), Computes cx 27 [.lst false 10 a0] (I t14), Computes cx 13 [.lst true 1 [I t12, I t11]] (I t13), Computes cx 26 [.lst false 10 a0, I a1] (I t12), Computes cx 13 [.lst true 1 [I t8, I t9, I t10]] (I t11), Computes cx 25 [I a8] (I t10), Computes cx 24 [.agg [I a5, I a6, I a7]] (I t9), Computes cx 15 [.agg [I a2, I a3, I a4]] (I t8), Computes cx 23 [.lst false 10 t5, .agg [I a2, I a3, I a4], .agg [I a5, I a6, I a7], I a8] (.tup [.lst false 1 t7.1, I t7.2]), Computes cx 22 [.lst false 10 a0] (.lst false 10 t5), Computes cx 21 [.lst false 10 t5, I a1, .agg [I a2, I a3, I a4], .agg [I a5, I a6, I a7], I a8] (.tup [.agg [I t6.1, I t6.2.1, I t6.2.2.1], I t6.2.2.2]), Computes cx 22 [.lst false 10 a0] (.lst false 10 t5), (!t3) = false, Computes cx 20 [.lst false 10 a0] (B t3), (!t1) = false, Computes cx 9 [] (B t1)]) (by kernel_rfl) ⟨(c_law04_numbers h21), (eqt h20), h19, (c_ref04_Ranked h18), (eqt h17), (eqf h16), ((c_ref01_First h15).le (.cons (.full _ _ _) (.nil)) (.refl _)), (c_ref04_CheckMirrors h14), ((c_ref01_First h13).le (.cons (.full _ _ _) (.nil)) (.refl _)), (c_law04_checkMirror h12), ((c_ref01_First h11).le (.cons (.full _ _ _) (.nil)) (.refl _)), (c_ref04_CheckFacets h10), (c_ref04_CheckTarget h9), (c_ref04_CheckDirection h8), (c_field_Ranked h7), (c_law04_own h5), (c_field_Lit h6), (c_law04_own h5), (notf h4), (c_ref04_Short h3), (notf h2), (c_law04_awake h1), trivial⟩
            · replace h := ite_f h h20
              cases h
          · replace h := ite_f h h19
            cases h
        · replace h := ite_f h h17
          by_cases h18 : ((t6.1 == 0) && ((t6.2.1 == 0) && ((t6.2.2.1 == 0) && true))) = true
          · replace h := ite_t h h18
            by_cases h19 : t6.2.2.2 = t13
            · replace h := ite_t h h19
              obtain ⟨t20, h20, h⟩ := bnd_of h
              replace h := Option.some.inj h
              subst h
              exact run (n := 100) (f := 4) (args := [.lst false 10 a0, .agg [I a1, I a2, I a3, I a4, I a5, I a6, I a7, I a8]]) (orc := [.ret (B t1), .br false, .ret (B t3), .br false, .ret (.lst false 10 t5), .ret (.tup [.agg [I t6.1, I t6.2.1, I t6.2.2.1], I t6.2.2.2]), .ret (.lst false 10 t5), .ret (.tup [.lst false 1 t7.1, I t7.2]), .ret (I t8), .ret (I t9), .ret (I t10), .ret (I t11), .ret (I t12), .ret (I t13), .ret (I t14), .ret (I t15), .br false, .br false, .br true, .br true, .ret (B t20)]) (r := B t20) (ob := [Computes cx 30 [.lst false 1 t7.1, I t7.2, I t15, .lst true 0 []] (B t20), (t6.2.2.2 == t13) = true, ((t6.1 == 0) && ((t6.2.1 == 0) && ((t6.2.2.1 == 0) && true))) = true, (t15 == 0) = false, (t13 == 0) = false, Computes cx 13 [.lst true 1 [I t14, I t11]] (I t15), Computes cx 27 [.lst false 10 a0] (I t14), Computes cx 13 [.lst true 1 [I t12, I t11]] (I t13), Computes cx 26 [.lst false 10 a0, I a1] (I t12), Computes cx 13 [.lst true 1 [I t8, I t9, I t10]] (I t11), Computes cx 25 [I a8] (I t10), Computes cx 24 [.agg [I a5, I a6, I a7]] (I t9), Computes cx 15 [.agg [I a2, I a3, I a4]] (I t8), Computes cx 23 [.lst false 10 t5, .agg [I a2, I a3, I a4], .agg [I a5, I a6, I a7], I a8] (.tup [.lst false 1 t7.1, I t7.2]), Computes cx 22 [.lst false 10 a0] (.lst false 10 t5), Computes cx 21 [.lst false 10 t5, I a1, .agg [I a2, I a3, I a4], .agg [I a5, I a6, I a7], I a8] (.tup [.agg [I t6.1, I t6.2.1, I t6.2.2.1], I t6.2.2.2]), Computes cx 22 [.lst false 10 a0] (.lst false 10 t5), (!t3) = false, Computes cx 20 [.lst false 10 a0] (B t3), (!t1) = false, Computes cx 9 [] (B t1)]) (by kernel_rfl) ⟨((c_law04_numbers h20).le (.cons (.refl _) (.cons (.refl _) (.cons (.refl _) (.cons (.lst _ _ _ _ _ nofun (.inl rfl)) (.nil))))) (.refl _)), (eqt h19), h18, (eqf h17), (eqf h16), ((c_ref01_First h15).le (.cons (.full _ _ _) (.nil)) (.refl _)), (c_ref04_CheckMirrors h14), ((c_ref01_First h13).le (.cons (.full _ _ _) (.nil)) (.refl _)), (c_law04_checkMirror h12), ((c_ref01_First h11).le (.cons (.full _ _ _) (.nil)) (.refl _)), (c_ref04_CheckFacets h10), (c_ref04_CheckTarget h9), (c_ref04_CheckDirection h8), (c_field_Ranked h7), (c_law04_own h5), (c_field_Lit h6), (c_law04_own h5), (notf h4), (c_ref04_Short h3), (notf h2), (c_law04_awake h1), trivial⟩
            · replace h := ite_f h h19
              cases h
          · replace h := ite_f h h18
            cases h
    · replace h := ite_f h h4
      replace h := Option.some.inj h
      subst h
      exact run (n := 100) (f := 4) (args := [.lst false 10 a0, .agg [I a1, I a2, I a3, I a4, I a5, I a6, I a7, I a8]]) (orc := [.ret (B t1), .br false, .ret (B t3), .br true, .ret (B t1)]) (r := B t1) (ob := [Computes cx 9 [] (B t1), (!t3) = true, Computes cx 20 [.lst false 10 a0] (B t3), (!t1) = false, Computes cx 9 [] (B t1)]) (by kernel_rfl) ⟨(c_law04_awake h1), (nott (bfalse h4)), (c_ref04_Short h3), (notf h2), (c_law04_awake h1), trivial⟩
  · replace h := ite_f h h2
    replace h := Option.some.inj h
    subst h
    exact run (n := 100) (f := 4) (args := [.lst false 10 a0, .agg [I a1, I a2, I a3, I a4, I a5, I a6, I a7, I a8]]) (orc := [.ret (B t1), .br true, .no, .ret (B t1)]) (r := B t1) (ob := [Computes cx 9 [] (B t1), (!t1) = true, Computes cx 9 [] (B t1)]) (by kernel_rfl) ⟨(c_law04_awake h1), (nott (bfalse h2)), (c_law04_awake h1), trivial⟩
end Go.Proofs.YtojmcpnpojdnmaaGreatDoor
