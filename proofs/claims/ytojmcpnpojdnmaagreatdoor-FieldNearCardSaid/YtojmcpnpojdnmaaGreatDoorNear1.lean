/-
  Printed by gsx.py: functions of the program as Lean functions, and that the code computes them.
-/
import Derived.Test.YtojmcpnpojdnmaaGreatDoorWake
set_option linter.unusedVariables false
set_option linter.unusedSimpArgs false
set_option linter.unnecessarySimpa false
set_option maxRecDepth 10000
namespace Go.Proofs.YtojmcpnpojdnmaaGreatDoor
open Go.SX
def F_field_Neighbours_L1 (n : Nat) (a0 : List D) (a1 : Int) (a2 : Int) (sa : (Int × List D)) : Option (((Int × List D)) ⊕ ((List D))) :=
  if sa.1 < ((a0).length : Int) then
    (el un_Asi9Z a0 sa.1).bind fun ta2 =>
    (el un_Asi9Z a0 a1).bind fun ta3 =>
    (F_field_times n (-1) ta3.2.1 ta3.2.2.1 ta3.2.2.2.1).bind fun ta4 =>
    (F_field_plus n ta2.2.1 ta2.2.2.1 ta2.2.2.2.1 ta4.1 ta4.2.1 ta4.2.2).bind fun ta5 =>
    (F_field_dot n ta5.1 ta5.2.1 ta5.2.2 ta5.1 ta5.2.1 ta5.2.2).bind fun ta6 =>
    if sa.1 = a1 then
      if inI64 (sa.1 + 1) then
      some (.inl ((sa.1 + 1), sa.2))
      else none
    else
    if roomP 104 ((sa.2).length + 1) then
    if inI64 (sa.1 + 1) then
    some (.inl ((sa.1 + 1), (sa.2 ++ ([.agg [.v (.string ta2.1), I ta2.2.1, I ta2.2.2.1, I ta2.2.2.2.1, I ta2.2.2.2.2.1, I ta2.2.2.2.2.2.1, I ta2.2.2.2.2.2.2.1, I ta2.2.2.2.2.2.2.2.1, I ta2.2.2.2.2.2.2.2.2.1, I ta2.2.2.2.2.2.2.2.2.2, I ta6, I sa.1]] : List D))))
    else none
    else none
  else
  some (.inr sa.2)
noncomputable def T_field_Neighbours_L1 (a0 : List D) (a1 : Int) (a2 : Int) (sa : (Int × List D)) : List (Nat × AV) := [(0, .d (.lst false 10 a0)), (1, .d (I a1)), (2, .d (I a2)), (9, .own 16 0), (24, .d (.lst false 10 a0)), (25, .d (I ((a0).length : Int))), (26, .d (I sa.1))]
noncomputable def H_field_Neighbours_L1 (a0 : List D) (a1 : Int) (a2 : Int) (sa : (Int × List D)) : List (Nat × Blk) := [(16, .row 0 12 sa.2)]
noncomputable def X_field_Neighbours_L1 (a0 : List D) (a1 : Int) (a2 : Int) (e : (List D)) : Ex := (.exit 0)
noncomputable def XT_field_Neighbours_L1 (a0 : List D) (a1 : Int) (a2 : Int) (e : (List D)) : List (Nat × AV) := [(2, .d (I a2)), (9, .own 16 0)]
noncomputable def XH_field_Neighbours_L1 (a0 : List D) (a1 : Int) (a2 : Int) (e : (List D)) : List (Nat × Blk) := [(16, .row 0 12 e)]
theorem R_field_Neighbours_L1 {n : Nat} {a0 : List D} {a1 : Int} {a2 : Int} (sa : (Int × List D)) (r) (h : F_field_Neighbours_L1 n a0 a1 a2 sa = some r) : Rd cx (loopAt cx.P 31 0) 63 0 false (T_field_Neighbours_L1 a0 a1 a2) (H_field_Neighbours_L1 a0 a1 a2) (X_field_Neighbours_L1 a0 a1 a2) (XT_field_Neighbours_L1 a0 a1 a2) (XH_field_Neighbours_L1 a0 a1 a2) sa r := by
  unfold F_field_Neighbours_L1 at h
  by_cases ha1 : sa.1 < ((a0).length : Int)
  · replace h := ite_t h ha1
    obtain ⟨ta2, ha2, h⟩ := bnd_of h
    obtain ⟨ta3, ha3, h⟩ := bnd_of h
    obtain ⟨ta4, ha4, h⟩ := bnd_of h
    obtain ⟨ta5, ha5, h⟩ := bnd_of h
    obtain ⟨ta6, ha6, h⟩ := bnd_of h
    by_cases ha7 : sa.1 = a1
    · replace h := ite_t h ha7
      obtain ⟨ha8, h⟩ := grd_of h
      replace h := Option.some.inj h
      subst h
      exact ⟨100, 17, [.br true, .el (.agg [.v (.string ta2.1), I ta2.2.1, I ta2.2.2.1, I ta2.2.2.2.1, I ta2.2.2.2.2.1, I ta2.2.2.2.2.2.1, I ta2.2.2.2.2.2.2.1, I ta2.2.2.2.2.2.2.2.1, I ta2.2.2.2.2.2.2.2.2.1, I ta2.2.2.2.2.2.2.2.2.2]), .el (.agg [.v (.string ta3.1), I ta3.2.1, I ta3.2.2.1, I ta3.2.2.2.1, I ta3.2.2.2.2.1, I ta3.2.2.2.2.2.1, I ta3.2.2.2.2.2.2.1, I ta3.2.2.2.2.2.2.2.1, I ta3.2.2.2.2.2.2.2.2.1, I ta3.2.2.2.2.2.2.2.2.2]), .ret (.agg [I ta4.1, I ta4.2.1, I ta4.2.2]), .ret (.agg [I ta5.1, I ta5.2.1, I ta5.2.2]), .ret (I ta6), .br false], [], [0, 1, 2, 9, 24, 25, 26], [16], round_of (ob := [inI64 (sa.1 + 1), (sa.1 != a1) = false, Computes cx 62 [.agg [I ta5.1, I ta5.2.1, I ta5.2.2], .agg [I ta5.1, I ta5.2.1, I ta5.2.2]] (I ta6), Computes cx 89 [.agg [I ta2.2.1, I ta2.2.2.1, I ta2.2.2.2.1], .agg [I ta4.1, I ta4.2.1, I ta4.2.2]] (.agg [I ta5.1, I ta5.2.1, I ta5.2.2]), Computes cx 90 [I (-1), .agg [I ta3.2.1, I ta3.2.2.1, I ta3.2.2.2.1]] (.agg [I ta4.1, I ta4.2.1, I ta4.2.2]), (0 : Int) ≤ a1, nth (a0) (Int.toNat a1) = some (.agg [.v (.string ta3.1), I ta3.2.1, I ta3.2.2.1, I ta3.2.2.2.1, I ta3.2.2.2.2.1, I ta3.2.2.2.2.2.1, I ta3.2.2.2.2.2.2.1, I ta3.2.2.2.2.2.2.2.1, I ta3.2.2.2.2.2.2.2.2.1, I ta3.2.2.2.2.2.2.2.2.2]), (0 : Int) ≤ sa.1, nth (a0) (Int.toNat sa.1) = some (.agg [.v (.string ta2.1), I ta2.2.1, I ta2.2.2.1, I ta2.2.2.2.1, I ta2.2.2.2.2.1, I ta2.2.2.2.2.2.1, I ta2.2.2.2.2.2.2.1, I ta2.2.2.2.2.2.2.2.1, I ta2.2.2.2.2.2.2.2.2.1, I ta2.2.2.2.2.2.2.2.2.2]), (decide (sa.1 < ((a0).length : Int))) = true]) (by kernel_rfl) ⟨ha8, (nef ha7), (c_field_dot ha6), (c_field_plus ha5), (c_field_times ha4), (el_ok un_Asi9Z_ok ha3).1, (el_ok un_Asi9Z_ok ha3).2, (el_ok un_Asi9Z_ok ha2).1, (el_ok un_Asi9Z_ok ha2).2, (decide_eq_true ha1), trivial⟩⟩
    · replace h := ite_f h ha7
      obtain ⟨ha8, h⟩ := grd_of h
      obtain ⟨ha9, h⟩ := grd_of h
      replace h := Option.some.inj h
      subst h
      exact ⟨100, 17, [.br true, .el (.agg [.v (.string ta2.1), I ta2.2.1, I ta2.2.2.1, I ta2.2.2.2.1, I ta2.2.2.2.2.1, I ta2.2.2.2.2.2.1, I ta2.2.2.2.2.2.2.1, I ta2.2.2.2.2.2.2.2.1, I ta2.2.2.2.2.2.2.2.2.1, I ta2.2.2.2.2.2.2.2.2.2]), .el (.agg [.v (.string ta3.1), I ta3.2.1, I ta3.2.2.1, I ta3.2.2.2.1, I ta3.2.2.2.2.1, I ta3.2.2.2.2.2.1, I ta3.2.2.2.2.2.2.1, I ta3.2.2.2.2.2.2.2.1, I ta3.2.2.2.2.2.2.2.2.1, I ta3.2.2.2.2.2.2.2.2.2]), .ret (.agg [I ta4.1, I ta4.2.1, I ta4.2.2]), .ret (.agg [I ta5.1, I ta5.2.1, I ta5.2.2]), .ret (I ta6), .br true, .br true], [], [0, 1, 2, 9, 24, 25, 26], [16], round_of (ob := [inI64 (sa.1 + 1), room cx 143 ((sa.2).length + 1), (sa.1 != a1) = true, Computes cx 62 [.agg [I ta5.1, I ta5.2.1, I ta5.2.2], .agg [I ta5.1, I ta5.2.1, I ta5.2.2]] (I ta6), Computes cx 89 [.agg [I ta2.2.1, I ta2.2.2.1, I ta2.2.2.2.1], .agg [I ta4.1, I ta4.2.1, I ta4.2.2]] (.agg [I ta5.1, I ta5.2.1, I ta5.2.2]), Computes cx 90 [I (-1), .agg [I ta3.2.1, I ta3.2.2.1, I ta3.2.2.2.1]] (.agg [I ta4.1, I ta4.2.1, I ta4.2.2]), (0 : Int) ≤ a1, nth (a0) (Int.toNat a1) = some (.agg [.v (.string ta3.1), I ta3.2.1, I ta3.2.2.1, I ta3.2.2.2.1, I ta3.2.2.2.2.1, I ta3.2.2.2.2.2.1, I ta3.2.2.2.2.2.2.1, I ta3.2.2.2.2.2.2.2.1, I ta3.2.2.2.2.2.2.2.2.1, I ta3.2.2.2.2.2.2.2.2.2]), (0 : Int) ≤ sa.1, nth (a0) (Int.toNat sa.1) = some (.agg [.v (.string ta2.1), I ta2.2.1, I ta2.2.2.1, I ta2.2.2.2.1, I ta2.2.2.2.2.1, I ta2.2.2.2.2.2.1, I ta2.2.2.2.2.2.2.1, I ta2.2.2.2.2.2.2.2.1, I ta2.2.2.2.2.2.2.2.2.1, I ta2.2.2.2.2.2.2.2.2.2]), (decide (sa.1 < ((a0).length : Int))) = true]) (by kernel_rfl) ⟨ha9, (room_of (b := 104) (by kernel_rfl) (by decide) ha8), (net ha7), (c_field_dot ha6), (c_field_plus ha5), (c_field_times ha4), (el_ok un_Asi9Z_ok ha3).1, (el_ok un_Asi9Z_ok ha3).2, (el_ok un_Asi9Z_ok ha2).1, (el_ok un_Asi9Z_ok ha2).2, (decide_eq_true ha1), trivial⟩⟩
  · replace h := ite_f h ha1
    replace h := Option.some.inj h
    subst h
    exact ⟨⟨100, 17, [.br false], [], [2, 9], [16], round_of (ob := [(decide (sa.1 < ((a0).length : Int))) = false]) (by kernel_rfl) ⟨(decide_eq_false ha1), trivial⟩⟩, nofun⟩
/- spillage/field.Neighbours: .lst false 10 a0, I a1, I a2 -/
def F_field_Neighbours (n : Nat) (a0 : List D) (a1 : Int) (a2 : Int) : Option (List D × Int) :=
  (F_field_checkIndex n a0 a1).bind fun t1 =>
  (F_field_within n a2 0 64).bind fun t2 =>
  (F_field_first n ([I t1, I t2])).bind fun t3 =>
  if t3 = 0 then
    (loopF (F_field_Neighbours_L1 n a0 a1 a2) n (0, [])).bind fun t5 =>
    (F_field_indices n t5).bind fun t6 =>
    if (0 : Int) ≤ 0 ∧ 0 ≤ (minI a2 ((t5).length : Int)) ∧ (minI a2 ((t5).length : Int)) ≤ ((t6).length : Int) ∧ (t6 = [] ∨ 1 = 1) then
    some (((t6.take (Int.toNat (minI a2 ((t5).length : Int)))).drop (Int.toNat 0)), 0)
    else none
  else
  some ([], t3)
theorem c_field_Neighbours {n : Nat} {a0 : List D} {a1 : Int} {a2 : Int} {r : List D × Int} (h : F_field_Neighbours n a0 a1 a2 = some r) : Computes cx 31 [.lst false 10 a0, I a1, I a2] (.tup [.lst false 1 r.1, I r.2]) := by
  unfold F_field_Neighbours at h
  obtain ⟨t1, h1, h⟩ := bnd_of h
  obtain ⟨t2, h2, h⟩ := bnd_of h
  obtain ⟨t3, h3, h⟩ := bnd_of h
  by_cases h4 : t3 = 0
  · replace h := ite_t h h4
    obtain ⟨t5, h5, h⟩ := bnd_of h
    obtain ⟨t6, h6, h⟩ := bnd_of h
    obtain ⟨h7, h⟩ := grd_of h
    replace h := Option.some.inj h
    subst h
    exact run (n := 100) (f := 31) (args := [.lst false 10 a0, I a1, I a2]) (orc := [.ret (I t1), .ret (I t2), .ret (I t3), .br false, .lp [9, 12] [0, 1, 2, 9, 24, 25, 26] [16] (.exit 0) [(2, .d (I a2)), (9, .own 16 0)] [(16, .row 0 12 t5)] 67, .ret (.lst false 1 t6), .br true]) (r := .tup [.lst false 1 ((t6.take (Int.toNat (minI a2 ((t5).length : Int)))).drop (Int.toNat 0)), I 0]) (ob := [(0 : Int) ≤ 0 ∧ 0 ≤ (minI a2 ((t5).length : Int)) ∧ (minI a2 ((t5).length : Int)) ≤ ((t6).length : Int) ∧ (t6 = [] ∨ 1 = 1), Computes cx 85 [.lst false 12 t5] (.lst false 1 t6), LoopN cx (loopAt cx.P 31 0) 63 0 false [(0, .d (.lst false 10 a0)), (1, .d (I a1)), (2, .d (I a2)), (9, .own 16 0), (24, .d (.lst false 10 a0)), (25, .d (I ((a0).length : Int))), (26, .d (I 0))] [(16, .row 0 12 [])] (.exit 0) [(2, .d (I a2)), (9, .own 16 0)] [(16, .row 0 12 t5)], (t3 != 0) = false, Computes cx 59 [.lst true 1 [I t1, I t2]] (I t3), Computes cx 88 [I a2, I 0, I 64] (I t2), Computes cx 80 [.lst false 10 a0, I a1] (I t1)]) (by kernel_rfl) ⟨h7, (c_field_indices h6), (loopF_to R_field_Neighbours_L1 h5), (nef h4), ((c_field_first h3).le (.cons (.full _ _ _) (.nil)) (.refl _)), (c_field_within h2), (c_field_checkIndex h1), trivial⟩
  · replace h := ite_f h h4
    replace h := Option.some.inj h
    subst h
    exact (run (n := 100) (f := 31) (args := [.lst false 10 a0, I a1, I a2]) (orc := [.ret (I t1), .ret (I t2), .ret (I t3), .br true]) (r := .tup [.lst true 0 [], I t3]) (ob := [(t3 != 0) = true, Computes cx 59 [.lst true 1 [I t1, I t2]] (I t3), Computes cx 88 [I a2, I 0, I 64] (I t2), Computes cx 80 [.lst false 10 a0, I a1] (I t1)]) (by kernel_rfl) ⟨(net h4), ((c_field_first h3).le (.cons (.full _ _ _) (.nil)) (.refl _)), (c_field_within h2), (c_field_checkIndex h1), trivial⟩).le (LEs.refl _) (.tups (.cons (.lst _ _ _ _ _ nofun (.inl rfl)) (.cons (.refl _) (.nil))))
def F_ref01_HasInt_2_L1 (n : Nat) (a0 : List D) (a1 : Int) (sa : (Int)) : Option (((Int)) ⊕ ((Unit) ⊕ (Unit))) :=
  if sa < ((a0).length : Int) then
    (el un_i a0 sa).bind fun ta2 =>
    if ta2 = a1 then
      some (.inr (.inl ()))
    else
    if inI64 (sa + 1) then
    some (.inl (sa + 1))
    else none
  else
  some (.inr (.inr ()))
noncomputable def T_ref01_HasInt_2_L1 (a0 : List D) (a1 : Int) (sa : (Int)) : List (Nat × AV) := [(0, .d (.lst false 1 a0)), (1, .d (I a1)), (5, .d (I sa))]
noncomputable def H_ref01_HasInt_2_L1 (a0 : List D) (a1 : Int) (sa : (Int)) : List (Nat × Blk) := []
noncomputable def X_ref01_HasInt_2_L1 (a0 : List D) (a1 : Int) (e : (Unit) ⊕ (Unit)) : Ex := match e with
  | (.inl e) => .ret
  | (.inr e) => (.exit 0)
noncomputable def XT_ref01_HasInt_2_L1 (a0 : List D) (a1 : Int) (e : (Unit) ⊕ (Unit)) : List (Nat × AV) := match e with
  | (.inl e) => [(4, .d (B true))]
  | (.inr e) => []
noncomputable def XH_ref01_HasInt_2_L1 (a0 : List D) (a1 : Int) (e : (Unit) ⊕ (Unit)) : List (Nat × Blk) := match e with
  | (.inl e) => []
  | (.inr e) => []
theorem R_ref01_HasInt_2_L1 {n : Nat} {a0 : List D} {a1 : Int} (sa : (Int)) (r) (h : F_ref01_HasInt_2_L1 n a0 a1 sa = some r) : Rd cx (loopAt cx.P 91 0) 18 0 false (T_ref01_HasInt_2_L1 a0 a1) (H_ref01_HasInt_2_L1 a0 a1) (X_ref01_HasInt_2_L1 a0 a1) (XT_ref01_HasInt_2_L1 a0 a1) (XH_ref01_HasInt_2_L1 a0 a1) sa r := by
  unfold F_ref01_HasInt_2_L1 at h
  by_cases ha1 : sa < ((a0).length : Int)
  · replace h := ite_t h ha1
    obtain ⟨ta2, ha2, h⟩ := bnd_of h
    by_cases ha3 : ta2 = a1
    · replace h := ite_t h ha3
      replace h := Option.some.inj h
      subst h
      exact ⟨⟨100, 2, [.br true, .el (I ta2), .br true], [], [4], [], round_of (ob := [(ta2 == a1) = true, (0 : Int) ≤ sa, nth (a0) (Int.toNat sa) = some (I ta2), (decide (sa < ((a0).length : Int))) = true]) (by kernel_rfl) ⟨(eqt ha3), (el_ok un_i_ok ha2).1, (el_ok un_i_ok ha2).2, (decide_eq_true ha1), trivial⟩⟩, nofun⟩
    · replace h := ite_f h ha3
      obtain ⟨ha4, h⟩ := grd_of h
      replace h := Option.some.inj h
      subst h
      exact ⟨100, 2, [.br true, .el (I ta2), .br false], [], [0, 1, 5], [], round_of (ob := [inI64 (sa + 1), (ta2 == a1) = false, (0 : Int) ≤ sa, nth (a0) (Int.toNat sa) = some (I ta2), (decide (sa < ((a0).length : Int))) = true]) (by kernel_rfl) ⟨ha4, (eqf ha3), (el_ok un_i_ok ha2).1, (el_ok un_i_ok ha2).2, (decide_eq_true ha1), trivial⟩⟩
  · replace h := ite_f h ha1
    replace h := Option.some.inj h
    subst h
    exact ⟨⟨100, 2, [.br false], [], [], [], round_of (ob := [(decide (sa < ((a0).length : Int))) = false]) (by kernel_rfl) ⟨(decide_eq_false ha1), trivial⟩⟩, nofun⟩
/- spillage/spillageref01.HasInt: .lst false 1 a0, I a1 -/
def F_ref01_HasInt_2 (n : Nat) (a0 : List D) (a1 : Int) : Option (Bool) :=
  (loopF (F_ref01_HasInt_2_L1 n a0 a1) n 0).bind fun t1 => match t1 with
    | (.inl t1) => (
      some true)
    | (.inr t1) => (
      some false)
theorem c_ref01_HasInt_2 {n : Nat} {a0 : List D} {a1 : Int} {r : Bool} (h : F_ref01_HasInt_2 n a0 a1 = some r) : Computes cx 91 [.lst false 1 a0, I a1] (B r) := by
  unfold F_ref01_HasInt_2 at h
  obtain ⟨t1, h1, h⟩ := bnd_of h
  rcases t1 with t1 | t1
  · replace h := Option.some.inj h
    subst h
    exact run (n := 100) (f := 91) (args := [.lst false 1 a0, I a1]) (orc := [.lp [] [0, 1, 5] [] .ret [(4, .d (B true))] [] 26]) (r := B true) (ob := [LoopN cx (loopAt cx.P 91 0) 18 0 false [(0, .d (.lst false 1 a0)), (1, .d (I a1)), (5, .d (I 0))] [] .ret [(4, .d (B true))] []]) (by kernel_rfl) ⟨(loopF_to R_ref01_HasInt_2_L1 h1), trivial⟩
  · replace h := Option.some.inj h
    subst h
    exact run (n := 100) (f := 91) (args := [.lst false 1 a0, I a1]) (orc := [.lp [] [0, 1, 5] [] (.exit 0) [] [] 26]) (r := B false) (ob := [LoopN cx (loopAt cx.P 91 0) 18 0 false [(0, .d (.lst false 1 a0)), (1, .d (I a1)), (5, .d (I 0))] [] (.exit 0) [] []]) (by kernel_rfl) ⟨(loopF_to R_ref01_HasInt_2_L1 h1), trivial⟩
/- spillage/spillageref04.Apartness: .agg [.v (.string a0), I a1, I a2, I a3, I a4, I a5, I a6, I a7, I a8, I a9], .agg [.v (.string a10), I a11, I a12, I a13, I a14, I a15, I a16, I a17, I a18, I a19] -/
def F_ref04_Apartness (n : Nat) (a0 : ByteArray) (a1 : Int) (a2 : Int) (a3 : Int) (a4 : Int) (a5 : Int) (a6 : Int) (a7 : Int) (a8 : Int) (a9 : Int) (a10 : ByteArray) (a11 : Int) (a12 : Int) (a13 : Int) (a14 : Int) (a15 : Int) (a16 : Int) (a17 : Int) (a18 : Int) (a19 : Int) : Option (Int) :=
  (F_ref04_times n (-1) a11 a12 a13).bind fun t1 =>
  (F_ref04_plus n a1 a2 a3 t1.1 t1.2.1 t1.2.2).bind fun t2 =>
  (F_ref04_Dot n t2.1 t2.2.1 t2.2.2 t2.1 t2.2.1 t2.2.2).bind fun t3 =>
  some t3
theorem c_ref04_Apartness {n : Nat} {a0 : ByteArray} {a1 : Int} {a2 : Int} {a3 : Int} {a4 : Int} {a5 : Int} {a6 : Int} {a7 : Int} {a8 : Int} {a9 : Int} {a10 : ByteArray} {a11 : Int} {a12 : Int} {a13 : Int} {a14 : Int} {a15 : Int} {a16 : Int} {a17 : Int} {a18 : Int} {a19 : Int} {r : Int} (h : F_ref04_Apartness n a0 a1 a2 a3 a4 a5 a6 a7 a8 a9 a10 a11 a12 a13 a14 a15 a16 a17 a18 a19 = some r) : Computes cx 92 [.agg [.v (.string a0), I a1, I a2, I a3, I a4, I a5, I a6, I a7, I a8, I a9], .agg [.v (.string a10), I a11, I a12, I a13, I a14, I a15, I a16, I a17, I a18, I a19]] (I r) := by
  unfold F_ref04_Apartness at h
  obtain ⟨t1, h1, h⟩ := bnd_of h
  obtain ⟨t2, h2, h⟩ := bnd_of h
  obtain ⟨t3, h3, h⟩ := bnd_of h
  replace h := Option.some.inj h
  subst h
  exact run (n := 100) (f := 92) (args := [.agg [.v (.string a0), I a1, I a2, I a3, I a4, I a5, I a6, I a7, I a8, I a9], .agg [.v (.string a10), I a11, I a12, I a13, I a14, I a15, I a16, I a17, I a18, I a19]]) (orc := [.ret (.agg [I t1.1, I t1.2.1, I t1.2.2]), .ret (.agg [I t2.1, I t2.2.1, I t2.2.2]), .ret (I t3)]) (r := I t3) (ob := [Computes cx 76 [.agg [I t2.1, I t2.2.1, I t2.2.2], .agg [I t2.1, I t2.2.1, I t2.2.2]] (I t3), Computes cx 126 [.agg [I a1, I a2, I a3], .agg [I t1.1, I t1.2.1, I t1.2.2]] (.agg [I t2.1, I t2.2.1, I t2.2.2]), Computes cx 127 [I (-1), .agg [I a11, I a12, I a13]] (.agg [I t1.1, I t1.2.1, I t1.2.2])]) (by kernel_rfl) ⟨(c_ref04_Dot h3), (c_ref04_plus h2), (c_ref04_times h1), trivial⟩
def F_ref04_Neighbours_L2 (n : Nat) (a0 : List D) (a1 : Int) (a2 : Int) (sa : List D) (sb : (Int × Int)) : Option (((Int × Int)) ⊕ ((Int))) :=
  if sb.2 < ((a0).length : Int) then
    if sb.2 = a1 then
      if inI64 (sb.2 + 1) then
      some (.inl (sb.1, (sb.2 + 1)))
      else none
    else
    (F_ref01_HasInt_2 n sa sb.2).bind fun tb3 =>
    if tb3 = true then
      if inI64 (sb.2 + 1) then
      some (.inl (sb.1, (sb.2 + 1)))
      else none
    else
    if sb.1 < 0 then
      if inI64 (sb.2 + 1) then
      some (.inl (sb.2, (sb.2 + 1)))
      else none
    else
    (el un_Asi9Z a0 sb.2).bind fun tb6 =>
    (el un_Asi9Z a0 a1).bind fun tb7 =>
    (F_ref04_Apartness n tb6.1 tb6.2.1 tb6.2.2.1 tb6.2.2.2.1 tb6.2.2.2.2.1 tb6.2.2.2.2.2.1 tb6.2.2.2.2.2.2.1 tb6.2.2.2.2.2.2.2.1 tb6.2.2.2.2.2.2.2.2.1 tb6.2.2.2.2.2.2.2.2.2 tb7.1 tb7.2.1 tb7.2.2.1 tb7.2.2.2.1 tb7.2.2.2.2.1 tb7.2.2.2.2.2.1 tb7.2.2.2.2.2.2.1 tb7.2.2.2.2.2.2.2.1 tb7.2.2.2.2.2.2.2.2.1 tb7.2.2.2.2.2.2.2.2.2).bind fun tb8 =>
    (el un_Asi9Z a0 sb.1).bind fun tb9 =>
    (F_ref04_Apartness n tb9.1 tb9.2.1 tb9.2.2.1 tb9.2.2.2.1 tb9.2.2.2.2.1 tb9.2.2.2.2.2.1 tb9.2.2.2.2.2.2.1 tb9.2.2.2.2.2.2.2.1 tb9.2.2.2.2.2.2.2.2.1 tb9.2.2.2.2.2.2.2.2.2 tb7.1 tb7.2.1 tb7.2.2.1 tb7.2.2.2.1 tb7.2.2.2.2.1 tb7.2.2.2.2.2.1 tb7.2.2.2.2.2.2.1 tb7.2.2.2.2.2.2.2.1 tb7.2.2.2.2.2.2.2.2.1 tb7.2.2.2.2.2.2.2.2.2).bind fun tb10 =>
    if tb8 < tb10 then
      if inI64 (sb.2 + 1) then
      some (.inl (sb.2, (sb.2 + 1)))
      else none
    else
    if inI64 (sb.2 + 1) then
    some (.inl (sb.1, (sb.2 + 1)))
    else none
  else
  some (.inr sb.1)
noncomputable def T_ref04_Neighbours_L2 (a0 : List D) (a1 : Int) (a2 : Int) (sa : List D) (sb : (Int × Int)) : List (Nat × AV) := [(0, .d (.lst false 10 a0)), (1, .d (I a1)), (2, .d (I a2)), (7, .own 2 0), (8, .d (I sb.1)), (9, .d (I sb.2))]
noncomputable def H_ref04_Neighbours_L2 (a0 : List D) (a1 : Int) (a2 : Int) (sa : List D) (sb : (Int × Int)) : List (Nat × Blk) := [(2, .row 0 1 sa)]
noncomputable def X_ref04_Neighbours_L2 (a0 : List D) (a1 : Int) (a2 : Int) (sa : List D) (e : (Int)) : Ex := (.exit 2)
noncomputable def XT_ref04_Neighbours_L2 (a0 : List D) (a1 : Int) (a2 : Int) (sa : List D) (e : (Int)) : List (Nat × AV) := [(0, .d (.lst false 10 a0)), (1, .d (I a1)), (2, .d (I a2)), (7, .own 2 0), (8, .d (I e))]
noncomputable def XH_ref04_Neighbours_L2 (a0 : List D) (a1 : Int) (a2 : Int) (sa : List D) (e : (Int)) : List (Nat × Blk) := [(2, .row 0 1 sa)]
theorem R_ref04_Neighbours_L2 {n : Nat} {a0 : List D} {a1 : Int} {a2 : Int} {sa : List D} (sb : (Int × Int)) (r) (h : F_ref04_Neighbours_L2 n a0 a1 a2 sa sb = some r) : Rd cx (loopAt cx.P 33 1) 68 0 false (T_ref04_Neighbours_L2 a0 a1 a2 sa) (H_ref04_Neighbours_L2 a0 a1 a2 sa) (X_ref04_Neighbours_L2 a0 a1 a2 sa) (XT_ref04_Neighbours_L2 a0 a1 a2 sa) (XH_ref04_Neighbours_L2 a0 a1 a2 sa) sb r := by
  unfold F_ref04_Neighbours_L2 at h
  by_cases hb1 : sb.2 < ((a0).length : Int)
  · replace h := ite_t h hb1
    by_cases hb2 : sb.2 = a1
    · replace h := ite_t h hb2
      obtain ⟨hb3, h⟩ := grd_of h
      replace h := Option.some.inj h
      subst h
      exact ⟨100, 17, [.br true, .br false, .no, .no], [], [0, 1, 2, 7, 8, 9], [2], round_of (ob := [inI64 (sb.2 + 1), (sb.2 != a1) = false, (decide (sb.2 < ((a0).length : Int))) = true]) (by kernel_rfl) ⟨hb3, (nef hb2), (decide_eq_true hb1), trivial⟩⟩
    · replace h := ite_f h hb2
      obtain ⟨tb3, hb3, h⟩ := bnd_of h
      by_cases hb4 : tb3 = true
      · replace h := ite_t h hb4
        obtain ⟨hb5, h⟩ := grd_of h
        replace h := Option.some.inj h
        subst h
        exact ⟨100, 17, [.br true, .br true, .ix 0, .ret (B tb3), .br false, .no], [], [0, 1, 2, 7, 8, 9], [2], round_of (ob := [inI64 (sb.2 + 1), (!tb3) = false, Computes cx 91 [.lst false 1 sa, I sb.2] (B tb3), (sb.2 != a1) = true, (decide (sb.2 < ((a0).length : Int))) = true]) (by kernel_rfl) ⟨hb5, (notf hb4), (c_ref01_HasInt_2 hb3), (net hb2), (decide_eq_true hb1), trivial⟩⟩
      · replace h := ite_f h hb4
        by_cases hb5 : sb.1 < 0
        · replace h := ite_t h hb5
          obtain ⟨hb6, h⟩ := grd_of h
          replace h := Option.some.inj h
          subst h
          exact ⟨100, 17, [.br true, .br true, .ix 0, .ret (B tb3), .br true, .br true, .no], [], [0, 1, 2, 7, 8, 9], [2], round_of (ob := [inI64 (sb.2 + 1), (decide (sb.1 < 0)) = true, (!tb3) = true, Computes cx 91 [.lst false 1 sa, I sb.2] (B tb3), (sb.2 != a1) = true, (decide (sb.2 < ((a0).length : Int))) = true]) (by kernel_rfl) ⟨hb6, (decide_eq_true hb5), (nott (bfalse hb4)), (c_ref01_HasInt_2 hb3), (net hb2), (decide_eq_true hb1), trivial⟩⟩
        · replace h := ite_f h hb5
          obtain ⟨tb6, hb6, h⟩ := bnd_of h
          obtain ⟨tb7, hb7, h⟩ := bnd_of h
          obtain ⟨tb8, hb8, h⟩ := bnd_of h
          obtain ⟨tb9, hb9, h⟩ := bnd_of h
          obtain ⟨tb10, hb10, h⟩ := bnd_of h
          by_cases hb11 : tb8 < tb10
          · replace h := ite_t h hb11
            obtain ⟨hb12, h⟩ := grd_of h
            replace h := Option.some.inj h
            subst h
            exact ⟨100, 17, [.br true, .br true, .ix 0, .ret (B tb3), .br true, .br false, .el (.agg [.v (.string tb6.1), I tb6.2.1, I tb6.2.2.1, I tb6.2.2.2.1, I tb6.2.2.2.2.1, I tb6.2.2.2.2.2.1, I tb6.2.2.2.2.2.2.1, I tb6.2.2.2.2.2.2.2.1, I tb6.2.2.2.2.2.2.2.2.1, I tb6.2.2.2.2.2.2.2.2.2]), .el (.agg [.v (.string tb7.1), I tb7.2.1, I tb7.2.2.1, I tb7.2.2.2.1, I tb7.2.2.2.2.1, I tb7.2.2.2.2.2.1, I tb7.2.2.2.2.2.2.1, I tb7.2.2.2.2.2.2.2.1, I tb7.2.2.2.2.2.2.2.2.1, I tb7.2.2.2.2.2.2.2.2.2]), .ret (I tb8), .el (.agg [.v (.string tb9.1), I tb9.2.1, I tb9.2.2.1, I tb9.2.2.2.1, I tb9.2.2.2.2.1, I tb9.2.2.2.2.2.1, I tb9.2.2.2.2.2.2.1, I tb9.2.2.2.2.2.2.2.1, I tb9.2.2.2.2.2.2.2.2.1, I tb9.2.2.2.2.2.2.2.2.2]), .el (.agg [.v (.string tb7.1), I tb7.2.1, I tb7.2.2.1, I tb7.2.2.2.1, I tb7.2.2.2.2.1, I tb7.2.2.2.2.2.1, I tb7.2.2.2.2.2.2.1, I tb7.2.2.2.2.2.2.2.1, I tb7.2.2.2.2.2.2.2.2.1, I tb7.2.2.2.2.2.2.2.2.2]), .ret (I tb10), .br true], [], [0, 1, 2, 7, 8, 9], [2], round_of (ob := [inI64 (sb.2 + 1), (decide (tb8 < tb10)) = true, Computes cx 92 [.agg [.v (.string tb9.1), I tb9.2.1, I tb9.2.2.1, I tb9.2.2.2.1, I tb9.2.2.2.2.1, I tb9.2.2.2.2.2.1, I tb9.2.2.2.2.2.2.1, I tb9.2.2.2.2.2.2.2.1, I tb9.2.2.2.2.2.2.2.2.1, I tb9.2.2.2.2.2.2.2.2.2], .agg [.v (.string tb7.1), I tb7.2.1, I tb7.2.2.1, I tb7.2.2.2.1, I tb7.2.2.2.2.1, I tb7.2.2.2.2.2.1, I tb7.2.2.2.2.2.2.1, I tb7.2.2.2.2.2.2.2.1, I tb7.2.2.2.2.2.2.2.2.1, I tb7.2.2.2.2.2.2.2.2.2]] (I tb10), (0 : Int) ≤ a1, nth (a0) (Int.toNat a1) = some (.agg [.v (.string tb7.1), I tb7.2.1, I tb7.2.2.1, I tb7.2.2.2.1, I tb7.2.2.2.2.1, I tb7.2.2.2.2.2.1, I tb7.2.2.2.2.2.2.1, I tb7.2.2.2.2.2.2.2.1, I tb7.2.2.2.2.2.2.2.2.1, I tb7.2.2.2.2.2.2.2.2.2]), (0 : Int) ≤ sb.1, nth (a0) (Int.toNat sb.1) = some (.agg [.v (.string tb9.1), I tb9.2.1, I tb9.2.2.1, I tb9.2.2.2.1, I tb9.2.2.2.2.1, I tb9.2.2.2.2.2.1, I tb9.2.2.2.2.2.2.1, I tb9.2.2.2.2.2.2.2.1, I tb9.2.2.2.2.2.2.2.2.1, I tb9.2.2.2.2.2.2.2.2.2]), Computes cx 92 [.agg [.v (.string tb6.1), I tb6.2.1, I tb6.2.2.1, I tb6.2.2.2.1, I tb6.2.2.2.2.1, I tb6.2.2.2.2.2.1, I tb6.2.2.2.2.2.2.1, I tb6.2.2.2.2.2.2.2.1, I tb6.2.2.2.2.2.2.2.2.1, I tb6.2.2.2.2.2.2.2.2.2], .agg [.v (.string tb7.1), I tb7.2.1, I tb7.2.2.1, I tb7.2.2.2.1, I tb7.2.2.2.2.1, I tb7.2.2.2.2.2.1, I tb7.2.2.2.2.2.2.1, I tb7.2.2.2.2.2.2.2.1, I tb7.2.2.2.2.2.2.2.2.1, I tb7.2.2.2.2.2.2.2.2.2]] (I tb8), (0 : Int) ≤ a1, nth (a0) (Int.toNat a1) = some (.agg [.v (.string tb7.1), I tb7.2.1, I tb7.2.2.1, I tb7.2.2.2.1, I tb7.2.2.2.2.1, I tb7.2.2.2.2.2.1, I tb7.2.2.2.2.2.2.1, I tb7.2.2.2.2.2.2.2.1, I tb7.2.2.2.2.2.2.2.2.1, I tb7.2.2.2.2.2.2.2.2.2]), (0 : Int) ≤ sb.2, nth (a0) (Int.toNat sb.2) = some (.agg [.v (.string tb6.1), I tb6.2.1, I tb6.2.2.1, I tb6.2.2.2.1, I tb6.2.2.2.2.1, I tb6.2.2.2.2.2.1, I tb6.2.2.2.2.2.2.1, I tb6.2.2.2.2.2.2.2.1, I tb6.2.2.2.2.2.2.2.2.1, I tb6.2.2.2.2.2.2.2.2.2]), (decide (sb.1 < 0)) = false, (!tb3) = true, Computes cx 91 [.lst false 1 sa, I sb.2] (B tb3), (sb.2 != a1) = true, (decide (sb.2 < ((a0).length : Int))) = true]) (by kernel_rfl) ⟨hb12, (decide_eq_true hb11), (c_ref04_Apartness hb10), (el_ok un_Asi9Z_ok hb7).1, (el_ok un_Asi9Z_ok hb7).2, (el_ok un_Asi9Z_ok hb9).1, (el_ok un_Asi9Z_ok hb9).2, (c_ref04_Apartness hb8), (el_ok un_Asi9Z_ok hb7).1, (el_ok un_Asi9Z_ok hb7).2, (el_ok un_Asi9Z_ok hb6).1, (el_ok un_Asi9Z_ok hb6).2, (decide_eq_false hb5), (nott (bfalse hb4)), (c_ref01_HasInt_2 hb3), (net hb2), (decide_eq_true hb1), trivial⟩⟩
          · replace h := ite_f h hb11
            obtain ⟨hb12, h⟩ := grd_of h
            replace h := Option.some.inj h
            subst h
            exact ⟨100, 17, [.br true, .br true, .ix 0, .ret (B tb3), .br true, .br false, .el (.agg [.v (.string tb6.1), I tb6.2.1, I tb6.2.2.1, I tb6.2.2.2.1, I tb6.2.2.2.2.1, I tb6.2.2.2.2.2.1, I tb6.2.2.2.2.2.2.1, I tb6.2.2.2.2.2.2.2.1, I tb6.2.2.2.2.2.2.2.2.1, I tb6.2.2.2.2.2.2.2.2.2]), .el (.agg [.v (.string tb7.1), I tb7.2.1, I tb7.2.2.1, I tb7.2.2.2.1, I tb7.2.2.2.2.1, I tb7.2.2.2.2.2.1, I tb7.2.2.2.2.2.2.1, I tb7.2.2.2.2.2.2.2.1, I tb7.2.2.2.2.2.2.2.2.1, I tb7.2.2.2.2.2.2.2.2.2]), .ret (I tb8), .el (.agg [.v (.string tb9.1), I tb9.2.1, I tb9.2.2.1, I tb9.2.2.2.1, I tb9.2.2.2.2.1, I tb9.2.2.2.2.2.1, I tb9.2.2.2.2.2.2.1, I tb9.2.2.2.2.2.2.2.1, I tb9.2.2.2.2.2.2.2.2.1, I tb9.2.2.2.2.2.2.2.2.2]), .el (.agg [.v (.string tb7.1), I tb7.2.1, I tb7.2.2.1, I tb7.2.2.2.1, I tb7.2.2.2.2.1, I tb7.2.2.2.2.2.1, I tb7.2.2.2.2.2.2.1, I tb7.2.2.2.2.2.2.2.1, I tb7.2.2.2.2.2.2.2.2.1, I tb7.2.2.2.2.2.2.2.2.2]), .ret (I tb10), .br false], [], [0, 1, 2, 7, 8, 9], [2], round_of (ob := [inI64 (sb.2 + 1), (decide (tb8 < tb10)) = false, Computes cx 92 [.agg [.v (.string tb9.1), I tb9.2.1, I tb9.2.2.1, I tb9.2.2.2.1, I tb9.2.2.2.2.1, I tb9.2.2.2.2.2.1, I tb9.2.2.2.2.2.2.1, I tb9.2.2.2.2.2.2.2.1, I tb9.2.2.2.2.2.2.2.2.1, I tb9.2.2.2.2.2.2.2.2.2], .agg [.v (.string tb7.1), I tb7.2.1, I tb7.2.2.1, I tb7.2.2.2.1, I tb7.2.2.2.2.1, I tb7.2.2.2.2.2.1, I tb7.2.2.2.2.2.2.1, I tb7.2.2.2.2.2.2.2.1, I tb7.2.2.2.2.2.2.2.2.1, I tb7.2.2.2.2.2.2.2.2.2]] (I tb10), (0 : Int) ≤ a1, nth (a0) (Int.toNat a1) = some (.agg [.v (.string tb7.1), I tb7.2.1, I tb7.2.2.1, I tb7.2.2.2.1, I tb7.2.2.2.2.1, I tb7.2.2.2.2.2.1, I tb7.2.2.2.2.2.2.1, I tb7.2.2.2.2.2.2.2.1, I tb7.2.2.2.2.2.2.2.2.1, I tb7.2.2.2.2.2.2.2.2.2]), (0 : Int) ≤ sb.1, nth (a0) (Int.toNat sb.1) = some (.agg [.v (.string tb9.1), I tb9.2.1, I tb9.2.2.1, I tb9.2.2.2.1, I tb9.2.2.2.2.1, I tb9.2.2.2.2.2.1, I tb9.2.2.2.2.2.2.1, I tb9.2.2.2.2.2.2.2.1, I tb9.2.2.2.2.2.2.2.2.1, I tb9.2.2.2.2.2.2.2.2.2]), Computes cx 92 [.agg [.v (.string tb6.1), I tb6.2.1, I tb6.2.2.1, I tb6.2.2.2.1, I tb6.2.2.2.2.1, I tb6.2.2.2.2.2.1, I tb6.2.2.2.2.2.2.1, I tb6.2.2.2.2.2.2.2.1, I tb6.2.2.2.2.2.2.2.2.1, I tb6.2.2.2.2.2.2.2.2.2], .agg [.v (.string tb7.1), I tb7.2.1, I tb7.2.2.1, I tb7.2.2.2.1, I tb7.2.2.2.2.1, I tb7.2.2.2.2.2.1, I tb7.2.2.2.2.2.2.1, I tb7.2.2.2.2.2.2.2.1, I tb7.2.2.2.2.2.2.2.2.1, I tb7.2.2.2.2.2.2.2.2.2]] (I tb8), (0 : Int) ≤ a1, nth (a0) (Int.toNat a1) = some (.agg [.v (.string tb7.1), I tb7.2.1, I tb7.2.2.1, I tb7.2.2.2.1, I tb7.2.2.2.2.1, I tb7.2.2.2.2.2.1, I tb7.2.2.2.2.2.2.1, I tb7.2.2.2.2.2.2.2.1, I tb7.2.2.2.2.2.2.2.2.1, I tb7.2.2.2.2.2.2.2.2.2]), (0 : Int) ≤ sb.2, nth (a0) (Int.toNat sb.2) = some (.agg [.v (.string tb6.1), I tb6.2.1, I tb6.2.2.1, I tb6.2.2.2.1, I tb6.2.2.2.2.1, I tb6.2.2.2.2.2.1, I tb6.2.2.2.2.2.2.1, I tb6.2.2.2.2.2.2.2.1, I tb6.2.2.2.2.2.2.2.2.1, I tb6.2.2.2.2.2.2.2.2.2]), (decide (sb.1 < 0)) = false, (!tb3) = true, Computes cx 91 [.lst false 1 sa, I sb.2] (B tb3), (sb.2 != a1) = true, (decide (sb.2 < ((a0).length : Int))) = true]) (by kernel_rfl) ⟨hb12, (decide_eq_false hb11), (c_ref04_Apartness hb10), (el_ok un_Asi9Z_ok hb7).1, (el_ok un_Asi9Z_ok hb7).2, (el_ok un_Asi9Z_ok hb9).1, (el_ok un_Asi9Z_ok hb9).2, (c_ref04_Apartness hb8), (el_ok un_Asi9Z_ok hb7).1, (el_ok un_Asi9Z_ok hb7).2, (el_ok un_Asi9Z_ok hb6).1, (el_ok un_Asi9Z_ok hb6).2, (decide_eq_false hb5), (nott (bfalse hb4)), (c_ref01_HasInt_2 hb3), (net hb2), (decide_eq_true hb1), trivial⟩⟩
  · replace h := ite_f h hb1
    replace h := Option.some.inj h
    subst h
    exact ⟨⟨100, 17, [.br false], [], [0, 1, 2, 7, 8], [2], round_of (ob := [(decide (sb.2 < ((a0).length : Int))) = false]) (by kernel_rfl) ⟨(decide_eq_false hb1), trivial⟩⟩, nofun⟩
def F_ref04_Neighbours_L3 (n : Nat) (a0 : List D) (a1 : Int) (a2 : Int) (sa : (List D)) : Option (((List D)) ⊕ ((List D))) :=
  if ((sa).length : Int) < a2 then
    if inI64 (((a0).length : Int) - 1) then
    if ((sa).length : Int) < (((a0).length : Int) - 1) then
      (loopF (F_ref04_Neighbours_L2 n a0 a1 a2 sa) n ((-1), 0)).bind fun ta4 =>
      if roomP 8 ((sa).length + 1) then
      some (.inl (sa ++ ([I ta4] : List D)))
      else none
    else
    some (.inr sa)
    else none
  else
  some (.inr sa)
noncomputable def T_ref04_Neighbours_L3 (a0 : List D) (a1 : Int) (a2 : Int) (sa : (List D)) : List (Nat × AV) := [(0, .d (.lst false 10 a0)), (1, .d (I a1)), (2, .d (I a2)), (7, .own 2 0)]
noncomputable def H_ref04_Neighbours_L3 (a0 : List D) (a1 : Int) (a2 : Int) (sa : (List D)) : List (Nat × Blk) := [(2, .row 0 1 sa)]
noncomputable def X_ref04_Neighbours_L3 (a0 : List D) (a1 : Int) (a2 : Int) (e : (List D)) : Ex := (.exit 0)
noncomputable def XT_ref04_Neighbours_L3 (a0 : List D) (a1 : Int) (a2 : Int) (e : (List D)) : List (Nat × AV) := [(7, .own 2 0)]
noncomputable def XH_ref04_Neighbours_L3 (a0 : List D) (a1 : Int) (a2 : Int) (e : (List D)) : List (Nat × Blk) := [(2, .row 0 1 e)]
theorem R_ref04_Neighbours_L3 {n : Nat} {a0 : List D} {a1 : Int} {a2 : Int} (sa : (List D)) (r) (h : F_ref04_Neighbours_L3 n a0 a1 a2 sa = some r) : Rd cx (loopAt cx.P 33 0) 68 0 false (T_ref04_Neighbours_L3 a0 a1 a2) (H_ref04_Neighbours_L3 a0 a1 a2) (X_ref04_Neighbours_L3 a0 a1 a2) (XT_ref04_Neighbours_L3 a0 a1 a2) (XH_ref04_Neighbours_L3 a0 a1 a2) sa r := by
  unfold F_ref04_Neighbours_L3 at h
  by_cases ha1 : ((sa).length : Int) < a2
  · replace h := ite_t h ha1
    obtain ⟨ha2, h⟩ := grd_of h
    by_cases ha3 : ((sa).length : Int) < (((a0).length : Int) - 1)
    · replace h := ite_t h ha3
      obtain ⟨ta4, ha4, h⟩ := bnd_of h
      obtain ⟨ha5, h⟩ := grd_of h
      replace h := Option.some.inj h
      subst h
      exact ⟨100, 3, [.br true, .br true, .lp [] [0, 1, 2, 7, 8, 9] [2] (.exit 2) [(0, .d (.lst false 10 a0)), (1, .d (I a1)), (2, .d (I a2)), (7, .own 2 0), (8, .d (I ta4))] [(2, .row 0 1 sa)] 71, .br true], [], [0, 1, 2, 7], [2], round_of (ob := [room cx 3 ((sa).length + 1), LoopN cx (loopAt cx.P 33 1) 68 0 false [(0, .d (.lst false 10 a0)), (1, .d (I a1)), (2, .d (I a2)), (7, .own 2 0), (8, .d (I (-1))), (9, .d (I 0))] [(2, .row 0 1 sa)] (.exit 2) [(0, .d (.lst false 10 a0)), (1, .d (I a1)), (2, .d (I a2)), (7, .own 2 0), (8, .d (I ta4))] [(2, .row 0 1 sa)], (decide (((sa).length : Int) < (((a0).length : Int) - 1))) = true, inI64 (((a0).length : Int) - 1), (decide (((sa).length : Int) < a2)) = true]) (by kernel_rfl) ⟨(room_of (b := 8) (by kernel_rfl) (by decide) ha5), (loopF_to R_ref04_Neighbours_L2 ha4), (decide_eq_true ha3), ha2, (decide_eq_true ha1), trivial⟩⟩
    · replace h := ite_f h ha3
      replace h := Option.some.inj h
      subst h
      exact ⟨⟨100, 3, [.br true, .br false], [], [7], [2], round_of (ob := [(decide (((sa).length : Int) < (((a0).length : Int) - 1))) = false, inI64 (((a0).length : Int) - 1), (decide (((sa).length : Int) < a2)) = true]) (by kernel_rfl) ⟨(decide_eq_false ha3), ha2, (decide_eq_true ha1), trivial⟩⟩, nofun⟩
  · replace h := ite_f h ha1
    replace h := Option.some.inj h
    subst h
    exact ⟨⟨100, 3, [.br false, .no], [], [7], [2], round_of (ob := [(decide (((sa).length : Int) < a2)) = false]) (by kernel_rfl) ⟨(decide_eq_false ha1), trivial⟩⟩, nofun⟩
/- spillage/spillageref04.Neighbours: .lst false 10 a0, I a1, I a2 -/
def F_ref04_Neighbours (n : Nat) (a0 : List D) (a1 : Int) (a2 : Int) : Option (List D) :=
  (loopF (F_ref04_Neighbours_L3 n a0 a1 a2) n []).bind fun t1 =>
  some t1
theorem c_ref04_Neighbours {n : Nat} {a0 : List D} {a1 : Int} {a2 : Int} {r : List D} (h : F_ref04_Neighbours n a0 a1 a2 = some r) : Computes cx 33 [.lst false 10 a0, I a1, I a2] (.lst false 1 r) := by
  unfold F_ref04_Neighbours at h
  obtain ⟨t1, h1, h⟩ := bnd_of h
  replace h := Option.some.inj h
  subst h
  exact run (n := 100) (f := 33) (args := [.lst false 10 a0, I a1, I a2]) (orc := [.lp [7, 1] [0, 1, 2, 7] [2] (.exit 0) [(7, .own 2 0)] [(2, .row 0 1 t1)] 87]) (r := .lst false 1 t1) (ob := [LoopN cx (loopAt cx.P 33 0) 68 0 false [(0, .d (.lst false 10 a0)), (1, .d (I a1)), (2, .d (I a2)), (7, .own 2 0)] [(2, .row 0 1 [])] (.exit 0) [(7, .own 2 0)] [(2, .row 0 1 t1)]]) (by kernel_rfl) ⟨(loopF_to R_ref04_Neighbours_L3 h1), trivial⟩
/- spillage/spillagelaw04.FieldNear: .lst false 10 a0, .agg [I a1, I a2] -/
def F_law04_FieldNear (n : Nat) (a0 : List D) (a1 : Int) (a2 : Int) : Option (Bool) :=
  (F_law04_awake n).bind fun t1 =>
  if t1 = true then
    (F_ref04_Short n a0).bind fun t3 =>
    if t3 = true then
      (F_law04_own n a0).bind fun t5 =>
      (F_field_Neighbours n t5 a1 a2).bind fun t6 =>
      (F_law04_checkMirror n a0 a1).bind fun t7 =>
      (F_ref01_CheckRange n a2 0 64).bind fun t8 =>
      (F_ref01_First n ([I t7, I t8])).bind fun t9 =>
      if t9 = 0 then
        (F_ref04_Neighbours n a0 a1 a2).bind fun t11 =>
        (F_law04_numbers n t6.1 t6.2 t9 t11).bind fun t12 =>
        some t12
      else
      (F_law04_numbers n t6.1 t6.2 t9 ([])).bind fun t11 =>
      some t11
    else
    some t1
  else
  some t1
theorem c_law04_FieldNear {n : Nat} {a0 : List D} {a1 : Int} {a2 : Int} {r : Bool} (h : F_law04_FieldNear n a0 a1 a2 = some r) : Computes cx 5 [.lst false 10 a0, .agg [I a1, I a2]] (B r) := by
  unfold F_law04_FieldNear at h
  obtain ⟨t1, h1, h⟩ := bnd_of h
  by_cases h2 : t1 = true
  · replace h := ite_t h h2
    obtain ⟨t3, h3, h⟩ := bnd_of h
    by_cases h4 : t3 = true
    · replace h := ite_t h h4
      obtain ⟨t5, h5, h⟩ := bnd_of h
      obtain ⟨t6, h6, h⟩ := bnd_of h
      obtain ⟨t7, h7, h⟩ := bnd_of h
      obtain ⟨t8, h8, h⟩ := bnd_of h
      obtain ⟨t9, h9, h⟩ := bnd_of h
      by_cases h10 : t9 = 0
      · replace h := ite_t h h10
        obtain ⟨t11, h11, h⟩ := bnd_of h
        obtain ⟨t12, h12, h⟩ := bnd_of h
        replace h := Option.some.inj h
        subst h
        exact run (n := 100) (f := 5) (args := [.lst false 10 a0, .agg [I a1, I a2]]) (orc := [.ret (B t1), .br false, .ret (B t3), .br false, .ret (.lst false 10 t5), .ret (.tup [.lst false 1 t6.1, I t6.2]), .ret (I t7), .ret (I t8), .ret (I t9), .br true, .ret (.lst false 1 t11), .ret (B t12)]) (r := B t12) (ob := [Computes cx 30 [.lst false 1 t6.1, I t6.2, I t9, .lst false 1 t11] (B t12), Computes cx 33 [.lst false 10 a0, I a1, I a2] (.lst false 1 t11), (t9 == 0) = true, Computes cx 13 [.lst true 1 [I t7, I t8]] (I t9), Computes cx 32 [I a2, I 0, I 64] (I t8), Computes cx 26 [.lst false 10 a0, I a1] (I t7), Computes cx 31 [.lst false 10 t5, I a1, I a2] (.tup [.lst false 1 t6.1, I t6.2]), Computes cx 22 [.lst false 10 a0] (.lst false 10 t5), (!t3) = false, Computes cx 20 [.lst false 10 a0] (B t3), (!t1) = false, Computes cx 9 [] (B t1)]) (by kernel_rfl) ⟨(c_law04_numbers h12), (c_ref04_Neighbours h11), (eqt h10), ((c_ref01_First h9).le (.cons (.full _ _ _) (.nil)) (.refl _)), (c_ref01_CheckRange h8), (c_law04_checkMirror h7), (c_field_Neighbours h6), (c_law04_own h5), (notf h4), (c_ref04_Short h3), (notf h2), (c_law04_awake h1), trivial⟩
      · replace h := ite_f h h10
        obtain ⟨t11, h11, h⟩ := bnd_of h
        replace h := Option.some.inj h
        subst h
        exact run (n := 100) (f := 5) (args := [.lst false 10 a0, .agg [I a1, I a2]]) (orc := [.ret (B t1), .br false, .ret (B t3), .br false, .ret (.lst false 10 t5), .ret (.tup [.lst false 1 t6.1, I t6.2]), .ret (I t7), .ret (I t8), .ret (I t9), .br false, .ret (B t11)]) (r := B t11) (ob := [Computes cx 30 [.lst false 1 t6.1, I t6.2, I t9, .lst true 0 []] (B t11), (t9 == 0) = false, Computes cx 13 [.lst true 1 [I t7, I t8]] (I t9), Computes cx 32 [I a2, I 0, I 64] (I t8), Computes cx 26 [.lst false 10 a0, I a1] (I t7), Computes cx 31 [.lst false 10 t5, I a1, I a2] (.tup [.lst false 1 t6.1, I t6.2]), Computes cx 22 [.lst false 10 a0] (.lst false 10 t5), (!t3) = false, Computes cx 20 [.lst false 10 a0] (B t3), (!t1) = false, Computes cx 9 [] (B t1)]) (by kernel_rfl) ⟨((c_law04_numbers h11).le (.cons (.refl _) (.cons (.refl _) (.cons (.refl _) (.cons (.lst _ _ _ _ _ nofun (.inl rfl)) (.nil))))) (.refl _)), (eqf h10), ((c_ref01_First h9).le (.cons (.full _ _ _) (.nil)) (.refl _)), (c_ref01_CheckRange h8), (c_law04_checkMirror h7), (c_field_Neighbours h6), (c_law04_own h5), (notf h4), (c_ref04_Short h3), (notf h2), (c_law04_awake h1), trivial⟩
    · replace h := ite_f h h4
      replace h := Option.some.inj h
      subst h
      exact run (n := 100) (f := 5) (args := [.lst false 10 a0, .agg [I a1, I a2]]) (orc := [.ret (B t1), .br false, .ret (B t3), .br true, .ret (B t1)]) (r := B t1) (ob := [Computes cx 9 [] (B t1), (!t3) = true, Computes cx 20 [.lst false 10 a0] (B t3), (!t1) = false, Computes cx 9 [] (B t1)]) (by kernel_rfl) ⟨(c_law04_awake h1), (nott (bfalse h4)), (c_ref04_Short h3), (notf h2), (c_law04_awake h1), trivial⟩
  · replace h := ite_f h h2
    replace h := Option.some.inj h
    subst h
    exact run (n := 100) (f := 5) (args := [.lst false 10 a0, .agg [I a1, I a2]]) (orc := [.ret (B t1), .br true, .no, .ret (B t1)]) (r := B t1) (ob := [Computes cx 9 [] (B t1), (!t1) = true, Computes cx 9 [] (B t1)]) (by kernel_rfl) ⟨(c_law04_awake h1), (nott (bfalse h2)), (c_law04_awake h1), trivial⟩
end Go.Proofs.YtojmcpnpojdnmaaGreatDoor
