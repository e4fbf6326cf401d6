/-
  Printed by gsx.py: functions of the program as Lean functions, and that the code computes them.
-/
import Derived.Test.YtmgbmngmmpeaaaaGreatDoorGen7
set_option linter.unusedVariables false
set_option linter.unusedSimpArgs false
set_option linter.unnecessarySimpa false
set_option maxRecDepth 10000
namespace Go.Proofs.YtmgbmngmmpeaaaaGreatDoor
open Go.SX
/- spillage/spillageref03.CheckAll: .agg [I a0, I a1, I a2], .agg [I a3, I a4, I a5], .lst false 3 a6, .agg [I a7, I a8] -/
def F_ref03_CheckAll (n : Nat) (a0 : Int) (a1 : Int) (a2 : Int) (a3 : Int) (a4 : Int) (a5 : Int) (a6 : List D) (a7 : Int) (a8 : Int) : Option (Int) :=
  (F_ref03_CheckState n a0 a1 a2 a3 a4 a5).bind fun t1 =>
  (F_ref03_CheckModel n a6).bind fun t2 =>
  (F_ref03_CheckInterval n a7 a8 (-4294967296) 4294967296).bind fun t3 =>
  (F_ref01_First n ([I t1, I t2, I t3])).bind fun t4 =>
  some t4
theorem c_ref03_CheckAll {n : Nat} {a0 : Int} {a1 : Int} {a2 : Int} {a3 : Int} {a4 : Int} {a5 : Int} {a6 : List D} {a7 : Int} {a8 : Int} {r : Int} (h : F_ref03_CheckAll n a0 a1 a2 a3 a4 a5 a6 a7 a8 = some r) : Computes cx 57 [.agg [I a0, I a1, I a2], .agg [I a3, I a4, I a5], .lst false 3 a6, .agg [I a7, I a8]] (I r) := by
  unfold F_ref03_CheckAll at h
  obtain ⟨t1, h1, h⟩ := bnd_of h
  obtain ⟨t2, h2, h⟩ := bnd_of h
  obtain ⟨t3, h3, h⟩ := bnd_of h
  obtain ⟨t4, h4, h⟩ := bnd_of h
  replace h := Option.some.inj h
  subst h
  exact run (n := 100) (f := 57) (args := [.agg [I a0, I a1, I a2], .agg [I a3, I a4, I a5], .lst false 3 a6, .agg [I a7, I a8]]) (orc := [.ret (I t1), .ret (I t2), .ret (I t3), .ret (I t4)]) (r := I t4) (ob := [Computes cx 24 [.lst true 1 [I t1, I t2, I t3]] (I t4), Computes cx 40 [.agg [I a7, I a8], I (-4294967296), I 4294967296] (I t3), Computes cx 49 [.lst false 3 a6] (I t2), Computes cx 23 [.agg [I a0, I a1, I a2], .agg [I a3, I a4, I a5]] (I t1)]) (by kernel_rfl) ⟨((c_ref01_First h4).le (.cons (.full _ _ _) (.nil)) (.refl _)), (c_ref03_CheckInterval h3), (c_ref03_CheckModel h2), (c_ref03_CheckState h1), trivial⟩
def F_ref03_Within_L1 (n : Nat) (a0 : List D) (a1 : Int) (a2 : Int) (sa : (Int × Int × Int)) : Option (((Int × Int × Int)) ⊕ ((Int × Int))) :=
  if sa.1 < ((a0).length : Int) then
    (el un_Ai3Z a0 sa.1).bind fun ta2 =>
    if inI64 (ta2.1 * a1) then
    if inI64 (ta2.1 * a2) then
    if inI64 (ta2.2.1 + (minI (ta2.1 * a1) (ta2.1 * a2))) then
    if inI64 (ta2.2.2 + (maxI (ta2.1 * a1) (ta2.1 * a2))) then
    if sa.1 = 0 then
      if inI64 (sa.1 + 1) then
      some (.inl ((sa.1 + 1), (minI (ta2.2.1 + (minI (ta2.1 * a1) (ta2.1 * a2))) (ta2.2.1 + (minI (ta2.1 * a1) (ta2.1 * a2)))), (maxI (ta2.2.2 + (maxI (ta2.1 * a1) (ta2.1 * a2))) (ta2.2.2 + (maxI (ta2.1 * a1) (ta2.1 * a2))))))
      else none
    else
    if inI64 (sa.1 + 1) then
    some (.inl ((sa.1 + 1), (minI sa.2.1 (ta2.2.1 + (minI (ta2.1 * a1) (ta2.1 * a2)))), (maxI sa.2.2 (ta2.2.2 + (maxI (ta2.1 * a1) (ta2.1 * a2))))))
    else none
    else none
    else none
    else none
    else none
  else
  some (.inr (sa.2.1, sa.2.2))
noncomputable def T_ref03_Within_L1 (a0 : List D) (a1 : Int) (a2 : Int) (sa : (Int × Int × Int)) : List (Nat × AV) := [(0, .d (.lst false 3 a0)), (3, .ptr 0 0 0 0 0), (4, .ptr 1 0 0 0 0), (5, .ptr 3 0 0 0 0), (6, .d (I sa.1))]
noncomputable def H_ref03_Within_L1 (a0 : List D) (a1 : Int) (a2 : Int) (sa : (Int × Int × Int)) : List (Nat × Blk) := [(0, .box (.d (.agg [I a1, I a2]))), (1, .box (.d (.agg [I 0, I 0]))), (3, .box (.d (.agg [I sa.2.1, I sa.2.2])))]
noncomputable def X_ref03_Within_L1 (a0 : List D) (a1 : Int) (a2 : Int) (e : (Int × Int)) : Ex := (.exit 0)
noncomputable def XT_ref03_Within_L1 (a0 : List D) (a1 : Int) (a2 : Int) (e : (Int × Int)) : List (Nat × AV) := [(4, .ptr 1 0 0 0 0), (5, .ptr 3 0 0 0 0)]
noncomputable def XH_ref03_Within_L1 (a0 : List D) (a1 : Int) (a2 : Int) (e : (Int × Int)) : List (Nat × Blk) := [(1, .box (.d (.agg [I 0, I 0]))), (3, .box (.d (.agg [I e.1, I e.2])))]
theorem R_ref03_Within_L1 {n : Nat} {a0 : List D} {a1 : Int} {a2 : Int} (sa : (Int × Int × Int)) (r) (h : F_ref03_Within_L1 n a0 a1 a2 sa = some r) : Rd cx (loopAt cx.P 58 0) 69 0 false (T_ref03_Within_L1 a0 a1 a2) (H_ref03_Within_L1 a0 a1 a2) (X_ref03_Within_L1 a0 a1 a2) (XT_ref03_Within_L1 a0 a1 a2) (XH_ref03_Within_L1 a0 a1 a2) sa r := by
  unfold F_ref03_Within_L1 at h
  by_cases ha1 : sa.1 < ((a0).length : Int)
  · replace h := ite_t h ha1
    obtain ⟨ta2, ha2, h⟩ := bnd_of h
    obtain ⟨ha3, h⟩ := grd_of h
    obtain ⟨ha4, h⟩ := grd_of h
    obtain ⟨ha5, h⟩ := grd_of h
    obtain ⟨ha6, h⟩ := grd_of h
    by_cases ha7 : sa.1 = 0
    · replace h := ite_t h ha7
      obtain ⟨ha8, h⟩ := grd_of h
      replace h := Option.some.inj h
      subst h
      exact ⟨100, 6, [.br true, .el (.agg [I ta2.1, I ta2.2.1, I ta2.2.2]), .el (.agg [I ta2.1, I ta2.2.1, I ta2.2.2]), .el (.agg [I ta2.1, I ta2.2.1, I ta2.2.2]), .el (.agg [I ta2.1, I ta2.2.1, I ta2.2.2]), .br true], [], [0, 3, 4, 5, 6], [0, 1, 3], round_of (ob := [inI64 (sa.1 + 1), (sa.1 == 0) = true, inI64 (ta2.2.2 + (maxI (ta2.1 * a1) (ta2.1 * a2))), (0 : Int) ≤ sa.1, nth (a0) (Int.toNat sa.1) = some (.agg [I ta2.1, I ta2.2.1, I ta2.2.2]), inI64 (ta2.2.1 + (minI (ta2.1 * a1) (ta2.1 * a2))), (0 : Int) ≤ sa.1, nth (a0) (Int.toNat sa.1) = some (.agg [I ta2.1, I ta2.2.1, I ta2.2.2]), inI64 (ta2.1 * a2), (0 : Int) ≤ sa.1, nth (a0) (Int.toNat sa.1) = some (.agg [I ta2.1, I ta2.2.1, I ta2.2.2]), inI64 (ta2.1 * a1), (0 : Int) ≤ sa.1, nth (a0) (Int.toNat sa.1) = some (.agg [I ta2.1, I ta2.2.1, I ta2.2.2]), (decide (sa.1 < ((a0).length : Int))) = true]) (by kernel_rfl) ⟨ha8, (eqt ha7), ha6, (el_ok un_Ai3Z_ok ha2).1, (el_ok un_Ai3Z_ok ha2).2, ha5, (el_ok un_Ai3Z_ok ha2).1, (el_ok un_Ai3Z_ok ha2).2, ha4, (el_ok un_Ai3Z_ok ha2).1, (el_ok un_Ai3Z_ok ha2).2, ha3, (el_ok un_Ai3Z_ok ha2).1, (el_ok un_Ai3Z_ok ha2).2, (decide_eq_true ha1), trivial⟩⟩
    · replace h := ite_f h ha7
      obtain ⟨ha8, h⟩ := grd_of h
      replace h := Option.some.inj h
      subst h
      exact ⟨100, 6, [.br true, .el (.agg [I ta2.1, I ta2.2.1, I ta2.2.2]), .el (.agg [I ta2.1, I ta2.2.1, I ta2.2.2]), .el (.agg [I ta2.1, I ta2.2.1, I ta2.2.2]), .el (.agg [I ta2.1, I ta2.2.1, I ta2.2.2]), .br false], [], [0, 3, 4, 5, 6], [0, 1, 3], round_of (ob := [inI64 (sa.1 + 1), (sa.1 == 0) = false, inI64 (ta2.2.2 + (maxI (ta2.1 * a1) (ta2.1 * a2))), (0 : Int) ≤ sa.1, nth (a0) (Int.toNat sa.1) = some (.agg [I ta2.1, I ta2.2.1, I ta2.2.2]), inI64 (ta2.2.1 + (minI (ta2.1 * a1) (ta2.1 * a2))), (0 : Int) ≤ sa.1, nth (a0) (Int.toNat sa.1) = some (.agg [I ta2.1, I ta2.2.1, I ta2.2.2]), inI64 (ta2.1 * a2), (0 : Int) ≤ sa.1, nth (a0) (Int.toNat sa.1) = some (.agg [I ta2.1, I ta2.2.1, I ta2.2.2]), inI64 (ta2.1 * a1), (0 : Int) ≤ sa.1, nth (a0) (Int.toNat sa.1) = some (.agg [I ta2.1, I ta2.2.1, I ta2.2.2]), (decide (sa.1 < ((a0).length : Int))) = true]) (by kernel_rfl) ⟨ha8, (eqf ha7), ha6, (el_ok un_Ai3Z_ok ha2).1, (el_ok un_Ai3Z_ok ha2).2, ha5, (el_ok un_Ai3Z_ok ha2).1, (el_ok un_Ai3Z_ok ha2).2, ha4, (el_ok un_Ai3Z_ok ha2).1, (el_ok un_Ai3Z_ok ha2).2, ha3, (el_ok un_Ai3Z_ok ha2).1, (el_ok un_Ai3Z_ok ha2).2, (decide_eq_true ha1), trivial⟩⟩
  · replace h := ite_f h ha1
    replace h := Option.some.inj h
    subst h
    exact ⟨⟨100, 6, [.br false], [], [4, 5], [1, 3], round_of (ob := [(decide (sa.1 < ((a0).length : Int))) = false]) (by kernel_rfl) ⟨(decide_eq_false ha1), trivial⟩⟩, nofun⟩
/- spillage/spillageref03.Within: .lst false 3 a0, .agg [I a1, I a2] -/
def F_ref03_Within (n : Nat) (a0 : List D) (a1 : Int) (a2 : Int) : Option (Int × Int) :=
  (loopF (F_ref03_Within_L1 n a0 a1 a2) n (0, 0, 0)).bind fun t1 =>
  some (t1.1, t1.2)
theorem c_ref03_Within {n : Nat} {a0 : List D} {a1 : Int} {a2 : Int} {r : Int × Int} (h : F_ref03_Within n a0 a1 a2 = some r) : Computes cx 58 [.lst false 3 a0, .agg [I a1, I a2]] (.agg [I r.1, I r.2]) := by
  unfold F_ref03_Within at h
  obtain ⟨t1, h1, h⟩ := bnd_of h
  replace h := Option.some.inj h
  subst h
  exact run (n := 100) (f := 58) (args := [.lst false 3 a0, .agg [I a1, I a2]]) (orc := [.lp [] [0, 3, 4, 5, 6] [0, 1, 3] (.exit 0) [(4, .ptr 1 0 0 0 0), (5, .ptr 3 0 0 0 0)] [(1, .box (.d (.agg [I 0, I 0]))), (3, .box (.d (.agg [I t1.1, I t1.2])))] 80]) (r := .agg [I t1.1, I t1.2]) (ob := [LoopN cx (loopAt cx.P 58 0) 69 0 false [(0, .d (.lst false 3 a0)), (3, .ptr 0 0 0 0 0), (4, .ptr 1 0 0 0 0), (5, .ptr 3 0 0 0 0), (6, .d (I 0))] [(0, .box (.d (.agg [I a1, I a2]))), (1, .box (.d (.agg [I 0, I 0]))), (3, .box (.d (.agg [I 0, I 0])))] (.exit 0) [(4, .ptr 1 0 0 0 0), (5, .ptr 3 0 0 0 0)] [(1, .box (.d (.agg [I 0, I 0]))), (3, .box (.d (.agg [I t1.1, I t1.2])))]]) (by kernel_rfl) ⟨(loopF_to R_ref03_Within_L1 h1), trivial⟩
/- spillage/spillageref03.Reached: .agg [I a0, I a1, I a2], .agg [I a3, I a4, I a5], .lst false 3 a6, I a7 -/
def F_ref03_Reached (n : Nat) (a0 : Int) (a1 : Int) (a2 : Int) (a3 : Int) (a4 : Int) (a5 : Int) (a6 : List D) (a7 : Int) : Option (Int × Int) :=
  (F_ref03_Stepped n a0 a1 a2 a3 a4 a5 a7).bind fun t1 =>
  (F_ref03_Within n a6 t1.2.1 t1.2.2).bind fun t2 =>
  some (t2.1, t2.2)
theorem c_ref03_Reached {n : Nat} {a0 : Int} {a1 : Int} {a2 : Int} {a3 : Int} {a4 : Int} {a5 : Int} {a6 : List D} {a7 : Int} {r : Int × Int} (h : F_ref03_Reached n a0 a1 a2 a3 a4 a5 a6 a7 = some r) : Computes cx 60 [.agg [I a0, I a1, I a2], .agg [I a3, I a4, I a5], .lst false 3 a6, I a7] (.agg [I r.1, I r.2]) := by
  unfold F_ref03_Reached at h
  obtain ⟨t1, h1, h⟩ := bnd_of h
  obtain ⟨t2, h2, h⟩ := bnd_of h
  replace h := Option.some.inj h
  subst h
  exact run (n := 100) (f := 60) (args := [.agg [I a0, I a1, I a2], .agg [I a3, I a4, I a5], .lst false 3 a6, I a7]) (orc := [.ret (.agg [I t1.1, I t1.2.1, I t1.2.2]), .ret (.agg [I t2.1, I t2.2])]) (r := .agg [I t2.1, I t2.2]) (ob := [Computes cx 58 [.lst false 3 a6, .agg [I t1.2.1, I t1.2.2]] (.agg [I t2.1, I t2.2]), Computes cx 87 [.agg [I a0, I a1, I a2], .agg [I a3, I a4, I a5], I a7] (.agg [I t1.1, I t1.2.1, I t1.2.2])]) (by kernel_rfl) ⟨(c_ref03_Within h2), (c_ref03_Stepped h1), trivial⟩
/- spillage/spillageref03.Inside: .agg [I a0, I a1], .agg [I a2, I a3] -/
def F_ref03_Inside (n : Nat) (a0 : Int) (a1 : Int) (a2 : Int) (a3 : Int) : Option (Bool) :=
  if a0 ≥ a2 then
    some (decide (a1 ≤ a3))
  else
  some false
theorem c_ref03_Inside {n : Nat} {a0 : Int} {a1 : Int} {a2 : Int} {a3 : Int} {r : Bool} (h : F_ref03_Inside n a0 a1 a2 a3 = some r) : Computes cx 61 [.agg [I a0, I a1], .agg [I a2, I a3]] (B r) := by
  unfold F_ref03_Inside at h
  by_cases h1 : a0 ≥ a2
  · replace h := ite_t h h1
    replace h := Option.some.inj h
    subst h
    exact run (n := 100) (f := 61) (args := [.agg [I a0, I a1], .agg [I a2, I a3]]) (orc := [.br true]) (r := B (decide (a1 ≤ a3))) (ob := [(decide (a0 ≥ a2)) = true]) (by kernel_rfl) ⟨(decide_eq_true h1), trivial⟩
  · replace h := ite_f h h1
    replace h := Option.some.inj h
    subst h
    exact run (n := 100) (f := 61) (args := [.agg [I a0, I a1], .agg [I a2, I a3]]) (orc := [.br false]) (r := B false) (ob := [(decide (a0 ≥ a2)) = false]) (by kernel_rfl) ⟨(decide_eq_false h1), trivial⟩
/- spillage/spillageref03.far: I a0, I a1 -/
def F_ref03_far (n : Nat) (a0 : Int) (a1 : Int) : Option (Int) :=
  if inI64 (a0 - a1) then
  if inI64 (a1 - a0) then
  some (maxI (a0 - a1) (a1 - a0))
  else none
  else none
theorem c_ref03_far {n : Nat} {a0 : Int} {a1 : Int} {r : Int} (h : F_ref03_far n a0 a1 = some r) : Computes cx 101 [I a0, I a1] (I r) := by
  unfold F_ref03_far at h
  obtain ⟨h1, h⟩ := grd_of h
  obtain ⟨h2, h⟩ := grd_of h
  replace h := Option.some.inj h
  subst h
  exact run (n := 100) (f := 101) (args := [I a0, I a1]) (orc := []) (r := I (maxI (a0 - a1) (a1 - a0))) (ob := [inI64 (a1 - a0), inI64 (a0 - a1)]) (by kernel_rfl) ⟨h2, h1, trivial⟩
def F_ref03_Inverted_L1 (n : Nat) (a0 : Int) (a1 : Int) (a2 : Int) (a3 : Int) (a4 : Int) (a5 : Int) (a6 : List D) (a7 : Int) (a8 : Int) (sa : (Int × Bool × Int)) : Option (((Int × Bool × Int)) ⊕ ((Int × Bool))) :=
  if sa.2.2 ≤ a1 then
    (F_ref03_Reached n a0 a1 a2 a3 a4 a5 a6 sa.2.2).bind fun ta2 =>
    (F_ref03_Inside n ta2.1 ta2.2 a7 a8).bind fun ta3 =>
    if ta3 = true then
      if sa.2.1 = true then
        (F_ref03_far n sa.2.2 a3).bind fun ta6 =>
        (F_ref03_far n sa.1 a3).bind fun ta7 =>
        if ta6 < ta7 then
          if inI64 (sa.2.2 + 1) then
          some (.inl (sa.2.2, true, (sa.2.2 + 1)))
          else none
        else
        if inI64 (sa.2.2 + 1) then
        some (.inl (sa.1, sa.2.1, (sa.2.2 + 1)))
        else none
      else
      if inI64 (sa.2.2 + 1) then
      some (.inl (sa.2.2, true, (sa.2.2 + 1)))
      else none
    else
    if inI64 (sa.2.2 + 1) then
    some (.inl (sa.1, sa.2.1, (sa.2.2 + 1)))
    else none
  else
  some (.inr (sa.1, sa.2.1))
noncomputable def T_ref03_Inverted_L1 (a0 : Int) (a1 : Int) (a2 : Int) (a3 : Int) (a4 : Int) (a5 : Int) (a6 : List D) (a7 : Int) (a8 : Int) (sa : (Int × Bool × Int)) : List (Nat × AV) := [(2, .d (.lst false 3 a6)), (4, .ptr 0 0 0 0 0), (5, .ptr 1 0 0 0 0), (7, .ptr 2 0 0 0 0), (10, .d (I sa.1)), (11, .d (B sa.2.1)), (12, .d (I sa.2.2))]
noncomputable def H_ref03_Inverted_L1 (a0 : Int) (a1 : Int) (a2 : Int) (a3 : Int) (a4 : Int) (a5 : Int) (a6 : List D) (a7 : Int) (a8 : Int) (sa : (Int × Bool × Int)) : List (Nat × Blk) := [(0, .box (.d (.agg [I a0, I a1, I a2]))), (1, .box (.d (.agg [I a3, I a4, I a5]))), (2, .box (.d (.agg [I a7, I a8])))]
noncomputable def X_ref03_Inverted_L1 (a0 : Int) (a1 : Int) (a2 : Int) (a3 : Int) (a4 : Int) (a5 : Int) (a6 : List D) (a7 : Int) (a8 : Int) (e : (Int × Bool)) : Ex := (.exit 0)
noncomputable def XT_ref03_Inverted_L1 (a0 : Int) (a1 : Int) (a2 : Int) (a3 : Int) (a4 : Int) (a5 : Int) (a6 : List D) (a7 : Int) (a8 : Int) (e : (Int × Bool)) : List (Nat × AV) := [(10, .d (I e.1)), (11, .d (B e.2))]
noncomputable def XH_ref03_Inverted_L1 (a0 : Int) (a1 : Int) (a2 : Int) (a3 : Int) (a4 : Int) (a5 : Int) (a6 : List D) (a7 : Int) (a8 : Int) (e : (Int × Bool)) : List (Nat × Blk) := []
theorem R_ref03_Inverted_L1 {n : Nat} {a0 : Int} {a1 : Int} {a2 : Int} {a3 : Int} {a4 : Int} {a5 : Int} {a6 : List D} {a7 : Int} {a8 : Int} (sa : (Int × Bool × Int)) (r) (h : F_ref03_Inverted_L1 n a0 a1 a2 a3 a4 a5 a6 a7 a8 sa = some r) : Rd cx (loopAt cx.P 62 0) 46 0 false (T_ref03_Inverted_L1 a0 a1 a2 a3 a4 a5 a6 a7 a8) (H_ref03_Inverted_L1 a0 a1 a2 a3 a4 a5 a6 a7 a8) (X_ref03_Inverted_L1 a0 a1 a2 a3 a4 a5 a6 a7 a8) (XT_ref03_Inverted_L1 a0 a1 a2 a3 a4 a5 a6 a7 a8) (XH_ref03_Inverted_L1 a0 a1 a2 a3 a4 a5 a6 a7 a8) sa r := by
  unfold F_ref03_Inverted_L1 at h
  by_cases ha1 : sa.2.2 ≤ a1
  · replace h := ite_t h ha1
    obtain ⟨ta2, ha2, h⟩ := bnd_of h
    obtain ⟨ta3, ha3, h⟩ := bnd_of h
    by_cases ha4 : ta3 = true
    · replace h := ite_t h ha4
      by_cases ha5 : sa.2.1 = true
      · replace h := ite_t h ha5
        obtain ⟨ta6, ha6, h⟩ := bnd_of h
        obtain ⟨ta7, ha7, h⟩ := bnd_of h
        by_cases ha8 : ta6 < ta7
        · replace h := ite_t h ha8
          obtain ⟨ha9, h⟩ := grd_of h
          replace h := Option.some.inj h
          subst h
          exact ⟨100, 10, [.br true, .ret (.agg [I ta2.1, I ta2.2]), .ret (B ta3), .br false, .br false, .ret (I ta6), .ret (I ta7), .br true], [], [2, 4, 5, 7, 10, 11, 12], [0, 1, 2], round_of (ob := [inI64 (sa.2.2 + 1), (decide (ta6 < ta7)) = true, Computes cx 101 [I sa.1, I a3] (I ta7), Computes cx 101 [I sa.2.2, I a3] (I ta6), (!sa.2.1) = false, (!ta3) = false, Computes cx 61 [.agg [I ta2.1, I ta2.2], .agg [I a7, I a8]] (B ta3), Computes cx 60 [.agg [I a0, I a1, I a2], .agg [I a3, I a4, I a5], .lst false 3 a6, I sa.2.2] (.agg [I ta2.1, I ta2.2]), (decide (sa.2.2 ≤ a1)) = true]) (by kernel_rfl) ⟨ha9, (decide_eq_true ha8), (c_ref03_far ha7), (c_ref03_far ha6), (notf ha5), (notf ha4), (c_ref03_Inside ha3), (c_ref03_Reached ha2), (decide_eq_true ha1), trivial⟩⟩
        · replace h := ite_f h ha8
          obtain ⟨ha9, h⟩ := grd_of h
          replace h := Option.some.inj h
          subst h
          exact ⟨100, 10, [.br true, .ret (.agg [I ta2.1, I ta2.2]), .ret (B ta3), .br false, .br false, .ret (I ta6), .ret (I ta7), .br false], [], [2, 4, 5, 7, 10, 11, 12], [0, 1, 2], round_of (ob := [inI64 (sa.2.2 + 1), (decide (ta6 < ta7)) = false, Computes cx 101 [I sa.1, I a3] (I ta7), Computes cx 101 [I sa.2.2, I a3] (I ta6), (!sa.2.1) = false, (!ta3) = false, Computes cx 61 [.agg [I ta2.1, I ta2.2], .agg [I a7, I a8]] (B ta3), Computes cx 60 [.agg [I a0, I a1, I a2], .agg [I a3, I a4, I a5], .lst false 3 a6, I sa.2.2] (.agg [I ta2.1, I ta2.2]), (decide (sa.2.2 ≤ a1)) = true]) (by kernel_rfl) ⟨ha9, (decide_eq_false ha8), (c_ref03_far ha7), (c_ref03_far ha6), (notf ha5), (notf ha4), (c_ref03_Inside ha3), (c_ref03_Reached ha2), (decide_eq_true ha1), trivial⟩⟩
      · replace h := ite_f h ha5
        obtain ⟨ha6, h⟩ := grd_of h
        replace h := Option.some.inj h
        subst h
        exact ⟨100, 10, [.br true, .ret (.agg [I ta2.1, I ta2.2]), .ret (B ta3), .br false, .br true, .no], [], [2, 4, 5, 7, 10, 11, 12], [0, 1, 2], round_of (ob := [inI64 (sa.2.2 + 1), (!sa.2.1) = true, (!ta3) = false, Computes cx 61 [.agg [I ta2.1, I ta2.2], .agg [I a7, I a8]] (B ta3), Computes cx 60 [.agg [I a0, I a1, I a2], .agg [I a3, I a4, I a5], .lst false 3 a6, I sa.2.2] (.agg [I ta2.1, I ta2.2]), (decide (sa.2.2 ≤ a1)) = true]) (by kernel_rfl) ⟨ha6, (nott (bfalse ha5)), (notf ha4), (c_ref03_Inside ha3), (c_ref03_Reached ha2), (decide_eq_true ha1), trivial⟩⟩
    · replace h := ite_f h ha4
      obtain ⟨ha5, h⟩ := grd_of h
      replace h := Option.some.inj h
      subst h
      exact ⟨100, 10, [.br true, .ret (.agg [I ta2.1, I ta2.2]), .ret (B ta3), .br true], [], [2, 4, 5, 7, 10, 11, 12], [0, 1, 2], round_of (ob := [inI64 (sa.2.2 + 1), (!ta3) = true, Computes cx 61 [.agg [I ta2.1, I ta2.2], .agg [I a7, I a8]] (B ta3), Computes cx 60 [.agg [I a0, I a1, I a2], .agg [I a3, I a4, I a5], .lst false 3 a6, I sa.2.2] (.agg [I ta2.1, I ta2.2]), (decide (sa.2.2 ≤ a1)) = true]) (by kernel_rfl) ⟨ha5, (nott (bfalse ha4)), (c_ref03_Inside ha3), (c_ref03_Reached ha2), (decide_eq_true ha1), trivial⟩⟩
  · replace h := ite_f h ha1
    replace h := Option.some.inj h
    subst h
    exact ⟨⟨100, 10, [.br false], [], [10, 11], [], round_of (ob := [(decide (sa.2.2 ≤ a1)) = false]) (by kernel_rfl) ⟨(decide_eq_false ha1), trivial⟩⟩, nofun⟩
/- spillage/spillageref03.Inverted: .agg [I a0, I a1, I a2], .agg [I a3, I a4, I a5], .lst false 3 a6, .agg [I a7, I a8] -/
def F_ref03_Inverted (n : Nat) (a0 : Int) (a1 : Int) (a2 : Int) (a3 : Int) (a4 : Int) (a5 : Int) (a6 : List D) (a7 : Int) (a8 : Int) : Option (Int × Int) :=
  (loopF (F_ref03_Inverted_L1 n a0 a1 a2 a3 a4 a5 a6 a7 a8) n (0, false, a0)).bind fun t1 =>
  if t1.2 = true then
    some (t1.1, 0)
  else
  some (0, 18)
theorem c_ref03_Inverted {n : Nat} {a0 : Int} {a1 : Int} {a2 : Int} {a3 : Int} {a4 : Int} {a5 : Int} {a6 : List D} {a7 : Int} {a8 : Int} {r : Int × Int} (h : F_ref03_Inverted n a0 a1 a2 a3 a4 a5 a6 a7 a8 = some r) : Computes cx 62 [.agg [I a0, I a1, I a2], .agg [I a3, I a4, I a5], .lst false 3 a6, .agg [I a7, I a8]] (.tup [I r.1, I r.2]) := by
  unfold F_ref03_Inverted at h
  obtain ⟨t1, h1, h⟩ := bnd_of h
  by_cases h2 : t1.2 = true
  · replace h := ite_t h h2
    replace h := Option.some.inj h
    subst h
    exact run (n := 100) (f := 62) (args := [.agg [I a0, I a1, I a2], .agg [I a3, I a4, I a5], .lst false 3 a6, .agg [I a7, I a8]]) (orc := [.lp [] [2, 4, 5, 7, 10, 11, 12] [0, 1, 2] (.exit 0) [(10, .d (I t1.1)), (11, .d (B t1.2))] [] 52, .br false]) (r := .tup [I t1.1, I 0]) (ob := [(!t1.2) = false, LoopN cx (loopAt cx.P 62 0) 46 0 false [(2, .d (.lst false 3 a6)), (4, .ptr 0 0 0 0 0), (5, .ptr 1 0 0 0 0), (7, .ptr 2 0 0 0 0), (10, .d (I 0)), (11, .d (B false)), (12, .d (I a0))] [(0, .box (.d (.agg [I a0, I a1, I a2]))), (1, .box (.d (.agg [I a3, I a4, I a5]))), (2, .box (.d (.agg [I a7, I a8])))] (.exit 0) [(10, .d (I t1.1)), (11, .d (B t1.2))] []]) (by kernel_rfl) ⟨(notf h2), (loopF_to R_ref03_Inverted_L1 h1), trivial⟩
  · replace h := ite_f h h2
    replace h := Option.some.inj h
    subst h
    exact run (n := 100) (f := 62) (args := [.agg [I a0, I a1, I a2], .agg [I a3, I a4, I a5], .lst false 3 a6, .agg [I a7, I a8]]) (orc := [.lp [] [2, 4, 5, 7, 10, 11, 12] [0, 1, 2] (.exit 0) [(10, .d (I t1.1)), (11, .d (B t1.2))] [] 52, .br true]) (r := .tup [I 0, I 18]) (ob := [(!t1.2) = true, LoopN cx (loopAt cx.P 62 0) 46 0 false [(2, .d (.lst false 3 a6)), (4, .ptr 0 0 0 0 0), (5, .ptr 1 0 0 0 0), (7, .ptr 2 0 0 0 0), (10, .d (I 0)), (11, .d (B false)), (12, .d (I a0))] [(0, .box (.d (.agg [I a0, I a1, I a2]))), (1, .box (.d (.agg [I a3, I a4, I a5]))), (2, .box (.d (.agg [I a7, I a8])))] (.exit 0) [(10, .d (I t1.1)), (11, .d (B t1.2))] []]) (by kernel_rfl) ⟨(nott (bfalse h2)), (loopF_to R_ref03_Inverted_L1 h1), trivial⟩
def F_drive_Has_L1 (n : Nat) (a0 : List D) (a1 : Int) (a2 : Int) (sa : (Int × List D)) : Option (((Int × List D)) ⊕ ((List D))) :=
  if sa.1 < ((a0).length : Int) then
    (el un_Ai3Z a0 sa.1).bind fun ta2 =>
    if mok (.int .i64 ta2.1) (sa.2 : List D) = true then
    if inI64 (sa.1 + 1) then
    some (.inl ((sa.1 + 1), (mput (.int .i64 ta2.1) (.agg [I ta2.2.1, I ta2.2.2]) (sa.2 : List D))))
    else none
    else none
  else
  some (.inr sa.2)
noncomputable def T_drive_Has_L1 (a0 : List D) (a1 : Int) (a2 : Int) (sa : (Int × List D)) : List (Nat × AV) := [(1, .d (I a1)), (2, .d (I a2)), (9, .own 13 0), (26, .d (.lst false 3 a0)), (27, .d (I ((a0).length : Int))), (28, .d (I sa.1))]
noncomputable def H_drive_Has_L1 (a0 : List D) (a1 : Int) (a2 : Int) (sa : (Int × List D)) : List (Nat × Blk) := [(13, .mp sa.2)]
noncomputable def X_drive_Has_L1 (a0 : List D) (a1 : Int) (a2 : Int) (e : (List D)) : Ex := (.exit 0)
noncomputable def XT_drive_Has_L1 (a0 : List D) (a1 : Int) (a2 : Int) (e : (List D)) : List (Nat × AV) := [(1, .d (I a1)), (2, .d (I a2)), (9, .own 13 0)]
noncomputable def XH_drive_Has_L1 (a0 : List D) (a1 : Int) (a2 : Int) (e : (List D)) : List (Nat × Blk) := [(13, .mp e)]
theorem R_drive_Has_L1 {n : Nat} {a0 : List D} {a1 : Int} {a2 : Int} (sa : (Int × List D)) (r) (h : F_drive_Has_L1 n a0 a1 a2 sa = some r) : Rd cx (loopAt cx.P 73 0) 57 0 false (T_drive_Has_L1 a0 a1 a2) (H_drive_Has_L1 a0 a1 a2) (X_drive_Has_L1 a0 a1 a2) (XT_drive_Has_L1 a0 a1 a2) (XH_drive_Has_L1 a0 a1 a2) sa r := by
  unfold F_drive_Has_L1 at h
  by_cases ha1 : sa.1 < ((a0).length : Int)
  · replace h := ite_t h ha1
    obtain ⟨ta2, ha2, h⟩ := bnd_of h
    obtain ⟨ha3, h⟩ := grd_of h
    obtain ⟨ha4, h⟩ := grd_of h
    replace h := Option.some.inj h
    subst h
    exact ⟨100, 18, [.br true, .el (.agg [I ta2.1, I ta2.2.1, I ta2.2.2]), .br true], [], [1, 2, 9, 26, 27, 28], [13], round_of (ob := [inI64 (sa.1 + 1), mok (.int .i64 ta2.1) (sa.2 : List D) = true, (0 : Int) ≤ sa.1, nth (a0) (Int.toNat sa.1) = some (.agg [I ta2.1, I ta2.2.1, I ta2.2.2]), (decide (sa.1 < ((a0).length : Int))) = true]) (by kernel_rfl) ⟨ha4, ha3, (el_ok un_Ai3Z_ok ha2).1, (el_ok un_Ai3Z_ok ha2).2, (decide_eq_true ha1), trivial⟩⟩
  · replace h := ite_f h ha1
    replace h := Option.some.inj h
    subst h
    exact ⟨⟨100, 18, [.br false], [], [1, 2, 9], [13], round_of (ob := [(decide (sa.1 < ((a0).length : Int))) = false]) (by kernel_rfl) ⟨(decide_eq_false ha1), trivial⟩⟩, nofun⟩
/- spillage/drive.Has: .lst false 3 a0, I a1, I a2 -/
def F_drive_Has (n : Nat) (a0 : List D) (a1 : Int) (a2 : Int) : Option (Bool × Int) :=
  (F_drive_CheckModel n a0).bind fun t1 =>
  (F_drive_within n a1 (-1000) 1000).bind fun t2 =>
  (F_drive_within n a2 (-2000000) 2000000).bind fun t3 =>
  (F_drive_first n ([I t1, I t2, I t3])).bind fun t4 =>
  if t4 = 0 then
    (loopF (F_drive_Has_L1 n a0 a1 a2) n (0, [])).bind fun t6 =>
    if mok (.int .i64 a1) (t6 : List D) = true then
    if (mfind (.int .i64 a1) (t6 : List D)).isSome = true then
      ((mfind (.int .i64 a1) (t6 : List D)).bind un_Ai2Z).bind fun t9 =>
      if a2 ≥ t9.1 then
        some ((decide (a2 ≤ t9.2)), 0)
      else
      some (false, 0)
    else
    some (false, 0)
    else none
  else
  some (false, t4)
theorem c_drive_Has {n : Nat} {a0 : List D} {a1 : Int} {a2 : Int} {r : Bool × Int} (h : F_drive_Has n a0 a1 a2 = some r) : Computes cx 73 [.lst false 3 a0, I a1, I a2] (.tup [B r.1, I r.2]) := by
  unfold F_drive_Has at h
  obtain ⟨t1, h1, h⟩ := bnd_of h
  obtain ⟨t2, h2, h⟩ := bnd_of h
  obtain ⟨t3, h3, h⟩ := bnd_of h
  obtain ⟨t4, h4, h⟩ := bnd_of h
  by_cases h5 : t4 = 0
  · replace h := ite_t h h5
    obtain ⟨t6, h6, h⟩ := bnd_of h
    obtain ⟨h7, h⟩ := grd_of h
    by_cases h8 : (mfind (.int .i64 a1) (t6 : List D)).isSome = true
    · replace h := ite_t h h8
      obtain ⟨t9, h9, h⟩ := bnd_of h
      by_cases h10 : a2 ≥ t9.1
      · replace h := ite_t h h10
        replace h := Option.some.inj h
        subst h
        exact run (n := 100) (f := 73) (args := [.lst false 3 a0, I a1, I a2]) (orc := [.ret (I t1), .ret (I t2), .ret (I t3), .ret (I t4), .br false, .lp [] [1, 2, 9, 26, 27, 28] [13] (.exit 0) [(1, .d (I a1)), (2, .d (I a2)), (9, .own 13 0)] [(13, .mp t6)] 42, .el (.tup [.agg [I t9.1, I t9.2], B true]), .no, .br true]) (r := .tup [B (decide (a2 ≤ t9.2)), I 0]) (ob := [(decide (a2 ≥ t9.1)) = true, mlook true (.int .i64 a1) (.agg [I 0, I 0]) (t6 : List D) = some (.tup [.agg [I t9.1, I t9.2], B true]), LoopN cx (loopAt cx.P 73 0) 57 0 false [(1, .d (I a1)), (2, .d (I a2)), (9, .own 13 0), (26, .d (.lst false 3 a0)), (27, .d (I ((a0).length : Int))), (28, .d (I 0))] [(13, .mp [])] (.exit 0) [(1, .d (I a1)), (2, .d (I a2)), (9, .own 13 0)] [(13, .mp t6)], (t4 != 0) = false, Computes cx 84 [.lst true 1 [I t1, I t2, I t3]] (I t4), Computes cx 89 [I a2, I (-2000000), I 2000000] (I t3), Computes cx 89 [I a1, I (-1000), I 1000] (I t2), Computes cx 53 [.lst false 3 a0] (I t1)]) (by kernel_rfl) ⟨(decide_eq_true h10), (mlook_hit h7 (mel_ok un_Ai2Z_ok h9)), (loopF_to R_drive_Has_L1 h6), (nef h5), ((c_drive_first h4).le (.cons (.full _ _ _) (.nil)) (.refl _)), (c_drive_within h3), (c_drive_within h2), (c_drive_CheckModel h1), trivial⟩
      · replace h := ite_f h h10
        replace h := Option.some.inj h
        subst h
        exact run (n := 100) (f := 73) (args := [.lst false 3 a0, I a1, I a2]) (orc := [.ret (I t1), .ret (I t2), .ret (I t3), .ret (I t4), .br false, .lp [] [1, 2, 9, 26, 27, 28] [13] (.exit 0) [(1, .d (I a1)), (2, .d (I a2)), (9, .own 13 0)] [(13, .mp t6)] 42, .el (.tup [.agg [I t9.1, I t9.2], B true]), .no, .br false]) (r := .tup [B false, I 0]) (ob := [(decide (a2 ≥ t9.1)) = false, mlook true (.int .i64 a1) (.agg [I 0, I 0]) (t6 : List D) = some (.tup [.agg [I t9.1, I t9.2], B true]), LoopN cx (loopAt cx.P 73 0) 57 0 false [(1, .d (I a1)), (2, .d (I a2)), (9, .own 13 0), (26, .d (.lst false 3 a0)), (27, .d (I ((a0).length : Int))), (28, .d (I 0))] [(13, .mp [])] (.exit 0) [(1, .d (I a1)), (2, .d (I a2)), (9, .own 13 0)] [(13, .mp t6)], (t4 != 0) = false, Computes cx 84 [.lst true 1 [I t1, I t2, I t3]] (I t4), Computes cx 89 [I a2, I (-2000000), I 2000000] (I t3), Computes cx 89 [I a1, I (-1000), I 1000] (I t2), Computes cx 53 [.lst false 3 a0] (I t1)]) (by kernel_rfl) ⟨(decide_eq_false h10), (mlook_hit h7 (mel_ok un_Ai2Z_ok h9)), (loopF_to R_drive_Has_L1 h6), (nef h5), ((c_drive_first h4).le (.cons (.full _ _ _) (.nil)) (.refl _)), (c_drive_within h3), (c_drive_within h2), (c_drive_CheckModel h1), trivial⟩
    · replace h := ite_f h h8
      replace h := Option.some.inj h
      subst h
      exact run (n := 100) (f := 73) (args := [.lst false 3 a0, I a1, I a2]) (orc := [.ret (I t1), .ret (I t2), .ret (I t3), .ret (I t4), .br false, .lp [] [1, 2, 9, 26, 27, 28] [13] (.exit 0) [(1, .d (I a1)), (2, .d (I a2)), (9, .own 13 0)] [(13, .mp t6)] 42, .el (.tup [.agg [I 0, I 0], B false]), .no, .no]) (r := .tup [B false, I 0]) (ob := [mlook true (.int .i64 a1) (.agg [I 0, I 0]) (t6 : List D) = some (.tup [.agg [I 0, I 0], B false]), LoopN cx (loopAt cx.P 73 0) 57 0 false [(1, .d (I a1)), (2, .d (I a2)), (9, .own 13 0), (26, .d (.lst false 3 a0)), (27, .d (I ((a0).length : Int))), (28, .d (I 0))] [(13, .mp [])] (.exit 0) [(1, .d (I a1)), (2, .d (I a2)), (9, .own 13 0)] [(13, .mp t6)], (t4 != 0) = false, Computes cx 84 [.lst true 1 [I t1, I t2, I t3]] (I t4), Computes cx 89 [I a2, I (-2000000), I 2000000] (I t3), Computes cx 89 [I a1, I (-1000), I 1000] (I t2), Computes cx 53 [.lst false 3 a0] (I t1)]) (by kernel_rfl) ⟨(mlook_miss h7 (mno h8)), (loopF_to R_drive_Has_L1 h6), (nef h5), ((c_drive_first h4).le (.cons (.full _ _ _) (.nil)) (.refl _)), (c_drive_within h3), (c_drive_within h2), (c_drive_CheckModel h1), trivial⟩
  · replace h := ite_f h h5
    replace h := Option.some.inj h
    subst h
    exact run (n := 100) (f := 73) (args := [.lst false 3 a0, I a1, I a2]) (orc := [.ret (I t1), .ret (I t2), .ret (I t3), .ret (I t4), .br true]) (r := .tup [B false, I t4]) (ob := [(t4 != 0) = true, Computes cx 84 [.lst true 1 [I t1, I t2, I t3]] (I t4), Computes cx 89 [I a2, I (-2000000), I 2000000] (I t3), Computes cx 89 [I a1, I (-1000), I 1000] (I t2), Computes cx 53 [.lst false 3 a0] (I t1)]) (by kernel_rfl) ⟨(net h5), ((c_drive_first h4).le (.cons (.full _ _ _) (.nil)) (.refl _)), (c_drive_within h3), (c_drive_within h2), (c_drive_CheckModel h1), trivial⟩
end Go.Proofs.YtmgbmngmmpeaaaaGreatDoor
