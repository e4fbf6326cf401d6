/-
  Printed by gsx.py: functions of the program as Lean functions, and that the code computes them.
-/
import Derived.Test.YtegcijomjkffgaaDoorGen1
set_option linter.unusedVariables false
set_option linter.unusedSimpArgs false
set_option linter.unnecessarySimpa false
set_option maxRecDepth 10000
namespace Go.Proofs.YtegcijomjkffgaaDoor
open Go.SX
/- spillage/sun.within: I a0, I a1, I a2 -/
def F_sun_within (n : Nat) (a0 : Int) (a1 : Int) (a2 : Int) : Option (Int) :=
  if a0 < a1 then
    (F_sun_when n).bind fun t2 =>
    some t2
  else
  (F_sun_when_2 n (decide (a0 > a2)) 3).bind fun t2 =>
  some t2
theorem c_sun_within {n : Nat} {a0 : Int} {a1 : Int} {a2 : Int} {r : Int} (h : F_sun_within n a0 a1 a2 = some r) : Computes cx 53 [I a0, I a1, I a2] (I r) := by
  unfold F_sun_within at h
  by_cases h1 : a0 < a1
  · replace h := ite_t h h1
    obtain ⟨t2, h2, h⟩ := bnd_of h
    replace h := Option.some.inj h
    subst h
    exact run (n := 100) (f := 53) (args := [I a0, I a1, I a2]) (orc := [.br true, .ret (I t2)]) (r := I t2) (ob := [Computes cx 54 [B true, I 3] (I t2), (decide (a0 < a1)) = true]) (by kernel_rfl) ⟨(c_sun_when h2), (decide_eq_true h1), trivial⟩
  · replace h := ite_f h h1
    obtain ⟨t2, h2, h⟩ := bnd_of h
    replace h := Option.some.inj h
    subst h
    exact run (n := 100) (f := 53) (args := [I a0, I a1, I a2]) (orc := [.br false, .ret (I t2)]) (r := I t2) (ob := [Computes cx 54 [B (decide (a0 > a2)), I 3] (I t2), (decide (a0 < a1)) = false]) (by kernel_rfl) ⟨(c_sun_when_2 h2), (decide_eq_false h1), trivial⟩
/- spillage/sun.checkPlace$1: I a0 -/
def F_sun_checkPlace_c1 (n : Nat) (a0 : Int) : Option (Int) :=
  (F_sun_within n a0 (-1048576) 1048576).bind fun t1 =>
  some t1
theorem c_sun_checkPlace_c1 {n : Nat} {a0 : Int} {r : Int} (h : F_sun_checkPlace_c1 n a0 = some r) : Computes cx 52 [I a0] (I r) := by
  unfold F_sun_checkPlace_c1 at h
  obtain ⟨t1, h1, h⟩ := bnd_of h
  replace h := Option.some.inj h
  subst h
  exact run (n := 100) (f := 52) (args := [I a0]) (orc := [.ret (I t1)]) (r := I t1) (ob := [Computes cx 53 [I a0, I (-1048576), I 1048576] (I t1)]) (by kernel_rfl) ⟨(c_sun_within h1), trivial⟩
def F_sun_mapped_g_L1 (n : Nat) (a0 : List D) (sa : (Int × List D)) : Option (((Int × List D)) ⊕ ((List D))) :=
  if sa.1 < ((a0).length : Int) then
    (el un_i a0 sa.1).bind fun ta2 =>
    (F_sun_checkPlace_c1 n ta2).bind fun ta3 =>
    if roomP 8 ((sa.2).length + 1) then
    if inI64 (sa.1 + 1) then
    some (.inl ((sa.1 + 1), (sa.2 ++ ([I ta3] : List D))))
    else none
    else none
  else
  some (.inr sa.2)
noncomputable def T_sun_mapped_g_L1 (a0 : List D) (sa : (Int × List D)) : List (Nat × AV) := [(1, .d (.fn (.func 52) [] [])), (5, .own 5 0), (8, .d (.lst false 1 a0)), (9, .d (I ((a0).length : Int))), (10, .d (I sa.1))]
noncomputable def H_sun_mapped_g_L1 (a0 : List D) (sa : (Int × List D)) : List (Nat × Blk) := [(5, .row 0 1 sa.2)]
noncomputable def X_sun_mapped_g_L1 (a0 : List D) (e : (List D)) : Ex := (.exit 0)
noncomputable def XT_sun_mapped_g_L1 (a0 : List D) (e : (List D)) : List (Nat × AV) := [(5, .own 5 0)]
noncomputable def XH_sun_mapped_g_L1 (a0 : List D) (e : (List D)) : List (Nat × Blk) := [(5, .row 0 1 e)]
theorem R_sun_mapped_g_L1 {n : Nat} {a0 : List D} (sa : (Int × List D)) (r) (h : F_sun_mapped_g_L1 n a0 sa = some r) : Rd cx (loopAt cx.P 51 0) 22 0 false (T_sun_mapped_g_L1 a0) (H_sun_mapped_g_L1 a0) (X_sun_mapped_g_L1 a0) (XT_sun_mapped_g_L1 a0) (XH_sun_mapped_g_L1 a0) sa r := by
  unfold F_sun_mapped_g_L1 at h
  by_cases ha1 : sa.1 < ((a0).length : Int)
  · replace h := ite_t h ha1
    obtain ⟨ta2, ha2, h⟩ := bnd_of h
    obtain ⟨ta3, ha3, h⟩ := bnd_of h
    obtain ⟨ha4, h⟩ := grd_of h
    obtain ⟨ha5, h⟩ := grd_of h
    replace h := Option.some.inj h
    subst h
    exact ⟨100, 6, [.br true, .el (I ta2), .ret (I ta3), .br true], [], [1, 5, 8, 9, 10], [5], round_of (ob := [inI64 (sa.1 + 1), room cx 42 ((sa.2).length + 1), Computes cx 52 [I ta2] (I ta3), (0 : Int) ≤ sa.1, nth (a0) (Int.toNat sa.1) = some (I ta2), (decide (sa.1 < ((a0).length : Int))) = true]) (by kernel_rfl) ⟨ha5, (room_of (b := 8) (by kernel_rfl) (by decide) ha4), (c_sun_checkPlace_c1 ha3), (el_ok un_i_ok ha2).1, (el_ok un_i_ok ha2).2, (decide_eq_true ha1), trivial⟩⟩
  · replace h := ite_f h ha1
    replace h := Option.some.inj h
    subst h
    exact ⟨⟨100, 6, [.br false], [], [5], [5], round_of (ob := [(decide (sa.1 < ((a0).length : Int))) = false]) (by kernel_rfl) ⟨(decide_eq_false ha1), trivial⟩⟩, nofun⟩
/- spillage/sun.mapped[int,spillage/api.Errno]: .lst false 1 a0, .fn (.func 52) [] [] -/
def F_sun_mapped_g (n : Nat) (a0 : List D) : Option (List D) :=
  (loopF (F_sun_mapped_g_L1 n a0) n (0, [])).bind fun t1 =>
  some t1
theorem c_sun_mapped_g {n : Nat} {a0 : List D} {r : List D} (h : F_sun_mapped_g n a0 = some r) : Computes cx 51 [.lst false 1 a0, .fn (.func 52) [] []] (.lst false 1 r) := by
  unfold F_sun_mapped_g at h
  obtain ⟨t1, h1, h⟩ := bnd_of h
  replace h := Option.some.inj h
  subst h
  exact run (n := 100) (f := 51) (args := [.lst false 1 a0, .fn (.func 52) [] []]) (orc := [.lp [5, 1] [1, 5, 8, 9, 10] [5] (.exit 0) [(5, .own 5 0)] [(5, .row 0 1 t1)] 30]) (r := .lst false 1 t1) (ob := [LoopN cx (loopAt cx.P 51 0) 22 0 false [(1, .d (.fn (.func 52) [] [])), (5, .own 5 0), (8, .d (.lst false 1 a0)), (9, .d (I ((a0).length : Int))), (10, .d (I 0))] [(5, .row 0 1 [])] (.exit 0) [(5, .own 5 0)] [(5, .row 0 1 t1)]]) (by kernel_rfl) ⟨(loopF_to R_sun_mapped_g_L1 h1), trivial⟩
def F_sun_first_L1 (n : Nat) (a0 : List D) (sa : (Int)) : Option (((Int)) ⊕ ((Int) ⊕ (Unit))) :=
  if sa < ((a0).length : Int) then
    (el un_i a0 sa).bind fun ta2 =>
    if ta2 = 0 then
      if inI64 (sa + 1) then
      some (.inl (sa + 1))
      else none
    else
    some (.inr (.inl ta2))
  else
  some (.inr (.inr ()))
noncomputable def T_sun_first_L1 (a0 : List D) (sa : (Int)) : List (Nat × AV) := [(5, .d (.lst false 1 a0)), (6, .d (I ((a0).length : Int))), (7, .d (I sa))]
noncomputable def H_sun_first_L1 (a0 : List D) (sa : (Int)) : List (Nat × Blk) := []
noncomputable def X_sun_first_L1 (a0 : List D) (e : (Int) ⊕ (Unit)) : Ex := match e with
  | (.inl e) => .ret
  | (.inr e) => (.exit 0)
noncomputable def XT_sun_first_L1 (a0 : List D) (e : (Int) ⊕ (Unit)) : List (Nat × AV) := match e with
  | (.inl e) => [(2, .d (I e))]
  | (.inr e) => []
noncomputable def XH_sun_first_L1 (a0 : List D) (e : (Int) ⊕ (Unit)) : List (Nat × Blk) := match e with
  | (.inl e) => []
  | (.inr e) => []
theorem R_sun_first_L1 {n : Nat} {a0 : List D} (sa : (Int)) (r) (h : F_sun_first_L1 n a0 sa = some r) : Rd cx (loopAt cx.P 23 0) 15 0 false (T_sun_first_L1 a0) (H_sun_first_L1 a0) (X_sun_first_L1 a0) (XT_sun_first_L1 a0) (XH_sun_first_L1 a0) sa r := by
  unfold F_sun_first_L1 at h
  by_cases ha1 : sa < ((a0).length : Int)
  · replace h := ite_t h ha1
    obtain ⟨ta2, ha2, h⟩ := bnd_of h
    by_cases ha3 : ta2 = 0
    · replace h := ite_t h ha3
      obtain ⟨ha4, h⟩ := grd_of h
      replace h := Option.some.inj h
      subst h
      exact ⟨100, 4, [.br true, .el (I ta2), .br false], [], [5, 6, 7], [], round_of (ob := [inI64 (sa + 1), (ta2 != 0) = false, (0 : Int) ≤ sa, nth (a0) (Int.toNat sa) = some (I ta2), (decide (sa < ((a0).length : Int))) = true]) (by kernel_rfl) ⟨ha4, (nef ha3), (el_ok un_i_ok ha2).1, (el_ok un_i_ok ha2).2, (decide_eq_true ha1), trivial⟩⟩
    · replace h := ite_f h ha3
      replace h := Option.some.inj h
      subst h
      exact ⟨⟨100, 4, [.br true, .el (I ta2), .br true], [], [2], [], round_of (ob := [(ta2 != 0) = true, (0 : Int) ≤ sa, nth (a0) (Int.toNat sa) = some (I ta2), (decide (sa < ((a0).length : Int))) = true]) (by kernel_rfl) ⟨(net ha3), (el_ok un_i_ok ha2).1, (el_ok un_i_ok ha2).2, (decide_eq_true ha1), trivial⟩⟩, nofun⟩
  · replace h := ite_f h ha1
    replace h := Option.some.inj h
    subst h
    exact ⟨⟨100, 4, [.br false], [], [], [], round_of (ob := [(decide (sa < ((a0).length : Int))) = false]) (by kernel_rfl) ⟨(decide_eq_false ha1), trivial⟩⟩, nofun⟩
/- spillage/sun.first: .lst false 1 a0 -/
def F_sun_first (n : Nat) (a0 : List D) : Option (Int) :=
  (loopF (F_sun_first_L1 n a0) n 0).bind fun t1 => match t1 with
    | (.inl t1) => (
      some t1)
    | (.inr t1) => (
      some 0)
theorem c_sun_first {n : Nat} {a0 : List D} {r : Int} (h : F_sun_first n a0 = some r) : Computes cx 23 [.lst false 1 a0] (I r) := by
  unfold F_sun_first at h
  obtain ⟨t1, h1, h⟩ := bnd_of h
  rcases t1 with t1 | t1
  · replace h := Option.some.inj h
    subst h
    exact run (n := 100) (f := 23) (args := [.lst false 1 a0]) (orc := [.lp [] [5, 6, 7] [] .ret [(2, .d (I t1))] [] 23]) (r := I t1) (ob := [LoopN cx (loopAt cx.P 23 0) 15 0 false [(5, .d (.lst false 1 a0)), (6, .d (I ((a0).length : Int))), (7, .d (I 0))] [] .ret [(2, .d (I t1))] []]) (by kernel_rfl) ⟨(loopF_to R_sun_first_L1 h1), trivial⟩
  · replace h := Option.some.inj h
    subst h
    exact run (n := 100) (f := 23) (args := [.lst false 1 a0]) (orc := [.lp [] [5, 6, 7] [] (.exit 0) [] [] 23]) (r := I 0) (ob := [LoopN cx (loopAt cx.P 23 0) 15 0 false [(5, .d (.lst false 1 a0)), (6, .d (I ((a0).length : Int))), (7, .d (I 0))] [] (.exit 0) [] []]) (by kernel_rfl) ⟨(loopF_to R_sun_first_L1 h1), trivial⟩
/- spillage/sun.checkPlace: .agg [I a0, I a1, I a2] -/
def F_sun_checkPlace (n : Nat) (a0 : Int) (a1 : Int) (a2 : Int) : Option (Int) :=
  (F_sun_parts_2 n a0 a1 a2).bind fun t1 =>
  (F_sun_mapped_g n ([I t1.1, I t1.2.1, I t1.2.2])).bind fun t2 =>
  (F_sun_first n t2).bind fun t3 =>
  some t3
theorem c_sun_checkPlace {n : Nat} {a0 : Int} {a1 : Int} {a2 : Int} {r : Int} (h : F_sun_checkPlace n a0 a1 a2 = some r) : Computes cx 24 [.agg [I a0, I a1, I a2]] (I r) := by
  unfold F_sun_checkPlace at h
  obtain ⟨t1, h1, h⟩ := bnd_of h
  obtain ⟨t2, h2, h⟩ := bnd_of h
  obtain ⟨t3, h3, h⟩ := bnd_of h
  replace h := Option.some.inj h
  subst h
  exact run (n := 100) (f := 24) (args := [.agg [I a0, I a1, I a2]]) (orc := [.ret (.agg [I t1.1, I t1.2.1, I t1.2.2]), .ret (.lst false 1 t2), .ret (I t3)]) (r := I t3) (ob := [Computes cx 23 [.lst false 1 t2] (I t3), Computes cx 51 [.lst true 1 [I t1.1, I t1.2.1, I t1.2.2], .fn (.func 52) [] []] (.lst false 1 t2), Computes cx 48 [.agg [I a0, I a1, I a2]] (.agg [I t1.1, I t1.2.1, I t1.2.2])]) (by kernel_rfl) ⟨(c_sun_first h3), ((c_sun_mapped_g h2).le (.cons (.full _ _ _) (.cons (.refl _) (.nil))) (.refl _)), (c_sun_parts_2 h1), trivial⟩
/- spillage/sun.far: .agg [I a0, I a1, I a2] -/
def F_sun_far (n : Nat) (a0 : Int) (a1 : Int) (a2 : Int) : Option (Int) :=
  (F_sun_parts_2 n a0 a1 a2).bind fun t1 =>
  some (maxI (maxI (maxI (maxI (maxI (maxI 0 t1.1) (IntKind.wrap .i64 (0 - t1.1))) t1.2.1) (IntKind.wrap .i64 (0 - t1.2.1))) t1.2.2) (IntKind.wrap .i64 (0 - t1.2.2)))
theorem c_sun_far {n : Nat} {a0 : Int} {a1 : Int} {a2 : Int} {r : Int} (h : F_sun_far n a0 a1 a2 = some r) : Computes cx 55 [.agg [I a0, I a1, I a2]] (I r) := by
  unfold F_sun_far at h
  obtain ⟨t1, h1, h⟩ := bnd_of h
  replace h := Option.some.inj h
  subst h
  exact run (n := 100) (f := 55) (args := [.agg [I a0, I a1, I a2]]) (orc := [.ret (.agg [I t1.1, I t1.2.1, I t1.2.2]), .no, .no, .no, .no, .no, .no, .no, .no]) (r := I (maxI (maxI (maxI (maxI (maxI (maxI 0 t1.1) (IntKind.wrap .i64 (0 - t1.1))) t1.2.1) (IntKind.wrap .i64 (0 - t1.2.1))) t1.2.2) (IntKind.wrap .i64 (0 - t1.2.2)))) (ob := [inI64 3, inI64 2, inI64 1, Computes cx 48 [.agg [I a0, I a1, I a2]] (.agg [I t1.1, I t1.2.1, I t1.2.2])]) (by kernel_rfl) ⟨(by unfold inI64; omega), (by unfold inI64; omega), (by unfold inI64; omega), (c_sun_parts_2 h1), trivial⟩
/- spillage/sun.CheckRay: .agg [I a0, I a1, I a2] -/
def F_sun_CheckRay (n : Nat) (a0 : Int) (a1 : Int) (a2 : Int) : Option (Int) :=
  (F_light_CheckDirection_2 n a0 a1 a2).bind fun t1 =>
  (F_sun_far n a0 a1 a2).bind fun t2 =>
  (F_sun_when_2 n (decide (t2 > 4096)) 3).bind fun t3 =>
  (F_sun_first n ([I t1, I t3])).bind fun t4 =>
  some t4
theorem c_sun_CheckRay {n : Nat} {a0 : Int} {a1 : Int} {a2 : Int} {r : Int} (h : F_sun_CheckRay n a0 a1 a2 = some r) : Computes cx 25 [.agg [I a0, I a1, I a2]] (I r) := by
  unfold F_sun_CheckRay at h
  obtain ⟨t1, h1, h⟩ := bnd_of h
  obtain ⟨t2, h2, h⟩ := bnd_of h
  obtain ⟨t3, h3, h⟩ := bnd_of h
  obtain ⟨t4, h4, h⟩ := bnd_of h
  replace h := Option.some.inj h
  subst h
  exact run (n := 100) (f := 25) (args := [.agg [I a0, I a1, I a2]]) (orc := [.ret (I t1), .ret (I t2), .ret (I t3), .ret (I t4)]) (r := I t4) (ob := [Computes cx 23 [.lst true 1 [I t1, I t3]] (I t4), Computes cx 54 [B (decide (t2 > 4096)), I 3] (I t3), Computes cx 55 [.agg [I a0, I a1, I a2]] (I t2), Computes cx 21 [.agg [I a0, I a1, I a2]] (I t1)]) (by kernel_rfl) ⟨((c_sun_first h4).le (.cons (.full _ _ _) (.nil)) (.refl _)), (c_sun_when_2 h3), (c_sun_far h2), (c_light_CheckDirection_2 h1), trivial⟩
/- spillage/sun.dot: .agg [I a0, I a1, I a2], .agg [I a3, I a4, I a5] -/
def F_sun_dot (n : Nat) (a0 : Int) (a1 : Int) (a2 : Int) (a3 : Int) (a4 : Int) (a5 : Int) : Option (Int) :=
  if inI64 (a0 * a3) then
  if inI64 (a1 * a4) then
  if inI64 ((a0 * a3) + (a1 * a4)) then
  if inI64 (a2 * a5) then
  if inI64 (((a0 * a3) + (a1 * a4)) + (a2 * a5)) then
  some (((a0 * a3) + (a1 * a4)) + (a2 * a5))
  else none
  else none
  else none
  else none
  else none
theorem c_sun_dot {n : Nat} {a0 : Int} {a1 : Int} {a2 : Int} {a3 : Int} {a4 : Int} {a5 : Int} {r : Int} (h : F_sun_dot n a0 a1 a2 a3 a4 a5 = some r) : Computes cx 26 [.agg [I a0, I a1, I a2], .agg [I a3, I a4, I a5]] (I r) := by
  unfold F_sun_dot at h
  obtain ⟨h1, h⟩ := grd_of h
  obtain ⟨h2, h⟩ := grd_of h
  obtain ⟨h3, h⟩ := grd_of h
  obtain ⟨h4, h⟩ := grd_of h
  obtain ⟨h5, h⟩ := grd_of h
  replace h := Option.some.inj h
  subst h
  exact run (n := 100) (f := 26) (args := [.agg [I a0, I a1, I a2], .agg [I a3, I a4, I a5]]) (orc := []) (r := I (((a0 * a3) + (a1 * a4)) + (a2 * a5))) (ob := [inI64 (((a0 * a3) + (a1 * a4)) + (a2 * a5)), inI64 (a2 * a5), inI64 ((a0 * a3) + (a1 * a4)), inI64 (a1 * a4), inI64 (a0 * a3)]) (by kernel_rfl) ⟨h5, h4, h3, h2, h1, trivial⟩
/- spillage/sun.sum: I a0, .agg [I a1, I a2, I a3], I a4, .agg [I a5, I a6, I a7] -/
def F_sun_sum (n : Nat) (a0 : Int) (a1 : Int) (a2 : Int) (a3 : Int) (a4 : Int) (a5 : Int) (a6 : Int) (a7 : Int) : Option (Int × Int × Int) :=
  if inI64 (a0 * a1) then
  if inI64 (a4 * a5) then
  if inI64 ((a0 * a1) + (a4 * a5)) then
  if inI64 (a0 * a2) then
  if inI64 (a4 * a6) then
  if inI64 ((a0 * a2) + (a4 * a6)) then
  if inI64 (a0 * a3) then
  if inI64 (a4 * a7) then
  if inI64 ((a0 * a3) + (a4 * a7)) then
  some (((a0 * a1) + (a4 * a5)), ((a0 * a2) + (a4 * a6)), ((a0 * a3) + (a4 * a7)))
  else none
  else none
  else none
  else none
  else none
  else none
  else none
  else none
  else none
theorem c_sun_sum {n : Nat} {a0 : Int} {a1 : Int} {a2 : Int} {a3 : Int} {a4 : Int} {a5 : Int} {a6 : Int} {a7 : Int} {r : Int × Int × Int} (h : F_sun_sum n a0 a1 a2 a3 a4 a5 a6 a7 = some r) : Computes cx 28 [I a0, .agg [I a1, I a2, I a3], I a4, .agg [I a5, I a6, I a7]] (.agg [I r.1, I r.2.1, I r.2.2]) := by
  unfold F_sun_sum at h
  obtain ⟨h1, h⟩ := grd_of h
  obtain ⟨h2, h⟩ := grd_of h
  obtain ⟨h3, h⟩ := grd_of h
  obtain ⟨h4, h⟩ := grd_of h
  obtain ⟨h5, h⟩ := grd_of h
  obtain ⟨h6, h⟩ := grd_of h
  obtain ⟨h7, h⟩ := grd_of h
  obtain ⟨h8, h⟩ := grd_of h
  obtain ⟨h9, h⟩ := grd_of h
  replace h := Option.some.inj h
  subst h
  exact run (n := 100) (f := 28) (args := [I a0, .agg [I a1, I a2, I a3], I a4, .agg [I a5, I a6, I a7]]) (orc := []) (r := .agg [I ((a0 * a1) + (a4 * a5)), I ((a0 * a2) + (a4 * a6)), I ((a0 * a3) + (a4 * a7))]) (ob := [inI64 ((a0 * a3) + (a4 * a7)), inI64 (a4 * a7), inI64 (a0 * a3), inI64 ((a0 * a2) + (a4 * a6)), inI64 (a4 * a6), inI64 (a0 * a2), inI64 ((a0 * a1) + (a4 * a5)), inI64 (a4 * a5), inI64 (a0 * a1)]) (by kernel_rfl) ⟨h9, h8, h7, h6, h5, h4, h3, h2, h1, trivial⟩
/- spillage/sun.ratio: I a0, I a1 -/
def F_sun_ratio (n : Nat) (a0 : Int) (a1 : Int) : Option (Int × Int) :=
  if a1 < 0 then
    (F_sun_common n (IntKind.wrap .i64 (0 - a0)) (IntKind.wrap .i64 (0 - a1))).bind fun t2 =>
    if t2 ≠ 0 then
    if inI64 (Int.tdiv (IntKind.wrap .i64 (0 - a0)) t2) then
    if inI64 (Int.tdiv (IntKind.wrap .i64 (0 - a1)) t2) then
    some ((Int.tdiv (IntKind.wrap .i64 (0 - a0)) t2), (Int.tdiv (IntKind.wrap .i64 (0 - a1)) t2))
    else none
    else none
    else none
  else
  (F_sun_common n a0 a1).bind fun t2 =>
  if t2 ≠ 0 then
  if inI64 (Int.tdiv a0 t2) then
  if inI64 (Int.tdiv a1 t2) then
  some ((Int.tdiv a0 t2), (Int.tdiv a1 t2))
  else none
  else none
  else none
theorem c_sun_ratio {n : Nat} {a0 : Int} {a1 : Int} {r : Int × Int} (h : F_sun_ratio n a0 a1 = some r) : Computes cx 27 [I a0, I a1] (.agg [I r.1, I r.2]) := by
  unfold F_sun_ratio at h
  by_cases h1 : a1 < 0
  · replace h := ite_t h h1
    obtain ⟨t2, h2, h⟩ := bnd_of h
    obtain ⟨h3, h⟩ := grd_of h
    obtain ⟨h4, h⟩ := grd_of h
    obtain ⟨h5, h⟩ := grd_of h
    replace h := Option.some.inj h
    subst h
    exact run (n := 100) (f := 27) (args := [I a0, I a1]) (orc := [.br true, .ret (I t2)]) (r := .agg [I (Int.tdiv (IntKind.wrap .i64 (0 - a0)) t2), I (Int.tdiv (IntKind.wrap .i64 (0 - a1)) t2)]) (ob := [t2 ≠ 0, inI64 (Int.tdiv (IntKind.wrap .i64 (0 - a1)) t2), t2 ≠ 0, inI64 (Int.tdiv (IntKind.wrap .i64 (0 - a0)) t2), Computes cx 49 [I (IntKind.wrap .i64 (0 - a0)), I (IntKind.wrap .i64 (0 - a1))] (I t2), (decide (a1 < 0)) = true]) (by kernel_rfl) ⟨h3, h5, h3, h4, (c_sun_common h2), (decide_eq_true h1), trivial⟩
  · replace h := ite_f h h1
    obtain ⟨t2, h2, h⟩ := bnd_of h
    obtain ⟨h3, h⟩ := grd_of h
    obtain ⟨h4, h⟩ := grd_of h
    obtain ⟨h5, h⟩ := grd_of h
    replace h := Option.some.inj h
    subst h
    exact run (n := 100) (f := 27) (args := [I a0, I a1]) (orc := [.br false, .ret (I t2)]) (r := .agg [I (Int.tdiv a0 t2), I (Int.tdiv a1 t2)]) (ob := [t2 ≠ 0, inI64 (Int.tdiv a1 t2), t2 ≠ 0, inI64 (Int.tdiv a0 t2), Computes cx 49 [I a0, I a1] (I t2), (decide (a1 < 0)) = false]) (by kernel_rfl) ⟨h3, h5, h3, h4, (c_sun_common h2), (decide_eq_false h1), trivial⟩
/- spillage/sun.Hit: .agg [I a0, I a1, I a2], .agg [I a3, I a4, I a5], .agg [I a6, I a7, I a8], .agg [I a9, I a10, I a11] -/
def F_sun_Hit (n : Nat) (a0 : Int) (a1 : Int) (a2 : Int) (a3 : Int) (a4 : Int) (a5 : Int) (a6 : Int) (a7 : Int) (a8 : Int) (a9 : Int) (a10 : Int) (a11 : Int) : Option (Int × Int × Int) :=
  (F_sun_checkPlace n a0 a1 a2).bind fun t1 =>
  (F_sun_CheckRay n a3 a4 a5).bind fun t2 =>
  (F_sun_checkPlace n a6 a7 a8).bind fun t3 =>
  (F_sun_CheckRay n a9 a10 a11).bind fun t4 =>
  (F_sun_first n ([I t1, I t2, I t3, I t4])).bind fun t5 =>
  if t5 = 0 then
    (F_sun_dot n a3 a4 a5 a9 a10 a11).bind fun t7 =>
    if t7 = 0 then
      some (0, 0, 7)
    else
    (F_sun_sum n 1 a6 a7 a8 (-1) a0 a1 a2).bind fun t9 =>
    (F_sun_dot n t9.1 t9.2.1 t9.2.2 a9 a10 a11).bind fun t10 =>
    (F_sun_ratio n t10 t7).bind fun t11 =>
    some (t11.1, t11.2, 0)
  else
  some (0, 0, t5)
theorem c_sun_Hit {n : Nat} {a0 : Int} {a1 : Int} {a2 : Int} {a3 : Int} {a4 : Int} {a5 : Int} {a6 : Int} {a7 : Int} {a8 : Int} {a9 : Int} {a10 : Int} {a11 : Int} {r : Int × Int × Int} (h : F_sun_Hit n a0 a1 a2 a3 a4 a5 a6 a7 a8 a9 a10 a11 = some r) : Computes cx 8 [.agg [I a0, I a1, I a2], .agg [I a3, I a4, I a5], .agg [I a6, I a7, I a8], .agg [I a9, I a10, I a11]] (.tup [.agg [I r.1, I r.2.1], I r.2.2]) := by
  unfold F_sun_Hit at h
  obtain ⟨t1, h1, h⟩ := bnd_of h
  obtain ⟨t2, h2, h⟩ := bnd_of h
  obtain ⟨t3, h3, h⟩ := bnd_of h
  obtain ⟨t4, h4, h⟩ := bnd_of h
  obtain ⟨t5, h5, h⟩ := bnd_of h
  by_cases h6 : t5 = 0
  · replace h := ite_t h h6
    obtain ⟨t7, h7, h⟩ := bnd_of h
    by_cases h8 : t7 = 0
    · replace h := ite_t h h8
      replace h := Option.some.inj h
      subst h
      exact run (n := 100) (f := 8) (args := [.agg [I a0, I a1, I a2], .agg [I a3, I a4, I a5], .agg [I a6, I a7, I a8], .agg [I a9, I a10, I a11]]) (orc := [.ret (I t1), .ret (I t2), .ret (I t3), .ret (I t4), .ret (I t5), .br false, .ret (I t7), .br true]) (r := .tup [.agg [I 0, I 0], I 7]) (ob := [(t7 == 0) = true, Computes cx 26 [.agg [I a3, I a4, I a5], .agg [I a9, I a10, I a11]] (I t7), (t5 != 0) = false, Computes cx 23 [.lst true 1 [I t1, I t2, I t3, I t4]] (I t5), Computes cx 25 [.agg [I a9, I a10, I a11]] (I t4), Computes cx 24 [.agg [I a6, I a7, I a8]] (I t3), Computes cx 25 [.agg [I a3, I a4, I a5]] (I t2), Computes cx 24 [.agg [I a0, I a1, I a2]] (I t1)]) (by kernel_rfl) ⟨(eqt h8), (c_sun_dot h7), (nef h6), ((c_sun_first h5).le (.cons (.full _ _ _) (.nil)) (.refl _)), (c_sun_CheckRay h4), (c_sun_checkPlace h3), (c_sun_CheckRay h2), (c_sun_checkPlace h1), trivial⟩
    · replace h := ite_f h h8
      obtain ⟨t9, h9, h⟩ := bnd_of h
      obtain ⟨t10, h10, h⟩ := bnd_of h
      obtain ⟨t11, h11, h⟩ := bnd_of h
      replace h := Option.some.inj h
      subst h
      exact run (n := 100) (f := 8) (args := [.agg [I a0, I a1, I a2], .agg [I a3, I a4, I a5], .agg [I a6, I a7, I a8], .agg [I a9, I a10, I a11]]) (orc := [.ret (I t1), .ret (I t2), .ret (I t3), .ret (I t4), .ret (I t5), .br false, .ret (I t7), .br false, .ret (.agg [I t9.1, I t9.2.1, I t9.2.2]), .ret (I t10), .ret (.agg [I t11.1, I t11.2])]) (r := .tup [.agg [I t11.1, I t11.2], I 0]) (ob := [Computes cx 27 [I t10, I t7] (.agg [I t11.1, I t11.2]), Computes cx 26 [.agg [I t9.1, I t9.2.1, I t9.2.2], .agg [I a9, I a10, I a11]] (I t10), Computes cx 28 [I 1, .agg [I a6, I a7, I a8], I (-1), .agg [I a0, I a1, I a2]] (.agg [I t9.1, I t9.2.1, I t9.2.2]), (t7 == 0) = false, Computes cx 26 [.agg [I a3, I a4, I a5], .agg [I a9, I a10, I a11]] (I t7), (t5 != 0) = false, Computes cx 23 [.lst true 1 [I t1, I t2, I t3, I t4]] (I t5), Computes cx 25 [.agg [I a9, I a10, I a11]] (I t4), Computes cx 24 [.agg [I a6, I a7, I a8]] (I t3), Computes cx 25 [.agg [I a3, I a4, I a5]] (I t2), Computes cx 24 [.agg [I a0, I a1, I a2]] (I t1)]) (by kernel_rfl) ⟨(c_sun_ratio h11), (c_sun_dot h10), (c_sun_sum h9), (eqf h8), (c_sun_dot h7), (nef h6), ((c_sun_first h5).le (.cons (.full _ _ _) (.nil)) (.refl _)), (c_sun_CheckRay h4), (c_sun_checkPlace h3), (c_sun_CheckRay h2), (c_sun_checkPlace h1), trivial⟩
  · replace h := ite_f h h6
    replace h := Option.some.inj h
    subst h
    exact run (n := 100) (f := 8) (args := [.agg [I a0, I a1, I a2], .agg [I a3, I a4, I a5], .agg [I a6, I a7, I a8], .agg [I a9, I a10, I a11]]) (orc := [.ret (I t1), .ret (I t2), .ret (I t3), .ret (I t4), .ret (I t5), .br true]) (r := .tup [.agg [I 0, I 0], I t5]) (ob := [(t5 != 0) = true, Computes cx 23 [.lst true 1 [I t1, I t2, I t3, I t4]] (I t5), Computes cx 25 [.agg [I a9, I a10, I a11]] (I t4), Computes cx 24 [.agg [I a6, I a7, I a8]] (I t3), Computes cx 25 [.agg [I a3, I a4, I a5]] (I t2), Computes cx 24 [.agg [I a0, I a1, I a2]] (I t1)]) (by kernel_rfl) ⟨(net h6), ((c_sun_first h5).le (.cons (.full _ _ _) (.nil)) (.refl _)), (c_sun_CheckRay h4), (c_sun_checkPlace h3), (c_sun_CheckRay h2), (c_sun_checkPlace h1), trivial⟩
/- spillage/sun.CheckCone: .agg [I a0, I a1, I a2, I a3, I a4] -/
def F_sun_CheckCone (n : Nat) (a0 : Int) (a1 : Int) (a2 : Int) (a3 : Int) (a4 : Int) : Option (Int) :=
  (F_sun_CheckRay n a0 a1 a2).bind fun t1 =>
  (F_sun_within n a4 1 100).bind fun t2 =>
  (F_sun_within n a3 0 a4).bind fun t3 =>
  (F_sun_first n ([I t1, I t2, I t3])).bind fun t4 =>
  some t4
theorem c_sun_CheckCone {n : Nat} {a0 : Int} {a1 : Int} {a2 : Int} {a3 : Int} {a4 : Int} {r : Int} (h : F_sun_CheckCone n a0 a1 a2 a3 a4 = some r) : Computes cx 43 [.agg [I a0, I a1, I a2, I a3, I a4]] (I r) := by
  unfold F_sun_CheckCone at h
  obtain ⟨t1, h1, h⟩ := bnd_of h
  obtain ⟨t2, h2, h⟩ := bnd_of h
  obtain ⟨t3, h3, h⟩ := bnd_of h
  obtain ⟨t4, h4, h⟩ := bnd_of h
  replace h := Option.some.inj h
  subst h
  exact run (n := 100) (f := 43) (args := [.agg [I a0, I a1, I a2, I a3, I a4]]) (orc := [.ret (I t1), .ret (I t2), .ret (I t3), .ret (I t4)]) (r := I t4) (ob := [Computes cx 23 [.lst true 1 [I t1, I t2, I t3]] (I t4), Computes cx 53 [I a3, I 0, I a4] (I t3), Computes cx 53 [I a4, I 1, I 100] (I t2), Computes cx 25 [.agg [I a0, I a1, I a2]] (I t1)]) (by kernel_rfl) ⟨((c_sun_first h4).le (.cons (.full _ _ _) (.nil)) (.refl _)), (c_sun_within h3), (c_sun_within h2), (c_sun_CheckRay h1), trivial⟩
/- (spillage/sun.Cone).inside: .agg [I a0, I a1, I a2, I a3, I a4], .agg [I a5, I a6, I a7] -/
def F_sun_Cone_inside (n : Nat) (a0 : Int) (a1 : Int) (a2 : Int) (a3 : Int) (a4 : Int) (a5 : Int) (a6 : Int) (a7 : Int) : Option (Bool) :=
  (F_sun_dot n a0 a1 a2 a5 a6 a7).bind fun t1 =>
  if t1 > 0 then
    if inI64 (t1 * t1) then
    if inI64 ((t1 * t1) * a4) then
    (F_sun_dot n a0 a1 a2 a0 a1 a2).bind fun t5 =>
    if inI64 (a3 * t5) then
    (F_sun_dot n a5 a6 a7 a5 a6 a7).bind fun t7 =>
    if inI64 ((a3 * t5) * t7) then
    some (decide (((t1 * t1) * a4) ≥ ((a3 * t5) * t7)))
    else none
    else none
    else none
    else none
  else
  some false
theorem c_sun_Cone_inside {n : Nat} {a0 : Int} {a1 : Int} {a2 : Int} {a3 : Int} {a4 : Int} {a5 : Int} {a6 : Int} {a7 : Int} {r : Bool} (h : F_sun_Cone_inside n a0 a1 a2 a3 a4 a5 a6 a7 = some r) : Computes cx 44 [.agg [I a0, I a1, I a2, I a3, I a4], .agg [I a5, I a6, I a7]] (B r) := by
  unfold F_sun_Cone_inside at h
  obtain ⟨t1, h1, h⟩ := bnd_of h
  by_cases h2 : t1 > 0
  · replace h := ite_t h h2
    obtain ⟨h3, h⟩ := grd_of h
    obtain ⟨h4, h⟩ := grd_of h
    obtain ⟨t5, h5, h⟩ := bnd_of h
    obtain ⟨h6, h⟩ := grd_of h
    obtain ⟨t7, h7, h⟩ := bnd_of h
    obtain ⟨h8, h⟩ := grd_of h
    replace h := Option.some.inj h
    subst h
    exact run (n := 100) (f := 44) (args := [.agg [I a0, I a1, I a2, I a3, I a4], .agg [I a5, I a6, I a7]]) (orc := [.ret (I t1), .br true, .ret (I t5), .ret (I t7)]) (r := B (decide (((t1 * t1) * a4) ≥ ((a3 * t5) * t7)))) (ob := [inI64 ((a3 * t5) * t7), Computes cx 26 [.agg [I a5, I a6, I a7], .agg [I a5, I a6, I a7]] (I t7), inI64 (a3 * t5), Computes cx 26 [.agg [I a0, I a1, I a2], .agg [I a0, I a1, I a2]] (I t5), inI64 ((t1 * t1) * a4), inI64 (t1 * t1), (decide (t1 > 0)) = true, Computes cx 26 [.agg [I a0, I a1, I a2], .agg [I a5, I a6, I a7]] (I t1)]) (by kernel_rfl) ⟨h8, (c_sun_dot h7), h6, (c_sun_dot h5), h4, h3, (decide_eq_true h2), (c_sun_dot h1), trivial⟩
  · replace h := ite_f h h2
    replace h := Option.some.inj h
    subst h
    exact run (n := 100) (f := 44) (args := [.agg [I a0, I a1, I a2, I a3, I a4], .agg [I a5, I a6, I a7]]) (orc := [.ret (I t1), .br false]) (r := B false) (ob := [(decide (t1 > 0)) = false, Computes cx 26 [.agg [I a0, I a1, I a2], .agg [I a5, I a6, I a7]] (I t1)]) (by kernel_rfl) ⟨(decide_eq_false h2), (c_sun_dot h1), trivial⟩
/- spillage/sun.Inside: .agg [I a0, I a1, I a2, I a3, I a4], .agg [I a5, I a6, I a7] -/
def F_sun_Inside (n : Nat) (a0 : Int) (a1 : Int) (a2 : Int) (a3 : Int) (a4 : Int) (a5 : Int) (a6 : Int) (a7 : Int) : Option (Bool × Int) :=
  (F_sun_CheckCone n a0 a1 a2 a3 a4).bind fun t1 =>
  (F_sun_CheckRay n a5 a6 a7).bind fun t2 =>
  (F_sun_first n ([I t1, I t2])).bind fun t3 =>
  if t3 = 0 then
    (F_sun_Cone_inside n a0 a1 a2 a3 a4 a5 a6 a7).bind fun t5 =>
    some (t5, 0)
  else
  some (false, t3)
theorem c_sun_Inside {n : Nat} {a0 : Int} {a1 : Int} {a2 : Int} {a3 : Int} {a4 : Int} {a5 : Int} {a6 : Int} {a7 : Int} {r : Bool × Int} (h : F_sun_Inside n a0 a1 a2 a3 a4 a5 a6 a7 = some r) : Computes cx 20 [.agg [I a0, I a1, I a2, I a3, I a4], .agg [I a5, I a6, I a7]] (.tup [B r.1, I r.2]) := by
  unfold F_sun_Inside at h
  obtain ⟨t1, h1, h⟩ := bnd_of h
  obtain ⟨t2, h2, h⟩ := bnd_of h
  obtain ⟨t3, h3, h⟩ := bnd_of h
  by_cases h4 : t3 = 0
  · replace h := ite_t h h4
    obtain ⟨t5, h5, h⟩ := bnd_of h
    replace h := Option.some.inj h
    subst h
    exact run (n := 100) (f := 20) (args := [.agg [I a0, I a1, I a2, I a3, I a4], .agg [I a5, I a6, I a7]]) (orc := [.ret (I t1), .ret (I t2), .ret (I t3), .br false, .ret (B t5)]) (r := .tup [B t5, I 0]) (ob := [Computes cx 44 [.agg [I a0, I a1, I a2, I a3, I a4], .agg [I a5, I a6, I a7]] (B t5), (t3 != 0) = false, Computes cx 23 [.lst true 1 [I t1, I t2]] (I t3), Computes cx 25 [.agg [I a5, I a6, I a7]] (I t2), Computes cx 43 [.agg [I a0, I a1, I a2, I a3, I a4]] (I t1)]) (by kernel_rfl) ⟨(c_sun_Cone_inside h5), (nef h4), ((c_sun_first h3).le (.cons (.full _ _ _) (.nil)) (.refl _)), (c_sun_CheckRay h2), (c_sun_CheckCone h1), trivial⟩
  · replace h := ite_f h h4
    replace h := Option.some.inj h
    subst h
    exact run (n := 100) (f := 20) (args := [.agg [I a0, I a1, I a2, I a3, I a4], .agg [I a5, I a6, I a7]]) (orc := [.ret (I t1), .ret (I t2), .ret (I t3), .br true]) (r := .tup [B false, I t3]) (ob := [(t3 != 0) = true, Computes cx 23 [.lst true 1 [I t1, I t2]] (I t3), Computes cx 25 [.agg [I a5, I a6, I a7]] (I t2), Computes cx 43 [.agg [I a0, I a1, I a2, I a3, I a4]] (I t1)]) (by kernel_rfl) ⟨(net h4), ((c_sun_first h3).le (.cons (.full _ _ _) (.nil)) (.refl _)), (c_sun_CheckRay h2), (c_sun_CheckCone h1), trivial⟩
/- spillage/spillagetop.anvilPair:  -/
def F_top_anvilPair (n : Nat)  : Option (Bool) :=
  (F_drive_Within_2 n ([.agg [I 5, I 100, I 100]]) 8 8).bind fun t1 =>
  (F_sun_Reduced_2 n 100 140 0).bind fun t2 =>
  if t1.2.2 = 0 then
    if t2.2.2.2 = 0 then
      if ((t1.1 == 140) && ((t1.2.1 == 140) && true)) = true then
        if ((t2.1 == 5) && ((t2.2.1 == 7) && ((t2.2.2.1 == 0) && true))) = true then
          (F_sun_Hit n 0 0 0 t2.1 t2.2.1 t2.2.2.1 100 0 0 1 0 0).bind fun t7 =>
          (F_sun_Inside n 5 7 0 1 1 t2.1 t2.2.1 t2.2.2.1).bind fun t8 =>
          if t7.2.2 = 0 then
            if t8.2 = 0 then
              if ((t7.1 == 20) && ((t7.2.1 == 1) && true)) = true then
                some t8.1
              else
              none /- false -/
            else
            none /- false -/
          else
          none /- false -/
        else
        none /- false -/
      else
      none /- false -/
    else
    none /- false -/
  else
  none /- false -/
theorem c_top_anvilPair {n : Nat}  {r : Bool} (h : F_top_anvilPair n  = some r) : Computes cx 5 [] (B r) := by
  unfold F_top_anvilPair at h
  obtain ⟨t1, h1, h⟩ := bnd_of h
  obtain ⟨t2, h2, h⟩ := bnd_of h
  by_cases h3 : t1.2.2 = 0
  · replace h := ite_t h h3
    by_cases h4 : t2.2.2.2 = 0
    · replace h := ite_t h h4
      by_cases h5 : ((t1.1 == 140) && ((t1.2.1 == 140) && true)) = true
      · replace h := ite_t h h5
        by_cases h6 : ((t2.1 == 5) && ((t2.2.1 == 7) && ((t2.2.2.1 == 0) && true))) = true
        · replace h := ite_t h h6
          obtain ⟨t7, h7, h⟩ := bnd_of h
          obtain ⟨t8, h8, h⟩ := bnd_of h
          by_cases h9 : t7.2.2 = 0
          · replace h := ite_t h h9
            by_cases h10 : t8.2 = 0
            · replace h := ite_t h h10
              by_cases h11 : ((t7.1 == 20) && ((t7.2.1 == 1) && true)) = true
              · replace h := ite_t h h11
                replace h := Option.some.inj h
                subst h
                exact run (n := 100) (f := 5) (args := []) (orc := [.ret (.tup [.agg [I t1.1, I t1.2.1], I t1.2.2]), .ret (.tup [.agg [I t2.1, I t2.2.1, I t2.2.2.1], I t2.2.2.2]), .br false, .br false, .br false, .br false, .ret (.tup [.agg [I t7.1, I t7.2.1], I t7.2.2]), .ret (.tup [B t8.1, I t8.2]), .br true, .br true, .br true]) (r := B t8.1) (ob := [((t7.1 == 20) && ((t7.2.1 == 1) && true)) = true, (t8.2 == 0) = true, (t7.2.2 == 0) = true, Computes cx 20 [.agg [I 5, I 7, I 0, I 1, I 1], .agg [I t2.1, I t2.2.1, I t2.2.2.1]] (.tup [B t8.1, I t8.2]), Computes cx 8 [.agg [I 0, I 0, I 0], .agg [I t2.1, I t2.2.1, I t2.2.2.1], .agg [I 100, I 0, I 0], .agg [I 1, I 0, I 0]] (.tup [.agg [I t7.1, I t7.2.1], I t7.2.2]), (!((t2.1 == 5) && ((t2.2.1 == 7) && ((t2.2.2.1 == 0) && true)))) = false, (!((t1.1 == 140) && ((t1.2.1 == 140) && true))) = false, (t2.2.2.2 != 0) = false, (t1.2.2 != 0) = false, Computes cx 6 [.agg [I 100, I 140, I 0]] (.tup [.agg [I t2.1, I t2.2.1, I t2.2.2.1], I t2.2.2.2]), Computes cx 19 [.lst true 3 [.agg [I 5, I 100, I 100]], .agg [I 8, I 8]] (.tup [.agg [I t1.1, I t1.2.1], I t1.2.2])]) (by kernel_rfl) ⟨h11, (eqt h10), (eqt h9), (c_sun_Inside h8), (c_sun_Hit h7), (notf h6), (notf h5), (nef h4), (nef h3), (c_sun_Reduced_2 h2), ((c_drive_Within_2 h1).le (.cons (.full _ _ _) (.cons (.refl _) (.nil))) (.refl _)), trivial⟩
              · replace h := ite_f h h11
                cases h
            · replace h := ite_f h h10
              cases h
          · replace h := ite_f h h9
            cases h
        · replace h := ite_f h h6
          cases h
      · replace h := ite_f h h5
        cases h
    · replace h := ite_f h h4
      cases h
  · replace h := ite_f h h3
    cases h
end Go.Proofs.YtegcijomjkffgaaDoor
