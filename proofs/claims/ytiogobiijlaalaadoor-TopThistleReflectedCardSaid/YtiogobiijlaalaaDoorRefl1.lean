/-
  Printed by gsx.py: functions of the program as Lean functions, and that the code computes them.
-/
import Derived.Test.YtiogobiijlaalaaDoorGen5
set_option linter.unusedVariables false
set_option linter.unusedSimpArgs false
set_option linter.unnecessarySimpa false
set_option maxRecDepth 10000
namespace Go.Proofs.YtiogobiijlaalaaDoor
open Go.SX
/- spillage/sun.Whole$1: I a0 -/
def F_sun_Whole_c1 (n : Nat) (a0 : Int) : Option (Int) :=
  (F_sun_within n a0 (-32) 32).bind fun t1 =>
  some t1
theorem c_sun_Whole_c1 {n : Nat} {a0 : Int} {r : Int} (h : F_sun_Whole_c1 n a0 = some r) : Computes cx 34 [I a0] (I r) := by
  unfold F_sun_Whole_c1 at h
  obtain ⟨t1, h1, h⟩ := bnd_of h
  replace h := Option.some.inj h
  subst h
  exact run (n := 100) (f := 34) (args := [I a0]) (orc := [.ret (I t1)]) (r := I t1) (ob := [Computes cx 35 [I a0, I (-32), I 32] (I t1)]) (by kernel_rfl) ⟨(c_sun_within h1), trivial⟩
def F_sun_mapped_g_L1 (n : Nat) (a0 : List D) (sa : (Int × List D)) : Option (((Int × List D)) ⊕ ((List D))) :=
  if sa.1 < ((a0).length : Int) then
    (el un_i a0 sa.1).bind fun ta2 =>
    (F_sun_Whole_c1 n ta2).bind fun ta3 =>
    if roomP 8 ((sa.2).length + 1) then
    if inI64 (sa.1 + 1) then
    some (.inl ((sa.1 + 1), (sa.2 ++ ([I ta3] : List D))))
    else none
    else none
  else
  some (.inr sa.2)
noncomputable def T_sun_mapped_g_L1 (a0 : List D) (sa : (Int × List D)) : List (Nat × AV) := [(1, .d (.fn (.func 34) [] [])), (5, .own 5 0), (8, .d (.lst false 1 a0)), (9, .d (I ((a0).length : Int))), (10, .d (I sa.1))]
noncomputable def H_sun_mapped_g_L1 (a0 : List D) (sa : (Int × List D)) : List (Nat × Blk) := [(5, .row 0 1 sa.2)]
noncomputable def X_sun_mapped_g_L1 (a0 : List D) (e : (List D)) : Ex := (.exit 0)
noncomputable def XT_sun_mapped_g_L1 (a0 : List D) (e : (List D)) : List (Nat × AV) := [(5, .own 5 0)]
noncomputable def XH_sun_mapped_g_L1 (a0 : List D) (e : (List D)) : List (Nat × Blk) := [(5, .row 0 1 e)]
theorem R_sun_mapped_g_L1 {n : Nat} {a0 : List D} (sa : (Int × List D)) (r) (h : F_sun_mapped_g_L1 n a0 sa = some r) : Rd cx (loopAt cx.P 33 0) 22 0 false (T_sun_mapped_g_L1 a0) (H_sun_mapped_g_L1 a0) (X_sun_mapped_g_L1 a0) (XT_sun_mapped_g_L1 a0) (XH_sun_mapped_g_L1 a0) sa r := by
  unfold F_sun_mapped_g_L1 at h
  by_cases ha1 : sa.1 < ((a0).length : Int)
  · replace h := ite_t h ha1
    obtain ⟨ta2, ha2, h⟩ := bnd_of h
    obtain ⟨ta3, ha3, h⟩ := bnd_of h
    obtain ⟨ha4, h⟩ := grd_of h
    obtain ⟨ha5, h⟩ := grd_of h
    replace h := Option.some.inj h
    subst h
    exact ⟨100, 6, [.br true, .el (I ta2), .ret (I ta3), .br true], [], [1, 5, 8, 9, 10], [5], round_of (ob := [inI64 (sa.1 + 1), room cx 30 ((sa.2).length + 1), Computes cx 34 [I ta2] (I ta3), (0 : Int) ≤ sa.1, nth (a0) (Int.toNat sa.1) = some (I ta2), (decide (sa.1 < ((a0).length : Int))) = true]) (by kernel_rfl) ⟨ha5, (room_of (b := 8) (by kernel_rfl) (by decide) ha4), (c_sun_Whole_c1 ha3), (el_ok un_i_ok ha2).1, (el_ok un_i_ok ha2).2, (decide_eq_true ha1), trivial⟩⟩
  · replace h := ite_f h ha1
    replace h := Option.some.inj h
    subst h
    exact ⟨⟨100, 6, [.br false], [], [5], [5], round_of (ob := [(decide (sa.1 < ((a0).length : Int))) = false]) (by kernel_rfl) ⟨(decide_eq_false ha1), trivial⟩⟩, nofun⟩
/- spillage/sun.mapped[int,spillage/api.Errno]: .lst false 1 a0, .fn (.func 34) [] [] -/
def F_sun_mapped_g (n : Nat) (a0 : List D) : Option (List D) :=
  (loopF (F_sun_mapped_g_L1 n a0) n (0, [])).bind fun t1 =>
  some t1
theorem c_sun_mapped_g {n : Nat} {a0 : List D} {r : List D} (h : F_sun_mapped_g n a0 = some r) : Computes cx 33 [.lst false 1 a0, .fn (.func 34) [] []] (.lst false 1 r) := by
  unfold F_sun_mapped_g at h
  obtain ⟨t1, h1, h⟩ := bnd_of h
  replace h := Option.some.inj h
  subst h
  exact run (n := 100) (f := 33) (args := [.lst false 1 a0, .fn (.func 34) [] []]) (orc := [.lp [5, 1] [1, 5, 8, 9, 10] [5] (.exit 0) [(5, .own 5 0)] [(5, .row 0 1 t1)] 30]) (r := .lst false 1 t1) (ob := [LoopN cx (loopAt cx.P 33 0) 22 0 false [(1, .d (.fn (.func 34) [] [])), (5, .own 5 0), (8, .d (.lst false 1 a0)), (9, .d (I ((a0).length : Int))), (10, .d (I 0))] [(5, .row 0 1 [])] (.exit 0) [(5, .own 5 0)] [(5, .row 0 1 t1)]]) (by kernel_rfl) ⟨(loopF_to R_sun_mapped_g_L1 h1), trivial⟩
/- spillage/sun.Whole: .agg [I a0, I a1, I a2, I a3] -/
def F_sun_Whole (n : Nat) (a0 : Int) (a1 : Int) (a2 : Int) (a3 : Int) : Option (Int × Int × Int × Int) :=
  (F_sun_mapped_g n ([I a0, I a1, I a2, I a3])).bind fun t1 =>
  (F_sun_first n t1).bind fun t2 =>
  (F_sun_when n ((a0 == 0) && ((a1 == 0) && ((a2 == 0) && ((a3 == 0) && true)))) 6).bind fun t3 =>
  (F_sun_first n ([I t2, I t3])).bind fun t4 =>
  if t4 = 0 then
    if inI64 (a0 * a0) then
    if inI64 (a1 * a1) then
    if inI64 ((a0 * a0) + (a1 * a1)) then
    if inI64 (a2 * a2) then
    if inI64 (((a0 * a0) + (a1 * a1)) - (a2 * a2)) then
    if inI64 (a3 * a3) then
    if inI64 ((((a0 * a0) + (a1 * a1)) - (a2 * a2)) - (a3 * a3)) then
    if inI64 (a0 * a3) then
    if inI64 (a1 * a2) then
    if inI64 ((a0 * a3) + (a1 * a2)) then
    if inI64 (2 * ((a0 * a3) + (a1 * a2))) then
    if inI64 (a1 * a3) then
    if inI64 (a0 * a2) then
    if inI64 ((a1 * a3) - (a0 * a2)) then
    if inI64 (2 * ((a1 * a3) - (a0 * a2))) then
    some (((((a0 * a0) + (a1 * a1)) - (a2 * a2)) - (a3 * a3)), (2 * ((a0 * a3) + (a1 * a2))), (2 * ((a1 * a3) - (a0 * a2))), 0)
    else none
    else none
    else none
    else none
    else none
    else none
    else none
    else none
    else none
    else none
    else none
    else none
    else none
    else none
    else none
  else
  some (0, 0, 0, t4)
theorem c_sun_Whole {n : Nat} {a0 : Int} {a1 : Int} {a2 : Int} {a3 : Int} {r : Int × Int × Int × Int} (h : F_sun_Whole n a0 a1 a2 a3 = some r) : Computes cx 6 [.agg [I a0, I a1, I a2, I a3]] (.tup [.agg [I r.1, I r.2.1, I r.2.2.1], I r.2.2.2]) := by
  unfold F_sun_Whole at h
  obtain ⟨t1, h1, h⟩ := bnd_of h
  obtain ⟨t2, h2, h⟩ := bnd_of h
  obtain ⟨t3, h3, h⟩ := bnd_of h
  obtain ⟨t4, h4, h⟩ := bnd_of h
  by_cases h5 : t4 = 0
  · replace h := ite_t h h5
    obtain ⟨h6, h⟩ := grd_of h
    obtain ⟨h7, h⟩ := grd_of h
    obtain ⟨h8, h⟩ := grd_of h
    obtain ⟨h9, h⟩ := grd_of h
    obtain ⟨h10, h⟩ := grd_of h
    obtain ⟨h11, h⟩ := grd_of h
    obtain ⟨h12, h⟩ := grd_of h
    obtain ⟨h13, h⟩ := grd_of h
    obtain ⟨h14, h⟩ := grd_of h
    obtain ⟨h15, h⟩ := grd_of h
    obtain ⟨h16, h⟩ := grd_of h
    obtain ⟨h17, h⟩ := grd_of h
    obtain ⟨h18, h⟩ := grd_of h
    obtain ⟨h19, h⟩ := grd_of h
    obtain ⟨h20, h⟩ := grd_of h
    replace h := Option.some.inj h
    subst h
    exact run (n := 100) (f := 6) (args := [.agg [I a0, I a1, I a2, I a3]]) (orc := [.ret (.lst false 1 t1), .ret (I t2), .ret (I t3), .ret (I t4), .br false]) (r := .tup [.agg [I ((((a0 * a0) + (a1 * a1)) - (a2 * a2)) - (a3 * a3)), I (2 * ((a0 * a3) + (a1 * a2))), I (2 * ((a1 * a3) - (a0 * a2)))], I 0]) (ob := [inI64 (2 * ((a1 * a3) - (a0 * a2))), inI64 ((a1 * a3) - (a0 * a2)), inI64 (a0 * a2), inI64 (a1 * a3), inI64 (2 * ((a0 * a3) + (a1 * a2))), inI64 ((a0 * a3) + (a1 * a2)), inI64 (a1 * a2), inI64 (a0 * a3), inI64 ((((a0 * a0) + (a1 * a1)) - (a2 * a2)) - (a3 * a3)), inI64 (a3 * a3), inI64 (((a0 * a0) + (a1 * a1)) - (a2 * a2)), inI64 (a2 * a2), inI64 ((a0 * a0) + (a1 * a1)), inI64 (a1 * a1), inI64 (a0 * a0), (t4 != 0) = false, Computes cx 32 [.lst true 1 [I t2, I t3]] (I t4), Computes cx 36 [B ((a0 == 0) && ((a1 == 0) && ((a2 == 0) && ((a3 == 0) && true)))), I 6] (I t3), Computes cx 32 [.lst false 1 t1] (I t2), Computes cx 33 [.lst true 1 [I a0, I a1, I a2, I a3], .fn (.func 34) [] []] (.lst false 1 t1)]) (by kernel_rfl) ⟨h20, h19, h18, h17, h16, h15, h14, h13, h12, h11, h10, h9, h8, h7, h6, (nef h5), ((c_sun_first h4).le (.cons (.full _ _ _) (.nil)) (.refl _)), (c_sun_when h3), (c_sun_first h2), ((c_sun_mapped_g h1).le (.cons (.full _ _ _) (.cons (.refl _) (.nil))) (.refl _)), trivial⟩
  · replace h := ite_f h h5
    replace h := Option.some.inj h
    subst h
    exact run (n := 100) (f := 6) (args := [.agg [I a0, I a1, I a2, I a3]]) (orc := [.ret (.lst false 1 t1), .ret (I t2), .ret (I t3), .ret (I t4), .br true]) (r := .tup [.agg [I 0, I 0, I 0], I t4]) (ob := [(t4 != 0) = true, Computes cx 32 [.lst true 1 [I t2, I t3]] (I t4), Computes cx 36 [B ((a0 == 0) && ((a1 == 0) && ((a2 == 0) && ((a3 == 0) && true)))), I 6] (I t3), Computes cx 32 [.lst false 1 t1] (I t2), Computes cx 33 [.lst true 1 [I a0, I a1, I a2, I a3], .fn (.func 34) [] []] (.lst false 1 t1)]) (by kernel_rfl) ⟨(net h5), ((c_sun_first h4).le (.cons (.full _ _ _) (.nil)) (.refl _)), (c_sun_when h3), (c_sun_first h2), ((c_sun_mapped_g h1).le (.cons (.full _ _ _) (.cons (.refl _) (.nil))) (.refl _)), trivial⟩
/- spillage/sun.sign: I a0 -/
def F_sun_sign (n : Nat) (a0 : Int) : Option (Int) :=
  if a0 > 0 then
    some 1
  else
  if a0 < 0 then
    some (-1)
  else
  some 0
theorem c_sun_sign {n : Nat} {a0 : Int} {r : Int} (h : F_sun_sign n a0 = some r) : Computes cx 54 [I a0] (I r) := by
  unfold F_sun_sign at h
  by_cases h1 : a0 > 0
  · replace h := ite_t h h1
    replace h := Option.some.inj h
    subst h
    exact run (n := 100) (f := 54) (args := [I a0]) (orc := [.br true]) (r := I 1) (ob := [(decide (a0 > 0)) = true]) (by kernel_rfl) ⟨(decide_eq_true h1), trivial⟩
  · replace h := ite_f h h1
    by_cases h2 : a0 < 0
    · replace h := ite_t h h2
      replace h := Option.some.inj h
      subst h
      exact run (n := 100) (f := 54) (args := [I a0]) (orc := [.br false, .br true]) (r := I (-1)) (ob := [(decide (a0 < 0)) = true, (decide (a0 > 0)) = false]) (by kernel_rfl) ⟨(decide_eq_true h2), (decide_eq_false h1), trivial⟩
    · replace h := ite_f h h2
      replace h := Option.some.inj h
      subst h
      exact run (n := 100) (f := 54) (args := [I a0]) (orc := [.br false, .br false]) (r := I 0) (ob := [(decide (a0 < 0)) = false, (decide (a0 > 0)) = false]) (by kernel_rfl) ⟨(decide_eq_false h2), (decide_eq_false h1), trivial⟩
/- spillage/sun.ratio: I a0, I a1 -/
def F_sun_ratio (n : Nat) (a0 : Int) (a1 : Int) : Option (Int × Int) :=
  if a1 < 0 then
    (F_sun_common n (IntKind.wrap .i64 (0 - a0)) (IntKind.wrap .i64 (0 - a1))).bind fun t2 =>
    if t2 ≠ 0 then
    if inI64 (Int.tdiv (IntKind.wrap .i64 (0 - a0)) t2) then
    if inI64 (Int.tdiv (IntKind.wrap .i64 (0 - a1)) t2) then
    some ((Int.tdiv (IntKind.wrap .i64 (0 - a0)) t2), (Int.tdiv (IntKind.wrap .i64 (0 - a1)) t2))
    else none
    else none
    else none
  else
  (F_sun_common n a0 a1).bind fun t2 =>
  if t2 ≠ 0 then
  if inI64 (Int.tdiv a0 t2) then
  if inI64 (Int.tdiv a1 t2) then
  some ((Int.tdiv a0 t2), (Int.tdiv a1 t2))
  else none
  else none
  else none
theorem c_sun_ratio {n : Nat} {a0 : Int} {a1 : Int} {r : Int × Int} (h : F_sun_ratio n a0 a1 = some r) : Computes cx 55 [I a0, I a1] (.agg [I r.1, I r.2]) := by
  unfold F_sun_ratio at h
  by_cases h1 : a1 < 0
  · replace h := ite_t h h1
    obtain ⟨t2, h2, h⟩ := bnd_of h
    obtain ⟨h3, h⟩ := grd_of h
    obtain ⟨h4, h⟩ := grd_of h
    obtain ⟨h5, h⟩ := grd_of h
    replace h := Option.some.inj h
    subst h
    exact run (n := 100) (f := 55) (args := [I a0, I a1]) (orc := [.br true, .ret (I t2)]) (r := .agg [I (Int.tdiv (IntKind.wrap .i64 (0 - a0)) t2), I (Int.tdiv (IntKind.wrap .i64 (0 - a1)) t2)]) (ob := [t2 ≠ 0, inI64 (Int.tdiv (IntKind.wrap .i64 (0 - a1)) t2), t2 ≠ 0, inI64 (Int.tdiv (IntKind.wrap .i64 (0 - a0)) t2), Computes cx 80 [I (IntKind.wrap .i64 (0 - a0)), I (IntKind.wrap .i64 (0 - a1))] (I t2), (decide (a1 < 0)) = true]) (by kernel_rfl) ⟨h3, h5, h3, h4, (c_sun_common h2), (decide_eq_true h1), trivial⟩
  · replace h := ite_f h h1
    obtain ⟨t2, h2, h⟩ := bnd_of h
    obtain ⟨h3, h⟩ := grd_of h
    obtain ⟨h4, h⟩ := grd_of h
    obtain ⟨h5, h⟩ := grd_of h
    replace h := Option.some.inj h
    subst h
    exact run (n := 100) (f := 55) (args := [I a0, I a1]) (orc := [.br false, .ret (I t2)]) (r := .agg [I (Int.tdiv a0 t2), I (Int.tdiv a1 t2)]) (ob := [t2 ≠ 0, inI64 (Int.tdiv a1 t2), t2 ≠ 0, inI64 (Int.tdiv a0 t2), Computes cx 80 [I a0, I a1] (I t2), (decide (a1 < 0)) = false]) (by kernel_rfl) ⟨h3, h5, h3, h4, (c_sun_common h2), (decide_eq_false h1), trivial⟩
/- spillage/sun.Cosine: .agg [I a0, I a1, I a2], .agg [I a3, I a4, I a5] -/
def F_sun_Cosine (n : Nat) (a0 : Int) (a1 : Int) (a2 : Int) (a3 : Int) (a4 : Int) (a5 : Int) : Option (Int × Int × Int × Int) :=
  (F_sun_CheckRay_3 n a0 a1 a2).bind fun t1 =>
  (F_sun_CheckRay_3 n a3 a4 a5).bind fun t2 =>
  (F_sun_first n ([I t1, I t2])).bind fun t3 =>
  if t3 = 0 then
    (F_sun_dot_4 n a0 a1 a2 a3 a4 a5).bind fun t5 =>
    (F_sun_sign n t5).bind fun t6 =>
    if inI64 (t5 * t5) then
    (F_sun_dot_4 n a0 a1 a2 a0 a1 a2).bind fun t8 =>
    (F_sun_dot_4 n a3 a4 a5 a3 a4 a5).bind fun t9 =>
    if inI64 (t8 * t9) then
    (F_sun_ratio n (t5 * t5) (t8 * t9)).bind fun t11 =>
    some (t6, t11.1, t11.2, 0)
    else none
    else none
  else
  some (0, 0, 0, t3)
theorem c_sun_Cosine {n : Nat} {a0 : Int} {a1 : Int} {a2 : Int} {a3 : Int} {a4 : Int} {a5 : Int} {r : Int × Int × Int × Int} (h : F_sun_Cosine n a0 a1 a2 a3 a4 a5 = some r) : Computes cx 13 [.agg [I a0, I a1, I a2], .agg [I a3, I a4, I a5]] (.tup [I r.1, .agg [I r.2.1, I r.2.2.1], I r.2.2.2]) := by
  unfold F_sun_Cosine at h
  obtain ⟨t1, h1, h⟩ := bnd_of h
  obtain ⟨t2, h2, h⟩ := bnd_of h
  obtain ⟨t3, h3, h⟩ := bnd_of h
  by_cases h4 : t3 = 0
  · replace h := ite_t h h4
    obtain ⟨t5, h5, h⟩ := bnd_of h
    obtain ⟨t6, h6, h⟩ := bnd_of h
    obtain ⟨h7, h⟩ := grd_of h
    obtain ⟨t8, h8, h⟩ := bnd_of h
    obtain ⟨t9, h9, h⟩ := bnd_of h
    obtain ⟨h10, h⟩ := grd_of h
    obtain ⟨t11, h11, h⟩ := bnd_of h
    replace h := Option.some.inj h
    subst h
    exact run (n := 100) (f := 13) (args := [.agg [I a0, I a1, I a2], .agg [I a3, I a4, I a5]]) (orc := [.ret (I t1), .ret (I t2), .ret (I t3), .br false, .ret (I t5), .ret (I t6), .ret (I t8), .ret (I t9), .ret (.agg [I t11.1, I t11.2])]) (r := .tup [I t6, .agg [I t11.1, I t11.2], I 0]) (ob := [Computes cx 55 [I (t5 * t5), I (t8 * t9)] (.agg [I t11.1, I t11.2]), inI64 (t8 * t9), Computes cx 53 [.agg [I a3, I a4, I a5], .agg [I a3, I a4, I a5]] (I t9), Computes cx 53 [.agg [I a0, I a1, I a2], .agg [I a0, I a1, I a2]] (I t8), inI64 (t5 * t5), Computes cx 54 [I t5] (I t6), Computes cx 53 [.agg [I a0, I a1, I a2], .agg [I a3, I a4, I a5]] (I t5), (t3 != 0) = false, Computes cx 32 [.lst true 1 [I t1, I t2]] (I t3), Computes cx 42 [.agg [I a3, I a4, I a5]] (I t2), Computes cx 42 [.agg [I a0, I a1, I a2]] (I t1)]) (by kernel_rfl) ⟨(c_sun_ratio h11), h10, (c_sun_dot_4 h9), (c_sun_dot_4 h8), h7, (c_sun_sign h6), (c_sun_dot_4 h5), (nef h4), ((c_sun_first h3).le (.cons (.full _ _ _) (.nil)) (.refl _)), (c_sun_CheckRay_3 h2), (c_sun_CheckRay_3 h1), trivial⟩
  · replace h := ite_f h h4
    replace h := Option.some.inj h
    subst h
    exact run (n := 100) (f := 13) (args := [.agg [I a0, I a1, I a2], .agg [I a3, I a4, I a5]]) (orc := [.ret (I t1), .ret (I t2), .ret (I t3), .br true]) (r := .tup [I 0, .agg [I 0, I 0], I t3]) (ob := [(t3 != 0) = true, Computes cx 32 [.lst true 1 [I t1, I t2]] (I t3), Computes cx 42 [.agg [I a3, I a4, I a5]] (I t2), Computes cx 42 [.agg [I a0, I a1, I a2]] (I t1)]) (by kernel_rfl) ⟨(net h4), ((c_sun_first h3).le (.cons (.full _ _ _) (.nil)) (.refl _)), (c_sun_CheckRay_3 h2), (c_sun_CheckRay_3 h1), trivial⟩
/- spillage/spillagetop.thistleAlong: .agg [I a0, I a1, I a2], .agg [I a3, I a4, I a5], I a6 -/
def F_top_thistleAlong (n : Nat) (a0 : Int) (a1 : Int) (a2 : Int) (a3 : Int) (a4 : Int) (a5 : Int) (a6 : Int) : Option (Int × Int × Int) :=
  if inI64 (a6 * a3) then
  if inI64 (a0 + (a6 * a3)) then
  if inI64 (a6 * a4) then
  if inI64 (a1 + (a6 * a4)) then
  if inI64 (a6 * a5) then
  if inI64 (a2 + (a6 * a5)) then
  some ((a0 + (a6 * a3)), (a1 + (a6 * a4)), (a2 + (a6 * a5)))
  else none
  else none
  else none
  else none
  else none
  else none
theorem c_top_thistleAlong {n : Nat} {a0 : Int} {a1 : Int} {a2 : Int} {a3 : Int} {a4 : Int} {a5 : Int} {a6 : Int} {r : Int × Int × Int} (h : F_top_thistleAlong n a0 a1 a2 a3 a4 a5 a6 = some r) : Computes cx 15 [.agg [I a0, I a1, I a2], .agg [I a3, I a4, I a5], I a6] (.agg [I r.1, I r.2.1, I r.2.2]) := by
  unfold F_top_thistleAlong at h
  obtain ⟨h1, h⟩ := grd_of h
  obtain ⟨h2, h⟩ := grd_of h
  obtain ⟨h3, h⟩ := grd_of h
  obtain ⟨h4, h⟩ := grd_of h
  obtain ⟨h5, h⟩ := grd_of h
  obtain ⟨h6, h⟩ := grd_of h
  replace h := Option.some.inj h
  subst h
  exact run (n := 100) (f := 15) (args := [.agg [I a0, I a1, I a2], .agg [I a3, I a4, I a5], I a6]) (orc := []) (r := .agg [I (a0 + (a6 * a3)), I (a1 + (a6 * a4)), I (a2 + (a6 * a5))]) (ob := [inI64 (a2 + (a6 * a5)), inI64 (a6 * a5), inI64 (a1 + (a6 * a4)), inI64 (a6 * a4), inI64 (a0 + (a6 * a3)), inI64 (a6 * a3)]) (by kernel_rfl) ⟨h6, h5, h4, h3, h2, h1, trivial⟩
/- spillage/spillageref02.Reduced: .agg [I a0, I a1, I a2] -/
def F_ref02_Reduced (n : Nat) (a0 : Int) (a1 : Int) (a2 : Int) : Option (Int × Int × Int) :=
  (F_ref01_Divisor n a2 0).bind fun t1 =>
  if a0 = 0 then
    if a1 = 0 then
      if t1 ≠ 0 then
      if inI64 (Int.tdiv a0 t1) then
      if inI64 (Int.tdiv a1 t1) then
      if inI64 (Int.tdiv a2 t1) then
      some ((Int.tdiv a0 t1), (Int.tdiv a1 t1), (Int.tdiv a2 t1))
      else none
      else none
      else none
      else none
    else
    (F_ref01_Divisor n a0 a1).bind fun t4 =>
    (F_ref01_Divisor n t4 a2).bind fun t5 =>
    if t5 ≠ 0 then
    if inI64 (Int.tdiv a0 t5) then
    if inI64 (Int.tdiv a1 t5) then
    if inI64 (Int.tdiv a2 t5) then
    some ((Int.tdiv a0 t5), (Int.tdiv a1 t5), (Int.tdiv a2 t5))
    else none
    else none
    else none
    else none
  else
  (F_ref01_Divisor n a0 a1).bind fun t3 =>
  (F_ref01_Divisor n t3 a2).bind fun t4 =>
  if t4 ≠ 0 then
  if inI64 (Int.tdiv a0 t4) then
  if inI64 (Int.tdiv a1 t4) then
  if inI64 (Int.tdiv a2 t4) then
  some ((Int.tdiv a0 t4), (Int.tdiv a1 t4), (Int.tdiv a2 t4))
  else none
  else none
  else none
  else none
theorem c_ref02_Reduced {n : Nat} {a0 : Int} {a1 : Int} {a2 : Int} {r : Int × Int × Int} (h : F_ref02_Reduced n a0 a1 a2 = some r) : Computes cx 47 [.agg [I a0, I a1, I a2]] (.agg [I r.1, I r.2.1, I r.2.2]) := by
  unfold F_ref02_Reduced at h
  obtain ⟨t1, h1, h⟩ := bnd_of h
  by_cases h2 : a0 = 0
  · replace h := ite_t h h2
    by_cases h3 : a1 = 0
    · replace h := ite_t h h3
      obtain ⟨h4, h⟩ := grd_of h
      obtain ⟨h5, h⟩ := grd_of h
      obtain ⟨h6, h⟩ := grd_of h
      obtain ⟨h7, h⟩ := grd_of h
      replace h := Option.some.inj h
      subst h
      exact run (n := 100) (f := 47) (args := [.agg [I a0, I a1, I a2]]) (orc := [.ret (I t1), .br false, .br false]) (r := .agg [I (Int.tdiv a0 t1), I (Int.tdiv a1 t1), I (Int.tdiv a2 t1)]) (ob := [t1 ≠ 0, inI64 (Int.tdiv a2 t1), t1 ≠ 0, inI64 (Int.tdiv a1 t1), t1 ≠ 0, inI64 (Int.tdiv a0 t1), (a1 != 0) = false, (a0 != 0) = false, Computes cx 74 [I a2, I 0] (I t1)]) (by kernel_rfl) ⟨h4, h7, h4, h6, h4, h5, (nef h3), (nef h2), (c_ref01_Divisor h1), trivial⟩
    · replace h := ite_f h h3
      obtain ⟨t4, h4, h⟩ := bnd_of h
      obtain ⟨t5, h5, h⟩ := bnd_of h
      obtain ⟨h6, h⟩ := grd_of h
      obtain ⟨h7, h⟩ := grd_of h
      obtain ⟨h8, h⟩ := grd_of h
      obtain ⟨h9, h⟩ := grd_of h
      replace h := Option.some.inj h
      subst h
      exact run (n := 100) (f := 47) (args := [.agg [I a0, I a1, I a2]]) (orc := [.ret (I t1), .br false, .br true, .ret (I t4), .ret (I t5)]) (r := .agg [I (Int.tdiv a0 t5), I (Int.tdiv a1 t5), I (Int.tdiv a2 t5)]) (ob := [t5 ≠ 0, inI64 (Int.tdiv a2 t5), t5 ≠ 0, inI64 (Int.tdiv a1 t5), t5 ≠ 0, inI64 (Int.tdiv a0 t5), Computes cx 74 [I t4, I a2] (I t5), Computes cx 74 [I a0, I a1] (I t4), (a1 != 0) = true, (a0 != 0) = false, Computes cx 74 [I a2, I 0] (I t1)]) (by kernel_rfl) ⟨h6, h9, h6, h8, h6, h7, (c_ref01_Divisor h5), (c_ref01_Divisor h4), (net h3), (nef h2), (c_ref01_Divisor h1), trivial⟩
  · replace h := ite_f h h2
    obtain ⟨t3, h3, h⟩ := bnd_of h
    obtain ⟨t4, h4, h⟩ := bnd_of h
    obtain ⟨h5, h⟩ := grd_of h
    obtain ⟨h6, h⟩ := grd_of h
    obtain ⟨h7, h⟩ := grd_of h
    obtain ⟨h8, h⟩ := grd_of h
    replace h := Option.some.inj h
    subst h
    exact run (n := 100) (f := 47) (args := [.agg [I a0, I a1, I a2]]) (orc := [.ret (I t1), .br true, .no, .ret (I t3), .ret (I t4)]) (r := .agg [I (Int.tdiv a0 t4), I (Int.tdiv a1 t4), I (Int.tdiv a2 t4)]) (ob := [t4 ≠ 0, inI64 (Int.tdiv a2 t4), t4 ≠ 0, inI64 (Int.tdiv a1 t4), t4 ≠ 0, inI64 (Int.tdiv a0 t4), Computes cx 74 [I t3, I a2] (I t4), Computes cx 74 [I a0, I a1] (I t3), (a0 != 0) = true, Computes cx 74 [I a2, I 0] (I t1)]) (by kernel_rfl) ⟨h5, h8, h5, h7, h5, h6, (c_ref01_Divisor h4), (c_ref01_Divisor h3), (net h2), (c_ref01_Divisor h1), trivial⟩
/- spillage/spillageref02.Times: .agg [I a0, I a1, I a2], I a3 -/
def F_ref02_Times (n : Nat) (a0 : Int) (a1 : Int) (a2 : Int) (a3 : Int) : Option (Int × Int × Int) :=
  if inI64 (a0 * a3) then
  if inI64 (a1 * a3) then
  if inI64 (a2 * a3) then
  some ((a0 * a3), (a1 * a3), (a2 * a3))
  else none
  else none
  else none
theorem c_ref02_Times {n : Nat} {a0 : Int} {a1 : Int} {a2 : Int} {a3 : Int} {r : Int × Int × Int} (h : F_ref02_Times n a0 a1 a2 a3 = some r) : Computes cx 48 [.agg [I a0, I a1, I a2], I a3] (.agg [I r.1, I r.2.1, I r.2.2]) := by
  unfold F_ref02_Times at h
  obtain ⟨h1, h⟩ := grd_of h
  obtain ⟨h2, h⟩ := grd_of h
  obtain ⟨h3, h⟩ := grd_of h
  replace h := Option.some.inj h
  subst h
  exact run (n := 100) (f := 48) (args := [.agg [I a0, I a1, I a2], I a3]) (orc := []) (r := .agg [I (a0 * a3), I (a1 * a3), I (a2 * a3)]) (ob := [inI64 (a2 * a3), inI64 (a1 * a3), inI64 (a0 * a3)]) (by kernel_rfl) ⟨h3, h2, h1, trivial⟩
/- spillage/spillageref02.Opposite: .agg [I a0, I a1, I a2], .agg [I a3, I a4, I a5] -/
def F_ref02_Opposite (n : Nat) (a0 : Int) (a1 : Int) (a2 : Int) (a3 : Int) (a4 : Int) (a5 : Int) : Option (Bool) :=
  (F_ref02_Reduced n a0 a1 a2).bind fun t1 =>
  (F_ref02_Reduced n a3 a4 a5).bind fun t2 =>
  (F_ref02_Times n t2.1 t2.2.1 t2.2.2 (-1)).bind fun t3 =>
  some ((t1.1 == t3.1) && ((t1.2.1 == t3.2.1) && ((t1.2.2 == t3.2.2) && true)))
theorem c_ref02_Opposite {n : Nat} {a0 : Int} {a1 : Int} {a2 : Int} {a3 : Int} {a4 : Int} {a5 : Int} {r : Bool} (h : F_ref02_Opposite n a0 a1 a2 a3 a4 a5 = some r) : Computes cx 10 [.agg [I a0, I a1, I a2], .agg [I a3, I a4, I a5]] (B r) := by
  unfold F_ref02_Opposite at h
  obtain ⟨t1, h1, h⟩ := bnd_of h
  obtain ⟨t2, h2, h⟩ := bnd_of h
  obtain ⟨t3, h3, h⟩ := bnd_of h
  replace h := Option.some.inj h
  subst h
  exact run (n := 100) (f := 10) (args := [.agg [I a0, I a1, I a2], .agg [I a3, I a4, I a5]]) (orc := [.ret (.agg [I t1.1, I t1.2.1, I t1.2.2]), .ret (.agg [I t2.1, I t2.2.1, I t2.2.2]), .ret (.agg [I t3.1, I t3.2.1, I t3.2.2])]) (r := B ((t1.1 == t3.1) && ((t1.2.1 == t3.2.1) && ((t1.2.2 == t3.2.2) && true)))) (ob := [Computes cx 48 [.agg [I t2.1, I t2.2.1, I t2.2.2], I (-1)] (.agg [I t3.1, I t3.2.1, I t3.2.2]), Computes cx 47 [.agg [I a3, I a4, I a5]] (.agg [I t2.1, I t2.2.1, I t2.2.2]), Computes cx 47 [.agg [I a0, I a1, I a2]] (.agg [I t1.1, I t1.2.1, I t1.2.2])]) (by kernel_rfl) ⟨(c_ref02_Times h3), (c_ref02_Reduced h2), (c_ref02_Reduced h1), trivial⟩
theorem e_top_TopThistleReflected_0 (a0 : Int) (a1 : Int) (a2 : Int) (a3 : Int) (a4 : Int) (a5 : Int) (a6 : Int) (a7 : Int) (a8 : Int) (t17 : Bool) : runFn true 100 cx 3 [.agg [.v (.int .i8 a0), .v (.int .i8 a1), .v (.int .i8 a2), .v (.int .i8 a3)], .agg [.v (.int .i8 a4), .v (.int .i8 a5), .v (.int .i8 a6), .v (.int .i8 a7)], .v (.int .u8 a8)] [.no, .no, .no, .no, .no, .no, .no, .no, .no, .no, .ret (B t17), .br false, .br true, .no, .ret (B t17)] = some (B t17, [Computes cx 5 [] (B t17), (((((0 + ((Int.tmod (IntKind.wrap .i64 a0) 4) * (Int.tmod (IntKind.wrap .i64 a0) 4))) + ((Int.tmod (IntKind.wrap .i64 a1) 4) * (Int.tmod (IntKind.wrap .i64 a1) 4))) + ((Int.tmod (IntKind.wrap .i64 a2) 4) * (Int.tmod (IntKind.wrap .i64 a2) 4))) + ((Int.tmod (IntKind.wrap .i64 a3) 4) * (Int.tmod (IntKind.wrap .i64 a3) 4))) == 0) = true, (!t17) = false, Computes cx 5 [] (B t17), inI64 4, inI64 ((((0 + ((Int.tmod (IntKind.wrap .i64 a4) 4) * (Int.tmod (IntKind.wrap .i64 a4) 4))) + ((Int.tmod (IntKind.wrap .i64 a5) 4) * (Int.tmod (IntKind.wrap .i64 a5) 4))) + ((Int.tmod (IntKind.wrap .i64 a6) 4) * (Int.tmod (IntKind.wrap .i64 a6) 4))) + ((Int.tmod (IntKind.wrap .i64 a7) 4) * (Int.tmod (IntKind.wrap .i64 a7) 4))), inI64 ((Int.tmod (IntKind.wrap .i64 a7) 4) * (Int.tmod (IntKind.wrap .i64 a7) 4)), inI64 ((((0 + ((Int.tmod (IntKind.wrap .i64 a0) 4) * (Int.tmod (IntKind.wrap .i64 a0) 4))) + ((Int.tmod (IntKind.wrap .i64 a1) 4) * (Int.tmod (IntKind.wrap .i64 a1) 4))) + ((Int.tmod (IntKind.wrap .i64 a2) 4) * (Int.tmod (IntKind.wrap .i64 a2) 4))) + ((Int.tmod (IntKind.wrap .i64 a3) 4) * (Int.tmod (IntKind.wrap .i64 a3) 4))), inI64 ((Int.tmod (IntKind.wrap .i64 a3) 4) * (Int.tmod (IntKind.wrap .i64 a3) 4)), (4 : Int) ≠ 0, (4 : Int) ≠ 0, inI64 3, inI64 (((0 + ((Int.tmod (IntKind.wrap .i64 a4) 4) * (Int.tmod (IntKind.wrap .i64 a4) 4))) + ((Int.tmod (IntKind.wrap .i64 a5) 4) * (Int.tmod (IntKind.wrap .i64 a5) 4))) + ((Int.tmod (IntKind.wrap .i64 a6) 4) * (Int.tmod (IntKind.wrap .i64 a6) 4))), inI64 ((Int.tmod (IntKind.wrap .i64 a6) 4) * (Int.tmod (IntKind.wrap .i64 a6) 4)), inI64 (((0 + ((Int.tmod (IntKind.wrap .i64 a0) 4) * (Int.tmod (IntKind.wrap .i64 a0) 4))) + ((Int.tmod (IntKind.wrap .i64 a1) 4) * (Int.tmod (IntKind.wrap .i64 a1) 4))) + ((Int.tmod (IntKind.wrap .i64 a2) 4) * (Int.tmod (IntKind.wrap .i64 a2) 4))), inI64 ((Int.tmod (IntKind.wrap .i64 a2) 4) * (Int.tmod (IntKind.wrap .i64 a2) 4)), (4 : Int) ≠ 0, (4 : Int) ≠ 0, inI64 2, inI64 ((0 + ((Int.tmod (IntKind.wrap .i64 a4) 4) * (Int.tmod (IntKind.wrap .i64 a4) 4))) + ((Int.tmod (IntKind.wrap .i64 a5) 4) * (Int.tmod (IntKind.wrap .i64 a5) 4))), inI64 ((Int.tmod (IntKind.wrap .i64 a5) 4) * (Int.tmod (IntKind.wrap .i64 a5) 4)), inI64 ((0 + ((Int.tmod (IntKind.wrap .i64 a0) 4) * (Int.tmod (IntKind.wrap .i64 a0) 4))) + ((Int.tmod (IntKind.wrap .i64 a1) 4) * (Int.tmod (IntKind.wrap .i64 a1) 4))), inI64 ((Int.tmod (IntKind.wrap .i64 a1) 4) * (Int.tmod (IntKind.wrap .i64 a1) 4)), (4 : Int) ≠ 0, (4 : Int) ≠ 0, inI64 1, inI64 (0 + ((Int.tmod (IntKind.wrap .i64 a4) 4) * (Int.tmod (IntKind.wrap .i64 a4) 4))), inI64 ((Int.tmod (IntKind.wrap .i64 a4) 4) * (Int.tmod (IntKind.wrap .i64 a4) 4)), inI64 (0 + ((Int.tmod (IntKind.wrap .i64 a0) 4) * (Int.tmod (IntKind.wrap .i64 a0) 4))), inI64 ((Int.tmod (IntKind.wrap .i64 a0) 4) * (Int.tmod (IntKind.wrap .i64 a0) 4)), (4 : Int) ≠ 0, (4 : Int) ≠ 0]) := by kernel_rfl
theorem e_top_TopThistleReflected_1 (a0 : Int) (a1 : Int) (a2 : Int) (a3 : Int) (a4 : Int) (a5 : Int) (a6 : Int) (a7 : Int) (a8 : Int) (t17 : Bool) : runFn true 100 cx 3 [.agg [.v (.int .i8 a0), .v (.int .i8 a1), .v (.int .i8 a2), .v (.int .i8 a3)], .agg [.v (.int .i8 a4), .v (.int .i8 a5), .v (.int .i8 a6), .v (.int .i8 a7)], .v (.int .u8 a8)] [.no, .no, .no, .no, .no, .no, .no, .no, .no, .no, .ret (B t17), .br false, .br false, .br true, .ret (B t17)] = some (B t17, [Computes cx 5 [] (B t17), (((((0 + ((Int.tmod (IntKind.wrap .i64 a4) 4) * (Int.tmod (IntKind.wrap .i64 a4) 4))) + ((Int.tmod (IntKind.wrap .i64 a5) 4) * (Int.tmod (IntKind.wrap .i64 a5) 4))) + ((Int.tmod (IntKind.wrap .i64 a6) 4) * (Int.tmod (IntKind.wrap .i64 a6) 4))) + ((Int.tmod (IntKind.wrap .i64 a7) 4) * (Int.tmod (IntKind.wrap .i64 a7) 4))) == 0) = true, (((((0 + ((Int.tmod (IntKind.wrap .i64 a0) 4) * (Int.tmod (IntKind.wrap .i64 a0) 4))) + ((Int.tmod (IntKind.wrap .i64 a1) 4) * (Int.tmod (IntKind.wrap .i64 a1) 4))) + ((Int.tmod (IntKind.wrap .i64 a2) 4) * (Int.tmod (IntKind.wrap .i64 a2) 4))) + ((Int.tmod (IntKind.wrap .i64 a3) 4) * (Int.tmod (IntKind.wrap .i64 a3) 4))) == 0) = false, (!t17) = false, Computes cx 5 [] (B t17), inI64 4, inI64 ((((0 + ((Int.tmod (IntKind.wrap .i64 a4) 4) * (Int.tmod (IntKind.wrap .i64 a4) 4))) + ((Int.tmod (IntKind.wrap .i64 a5) 4) * (Int.tmod (IntKind.wrap .i64 a5) 4))) + ((Int.tmod (IntKind.wrap .i64 a6) 4) * (Int.tmod (IntKind.wrap .i64 a6) 4))) + ((Int.tmod (IntKind.wrap .i64 a7) 4) * (Int.tmod (IntKind.wrap .i64 a7) 4))), inI64 ((Int.tmod (IntKind.wrap .i64 a7) 4) * (Int.tmod (IntKind.wrap .i64 a7) 4)), inI64 ((((0 + ((Int.tmod (IntKind.wrap .i64 a0) 4) * (Int.tmod (IntKind.wrap .i64 a0) 4))) + ((Int.tmod (IntKind.wrap .i64 a1) 4) * (Int.tmod (IntKind.wrap .i64 a1) 4))) + ((Int.tmod (IntKind.wrap .i64 a2) 4) * (Int.tmod (IntKind.wrap .i64 a2) 4))) + ((Int.tmod (IntKind.wrap .i64 a3) 4) * (Int.tmod (IntKind.wrap .i64 a3) 4))), inI64 ((Int.tmod (IntKind.wrap .i64 a3) 4) * (Int.tmod (IntKind.wrap .i64 a3) 4)), (4 : Int) ≠ 0, (4 : Int) ≠ 0, inI64 3, inI64 (((0 + ((Int.tmod (IntKind.wrap .i64 a4) 4) * (Int.tmod (IntKind.wrap .i64 a4) 4))) + ((Int.tmod (IntKind.wrap .i64 a5) 4) * (Int.tmod (IntKind.wrap .i64 a5) 4))) + ((Int.tmod (IntKind.wrap .i64 a6) 4) * (Int.tmod (IntKind.wrap .i64 a6) 4))), inI64 ((Int.tmod (IntKind.wrap .i64 a6) 4) * (Int.tmod (IntKind.wrap .i64 a6) 4)), inI64 (((0 + ((Int.tmod (IntKind.wrap .i64 a0) 4) * (Int.tmod (IntKind.wrap .i64 a0) 4))) + ((Int.tmod (IntKind.wrap .i64 a1) 4) * (Int.tmod (IntKind.wrap .i64 a1) 4))) + ((Int.tmod (IntKind.wrap .i64 a2) 4) * (Int.tmod (IntKind.wrap .i64 a2) 4))), inI64 ((Int.tmod (IntKind.wrap .i64 a2) 4) * (Int.tmod (IntKind.wrap .i64 a2) 4)), (4 : Int) ≠ 0, (4 : Int) ≠ 0, inI64 2, inI64 ((0 + ((Int.tmod (IntKind.wrap .i64 a4) 4) * (Int.tmod (IntKind.wrap .i64 a4) 4))) + ((Int.tmod (IntKind.wrap .i64 a5) 4) * (Int.tmod (IntKind.wrap .i64 a5) 4))), inI64 ((Int.tmod (IntKind.wrap .i64 a5) 4) * (Int.tmod (IntKind.wrap .i64 a5) 4)), inI64 ((0 + ((Int.tmod (IntKind.wrap .i64 a0) 4) * (Int.tmod (IntKind.wrap .i64 a0) 4))) + ((Int.tmod (IntKind.wrap .i64 a1) 4) * (Int.tmod (IntKind.wrap .i64 a1) 4))), inI64 ((Int.tmod (IntKind.wrap .i64 a1) 4) * (Int.tmod (IntKind.wrap .i64 a1) 4)), (4 : Int) ≠ 0, (4 : Int) ≠ 0, inI64 1, inI64 (0 + ((Int.tmod (IntKind.wrap .i64 a4) 4) * (Int.tmod (IntKind.wrap .i64 a4) 4))), inI64 ((Int.tmod (IntKind.wrap .i64 a4) 4) * (Int.tmod (IntKind.wrap .i64 a4) 4)), inI64 (0 + ((Int.tmod (IntKind.wrap .i64 a0) 4) * (Int.tmod (IntKind.wrap .i64 a0) 4))), inI64 ((Int.tmod (IntKind.wrap .i64 a0) 4) * (Int.tmod (IntKind.wrap .i64 a0) 4)), (4 : Int) ≠ 0, (4 : Int) ≠ 0]) := by kernel_rfl
theorem e_top_TopThistleReflected_2 (a0 : Int) (a1 : Int) (a2 : Int) (a3 : Int) (a4 : Int) (a5 : Int) (a6 : Int) (a7 : Int) (a8 : Int) (t17 : Bool) (t21 : Int × Int × Int × Int) (t22 : Int × Int × Int × Int) (t25 : Int) (t27 : Int) (t29 : Int) (t31 : Int) (t33 : Int × Int × Int × Int) (t35 : Int × Int × Int × Int × Int × Int × Int) (t37 : Int) (t39 : Int × Int × Int × Int) (t40 : Int × Int × Int × Int) (t41 : Int × Int × Int × Int) (t52 : Int × Int × Int) (t53 : List D) (t54 : Int × Int × Int × Int) (t55 : Int × Int × Int) (t56 : List D) (t57 : Int × Int × Int × Int) (t58 : Int × Int × Int) (t59 : List D) (t60 : Int × Int × Int × Int) (t61 : Int × Int × Int) (t62 : List D) (t63 : Int × Int × Int × Int) : runFn true 100 cx 3 [.agg [.v (.int .i8 a0), .v (.int .i8 a1), .v (.int .i8 a2), .v (.int .i8 a3)], .agg [.v (.int .i8 a4), .v (.int .i8 a5), .v (.int .i8 a6), .v (.int .i8 a7)], .v (.int .u8 a8)] [.no, .no, .no, .no, .no, .no, .no, .no, .no, .no, .ret (B t17), .br false, .br false, .br false, .ret (.tup [.agg [I t21.1, I t21.2.1, I t21.2.2.1], I t21.2.2.2]), .ret (.tup [.agg [I t22.1, I t22.2.1, I t22.2.2.1], I t22.2.2.2]), .br false, .br false, .ret (I t25), .br false, .ret (I t27), .br false, .ret (I t29), .br false, .ret (I t31), .br false, .ret (.tup [.agg [I t33.1, I t33.2.1, I t33.2.2.1], I t33.2.2.2]), .br false, .ret (.tup [.agg [I t35.1, I t35.2.1, I t35.2.2.1, I t35.2.2.2.1, I t35.2.2.2.2.1, I t35.2.2.2.2.2.1], I t35.2.2.2.2.2.2]), .br false, .ret (I t37), .br false, .ret (.tup [I t39.1, .agg [I t39.2.1, I t39.2.2.1], I t39.2.2.2]), .ret (.tup [I t40.1, .agg [I t40.2.1, I t40.2.2.1], I t40.2.2.2]), .ret (.tup [I t41.1, .agg [I t41.2.1, I t41.2.2.1], I t41.2.2.2]), .br false, .br false, .br false, .br false, .br false, .br false, .br false, .br false, .ret (.agg [I t52.1, I t52.2.1, I t52.2.2]), .br true, .ret (.lst false 10 t53), .ret (.tup [.agg [I t54.1, I t54.2.1, I t54.2.2.1], I t54.2.2.2]), .ret (.agg [I t55.1, I t55.2.1, I t55.2.2]), .no, .no, .ret (.lst false 10 t56), .ret (.tup [.agg [I t57.1, I t57.2.1, I t57.2.2.1], I t57.2.2.2]), .ret (.agg [I t58.1, I t58.2.1, I t58.2.2]), .no, .no, .ret (.lst false 10 t59), .ret (.tup [.agg [I t60.1, I t60.2.1, I t60.2.2.1], I t60.2.2.2]), .ret (.agg [I t61.1, I t61.2.1, I t61.2.2]), .no, .no, .ret (.lst false 10 t62), .ret (.tup [.agg [I t63.1, I t63.2.1, I t63.2.2.1], I t63.2.2.2]), .br true, .br true, .br true, .br true, .br true, .br true, .br true, .br true] = some (B ((t63.1 == t54.1) && ((t63.2.1 == t54.2.1) && ((t63.2.2.1 == t54.2.2.1) && true))), [((t60.1 == 1) && ((t60.2.1 == 0) && ((t60.2.2.1 == 0) && true))) = true, ((t57.1 + t57.2.1) == 1) = true, inI64 (t57.1 + t57.2.1), (t57.2.2.1 == 0) = true, ((t54.1 == 0) && ((t54.2.1 == 0) && ((t54.2.2.1 == 1) && true))) = true, (t63.2.2.2 == 0) = true, (t60.2.2.2 == 0) = true, (t57.2.2.2 == 0) = true, (t54.2.2.2 == 0) = true, Computes cx 18 [.lst false 10 t62, I 0, .agg [I t21.1, I t21.2.1, I t21.2.2.1], .agg [I t52.1, I t52.2.1, I t52.2.2], I 1] (.tup [.agg [I t63.1, I t63.2.1, I t63.2.2.1], I t63.2.2.2]), Computes cx 19 [.lst true 10 [.agg [.v (.string ⟨#[109]⟩), I 0, I 0, I 500, I t35.1, I t35.2.1, I t35.2.2.1, I t35.2.2.2.1, I t35.2.2.2.2.1, I t35.2.2.2.2.2.1], .agg [.v (.string ⟨#[98, 101, 104, 105, 110, 100]⟩), I t61.1, I t61.2.1, I t61.2.2, I t35.1, I t35.2.1, I t35.2.2.1, I t35.2.2.2.1, I t35.2.2.2.2.1, I t35.2.2.2.2.2.1]]] (.lst false 10 t62), Computes cx 15 [.agg [I 0, I 0, I 500], .agg [I t33.1, I t33.2.1, I t33.2.2.1], I (-1)] (.agg [I t61.1, I t61.2.1, I t61.2.2]), Computes cx 18 [.lst false 10 t59, I 0, .agg [I t21.1, I t21.2.1, I t21.2.2.1], .agg [I t52.1, I t52.2.1, I t52.2.2], I 1] (.tup [.agg [I t60.1, I t60.2.1, I t60.2.2.1], I t60.2.2.2]), Computes cx 19 [.lst true 10 [.agg [.v (.string ⟨#[109]⟩), I 0, I 0, I 500, I t35.1, I t35.2.1, I t35.2.2.1, I t35.2.2.2.1, I t35.2.2.2.2.1, I t35.2.2.2.2.2.1], .agg [.v (.string ⟨#[115, 104, 97, 100, 101]⟩), I t58.1, I t58.2.1, I t58.2.2, I t35.1, I t35.2.1, I t35.2.2.1, I t35.2.2.2.1, I t35.2.2.2.2.1, I t35.2.2.2.2.2.1]]] (.lst false 10 t59), Computes cx 15 [.agg [I 0, I 0, I 500], .agg [I t21.1, I t21.2.1, I t21.2.2.1], I (1 + (Int.tmod (IntKind.wrap .i64 a8) 20))] (.agg [I t58.1, I t58.2.1, I t58.2.2]), Computes cx 18 [.lst false 10 t56, I 0, .agg [I t21.1, I t21.2.1, I t21.2.2.1], .agg [I t52.1, I t52.2.1, I t52.2.2], I 1] (.tup [.agg [I t57.1, I t57.2.1, I t57.2.2.1], I t57.2.2.2]), Computes cx 19 [.lst true 10 [.agg [.v (.string ⟨#[109]⟩), I 0, I 0, I 500, I t35.1, I t35.2.1, I t35.2.2.1, I t35.2.2.2.1, I t35.2.2.2.2.1, I t35.2.2.2.2.2.1], .agg [.v (.string ⟨#[104, 97, 108, 102]⟩), I t55.1, I t55.2.1, I t55.2.2, I t35.1, I t35.2.1, I t35.2.2.1, I t35.2.2.2.1, I t35.2.2.2.2.1, I t35.2.2.2.2.2.1]]] (.lst false 10 t56), Computes cx 15 [.agg [I 0, I 0, I 500], .agg [I t22.1, I t22.2.1, I t22.2.2.1], I (1 + (Int.tmod (IntKind.wrap .i64 a8) 20))] (.agg [I t55.1, I t55.2.1, I t55.2.2]), Computes cx 18 [.lst false 10 t53, I 0, .agg [I t21.1, I t21.2.1, I t21.2.2.1], .agg [I t52.1, I t52.2.1, I t52.2.2], I 1] (.tup [.agg [I t54.1, I t54.2.1, I t54.2.2.1], I t54.2.2.2]), Computes cx 19 [.lst true 10 [.agg [.v (.string ⟨#[109]⟩), I 0, I 0, I 500, I t35.1, I t35.2.1, I t35.2.2.1, I t35.2.2.2.1, I t35.2.2.2.2.1, I t35.2.2.2.2.2.1]]] (.lst false 10 t53), Computes cx 15 [.agg [I 0, I 0, I 500], .agg [I t22.1, I t22.2.1, I t22.2.2.1], I (2 * (1 + (Int.tmod (IntKind.wrap .i64 a8) 20)))] (.agg [I t52.1, I t52.2.1, I t52.2.2]), inI64 (2 * (1 + (Int.tmod (IntKind.wrap .i64 a8) 20))), inI64 (1 + (Int.tmod (IntKind.wrap .i64 a8) 20)), (20 : Int) ≠ 0, (!((t41.2.1 == t39.2.1) && ((t41.2.2.1 == t39.2.2.1) && true))) = false, (!((t40.2.1 == t39.2.1) && ((t40.2.2.1 == t39.2.2.1) && true))) = false, (t41.1 != 1) = false, (t40.1 != 1) = false, (t39.1 != 1) = false, (t41.2.2.2 != 0) = false, (t40.2.2.2 != 0) = false, (t39.2.2.2 != 0) = false, Computes cx 14 [.agg [.v (.string ⟨#[109]⟩), I 0, I 0, I 500, I t35.1, I t35.2.1, I t35.2.2.1, I t35.2.2.2.1, I t35.2.2.2.2.1, I t35.2.2.2.2.2.1], .agg [I t22.1, I t22.2.1, I t22.2.2.1]] (.tup [I t41.1, .agg [I t41.2.1, I t41.2.2.1], I t41.2.2.2]), Computes cx 14 [.agg [.v (.string ⟨#[109]⟩), I 0, I 0, I 500, I t35.1, I t35.2.1, I t35.2.2.1, I t35.2.2.2.1, I t35.2.2.2.2.1, I t35.2.2.2.2.2.1], .agg [I t21.1, I t21.2.1, I t21.2.2.1]] (.tup [I t40.1, .agg [I t40.2.1, I t40.2.2.1], I t40.2.2.2]), Computes cx 13 [.agg [I t33.1, I t33.2.1, I t33.2.2.1], .agg [I t21.1, I t21.2.1, I t21.2.2.1]] (.tup [I t39.1, .agg [I t39.2.1, I t39.2.2.1], I t39.2.2.2]), (t37 != 0) = false, Computes cx 12 [.agg [.v (.string ⟨#[109]⟩), I 0, I 0, I 500, I t35.1, I t35.2.1, I t35.2.2.1, I t35.2.2.2.1, I t35.2.2.2.2.1, I t35.2.2.2.2.2.1]] (I t37), (t35.2.2.2.2.2.2 != 0) = false, Computes cx 11 [.agg [I t33.1, I t33.2.1, I t33.2.2.1]] (.tup [.agg [I t35.1, I t35.2.1, I t35.2.2.1, I t35.2.2.2.1, I t35.2.2.2.2.1, I t35.2.2.2.2.2.1], I t35.2.2.2.2.2.2]), (t33.2.2.2 != 0) = false, Computes cx 9 [.agg [I t21.1, I t21.2.1, I t21.2.2.1], .agg [I t22.1, I t22.2.1, I t22.2.2.1]] (.tup [.agg [I t33.1, I t33.2.1, I t33.2.2.1], I t33.2.2.2]), (t31 != 0) = false, Computes cx 8 [.agg [I t22.1, I t22.2.1, I t22.2.2.1]] (I t31), (t29 != 0) = false, Computes cx 8 [.agg [I t21.1, I t21.2.1, I t21.2.2.1]] (I t29), (t27 != 0) = false, Computes cx 7 [.agg [I t22.1, I t22.2.1, I t22.2.2.1]] (I t27), (t25 != 0) = false, Computes cx 7 [.agg [I t21.1, I t21.2.1, I t21.2.2.1]] (I t25), (t22.2.2.2 != 0) = false, (t21.2.2.2 != 0) = false, Computes cx 6 [.agg [I (Int.tmod (IntKind.wrap .i64 a4) 4), I (Int.tmod (IntKind.wrap .i64 a5) 4), I (Int.tmod (IntKind.wrap .i64 a6) 4), I (Int.tmod (IntKind.wrap .i64 a7) 4)]] (.tup [.agg [I t22.1, I t22.2.1, I t22.2.2.1], I t22.2.2.2]), Computes cx 6 [.agg [I (Int.tmod (IntKind.wrap .i64 a0) 4), I (Int.tmod (IntKind.wrap .i64 a1) 4), I (Int.tmod (IntKind.wrap .i64 a2) 4), I (Int.tmod (IntKind.wrap .i64 a3) 4)]] (.tup [.agg [I t21.1, I t21.2.1, I t21.2.2.1], I t21.2.2.2]), (((((0 + ((Int.tmod (IntKind.wrap .i64 a4) 4) * (Int.tmod (IntKind.wrap .i64 a4) 4))) + ((Int.tmod (IntKind.wrap .i64 a5) 4) * (Int.tmod (IntKind.wrap .i64 a5) 4))) + ((Int.tmod (IntKind.wrap .i64 a6) 4) * (Int.tmod (IntKind.wrap .i64 a6) 4))) + ((Int.tmod (IntKind.wrap .i64 a7) 4) * (Int.tmod (IntKind.wrap .i64 a7) 4))) == 0) = false, (((((0 + ((Int.tmod (IntKind.wrap .i64 a0) 4) * (Int.tmod (IntKind.wrap .i64 a0) 4))) + ((Int.tmod (IntKind.wrap .i64 a1) 4) * (Int.tmod (IntKind.wrap .i64 a1) 4))) + ((Int.tmod (IntKind.wrap .i64 a2) 4) * (Int.tmod (IntKind.wrap .i64 a2) 4))) + ((Int.tmod (IntKind.wrap .i64 a3) 4) * (Int.tmod (IntKind.wrap .i64 a3) 4))) == 0) = false, (!t17) = false, Computes cx 5 [] (B t17), inI64 4, inI64 ((((0 + ((Int.tmod (IntKind.wrap .i64 a4) 4) * (Int.tmod (IntKind.wrap .i64 a4) 4))) + ((Int.tmod (IntKind.wrap .i64 a5) 4) * (Int.tmod (IntKind.wrap .i64 a5) 4))) + ((Int.tmod (IntKind.wrap .i64 a6) 4) * (Int.tmod (IntKind.wrap .i64 a6) 4))) + ((Int.tmod (IntKind.wrap .i64 a7) 4) * (Int.tmod (IntKind.wrap .i64 a7) 4))), inI64 ((Int.tmod (IntKind.wrap .i64 a7) 4) * (Int.tmod (IntKind.wrap .i64 a7) 4)), inI64 ((((0 + ((Int.tmod (IntKind.wrap .i64 a0) 4) * (Int.tmod (IntKind.wrap .i64 a0) 4))) + ((Int.tmod (IntKind.wrap .i64 a1) 4) * (Int.tmod (IntKind.wrap .i64 a1) 4))) + ((Int.tmod (IntKind.wrap .i64 a2) 4) * (Int.tmod (IntKind.wrap .i64 a2) 4))) + ((Int.tmod (IntKind.wrap .i64 a3) 4) * (Int.tmod (IntKind.wrap .i64 a3) 4))), inI64 ((Int.tmod (IntKind.wrap .i64 a3) 4) * (Int.tmod (IntKind.wrap .i64 a3) 4)), (4 : Int) ≠ 0, (4 : Int) ≠ 0, inI64 3, inI64 (((0 + ((Int.tmod (IntKind.wrap .i64 a4) 4) * (Int.tmod (IntKind.wrap .i64 a4) 4))) + ((Int.tmod (IntKind.wrap .i64 a5) 4) * (Int.tmod (IntKind.wrap .i64 a5) 4))) + ((Int.tmod (IntKind.wrap .i64 a6) 4) * (Int.tmod (IntKind.wrap .i64 a6) 4))), inI64 ((Int.tmod (IntKind.wrap .i64 a6) 4) * (Int.tmod (IntKind.wrap .i64 a6) 4)), inI64 (((0 + ((Int.tmod (IntKind.wrap .i64 a0) 4) * (Int.tmod (IntKind.wrap .i64 a0) 4))) + ((Int.tmod (IntKind.wrap .i64 a1) 4) * (Int.tmod (IntKind.wrap .i64 a1) 4))) + ((Int.tmod (IntKind.wrap .i64 a2) 4) * (Int.tmod (IntKind.wrap .i64 a2) 4))), inI64 ((Int.tmod (IntKind.wrap .i64 a2) 4) * (Int.tmod (IntKind.wrap .i64 a2) 4)), (4 : Int) ≠ 0, (4 : Int) ≠ 0, inI64 2, inI64 ((0 + ((Int.tmod (IntKind.wrap .i64 a4) 4) * (Int.tmod (IntKind.wrap .i64 a4) 4))) + ((Int.tmod (IntKind.wrap .i64 a5) 4) * (Int.tmod (IntKind.wrap .i64 a5) 4))), inI64 ((Int.tmod (IntKind.wrap .i64 a5) 4) * (Int.tmod (IntKind.wrap .i64 a5) 4)), inI64 ((0 + ((Int.tmod (IntKind.wrap .i64 a0) 4) * (Int.tmod (IntKind.wrap .i64 a0) 4))) + ((Int.tmod (IntKind.wrap .i64 a1) 4) * (Int.tmod (IntKind.wrap .i64 a1) 4))), inI64 ((Int.tmod (IntKind.wrap .i64 a1) 4) * (Int.tmod (IntKind.wrap .i64 a1) 4)), (4 : Int) ≠ 0, (4 : Int) ≠ 0, inI64 1, inI64 (0 + ((Int.tmod (IntKind.wrap .i64 a4) 4) * (Int.tmod (IntKind.wrap .i64 a4) 4))), inI64 ((Int.tmod (IntKind.wrap .i64 a4) 4) * (Int.tmod (IntKind.wrap .i64 a4) 4)), inI64 (0 + ((Int.tmod (IntKind.wrap .i64 a0) 4) * (Int.tmod (IntKind.wrap .i64 a0) 4))), inI64 ((Int.tmod (IntKind.wrap .i64 a0) 4) * (Int.tmod (IntKind.wrap .i64 a0) 4)), (4 : Int) ≠ 0, (4 : Int) ≠ 0]) := by kernel_rfl
theorem e_top_TopThistleReflected_19 (a0 : Int) (a1 : Int) (a2 : Int) (a3 : Int) (a4 : Int) (a5 : Int) (a6 : Int) (a7 : Int) (a8 : Int) (t17 : Bool) (t21 : Int × Int × Int × Int) (t22 : Int × Int × Int × Int) (t25 : Int) (t27 : Int) (t29 : Int) (t31 : Int) (t33 : Int × Int × Int × Int) (t35 : Int × Int × Int × Int × Int × Int × Int) (t37 : Int) : runFn true 100 cx 3 [.agg [.v (.int .i8 a0), .v (.int .i8 a1), .v (.int .i8 a2), .v (.int .i8 a3)], .agg [.v (.int .i8 a4), .v (.int .i8 a5), .v (.int .i8 a6), .v (.int .i8 a7)], .v (.int .u8 a8)] [.no, .no, .no, .no, .no, .no, .no, .no, .no, .no, .ret (B t17), .br false, .br false, .br false, .ret (.tup [.agg [I t21.1, I t21.2.1, I t21.2.2.1], I t21.2.2.2]), .ret (.tup [.agg [I t22.1, I t22.2.1, I t22.2.2.1], I t22.2.2.2]), .br false, .br false, .ret (I t25), .br false, .ret (I t27), .br false, .ret (I t29), .br false, .ret (I t31), .br false, .ret (.tup [.agg [I t33.1, I t33.2.1, I t33.2.2.1], I t33.2.2.2]), .br false, .ret (.tup [.agg [I t35.1, I t35.2.1, I t35.2.2.1, I t35.2.2.2.1, I t35.2.2.2.2.1, I t35.2.2.2.2.2.1], I t35.2.2.2.2.2.2]), .br false, .ret (I t37), .br true] = some (B (decide ((maxI (maxI (maxI (maxI (maxI (maxI (maxI (maxI (maxI (maxI (maxI t35.1 (IntKind.wrap .i64 (0 - t35.1))) t35.2.1) (IntKind.wrap .i64 (0 - t35.2.1))) t35.2.2.1) (IntKind.wrap .i64 (0 - t35.2.2.1))) t35.2.2.2.1) (IntKind.wrap .i64 (0 - t35.2.2.2.1))) t35.2.2.2.2.1) (IntKind.wrap .i64 (0 - t35.2.2.2.2.1))) t35.2.2.2.2.2.1) (IntKind.wrap .i64 (0 - t35.2.2.2.2.2.1))) > 64)), [(t37 != 0) = true, Computes cx 12 [.agg [.v (.string ⟨#[109]⟩), I 0, I 0, I 500, I t35.1, I t35.2.1, I t35.2.2.1, I t35.2.2.2.1, I t35.2.2.2.2.1, I t35.2.2.2.2.2.1]] (I t37), (t35.2.2.2.2.2.2 != 0) = false, Computes cx 11 [.agg [I t33.1, I t33.2.1, I t33.2.2.1]] (.tup [.agg [I t35.1, I t35.2.1, I t35.2.2.1, I t35.2.2.2.1, I t35.2.2.2.2.1, I t35.2.2.2.2.2.1], I t35.2.2.2.2.2.2]), (t33.2.2.2 != 0) = false, Computes cx 9 [.agg [I t21.1, I t21.2.1, I t21.2.2.1], .agg [I t22.1, I t22.2.1, I t22.2.2.1]] (.tup [.agg [I t33.1, I t33.2.1, I t33.2.2.1], I t33.2.2.2]), (t31 != 0) = false, Computes cx 8 [.agg [I t22.1, I t22.2.1, I t22.2.2.1]] (I t31), (t29 != 0) = false, Computes cx 8 [.agg [I t21.1, I t21.2.1, I t21.2.2.1]] (I t29), (t27 != 0) = false, Computes cx 7 [.agg [I t22.1, I t22.2.1, I t22.2.2.1]] (I t27), (t25 != 0) = false, Computes cx 7 [.agg [I t21.1, I t21.2.1, I t21.2.2.1]] (I t25), (t22.2.2.2 != 0) = false, (t21.2.2.2 != 0) = false, Computes cx 6 [.agg [I (Int.tmod (IntKind.wrap .i64 a4) 4), I (Int.tmod (IntKind.wrap .i64 a5) 4), I (Int.tmod (IntKind.wrap .i64 a6) 4), I (Int.tmod (IntKind.wrap .i64 a7) 4)]] (.tup [.agg [I t22.1, I t22.2.1, I t22.2.2.1], I t22.2.2.2]), Computes cx 6 [.agg [I (Int.tmod (IntKind.wrap .i64 a0) 4), I (Int.tmod (IntKind.wrap .i64 a1) 4), I (Int.tmod (IntKind.wrap .i64 a2) 4), I (Int.tmod (IntKind.wrap .i64 a3) 4)]] (.tup [.agg [I t21.1, I t21.2.1, I t21.2.2.1], I t21.2.2.2]), (((((0 + ((Int.tmod (IntKind.wrap .i64 a4) 4) * (Int.tmod (IntKind.wrap .i64 a4) 4))) + ((Int.tmod (IntKind.wrap .i64 a5) 4) * (Int.tmod (IntKind.wrap .i64 a5) 4))) + ((Int.tmod (IntKind.wrap .i64 a6) 4) * (Int.tmod (IntKind.wrap .i64 a6) 4))) + ((Int.tmod (IntKind.wrap .i64 a7) 4) * (Int.tmod (IntKind.wrap .i64 a7) 4))) == 0) = false, (((((0 + ((Int.tmod (IntKind.wrap .i64 a0) 4) * (Int.tmod (IntKind.wrap .i64 a0) 4))) + ((Int.tmod (IntKind.wrap .i64 a1) 4) * (Int.tmod (IntKind.wrap .i64 a1) 4))) + ((Int.tmod (IntKind.wrap .i64 a2) 4) * (Int.tmod (IntKind.wrap .i64 a2) 4))) + ((Int.tmod (IntKind.wrap .i64 a3) 4) * (Int.tmod (IntKind.wrap .i64 a3) 4))) == 0) = false, (!t17) = false, Computes cx 5 [] (B t17), inI64 4, inI64 ((((0 + ((Int.tmod (IntKind.wrap .i64 a4) 4) * (Int.tmod (IntKind.wrap .i64 a4) 4))) + ((Int.tmod (IntKind.wrap .i64 a5) 4) * (Int.tmod (IntKind.wrap .i64 a5) 4))) + ((Int.tmod (IntKind.wrap .i64 a6) 4) * (Int.tmod (IntKind.wrap .i64 a6) 4))) + ((Int.tmod (IntKind.wrap .i64 a7) 4) * (Int.tmod (IntKind.wrap .i64 a7) 4))), inI64 ((Int.tmod (IntKind.wrap .i64 a7) 4) * (Int.tmod (IntKind.wrap .i64 a7) 4)), inI64 ((((0 + ((Int.tmod (IntKind.wrap .i64 a0) 4) * (Int.tmod (IntKind.wrap .i64 a0) 4))) + ((Int.tmod (IntKind.wrap .i64 a1) 4) * (Int.tmod (IntKind.wrap .i64 a1) 4))) + ((Int.tmod (IntKind.wrap .i64 a2) 4) * (Int.tmod (IntKind.wrap .i64 a2) 4))) + ((Int.tmod (IntKind.wrap .i64 a3) 4) * (Int.tmod (IntKind.wrap .i64 a3) 4))), inI64 ((Int.tmod (IntKind.wrap .i64 a3) 4) * (Int.tmod (IntKind.wrap .i64 a3) 4)), (4 : Int) ≠ 0, (4 : Int) ≠ 0, inI64 3, inI64 (((0 + ((Int.tmod (IntKind.wrap .i64 a4) 4) * (Int.tmod (IntKind.wrap .i64 a4) 4))) + ((Int.tmod (IntKind.wrap .i64 a5) 4) * (Int.tmod (IntKind.wrap .i64 a5) 4))) + ((Int.tmod (IntKind.wrap .i64 a6) 4) * (Int.tmod (IntKind.wrap .i64 a6) 4))), inI64 ((Int.tmod (IntKind.wrap .i64 a6) 4) * (Int.tmod (IntKind.wrap .i64 a6) 4)), inI64 (((0 + ((Int.tmod (IntKind.wrap .i64 a0) 4) * (Int.tmod (IntKind.wrap .i64 a0) 4))) + ((Int.tmod (IntKind.wrap .i64 a1) 4) * (Int.tmod (IntKind.wrap .i64 a1) 4))) + ((Int.tmod (IntKind.wrap .i64 a2) 4) * (Int.tmod (IntKind.wrap .i64 a2) 4))), inI64 ((Int.tmod (IntKind.wrap .i64 a2) 4) * (Int.tmod (IntKind.wrap .i64 a2) 4)), (4 : Int) ≠ 0, (4 : Int) ≠ 0, inI64 2, inI64 ((0 + ((Int.tmod (IntKind.wrap .i64 a4) 4) * (Int.tmod (IntKind.wrap .i64 a4) 4))) + ((Int.tmod (IntKind.wrap .i64 a5) 4) * (Int.tmod (IntKind.wrap .i64 a5) 4))), inI64 ((Int.tmod (IntKind.wrap .i64 a5) 4) * (Int.tmod (IntKind.wrap .i64 a5) 4)), inI64 ((0 + ((Int.tmod (IntKind.wrap .i64 a0) 4) * (Int.tmod (IntKind.wrap .i64 a0) 4))) + ((Int.tmod (IntKind.wrap .i64 a1) 4) * (Int.tmod (IntKind.wrap .i64 a1) 4))), inI64 ((Int.tmod (IntKind.wrap .i64 a1) 4) * (Int.tmod (IntKind.wrap .i64 a1) 4)), (4 : Int) ≠ 0, (4 : Int) ≠ 0, inI64 1, inI64 (0 + ((Int.tmod (IntKind.wrap .i64 a4) 4) * (Int.tmod (IntKind.wrap .i64 a4) 4))), inI64 ((Int.tmod (IntKind.wrap .i64 a4) 4) * (Int.tmod (IntKind.wrap .i64 a4) 4)), inI64 (0 + ((Int.tmod (IntKind.wrap .i64 a0) 4) * (Int.tmod (IntKind.wrap .i64 a0) 4))), inI64 ((Int.tmod (IntKind.wrap .i64 a0) 4) * (Int.tmod (IntKind.wrap .i64 a0) 4)), (4 : Int) ≠ 0, (4 : Int) ≠ 0]) := by kernel_rfl
theorem e_top_TopThistleReflected_21 (a0 : Int) (a1 : Int) (a2 : Int) (a3 : Int) (a4 : Int) (a5 : Int) (a6 : Int) (a7 : Int) (a8 : Int) (t17 : Bool) (t21 : Int × Int × Int × Int) (t22 : Int × Int × Int × Int) (t25 : Int) (t27 : Int) (t29 : Int) (t31 : Int) (t33 : Int × Int × Int × Int) (t36 : Bool) : runFn true 100 cx 3 [.agg [.v (.int .i8 a0), .v (.int .i8 a1), .v (.int .i8 a2), .v (.int .i8 a3)], .agg [.v (.int .i8 a4), .v (.int .i8 a5), .v (.int .i8 a6), .v (.int .i8 a7)], .v (.int .u8 a8)] [.no, .no, .no, .no, .no, .no, .no, .no, .no, .no, .ret (B t17), .br false, .br false, .br false, .ret (.tup [.agg [I t21.1, I t21.2.1, I t21.2.2.1], I t21.2.2.2]), .ret (.tup [.agg [I t22.1, I t22.2.1, I t22.2.2.1], I t22.2.2.2]), .br false, .br false, .ret (I t25), .br false, .ret (I t27), .br false, .ret (I t29), .br false, .ret (I t31), .br false, .ret (.tup [.agg [I t33.1, I t33.2.1, I t33.2.2.1], I t33.2.2.2]), .br true, .br true, .ret (B t36)] = some (B t36, [Computes cx 10 [.agg [I t21.1, I t21.2.1, I t21.2.2.1], .agg [I t22.1, I t22.2.1, I t22.2.2.1]] (B t36), (t33.2.2.2 == 6) = true, (t33.2.2.2 != 0) = true, Computes cx 9 [.agg [I t21.1, I t21.2.1, I t21.2.2.1], .agg [I t22.1, I t22.2.1, I t22.2.2.1]] (.tup [.agg [I t33.1, I t33.2.1, I t33.2.2.1], I t33.2.2.2]), (t31 != 0) = false, Computes cx 8 [.agg [I t22.1, I t22.2.1, I t22.2.2.1]] (I t31), (t29 != 0) = false, Computes cx 8 [.agg [I t21.1, I t21.2.1, I t21.2.2.1]] (I t29), (t27 != 0) = false, Computes cx 7 [.agg [I t22.1, I t22.2.1, I t22.2.2.1]] (I t27), (t25 != 0) = false, Computes cx 7 [.agg [I t21.1, I t21.2.1, I t21.2.2.1]] (I t25), (t22.2.2.2 != 0) = false, (t21.2.2.2 != 0) = false, Computes cx 6 [.agg [I (Int.tmod (IntKind.wrap .i64 a4) 4), I (Int.tmod (IntKind.wrap .i64 a5) 4), I (Int.tmod (IntKind.wrap .i64 a6) 4), I (Int.tmod (IntKind.wrap .i64 a7) 4)]] (.tup [.agg [I t22.1, I t22.2.1, I t22.2.2.1], I t22.2.2.2]), Computes cx 6 [.agg [I (Int.tmod (IntKind.wrap .i64 a0) 4), I (Int.tmod (IntKind.wrap .i64 a1) 4), I (Int.tmod (IntKind.wrap .i64 a2) 4), I (Int.tmod (IntKind.wrap .i64 a3) 4)]] (.tup [.agg [I t21.1, I t21.2.1, I t21.2.2.1], I t21.2.2.2]), (((((0 + ((Int.tmod (IntKind.wrap .i64 a4) 4) * (Int.tmod (IntKind.wrap .i64 a4) 4))) + ((Int.tmod (IntKind.wrap .i64 a5) 4) * (Int.tmod (IntKind.wrap .i64 a5) 4))) + ((Int.tmod (IntKind.wrap .i64 a6) 4) * (Int.tmod (IntKind.wrap .i64 a6) 4))) + ((Int.tmod (IntKind.wrap .i64 a7) 4) * (Int.tmod (IntKind.wrap .i64 a7) 4))) == 0) = false, (((((0 + ((Int.tmod (IntKind.wrap .i64 a0) 4) * (Int.tmod (IntKind.wrap .i64 a0) 4))) + ((Int.tmod (IntKind.wrap .i64 a1) 4) * (Int.tmod (IntKind.wrap .i64 a1) 4))) + ((Int.tmod (IntKind.wrap .i64 a2) 4) * (Int.tmod (IntKind.wrap .i64 a2) 4))) + ((Int.tmod (IntKind.wrap .i64 a3) 4) * (Int.tmod (IntKind.wrap .i64 a3) 4))) == 0) = false, (!t17) = false, Computes cx 5 [] (B t17), inI64 4, inI64 ((((0 + ((Int.tmod (IntKind.wrap .i64 a4) 4) * (Int.tmod (IntKind.wrap .i64 a4) 4))) + ((Int.tmod (IntKind.wrap .i64 a5) 4) * (Int.tmod (IntKind.wrap .i64 a5) 4))) + ((Int.tmod (IntKind.wrap .i64 a6) 4) * (Int.tmod (IntKind.wrap .i64 a6) 4))) + ((Int.tmod (IntKind.wrap .i64 a7) 4) * (Int.tmod (IntKind.wrap .i64 a7) 4))), inI64 ((Int.tmod (IntKind.wrap .i64 a7) 4) * (Int.tmod (IntKind.wrap .i64 a7) 4)), inI64 ((((0 + ((Int.tmod (IntKind.wrap .i64 a0) 4) * (Int.tmod (IntKind.wrap .i64 a0) 4))) + ((Int.tmod (IntKind.wrap .i64 a1) 4) * (Int.tmod (IntKind.wrap .i64 a1) 4))) + ((Int.tmod (IntKind.wrap .i64 a2) 4) * (Int.tmod (IntKind.wrap .i64 a2) 4))) + ((Int.tmod (IntKind.wrap .i64 a3) 4) * (Int.tmod (IntKind.wrap .i64 a3) 4))), inI64 ((Int.tmod (IntKind.wrap .i64 a3) 4) * (Int.tmod (IntKind.wrap .i64 a3) 4)), (4 : Int) ≠ 0, (4 : Int) ≠ 0, inI64 3, inI64 (((0 + ((Int.tmod (IntKind.wrap .i64 a4) 4) * (Int.tmod (IntKind.wrap .i64 a4) 4))) + ((Int.tmod (IntKind.wrap .i64 a5) 4) * (Int.tmod (IntKind.wrap .i64 a5) 4))) + ((Int.tmod (IntKind.wrap .i64 a6) 4) * (Int.tmod (IntKind.wrap .i64 a6) 4))), inI64 ((Int.tmod (IntKind.wrap .i64 a6) 4) * (Int.tmod (IntKind.wrap .i64 a6) 4)), inI64 (((0 + ((Int.tmod (IntKind.wrap .i64 a0) 4) * (Int.tmod (IntKind.wrap .i64 a0) 4))) + ((Int.tmod (IntKind.wrap .i64 a1) 4) * (Int.tmod (IntKind.wrap .i64 a1) 4))) + ((Int.tmod (IntKind.wrap .i64 a2) 4) * (Int.tmod (IntKind.wrap .i64 a2) 4))), inI64 ((Int.tmod (IntKind.wrap .i64 a2) 4) * (Int.tmod (IntKind.wrap .i64 a2) 4)), (4 : Int) ≠ 0, (4 : Int) ≠ 0, inI64 2, inI64 ((0 + ((Int.tmod (IntKind.wrap .i64 a4) 4) * (Int.tmod (IntKind.wrap .i64 a4) 4))) + ((Int.tmod (IntKind.wrap .i64 a5) 4) * (Int.tmod (IntKind.wrap .i64 a5) 4))), inI64 ((Int.tmod (IntKind.wrap .i64 a5) 4) * (Int.tmod (IntKind.wrap .i64 a5) 4)), inI64 ((0 + ((Int.tmod (IntKind.wrap .i64 a0) 4) * (Int.tmod (IntKind.wrap .i64 a0) 4))) + ((Int.tmod (IntKind.wrap .i64 a1) 4) * (Int.tmod (IntKind.wrap .i64 a1) 4))), inI64 ((Int.tmod (IntKind.wrap .i64 a1) 4) * (Int.tmod (IntKind.wrap .i64 a1) 4)), (4 : Int) ≠ 0, (4 : Int) ≠ 0, inI64 1, inI64 (0 + ((Int.tmod (IntKind.wrap .i64 a4) 4) * (Int.tmod (IntKind.wrap .i64 a4) 4))), inI64 ((Int.tmod (IntKind.wrap .i64 a4) 4) * (Int.tmod (IntKind.wrap .i64 a4) 4)), inI64 (0 + ((Int.tmod (IntKind.wrap .i64 a0) 4) * (Int.tmod (IntKind.wrap .i64 a0) 4))), inI64 ((Int.tmod (IntKind.wrap .i64 a0) 4) * (Int.tmod (IntKind.wrap .i64 a0) 4)), (4 : Int) ≠ 0, (4 : Int) ≠ 0]) := by kernel_rfl
theorem e_top_TopThistleReflected_29 (a0 : Int) (a1 : Int) (a2 : Int) (a3 : Int) (a4 : Int) (a5 : Int) (a6 : Int) (a7 : Int) (a8 : Int) (t17 : Bool) : runFn true 100 cx 3 [.agg [.v (.int .i8 a0), .v (.int .i8 a1), .v (.int .i8 a2), .v (.int .i8 a3)], .agg [.v (.int .i8 a4), .v (.int .i8 a5), .v (.int .i8 a6), .v (.int .i8 a7)], .v (.int .u8 a8)] [.no, .no, .no, .no, .no, .no, .no, .no, .no, .no, .ret (B t17), .br true, .no, .no, .ret (B t17)] = some (B t17, [Computes cx 5 [] (B t17), (!t17) = true, Computes cx 5 [] (B t17), inI64 4, inI64 ((((0 + ((Int.tmod (IntKind.wrap .i64 a4) 4) * (Int.tmod (IntKind.wrap .i64 a4) 4))) + ((Int.tmod (IntKind.wrap .i64 a5) 4) * (Int.tmod (IntKind.wrap .i64 a5) 4))) + ((Int.tmod (IntKind.wrap .i64 a6) 4) * (Int.tmod (IntKind.wrap .i64 a6) 4))) + ((Int.tmod (IntKind.wrap .i64 a7) 4) * (Int.tmod (IntKind.wrap .i64 a7) 4))), inI64 ((Int.tmod (IntKind.wrap .i64 a7) 4) * (Int.tmod (IntKind.wrap .i64 a7) 4)), inI64 ((((0 + ((Int.tmod (IntKind.wrap .i64 a0) 4) * (Int.tmod (IntKind.wrap .i64 a0) 4))) + ((Int.tmod (IntKind.wrap .i64 a1) 4) * (Int.tmod (IntKind.wrap .i64 a1) 4))) + ((Int.tmod (IntKind.wrap .i64 a2) 4) * (Int.tmod (IntKind.wrap .i64 a2) 4))) + ((Int.tmod (IntKind.wrap .i64 a3) 4) * (Int.tmod (IntKind.wrap .i64 a3) 4))), inI64 ((Int.tmod (IntKind.wrap .i64 a3) 4) * (Int.tmod (IntKind.wrap .i64 a3) 4)), (4 : Int) ≠ 0, (4 : Int) ≠ 0, inI64 3, inI64 (((0 + ((Int.tmod (IntKind.wrap .i64 a4) 4) * (Int.tmod (IntKind.wrap .i64 a4) 4))) + ((Int.tmod (IntKind.wrap .i64 a5) 4) * (Int.tmod (IntKind.wrap .i64 a5) 4))) + ((Int.tmod (IntKind.wrap .i64 a6) 4) * (Int.tmod (IntKind.wrap .i64 a6) 4))), inI64 ((Int.tmod (IntKind.wrap .i64 a6) 4) * (Int.tmod (IntKind.wrap .i64 a6) 4)), inI64 (((0 + ((Int.tmod (IntKind.wrap .i64 a0) 4) * (Int.tmod (IntKind.wrap .i64 a0) 4))) + ((Int.tmod (IntKind.wrap .i64 a1) 4) * (Int.tmod (IntKind.wrap .i64 a1) 4))) + ((Int.tmod (IntKind.wrap .i64 a2) 4) * (Int.tmod (IntKind.wrap .i64 a2) 4))), inI64 ((Int.tmod (IntKind.wrap .i64 a2) 4) * (Int.tmod (IntKind.wrap .i64 a2) 4)), (4 : Int) ≠ 0, (4 : Int) ≠ 0, inI64 2, inI64 ((0 + ((Int.tmod (IntKind.wrap .i64 a4) 4) * (Int.tmod (IntKind.wrap .i64 a4) 4))) + ((Int.tmod (IntKind.wrap .i64 a5) 4) * (Int.tmod (IntKind.wrap .i64 a5) 4))), inI64 ((Int.tmod (IntKind.wrap .i64 a5) 4) * (Int.tmod (IntKind.wrap .i64 a5) 4)), inI64 ((0 + ((Int.tmod (IntKind.wrap .i64 a0) 4) * (Int.tmod (IntKind.wrap .i64 a0) 4))) + ((Int.tmod (IntKind.wrap .i64 a1) 4) * (Int.tmod (IntKind.wrap .i64 a1) 4))), inI64 ((Int.tmod (IntKind.wrap .i64 a1) 4) * (Int.tmod (IntKind.wrap .i64 a1) 4)), (4 : Int) ≠ 0, (4 : Int) ≠ 0, inI64 1, inI64 (0 + ((Int.tmod (IntKind.wrap .i64 a4) 4) * (Int.tmod (IntKind.wrap .i64 a4) 4))), inI64 ((Int.tmod (IntKind.wrap .i64 a4) 4) * (Int.tmod (IntKind.wrap .i64 a4) 4)), inI64 (0 + ((Int.tmod (IntKind.wrap .i64 a0) 4) * (Int.tmod (IntKind.wrap .i64 a0) 4))), inI64 ((Int.tmod (IntKind.wrap .i64 a0) 4) * (Int.tmod (IntKind.wrap .i64 a0) 4)), (4 : Int) ≠ 0, (4 : Int) ≠ 0]) := by kernel_rfl
end Go.Proofs.YtiogobiijlaalaaDoor
