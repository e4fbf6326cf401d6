/-
  Printed by gsx.py: functions of the program as Lean functions, and that the code computes them.
-/
import Derived.Test.YtegcijomjkffgaaDoorAnvil1
set_option linter.unusedVariables false
set_option linter.unusedSimpArgs false
set_option linter.unnecessarySimpa false
set_option maxRecDepth 10000
namespace Go.Proofs.YtegcijomjkffgaaDoor
open Go.SX
/- (spillage/drive.aimed).check: .agg [I a0, I a1, I a2, I a3, I a4, I a5, .lst false 3 a6, I a7, I a8] -/
def F_drive_aimed_check (n : Nat) (a0 : Int) (a1 : Int) (a2 : Int) (a3 : Int) (a4 : Int) (a5 : Int) (a6 : List D) (a7 : Int) (a8 : Int) : Option (Int) :=
  (F_drive_posed_check n a0 a1 a2 a3 a4 a5).bind fun t1 =>
  (F_drive_CheckModel_2 n a6).bind fun t2 =>
  (F_drive_checkEnds_2 n a7 a8 4294967296).bind fun t3 =>
  (F_drive_first n ([I t1, I t2, I t3])).bind fun t4 =>
  some t4
theorem c_drive_aimed_check {n : Nat} {a0 : Int} {a1 : Int} {a2 : Int} {a3 : Int} {a4 : Int} {a5 : Int} {a6 : List D} {a7 : Int} {a8 : Int} {r : Int} (h : F_drive_aimed_check n a0 a1 a2 a3 a4 a5 a6 a7 a8 = some r) : Computes cx 37 [.agg [I a0, I a1, I a2, I a3, I a4, I a5, .lst false 3 a6, I a7, I a8]] (I r) := by
  unfold F_drive_aimed_check at h
  obtain ⟨t1, h1, h⟩ := bnd_of h
  obtain ⟨t2, h2, h⟩ := bnd_of h
  obtain ⟨t3, h3, h⟩ := bnd_of h
  obtain ⟨t4, h4, h⟩ := bnd_of h
  replace h := Option.some.inj h
  subst h
  exact run (n := 100) (f := 37) (args := [.agg [I a0, I a1, I a2, I a3, I a4, I a5, .lst false 3 a6, I a7, I a8]]) (orc := [.ret (I t1), .ret (I t2), .ret (I t3), .ret (I t4)]) (r := I t4) (ob := [Computes cx 29 [.lst true 1 [I t1, I t2, I t3]] (I t4), Computes cx 31 [.agg [I a7, I a8], I 4294967296] (I t3), Computes cx 34 [.lst false 3 a6] (I t2), Computes cx 58 [.agg [I a0, I a1, I a2, I a3, I a4, I a5]] (I t1)]) (by kernel_rfl) ⟨((c_drive_first h4).le (.cons (.full _ _ _) (.nil)) (.refl _)), (c_drive_checkEnds_2 h3), (c_drive_CheckModel_2 h2), (c_drive_posed_check h1), trivial⟩
/- (spillage/drive.posed).at: .agg [I a0, I a1, I a2, I a3, I a4, I a5], I a6 -/
def F_drive_posed_at (n : Nat) (a0 : Int) (a1 : Int) (a2 : Int) (a3 : Int) (a4 : Int) (a5 : Int) (a6 : Int) : Option (Int × Int × Int × Int × Int × Int) :=
  if inI64 (a6 - a2) then
  some (a0, a1, a2, a6, (minI a6 (maxI (a6 - a2) a4)), (minI a6 (maxI (a6 - a2) a5)))
  else none
theorem c_drive_posed_at {n : Nat} {a0 : Int} {a1 : Int} {a2 : Int} {a3 : Int} {a4 : Int} {a5 : Int} {a6 : Int} {r : Int × Int × Int × Int × Int × Int} (h : F_drive_posed_at n a0 a1 a2 a3 a4 a5 a6 = some r) : Computes cx 41 [.agg [I a0, I a1, I a2, I a3, I a4, I a5], I a6] (.agg [I r.1, I r.2.1, I r.2.2.1, I r.2.2.2.1, I r.2.2.2.2.1, I r.2.2.2.2.2]) := by
  unfold F_drive_posed_at at h
  obtain ⟨h1, h⟩ := grd_of h
  replace h := Option.some.inj h
  subst h
  exact run (n := 100) (f := 41) (args := [.agg [I a0, I a1, I a2, I a3, I a4, I a5], I a6]) (orc := [.no, .no]) (r := .agg [I a0, I a1, I a2, I a6, I (minI a6 (maxI (a6 - a2) a4)), I (minI a6 (maxI (a6 - a2) a5))]) (ob := [inI64 (a6 - a2), inI64 (a6 - a2)]) (by kernel_rfl) ⟨h1, h1, trivial⟩
/- (spillage/drive.aimed).hit: .agg [I a0, I a1, I a2, I a3, I a4, I a5, .lst false 3 a6, I a7, I a8], I a9 -/
def F_drive_aimed_hit (n : Nat) (a0 : Int) (a1 : Int) (a2 : Int) (a3 : Int) (a4 : Int) (a5 : Int) (a6 : List D) (a7 : Int) (a8 : Int) (a9 : Int) : Option (Int × Int × Bool) :=
  (F_drive_posed_at n a0 a1 a2 a3 a4 a5 a9).bind fun t1 =>
  (F_drive_places_2 n a6 t1.2.2.2.2.1 t1.2.2.2.2.2).bind fun t2 =>
  (F_drive_both n t2.1 t2.2 a7 a8).bind fun t3 =>
  if t3.2.2 = true then
    some (t2.1, t2.2, ((t3.1 == t2.1) && ((t3.2.1 == t2.2) && true)))
  else
  some (t2.1, t2.2, false)
theorem c_drive_aimed_hit {n : Nat} {a0 : Int} {a1 : Int} {a2 : Int} {a3 : Int} {a4 : Int} {a5 : Int} {a6 : List D} {a7 : Int} {a8 : Int} {a9 : Int} {r : Int × Int × Bool} (h : F_drive_aimed_hit n a0 a1 a2 a3 a4 a5 a6 a7 a8 a9 = some r) : Computes cx 39 [.agg [I a0, I a1, I a2, I a3, I a4, I a5, .lst false 3 a6, I a7, I a8], I a9] (.tup [.agg [I r.1, I r.2.1], B r.2.2]) := by
  unfold F_drive_aimed_hit at h
  obtain ⟨t1, h1, h⟩ := bnd_of h
  obtain ⟨t2, h2, h⟩ := bnd_of h
  obtain ⟨t3, h3, h⟩ := bnd_of h
  by_cases h4 : t3.2.2 = true
  · replace h := ite_t h h4
    replace h := Option.some.inj h
    subst h
    exact run (n := 100) (f := 39) (args := [.agg [I a0, I a1, I a2, I a3, I a4, I a5, .lst false 3 a6, I a7, I a8], I a9]) (orc := [.ret (.agg [I t1.1, I t1.2.1, I t1.2.2.1, I t1.2.2.2.1, I t1.2.2.2.2.1, I t1.2.2.2.2.2]), .ret (.agg [I t2.1, I t2.2]), .ret (.tup [.agg [I t3.1, I t3.2.1], B t3.2.2]), .br true]) (r := .tup [.agg [I t2.1, I t2.2], B ((t3.1 == t2.1) && ((t3.2.1 == t2.2) && true))]) (ob := [t3.2.2 = true, Computes cx 57 [.agg [I t2.1, I t2.2], .agg [I a7, I a8]] (.tup [.agg [I t3.1, I t3.2.1], B t3.2.2]), Computes cx 42 [.lst false 3 a6, .agg [I t1.2.2.2.2.1, I t1.2.2.2.2.2]] (.agg [I t2.1, I t2.2]), Computes cx 41 [.agg [I a0, I a1, I a2, I a3, I a4, I a5], I a9] (.agg [I t1.1, I t1.2.1, I t1.2.2.1, I t1.2.2.2.1, I t1.2.2.2.2.1, I t1.2.2.2.2.2])]) (by kernel_rfl) ⟨h4, (c_drive_both h3), (c_drive_places_2 h2), (c_drive_posed_at h1), trivial⟩
  · replace h := ite_f h h4
    replace h := Option.some.inj h
    subst h
    exact run (n := 100) (f := 39) (args := [.agg [I a0, I a1, I a2, I a3, I a4, I a5, .lst false 3 a6, I a7, I a8], I a9]) (orc := [.ret (.agg [I t1.1, I t1.2.1, I t1.2.2.1, I t1.2.2.2.1, I t1.2.2.2.2.1, I t1.2.2.2.2.2]), .ret (.agg [I t2.1, I t2.2]), .ret (.tup [.agg [I t3.1, I t3.2.1], B t3.2.2]), .br false]) (r := .tup [.agg [I t2.1, I t2.2], B false]) (ob := [t3.2.2 = false, Computes cx 57 [.agg [I t2.1, I t2.2], .agg [I a7, I a8]] (.tup [.agg [I t3.1, I t3.2.1], B t3.2.2]), Computes cx 42 [.lst false 3 a6, .agg [I t1.2.2.2.2.1, I t1.2.2.2.2.2]] (.agg [I t2.1, I t2.2]), Computes cx 41 [.agg [I a0, I a1, I a2, I a3, I a4, I a5], I a9] (.agg [I t1.1, I t1.2.1, I t1.2.2.1, I t1.2.2.2.1, I t1.2.2.2.2.1, I t1.2.2.2.2.2])]) (by kernel_rfl) ⟨(bfalse h4), (c_drive_both h3), (c_drive_places_2 h2), (c_drive_posed_at h1), trivial⟩
/- spillage/drive.size: I a0 -/
def F_drive_size (n : Nat) (a0 : Int) : Option (Int) :=
  some (maxI a0 (IntKind.wrap .i64 (0 - a0)))
theorem c_drive_size {n : Nat} {a0 : Int} {r : Int} (h : F_drive_size n a0 = some r) : Computes cx 59 [I a0] (I r) := by
  unfold F_drive_size at h
  replace h := Option.some.inj h
  subst h
  exact run (n := 100) (f := 59) (args := [I a0]) (orc := []) (r := I (maxI a0 (IntKind.wrap .i64 (0 - a0)))) (ob := []) (by kernel_rfl) trivial
def F_drive_aimed_nearest_L1 (n : Nat) (a0 : Int) (a1 : Int) (a2 : Int) (a3 : Int) (a4 : Int) (a5 : Int) (a6 : List D) (a7 : Int) (a8 : Int) (sa : (Int × Bool × Int)) : Option (((Int × Bool × Int)) ⊕ ((Int × Bool))) :=
  if sa.2.2 < ((a1 - a0) + 1) then
    if inI64 (a0 + sa.2.2) then
    (F_drive_aimed_hit n a0 a1 a2 a3 a4 a5 a6 a7 a8 (a0 + sa.2.2)).bind fun ta3 =>
    if ta3.2.2 = true then
      if sa.2.1 = true then
        if inI64 ((a0 + sa.2.2) - a3) then
        (F_drive_size n ((a0 + sa.2.2) - a3)).bind fun ta7 =>
        if inI64 (sa.1 - a3) then
        (F_drive_size n (sa.1 - a3)).bind fun ta9 =>
        if ta7 < ta9 then
          if inI64 (sa.2.2 + 1) then
          some (.inl ((a0 + sa.2.2), true, (sa.2.2 + 1)))
          else none
        else
        if inI64 (sa.2.2 + 1) then
        some (.inl (sa.1, sa.2.1, (sa.2.2 + 1)))
        else none
        else none
        else none
      else
      if inI64 (sa.2.2 + 1) then
      some (.inl ((a0 + sa.2.2), true, (sa.2.2 + 1)))
      else none
    else
    if inI64 (sa.2.2 + 1) then
    some (.inl (sa.1, sa.2.1, (sa.2.2 + 1)))
    else none
    else none
  else
  some (.inr (sa.1, sa.2.1))
noncomputable def T_drive_aimed_nearest_L1 (a0 : Int) (a1 : Int) (a2 : Int) (a3 : Int) (a4 : Int) (a5 : Int) (a6 : List D) (a7 : Int) (a8 : Int) (sa : (Int × Bool × Int)) : List (Nat × AV) := [(1, .ptr 0 0 0 0 0), (4, .d (I sa.1)), (5, .d (B sa.2.1)), (19, .d (I ((a1 - a0) + 1))), (20, .d (I sa.2.2))]
noncomputable def H_drive_aimed_nearest_L1 (a0 : Int) (a1 : Int) (a2 : Int) (a3 : Int) (a4 : Int) (a5 : Int) (a6 : List D) (a7 : Int) (a8 : Int) (sa : (Int × Bool × Int)) : List (Nat × Blk) := [(0, .box (.d (.agg [I a0, I a1, I a2, I a3, I a4, I a5, .lst false 3 a6, I a7, I a8])))]
noncomputable def X_drive_aimed_nearest_L1 (a0 : Int) (a1 : Int) (a2 : Int) (a3 : Int) (a4 : Int) (a5 : Int) (a6 : List D) (a7 : Int) (a8 : Int) (e : (Int × Bool)) : Ex := (.exit 0)
noncomputable def XT_drive_aimed_nearest_L1 (a0 : Int) (a1 : Int) (a2 : Int) (a3 : Int) (a4 : Int) (a5 : Int) (a6 : List D) (a7 : Int) (a8 : Int) (e : (Int × Bool)) : List (Nat × AV) := [(4, .d (I e.1)), (5, .d (B e.2))]
noncomputable def XH_drive_aimed_nearest_L1 (a0 : Int) (a1 : Int) (a2 : Int) (a3 : Int) (a4 : Int) (a5 : Int) (a6 : List D) (a7 : Int) (a8 : Int) (e : (Int × Bool)) : List (Nat × Blk) := []
theorem R_drive_aimed_nearest_L1 {n : Nat} {a0 : Int} {a1 : Int} {a2 : Int} {a3 : Int} {a4 : Int} {a5 : Int} {a6 : List D} {a7 : Int} {a8 : Int} (sa : (Int × Bool × Int)) (r) (h : F_drive_aimed_nearest_L1 n a0 a1 a2 a3 a4 a5 a6 a7 a8 sa = some r) : Rd cx (loopAt cx.P 38 0) 63 0 false (T_drive_aimed_nearest_L1 a0 a1 a2 a3 a4 a5 a6 a7 a8) (H_drive_aimed_nearest_L1 a0 a1 a2 a3 a4 a5 a6 a7 a8) (X_drive_aimed_nearest_L1 a0 a1 a2 a3 a4 a5 a6 a7 a8) (XT_drive_aimed_nearest_L1 a0 a1 a2 a3 a4 a5 a6 a7 a8) (XH_drive_aimed_nearest_L1 a0 a1 a2 a3 a4 a5 a6 a7 a8) sa r := by
  unfold F_drive_aimed_nearest_L1 at h
  by_cases ha1 : sa.2.2 < ((a1 - a0) + 1)
  · replace h := ite_t h ha1
    obtain ⟨ha2, h⟩ := grd_of h
    obtain ⟨ta3, ha3, h⟩ := bnd_of h
    by_cases ha4 : ta3.2.2 = true
    · replace h := ite_t h ha4
      by_cases ha5 : sa.2.1 = true
      · replace h := ite_t h ha5
        obtain ⟨ha6, h⟩ := grd_of h
        obtain ⟨ta7, ha7, h⟩ := bnd_of h
        obtain ⟨ha8, h⟩ := grd_of h
        obtain ⟨ta9, ha9, h⟩ := bnd_of h
        by_cases ha10 : ta7 < ta9
        · replace h := ite_t h ha10
          obtain ⟨ha11, h⟩ := grd_of h
          replace h := Option.some.inj h
          subst h
          exact ⟨100, 16, [.br true, .ret (.tup [.agg [I ta3.1, I ta3.2.1], B ta3.2.2]), .br true, .br false, .ret (I ta7), .ret (I ta9), .br true], [], [1, 4, 5, 19, 20], [0], round_of (ob := [inI64 (sa.2.2 + 1), (decide (ta7 < ta9)) = true, Computes cx 59 [I (sa.1 - a3)] (I ta9), inI64 (sa.1 - a3), Computes cx 59 [I ((a0 + sa.2.2) - a3)] (I ta7), inI64 ((a0 + sa.2.2) - a3), (!sa.2.1) = false, ta3.2.2 = true, Computes cx 39 [.agg [I a0, I a1, I a2, I a3, I a4, I a5, .lst false 3 a6, I a7, I a8], I (a0 + sa.2.2)] (.tup [.agg [I ta3.1, I ta3.2.1], B ta3.2.2]), inI64 (a0 + sa.2.2), (decide (sa.2.2 < ((a1 - a0) + 1))) = true]) (by kernel_rfl) ⟨ha11, (decide_eq_true ha10), (c_drive_size ha9), ha8, (c_drive_size ha7), ha6, (notf ha5), ha4, (c_drive_aimed_hit ha3), ha2, (decide_eq_true ha1), trivial⟩⟩
        · replace h := ite_f h ha10
          obtain ⟨ha11, h⟩ := grd_of h
          replace h := Option.some.inj h
          subst h
          exact ⟨100, 16, [.br true, .ret (.tup [.agg [I ta3.1, I ta3.2.1], B ta3.2.2]), .br true, .br false, .ret (I ta7), .ret (I ta9), .br false], [], [1, 4, 5, 19, 20], [0], round_of (ob := [inI64 (sa.2.2 + 1), (decide (ta7 < ta9)) = false, Computes cx 59 [I (sa.1 - a3)] (I ta9), inI64 (sa.1 - a3), Computes cx 59 [I ((a0 + sa.2.2) - a3)] (I ta7), inI64 ((a0 + sa.2.2) - a3), (!sa.2.1) = false, ta3.2.2 = true, Computes cx 39 [.agg [I a0, I a1, I a2, I a3, I a4, I a5, .lst false 3 a6, I a7, I a8], I (a0 + sa.2.2)] (.tup [.agg [I ta3.1, I ta3.2.1], B ta3.2.2]), inI64 (a0 + sa.2.2), (decide (sa.2.2 < ((a1 - a0) + 1))) = true]) (by kernel_rfl) ⟨ha11, (decide_eq_false ha10), (c_drive_size ha9), ha8, (c_drive_size ha7), ha6, (notf ha5), ha4, (c_drive_aimed_hit ha3), ha2, (decide_eq_true ha1), trivial⟩⟩
      · replace h := ite_f h ha5
        obtain ⟨ha6, h⟩ := grd_of h
        replace h := Option.some.inj h
        subst h
        exact ⟨100, 16, [.br true, .ret (.tup [.agg [I ta3.1, I ta3.2.1], B ta3.2.2]), .br true, .br true, .no], [], [1, 4, 5, 19, 20], [0], round_of (ob := [inI64 (sa.2.2 + 1), (!sa.2.1) = true, ta3.2.2 = true, Computes cx 39 [.agg [I a0, I a1, I a2, I a3, I a4, I a5, .lst false 3 a6, I a7, I a8], I (a0 + sa.2.2)] (.tup [.agg [I ta3.1, I ta3.2.1], B ta3.2.2]), inI64 (a0 + sa.2.2), (decide (sa.2.2 < ((a1 - a0) + 1))) = true]) (by kernel_rfl) ⟨ha6, (nott (bfalse ha5)), ha4, (c_drive_aimed_hit ha3), ha2, (decide_eq_true ha1), trivial⟩⟩
    · replace h := ite_f h ha4
      obtain ⟨ha5, h⟩ := grd_of h
      replace h := Option.some.inj h
      subst h
      exact ⟨100, 16, [.br true, .ret (.tup [.agg [I ta3.1, I ta3.2.1], B ta3.2.2]), .br false, .no], [], [1, 4, 5, 19, 20], [0], round_of (ob := [inI64 (sa.2.2 + 1), ta3.2.2 = false, Computes cx 39 [.agg [I a0, I a1, I a2, I a3, I a4, I a5, .lst false 3 a6, I a7, I a8], I (a0 + sa.2.2)] (.tup [.agg [I ta3.1, I ta3.2.1], B ta3.2.2]), inI64 (a0 + sa.2.2), (decide (sa.2.2 < ((a1 - a0) + 1))) = true]) (by kernel_rfl) ⟨ha5, (bfalse ha4), (c_drive_aimed_hit ha3), ha2, (decide_eq_true ha1), trivial⟩⟩
  · replace h := ite_f h ha1
    replace h := Option.some.inj h
    subst h
    exact ⟨⟨100, 16, [.br false], [], [4, 5], [], round_of (ob := [(decide (sa.2.2 < ((a1 - a0) + 1))) = false]) (by kernel_rfl) ⟨(decide_eq_false ha1), trivial⟩⟩, nofun⟩
/- (spillage/drive.aimed).nearest: .agg [I a0, I a1, I a2, I a3, I a4, I a5, .lst false 3 a6, I a7, I a8] -/
def F_drive_aimed_nearest (n : Nat) (a0 : Int) (a1 : Int) (a2 : Int) (a3 : Int) (a4 : Int) (a5 : Int) (a6 : List D) (a7 : Int) (a8 : Int) : Option (Int × Int) :=
  if inI64 (a1 - a0) then
  if inI64 ((a1 - a0) + 1) then
  (loopF (F_drive_aimed_nearest_L1 n a0 a1 a2 a3 a4 a5 a6 a7 a8) n (0, false, 0)).bind fun t3 =>
  (F_drive_when_5 n (!t3.2) 18).bind fun t4 =>
  some (t3.1, t4)
  else none
  else none
theorem c_drive_aimed_nearest {n : Nat} {a0 : Int} {a1 : Int} {a2 : Int} {a3 : Int} {a4 : Int} {a5 : Int} {a6 : List D} {a7 : Int} {a8 : Int} {r : Int × Int} (h : F_drive_aimed_nearest n a0 a1 a2 a3 a4 a5 a6 a7 a8 = some r) : Computes cx 38 [.agg [I a0, I a1, I a2, I a3, I a4, I a5, .lst false 3 a6, I a7, I a8]] (.tup [I r.1, I r.2]) := by
  unfold F_drive_aimed_nearest at h
  obtain ⟨h1, h⟩ := grd_of h
  obtain ⟨h2, h⟩ := grd_of h
  obtain ⟨t3, h3, h⟩ := bnd_of h
  obtain ⟨t4, h4, h⟩ := bnd_of h
  replace h := Option.some.inj h
  subst h
  exact run (n := 100) (f := 38) (args := [.agg [I a0, I a1, I a2, I a3, I a4, I a5, .lst false 3 a6, I a7, I a8]]) (orc := [.lp [] [1, 4, 5, 19, 20] [0] (.exit 0) [(4, .d (I t3.1)), (5, .d (B t3.2))] [] 73, .ret (I t4)]) (r := .tup [I t3.1, I t4]) (ob := [Computes cx 33 [B (!t3.2), I 18] (I t4), LoopN cx (loopAt cx.P 38 0) 63 0 false [(1, .ptr 0 0 0 0 0), (4, .d (I 0)), (5, .d (B false)), (19, .d (I ((a1 - a0) + 1))), (20, .d (I 0))] [(0, .box (.d (.agg [I a0, I a1, I a2, I a3, I a4, I a5, .lst false 3 a6, I a7, I a8])))] (.exit 0) [(4, .d (I t3.1)), (5, .d (B t3.2))] [], inI64 ((a1 - a0) + 1), inI64 (a1 - a0)]) (by kernel_rfl) ⟨(c_drive_when_5 h4), (loopF_to R_drive_aimed_nearest_L1 h3), h2, h1, trivial⟩
/- spillage/drive.Inverted: .agg [I a0, I a1, I a2], .agg [I a3, I a4, I a5], .lst false 3 a6, .agg [I a7, I a8] -/
def F_drive_Inverted (n : Nat) (a0 : Int) (a1 : Int) (a2 : Int) (a3 : Int) (a4 : Int) (a5 : Int) (a6 : List D) (a7 : Int) (a8 : Int) : Option (Int × Int) :=
  (F_drive_aimed_check n a0 a1 a2 a3 a4 a5 a6 a7 a8).bind fun t1 =>
  if t1 = 0 then
    (F_drive_aimed_nearest n a0 a1 a2 a3 a4 a5 a6 a7 a8).bind fun t3 =>
    some (t3.1, t3.2)
  else
  some (0, t1)
theorem c_drive_Inverted {n : Nat} {a0 : Int} {a1 : Int} {a2 : Int} {a3 : Int} {a4 : Int} {a5 : Int} {a6 : List D} {a7 : Int} {a8 : Int} {r : Int × Int} (h : F_drive_Inverted n a0 a1 a2 a3 a4 a5 a6 a7 a8 = some r) : Computes cx 12 [.agg [I a0, I a1, I a2], .agg [I a3, I a4, I a5], .lst false 3 a6, .agg [I a7, I a8]] (.tup [I r.1, I r.2]) := by
  unfold F_drive_Inverted at h
  obtain ⟨t1, h1, h⟩ := bnd_of h
  by_cases h2 : t1 = 0
  · replace h := ite_t h h2
    obtain ⟨t3, h3, h⟩ := bnd_of h
    replace h := Option.some.inj h
    subst h
    exact run (n := 100) (f := 12) (args := [.agg [I a0, I a1, I a2], .agg [I a3, I a4, I a5], .lst false 3 a6, .agg [I a7, I a8]]) (orc := [.ret (I t1), .br false, .ret (.tup [I t3.1, I t3.2])]) (r := .tup [I t3.1, I t3.2]) (ob := [Computes cx 38 [.agg [I a0, I a1, I a2, I a3, I a4, I a5, .lst false 3 a6, I a7, I a8]] (.tup [I t3.1, I t3.2]), (t1 != 0) = false, Computes cx 37 [.agg [I a0, I a1, I a2, I a3, I a4, I a5, .lst false 3 a6, I a7, I a8]] (I t1)]) (by kernel_rfl) ⟨(c_drive_aimed_nearest h3), (nef h2), (c_drive_aimed_check h1), trivial⟩
  · replace h := ite_f h h2
    replace h := Option.some.inj h
    subst h
    exact run (n := 100) (f := 12) (args := [.agg [I a0, I a1, I a2], .agg [I a3, I a4, I a5], .lst false 3 a6, .agg [I a7, I a8]]) (orc := [.ret (I t1), .br true]) (r := .tup [I 0, I t1]) (ob := [(t1 != 0) = true, Computes cx 37 [.agg [I a0, I a1, I a2, I a3, I a4, I a5, .lst false 3 a6, I a7, I a8]] (I t1)]) (by kernel_rfl) ⟨(net h2), (c_drive_aimed_check h1), trivial⟩
/- spillage/drive.CheckInverted: .agg [I a0, I a1, I a2], .agg [I a3, I a4, I a5], .lst false 3 a6, .agg [I a7, I a8], I a9 -/
def F_drive_CheckInverted (n : Nat) (a0 : Int) (a1 : Int) (a2 : Int) (a3 : Int) (a4 : Int) (a5 : Int) (a6 : List D) (a7 : Int) (a8 : Int) (a9 : Int) : Option (Int × Int × Int) :=
  (F_drive_aimed_check n a0 a1 a2 a3 a4 a5 a6 a7 a8).bind fun t1 =>
  (F_drive_within_3 n a9 a0 a1).bind fun t2 =>
  (F_drive_first n ([I t1, I t2])).bind fun t3 =>
  if t3 = 0 then
    (F_drive_aimed_hit n a0 a1 a2 a3 a4 a5 a6 a7 a8 a9).bind fun t5 =>
    if t5.2.2 = true then
      some (t5.1, t5.2.1, 0)
    else
    some (0, 0, 19)
  else
  some (0, 0, t3)
theorem c_drive_CheckInverted {n : Nat} {a0 : Int} {a1 : Int} {a2 : Int} {a3 : Int} {a4 : Int} {a5 : Int} {a6 : List D} {a7 : Int} {a8 : Int} {a9 : Int} {r : Int × Int × Int} (h : F_drive_CheckInverted n a0 a1 a2 a3 a4 a5 a6 a7 a8 a9 = some r) : Computes cx 13 [.agg [I a0, I a1, I a2], .agg [I a3, I a4, I a5], .lst false 3 a6, .agg [I a7, I a8], I a9] (.tup [.agg [I r.1, I r.2.1], I r.2.2]) := by
  unfold F_drive_CheckInverted at h
  obtain ⟨t1, h1, h⟩ := bnd_of h
  obtain ⟨t2, h2, h⟩ := bnd_of h
  obtain ⟨t3, h3, h⟩ := bnd_of h
  by_cases h4 : t3 = 0
  · replace h := ite_t h h4
    obtain ⟨t5, h5, h⟩ := bnd_of h
    by_cases h6 : t5.2.2 = true
    · replace h := ite_t h h6
      replace h := Option.some.inj h
      subst h
      exact run (n := 100) (f := 13) (args := [.agg [I a0, I a1, I a2], .agg [I a3, I a4, I a5], .lst false 3 a6, .agg [I a7, I a8], I a9]) (orc := [.ret (I t1), .ret (I t2), .ret (I t3), .br false, .ret (.tup [.agg [I t5.1, I t5.2.1], B t5.2.2]), .br false]) (r := .tup [.agg [I t5.1, I t5.2.1], I 0]) (ob := [(!t5.2.2) = false, Computes cx 39 [.agg [I a0, I a1, I a2, I a3, I a4, I a5, .lst false 3 a6, I a7, I a8], I a9] (.tup [.agg [I t5.1, I t5.2.1], B t5.2.2]), (t3 != 0) = false, Computes cx 29 [.lst true 1 [I t1, I t2]] (I t3), Computes cx 35 [I a9, I a0, I a1] (I t2), Computes cx 37 [.agg [I a0, I a1, I a2, I a3, I a4, I a5, .lst false 3 a6, I a7, I a8]] (I t1)]) (by kernel_rfl) ⟨(notf h6), (c_drive_aimed_hit h5), (nef h4), ((c_drive_first h3).le (.cons (.full _ _ _) (.nil)) (.refl _)), (c_drive_within_3 h2), (c_drive_aimed_check h1), trivial⟩
    · replace h := ite_f h h6
      replace h := Option.some.inj h
      subst h
      exact run (n := 100) (f := 13) (args := [.agg [I a0, I a1, I a2], .agg [I a3, I a4, I a5], .lst false 3 a6, .agg [I a7, I a8], I a9]) (orc := [.ret (I t1), .ret (I t2), .ret (I t3), .br false, .ret (.tup [.agg [I t5.1, I t5.2.1], B t5.2.2]), .br true]) (r := .tup [.agg [I 0, I 0], I 19]) (ob := [(!t5.2.2) = true, Computes cx 39 [.agg [I a0, I a1, I a2, I a3, I a4, I a5, .lst false 3 a6, I a7, I a8], I a9] (.tup [.agg [I t5.1, I t5.2.1], B t5.2.2]), (t3 != 0) = false, Computes cx 29 [.lst true 1 [I t1, I t2]] (I t3), Computes cx 35 [I a9, I a0, I a1] (I t2), Computes cx 37 [.agg [I a0, I a1, I a2, I a3, I a4, I a5, .lst false 3 a6, I a7, I a8]] (I t1)]) (by kernel_rfl) ⟨(nott (bfalse h6)), (c_drive_aimed_hit h5), (nef h4), ((c_drive_first h3).le (.cons (.full _ _ _) (.nil)) (.refl _)), (c_drive_within_3 h2), (c_drive_aimed_check h1), trivial⟩
  · replace h := ite_f h h4
    replace h := Option.some.inj h
    subst h
    exact run (n := 100) (f := 13) (args := [.agg [I a0, I a1, I a2], .agg [I a3, I a4, I a5], .lst false 3 a6, .agg [I a7, I a8], I a9]) (orc := [.ret (I t1), .ret (I t2), .ret (I t3), .br true]) (r := .tup [.agg [I 0, I 0], I t3]) (ob := [(t3 != 0) = true, Computes cx 29 [.lst true 1 [I t1, I t2]] (I t3), Computes cx 35 [I a9, I a0, I a1] (I t2), Computes cx 37 [.agg [I a0, I a1, I a2, I a3, I a4, I a5, .lst false 3 a6, I a7, I a8]] (I t1)]) (by kernel_rfl) ⟨(net h4), ((c_drive_first h3).le (.cons (.full _ _ _) (.nil)) (.refl _)), (c_drive_within_3 h2), (c_drive_aimed_check h1), trivial⟩
/- spillage/drive.CheckState: .agg [I a0, I a1, I a2], .agg [I a3, I a4, I a5] -/
def F_drive_CheckState (n : Nat) (a0 : Int) (a1 : Int) (a2 : Int) (a3 : Int) (a4 : Int) (a5 : Int) : Option (Int) :=
  (F_drive_posed_check n a0 a1 a2 a3 a4 a5).bind fun t1 =>
  some t1
theorem c_drive_CheckState {n : Nat} {a0 : Int} {a1 : Int} {a2 : Int} {a3 : Int} {a4 : Int} {a5 : Int} {r : Int} (h : F_drive_CheckState n a0 a1 a2 a3 a4 a5 = some r) : Computes cx 40 [.agg [I a0, I a1, I a2], .agg [I a3, I a4, I a5]] (I r) := by
  unfold F_drive_CheckState at h
  obtain ⟨t1, h1, h⟩ := bnd_of h
  replace h := Option.some.inj h
  subst h
  exact run (n := 100) (f := 40) (args := [.agg [I a0, I a1, I a2], .agg [I a3, I a4, I a5]]) (orc := [.ret (I t1)]) (r := I t1) (ob := [Computes cx 58 [.agg [I a0, I a1, I a2, I a3, I a4, I a5]] (I t1)]) (by kernel_rfl) ⟨(c_drive_posed_check h1), trivial⟩
def F_drive_Moved_L1 (n : Nat) (a6 : List D) (sa : (Int × Int × Int × Int × Int × Int × Int)) : Option (((Int × Int × Int × Int × Int × Int × Int)) ⊕ ((Unit) ⊕ (Int × Int × Int × Int × Int × Int))) :=
  if sa.1 < ((a6).length : Int) then
    (el un_i a6 sa.1).bind fun ta2 =>
    if inI64 (sa.2.1 - sa.2.2.2.2.1) then
    if ta2 < (sa.2.1 - sa.2.2.2.2.1) then
      some (.inr (.inl ()))
    else
    if inI64 (sa.2.2.1 - sa.2.2.2.2.1) then
    if ta2 > (sa.2.2.1 - sa.2.2.2.2.1) then
      some (.inr (.inl ()))
    else
    if inI64 (sa.2.2.2.2.1 + ta2) then
    (F_drive_posed_at n sa.2.1 sa.2.2.1 sa.2.2.2.1 sa.2.2.2.2.1 sa.2.2.2.2.2.1 sa.2.2.2.2.2.2 (sa.2.2.2.2.1 + ta2)).bind fun ta8 =>
    if inI64 (sa.1 + 1) then
    some (.inl ((sa.1 + 1), ta8.1, ta8.2.1, ta8.2.2.1, ta8.2.2.2.1, ta8.2.2.2.2.1, ta8.2.2.2.2.2))
    else none
    else none
    else none
    else none
  else
  some (.inr (.inr (sa.2.1, sa.2.2.1, sa.2.2.2.1, sa.2.2.2.2.1, sa.2.2.2.2.2.1, sa.2.2.2.2.2.2)))
noncomputable def T_drive_Moved_L1 (a6 : List D) (sa : (Int × Int × Int × Int × Int × Int × Int)) : List (Nat × AV) := [(6, .ptr 2 0 0 0 0), (9, .ptr 19 0 0 0 0), (28, .d (.lst false 1 a6)), (29, .d (I ((a6).length : Int))), (30, .d (I sa.1))]
noncomputable def H_drive_Moved_L1 (a6 : List D) (sa : (Int × Int × Int × Int × Int × Int × Int)) : List (Nat × Blk) := [(2, .box (.d (.agg [I 0, I 0, I 0]))), (19, .box (.d (.agg [I sa.2.1, I sa.2.2.1, I sa.2.2.2.1, I sa.2.2.2.2.1, I sa.2.2.2.2.2.1, I sa.2.2.2.2.2.2])))]
noncomputable def X_drive_Moved_L1 (a6 : List D) (e : (Unit) ⊕ (Int × Int × Int × Int × Int × Int)) : Ex := match e with
  | (.inl e) => .ret
  | (.inr e) => (.exit 0)
noncomputable def XT_drive_Moved_L1 (a6 : List D) (e : (Unit) ⊕ (Int × Int × Int × Int × Int × Int)) : List (Nat × AV) := match e with
  | (.inl e) => [(6, .ptr 2 0 0 0 0), (7, .d (I 20))]
  | (.inr e) => [(6, .ptr 2 0 0 0 0), (9, .ptr 19 0 0 0 0)]
noncomputable def XH_drive_Moved_L1 (a6 : List D) (e : (Unit) ⊕ (Int × Int × Int × Int × Int × Int)) : List (Nat × Blk) := match e with
  | (.inl e) => [(2, .box (.d (.agg [I 0, I 0, I 0])))]
  | (.inr e) => [(2, .box (.d (.agg [I 0, I 0, I 0]))), (19, .box (.d (.agg [I e.1, I e.2.1, I e.2.2.1, I e.2.2.2.1, I e.2.2.2.2.1, I e.2.2.2.2.2])))]
theorem R_drive_Moved_L1 {n : Nat} {a6 : List D} (sa : (Int × Int × Int × Int × Int × Int × Int)) (r) (h : F_drive_Moved_L1 n a6 sa = some r) : Rd cx (loopAt cx.P 14 0) 65 0 false (T_drive_Moved_L1 a6) (H_drive_Moved_L1 a6) (X_drive_Moved_L1 a6) (XT_drive_Moved_L1 a6) (XH_drive_Moved_L1 a6) sa r := by
  unfold F_drive_Moved_L1 at h
  by_cases ha1 : sa.1 < ((a6).length : Int)
  · replace h := ite_t h ha1
    obtain ⟨ta2, ha2, h⟩ := bnd_of h
    obtain ⟨ha3, h⟩ := grd_of h
    by_cases ha4 : ta2 < (sa.2.1 - sa.2.2.2.2.1)
    · replace h := ite_t h ha4
      replace h := Option.some.inj h
      subst h
      exact ⟨⟨100, 24, [.br true, .el (I ta2), .br true, .no], [], [6, 7], [2], round_of (ob := [(decide (ta2 < (sa.2.1 - sa.2.2.2.2.1))) = true, inI64 (sa.2.1 - sa.2.2.2.2.1), (0 : Int) ≤ sa.1, nth (a6) (Int.toNat sa.1) = some (I ta2), (decide (sa.1 < ((a6).length : Int))) = true]) (by kernel_rfl) ⟨(decide_eq_true ha4), ha3, (el_ok un_i_ok ha2).1, (el_ok un_i_ok ha2).2, (decide_eq_true ha1), trivial⟩⟩, nofun⟩
    · replace h := ite_f h ha4
      obtain ⟨ha5, h⟩ := grd_of h
      by_cases ha6 : ta2 > (sa.2.2.1 - sa.2.2.2.2.1)
      · replace h := ite_t h ha6
        replace h := Option.some.inj h
        subst h
        exact ⟨⟨100, 24, [.br true, .el (I ta2), .br false, .br true], [], [6, 7], [2], round_of (ob := [(decide (ta2 > (sa.2.2.1 - sa.2.2.2.2.1))) = true, inI64 (sa.2.2.1 - sa.2.2.2.2.1), (decide (ta2 < (sa.2.1 - sa.2.2.2.2.1))) = false, inI64 (sa.2.1 - sa.2.2.2.2.1), (0 : Int) ≤ sa.1, nth (a6) (Int.toNat sa.1) = some (I ta2), (decide (sa.1 < ((a6).length : Int))) = true]) (by kernel_rfl) ⟨(decide_eq_true ha6), ha5, (decide_eq_false ha4), ha3, (el_ok un_i_ok ha2).1, (el_ok un_i_ok ha2).2, (decide_eq_true ha1), trivial⟩⟩, nofun⟩
      · replace h := ite_f h ha6
        obtain ⟨ha7, h⟩ := grd_of h
        obtain ⟨ta8, ha8, h⟩ := bnd_of h
        obtain ⟨ha9, h⟩ := grd_of h
        replace h := Option.some.inj h
        subst h
        exact ⟨100, 24, [.br true, .el (I ta2), .br false, .br false, .ret (.agg [I ta8.1, I ta8.2.1, I ta8.2.2.1, I ta8.2.2.2.1, I ta8.2.2.2.2.1, I ta8.2.2.2.2.2])], [], [6, 9, 28, 29, 30], [2, 19], round_of (ob := [inI64 (sa.1 + 1), Computes cx 41 [.agg [I sa.2.1, I sa.2.2.1, I sa.2.2.2.1, I sa.2.2.2.2.1, I sa.2.2.2.2.2.1, I sa.2.2.2.2.2.2], I (sa.2.2.2.2.1 + ta2)] (.agg [I ta8.1, I ta8.2.1, I ta8.2.2.1, I ta8.2.2.2.1, I ta8.2.2.2.2.1, I ta8.2.2.2.2.2]), inI64 (sa.2.2.2.2.1 + ta2), (decide (ta2 > (sa.2.2.1 - sa.2.2.2.2.1))) = false, inI64 (sa.2.2.1 - sa.2.2.2.2.1), (decide (ta2 < (sa.2.1 - sa.2.2.2.2.1))) = false, inI64 (sa.2.1 - sa.2.2.2.2.1), (0 : Int) ≤ sa.1, nth (a6) (Int.toNat sa.1) = some (I ta2), (decide (sa.1 < ((a6).length : Int))) = true]) (by kernel_rfl) ⟨ha9, (c_drive_posed_at ha8), ha7, (decide_eq_false ha6), ha5, (decide_eq_false ha4), ha3, (el_ok un_i_ok ha2).1, (el_ok un_i_ok ha2).2, (decide_eq_true ha1), trivial⟩⟩
  · replace h := ite_f h ha1
    replace h := Option.some.inj h
    subst h
    exact ⟨⟨100, 24, [.br false], [], [6, 9], [2, 19], round_of (ob := [(decide (sa.1 < ((a6).length : Int))) = false]) (by kernel_rfl) ⟨(decide_eq_false ha1), trivial⟩⟩, nofun⟩
/- spillage/drive.Moved: .agg [I a0, I a1, I a2], .agg [I a3, I a4, I a5], .lst false 1 a6 -/
def F_drive_Moved (n : Nat) (a0 : Int) (a1 : Int) (a2 : Int) (a3 : Int) (a4 : Int) (a5 : Int) (a6 : List D) : Option (Int × Int × Int × Int) :=
  (F_drive_CheckState n a0 a1 a2 a3 a4 a5).bind fun t1 =>
  (F_drive_when_5 n (decide (((a6).length : Int) > 256)) 5).bind fun t2 =>
  (F_drive_first n ([I t1, I t2])).bind fun t3 =>
  if t3 = 0 then
    (loopF (F_drive_Moved_L1 n a6) n (0, a0, a1, a2, a3, a4, a5)).bind fun t5 => match t5 with
      | (.inl t5) => (
        some (0, 0, 0, 20))
      | (.inr t5) => (
        some (t5.2.2.2.1, t5.2.2.2.2.1, t5.2.2.2.2.2, 0))
  else
  some (0, 0, 0, t3)
theorem c_drive_Moved {n : Nat} {a0 : Int} {a1 : Int} {a2 : Int} {a3 : Int} {a4 : Int} {a5 : Int} {a6 : List D} {r : Int × Int × Int × Int} (h : F_drive_Moved n a0 a1 a2 a3 a4 a5 a6 = some r) : Computes cx 14 [.agg [I a0, I a1, I a2], .agg [I a3, I a4, I a5], .lst false 1 a6] (.tup [.agg [I r.1, I r.2.1, I r.2.2.1], I r.2.2.2]) := by
  unfold F_drive_Moved at h
  obtain ⟨t1, h1, h⟩ := bnd_of h
  obtain ⟨t2, h2, h⟩ := bnd_of h
  obtain ⟨t3, h3, h⟩ := bnd_of h
  by_cases h4 : t3 = 0
  · replace h := ite_t h h4
    obtain ⟨t5, h5, h⟩ := bnd_of h
    rcases t5 with t5 | t5
    · replace h := Option.some.inj h
      subst h
      exact run (n := 100) (f := 14) (args := [.agg [I a0, I a1, I a2], .agg [I a3, I a4, I a5], .lst false 1 a6]) (orc := [.ret (I t1), .ret (I t2), .ret (I t3), .br false, .lp [] [6, 9, 28, 29, 30] [2, 19] .ret [(6, .ptr 2 0 0 0 0), (7, .d (I 20))] [(2, .box (.d (.agg [I 0, I 0, I 0])))] 69]) (r := .tup [.agg [I 0, I 0, I 0], I 20]) (ob := [LoopN cx (loopAt cx.P 14 0) 65 0 false [(6, .ptr 2 0 0 0 0), (9, .ptr 19 0 0 0 0), (28, .d (.lst false 1 a6)), (29, .d (I ((a6).length : Int))), (30, .d (I 0))] [(2, .box (.d (.agg [I 0, I 0, I 0]))), (19, .box (.d (.agg [I a0, I a1, I a2, I a3, I a4, I a5])))] .ret [(6, .ptr 2 0 0 0 0), (7, .d (I 20))] [(2, .box (.d (.agg [I 0, I 0, I 0])))], (t3 != 0) = false, Computes cx 29 [.lst true 1 [I t1, I t2]] (I t3), Computes cx 33 [B (decide (((a6).length : Int) > 256)), I 5] (I t2), Computes cx 40 [.agg [I a0, I a1, I a2], .agg [I a3, I a4, I a5]] (I t1)]) (by kernel_rfl) ⟨(loopF_to R_drive_Moved_L1 h5), (nef h4), ((c_drive_first h3).le (.cons (.full _ _ _) (.nil)) (.refl _)), (c_drive_when_5 h2), (c_drive_CheckState h1), trivial⟩
    · replace h := Option.some.inj h
      subst h
      exact run (n := 100) (f := 14) (args := [.agg [I a0, I a1, I a2], .agg [I a3, I a4, I a5], .lst false 1 a6]) (orc := [.ret (I t1), .ret (I t2), .ret (I t3), .br false, .lp [] [6, 9, 28, 29, 30] [2, 19] (.exit 0) [(6, .ptr 2 0 0 0 0), (9, .ptr 19 0 0 0 0)] [(2, .box (.d (.agg [I 0, I 0, I 0]))), (19, .box (.d (.agg [I t5.1, I t5.2.1, I t5.2.2.1, I t5.2.2.2.1, I t5.2.2.2.2.1, I t5.2.2.2.2.2])))] 69]) (r := .tup [.agg [I t5.2.2.2.1, I t5.2.2.2.2.1, I t5.2.2.2.2.2], I 0]) (ob := [LoopN cx (loopAt cx.P 14 0) 65 0 false [(6, .ptr 2 0 0 0 0), (9, .ptr 19 0 0 0 0), (28, .d (.lst false 1 a6)), (29, .d (I ((a6).length : Int))), (30, .d (I 0))] [(2, .box (.d (.agg [I 0, I 0, I 0]))), (19, .box (.d (.agg [I a0, I a1, I a2, I a3, I a4, I a5])))] (.exit 0) [(6, .ptr 2 0 0 0 0), (9, .ptr 19 0 0 0 0)] [(2, .box (.d (.agg [I 0, I 0, I 0]))), (19, .box (.d (.agg [I t5.1, I t5.2.1, I t5.2.2.1, I t5.2.2.2.1, I t5.2.2.2.2.1, I t5.2.2.2.2.2])))], (t3 != 0) = false, Computes cx 29 [.lst true 1 [I t1, I t2]] (I t3), Computes cx 33 [B (decide (((a6).length : Int) > 256)), I 5] (I t2), Computes cx 40 [.agg [I a0, I a1, I a2], .agg [I a3, I a4, I a5]] (I t1)]) (by kernel_rfl) ⟨(loopF_to R_drive_Moved_L1 h5), (nef h4), ((c_drive_first h3).le (.cons (.full _ _ _) (.nil)) (.refl _)), (c_drive_when_5 h2), (c_drive_CheckState h1), trivial⟩
  · replace h := ite_f h h4
    replace h := Option.some.inj h
    subst h
    exact run (n := 100) (f := 14) (args := [.agg [I a0, I a1, I a2], .agg [I a3, I a4, I a5], .lst false 1 a6]) (orc := [.ret (I t1), .ret (I t2), .ret (I t3), .br true]) (r := .tup [.agg [I 0, I 0, I 0], I t3]) (ob := [(t3 != 0) = true, Computes cx 29 [.lst true 1 [I t1, I t2]] (I t3), Computes cx 33 [B (decide (((a6).length : Int) > 256)), I 5] (I t2), Computes cx 40 [.agg [I a0, I a1, I a2], .agg [I a3, I a4, I a5]] (I t1)]) (by kernel_rfl) ⟨(net h4), ((c_drive_first h3).le (.cons (.full _ _ _) (.nil)) (.refl _)), (c_drive_when_5 h2), (c_drive_CheckState h1), trivial⟩
def F_top_TopAnvilMeasured_L1 (n : Nat) (a0 : Int) (a1 : Int) (a2 : List D) (a3 : Int) (a4 : Int) (a5 : Int) (a6 : Int) (a7 : Int) (a8 : Int) (a9 : Int) (a10 : Int) (a11 : Int) (sa : (Int × List D)) : Option (((Int × List D)) ⊕ ((Unit) ⊕ (List D))) :=
  if sa.1 < ((a2).length : Int) then
    (el un_Ai28iu8iu8Z a2 sa.1).bind fun ta2 =>
    if inI64 ((Int.tmod (IntKind.wrap .i64 a0) 21) * (Int.tmod (IntKind.wrap .i64 ta2.1) 60)) then
    if inI64 ((Int.tmod (IntKind.wrap .i64 a1) 1001) + ((Int.tmod (IntKind.wrap .i64 a0) 21) * (Int.tmod (IntKind.wrap .i64 ta2.1) 60))) then
    (F_sun_Reduced_2 n (100 + (IntKind.wrap .i64 a9)) ((Int.tmod (IntKind.wrap .i64 a1) 1001) + ((Int.tmod (IntKind.wrap .i64 a0) 21) * (Int.tmod (IntKind.wrap .i64 ta2.1) 60))) 0).bind fun ta5 =>
    if ta5.2.2.2 = 0 then
      (F_ref01_CheckVector n ta5.1 ta5.2.1 ta5.2.2.1).bind fun ta7 =>
      if ta7 = 0 then
        if ta5.1 < 1 then
          some (.inr (.inl ()))
        else
        if ta5.1 > (100 + (IntKind.wrap .i64 a9)) then
          some (.inr (.inl ()))
        else
        (F_sun_Hit n 0 0 0 ta5.1 ta5.2.1 ta5.2.2.1 (100 + (IntKind.wrap .i64 a9)) 0 0 1 0 0).bind fun ta11 =>
        if ta11.2.2 = 0 then
          if ta11.2.1 = 1 then
            if ta11.1 < 1 then
              some (.inr (.inl ()))
            else
            if ta11.1 > (100 + (IntKind.wrap .i64 a9)) then
              some (.inr (.inl ()))
            else
            if inI64 (ta11.1 * ta5.2.1) then
            if (ta11.1 * ta5.2.1) = ((Int.tmod (IntKind.wrap .i64 a1) 1001) + ((Int.tmod (IntKind.wrap .i64 a0) 21) * (Int.tmod (IntKind.wrap .i64 ta2.1) 60))) then
              if inI64 ((ta11.1 * ta5.2.1) - (IntKind.wrap .i64 ta2.2.1)) then
              if inI64 ((ta11.1 * ta5.2.1) + (IntKind.wrap .i64 ta2.2.2)) then
              if roomP 24 ((sa.2).length + 1) then
              if inI64 (sa.1 + 1) then
              some (.inl ((sa.1 + 1), (sa.2 ++ ([.agg [I (Int.tmod (IntKind.wrap .i64 ta2.1) 60), I ((ta11.1 * ta5.2.1) - (IntKind.wrap .i64 ta2.2.1)), I ((ta11.1 * ta5.2.1) + (IntKind.wrap .i64 ta2.2.2))]] : List D))))
              else none
              else none
              else none
              else none
            else
            some (.inr (.inl ()))
            else none
          else
          some (.inr (.inl ()))
        else
        some (.inr (.inl ()))
      else
      some (.inr (.inl ()))
    else
    some (.inr (.inl ()))
    else none
    else none
  else
  some (.inr (.inr sa.2))
noncomputable def T_top_TopAnvilMeasured_L1 (a0 : Int) (a1 : Int) (a2 : List D) (a3 : Int) (a4 : Int) (a5 : Int) (a6 : Int) (a7 : Int) (a8 : Int) (a9 : Int) (a10 : Int) (a11 : Int) (sa : (Int × List D)) : List (Nat × AV) := [(5, .ptr 1 0 0 0 0), (7, .d (I (Int.tmod (IntKind.wrap .i64 a0) 21))), (8, .d (I (Int.tmod (IntKind.wrap .i64 a1) 1001))), (9, .d (I (100 + (IntKind.wrap .i64 a9)))), (10, .own 38 0), (67, .d (.lst false 3 a2)), (68, .d (I ((a2).length : Int))), (69, .d (I sa.1))]
noncomputable def H_top_TopAnvilMeasured_L1 (a0 : Int) (a1 : Int) (a2 : List D) (a3 : Int) (a4 : Int) (a5 : Int) (a6 : Int) (a7 : Int) (a8 : Int) (a9 : Int) (a10 : Int) (a11 : Int) (sa : (Int × List D)) : List (Nat × Blk) := [(1, .box (.d (.agg [I a3, I a4, I a5, I a6, I a7, I a8, .v (.int .u8 a9), .v (.int .u16 a10), .v (.int .u16 a11)]))), (38, .row 0 3 sa.2)]
noncomputable def X_top_TopAnvilMeasured_L1 (a0 : Int) (a1 : Int) (a2 : List D) (a3 : Int) (a4 : Int) (a5 : Int) (a6 : Int) (a7 : Int) (a8 : Int) (a9 : Int) (a10 : Int) (a11 : Int) (e : (Unit) ⊕ (List D)) : Ex := match e with
  | (.inl e) => .ret
  | (.inr e) => (.exit 0)
noncomputable def XT_top_TopAnvilMeasured_L1 (a0 : Int) (a1 : Int) (a2 : List D) (a3 : Int) (a4 : Int) (a5 : Int) (a6 : Int) (a7 : Int) (a8 : Int) (a9 : Int) (a10 : Int) (a11 : Int) (e : (Unit) ⊕ (List D)) : List (Nat × AV) := match e with
  | (.inl e) => [(6, .d (B false))]
  | (.inr e) => [(5, .ptr 1 0 0 0 0), (7, .d (I (Int.tmod (IntKind.wrap .i64 a0) 21))), (8, .d (I (Int.tmod (IntKind.wrap .i64 a1) 1001))), (10, .own 38 0)]
noncomputable def XH_top_TopAnvilMeasured_L1 (a0 : Int) (a1 : Int) (a2 : List D) (a3 : Int) (a4 : Int) (a5 : Int) (a6 : Int) (a7 : Int) (a8 : Int) (a9 : Int) (a10 : Int) (a11 : Int) (e : (Unit) ⊕ (List D)) : List (Nat × Blk) := match e with
  | (.inl e) => []
  | (.inr e) => [(1, .box (.d (.agg [I a3, I a4, I a5, I a6, I a7, I a8, .v (.int .u8 a9), .v (.int .u16 a10), .v (.int .u16 a11)]))), (38, .row 0 3 e)]
theorem R_top_TopAnvilMeasured_L1 {n : Nat} {a0 : Int} {a1 : Int} {a2 : List D} {a3 : Int} {a4 : Int} {a5 : Int} {a6 : Int} {a7 : Int} {a8 : Int} {a9 : Int} {a10 : Int} {a11 : Int} (sa : (Int × List D)) (r) (h : F_top_TopAnvilMeasured_L1 n a0 a1 a2 a3 a4 a5 a6 a7 a8 a9 a10 a11 sa = some r) : Rd cx (loopAt cx.P 3 0) 372 0 false (T_top_TopAnvilMeasured_L1 a0 a1 a2 a3 a4 a5 a6 a7 a8 a9 a10 a11) (H_top_TopAnvilMeasured_L1 a0 a1 a2 a3 a4 a5 a6 a7 a8 a9 a10 a11) (X_top_TopAnvilMeasured_L1 a0 a1 a2 a3 a4 a5 a6 a7 a8 a9 a10 a11) (XT_top_TopAnvilMeasured_L1 a0 a1 a2 a3 a4 a5 a6 a7 a8 a9 a10 a11) (XH_top_TopAnvilMeasured_L1 a0 a1 a2 a3 a4 a5 a6 a7 a8 a9 a10 a11) sa r := by
  unfold F_top_TopAnvilMeasured_L1 at h
  by_cases ha1 : sa.1 < ((a2).length : Int)
  · replace h := ite_t h ha1
    obtain ⟨ta2, ha2, h⟩ := bnd_of h
    obtain ⟨ha3, h⟩ := grd_of h
    obtain ⟨ha4, h⟩ := grd_of h
    obtain ⟨ta5, ha5, h⟩ := bnd_of h
    by_cases ha6 : ta5.2.2.2 = 0
    · replace h := ite_t h ha6
      obtain ⟨ta7, ha7, h⟩ := bnd_of h
      by_cases ha8 : ta7 = 0
      · replace h := ite_t h ha8
        by_cases ha9 : ta5.1 < 1
        · replace h := ite_t h ha9
          replace h := Option.some.inj h
          subst h
          exact ⟨⟨100, 39, [.br true, .el (.agg [.v (.int .i8 ta2.1), .v (.int .u8 ta2.2.1), .v (.int .u8 ta2.2.2)]), .ret (.tup [.agg [I ta5.1, I ta5.2.1, I ta5.2.2.1], I ta5.2.2.2]), .br false, .ret (I ta7), .br false, .br true, .no], [], [6], [], round_of (ob := [(decide (ta5.1 < 1)) = true, (ta7 != 0) = false, Computes cx 7 [.agg [I ta5.1, I ta5.2.1, I ta5.2.2.1]] (I ta7), (ta5.2.2.2 != 0) = false, Computes cx 6 [.agg [I (100 + (IntKind.wrap .i64 a9)), I ((Int.tmod (IntKind.wrap .i64 a1) 1001) + ((Int.tmod (IntKind.wrap .i64 a0) 21) * (Int.tmod (IntKind.wrap .i64 ta2.1) 60))), I 0]] (.tup [.agg [I ta5.1, I ta5.2.1, I ta5.2.2.1], I ta5.2.2.2]), inI64 ((Int.tmod (IntKind.wrap .i64 a1) 1001) + ((Int.tmod (IntKind.wrap .i64 a0) 21) * (Int.tmod (IntKind.wrap .i64 ta2.1) 60))), inI64 ((Int.tmod (IntKind.wrap .i64 a0) 21) * (Int.tmod (IntKind.wrap .i64 ta2.1) 60)), (60 : Int) ≠ 0, (0 : Int) ≤ sa.1, nth (a2) (Int.toNat sa.1) = some (.agg [.v (.int .i8 ta2.1), .v (.int .u8 ta2.2.1), .v (.int .u8 ta2.2.2)]), (decide (sa.1 < ((a2).length : Int))) = true]) (by kernel_rfl) ⟨(decide_eq_true ha9), (nef ha8), (c_ref01_CheckVector ha7), (nef ha6), (c_sun_Reduced_2 ha5), ha4, ha3, (by decide), (el_ok un_Ai28iu8iu8Z_ok ha2).1, (el_ok un_Ai28iu8iu8Z_ok ha2).2, (decide_eq_true ha1), trivial⟩⟩, nofun⟩
        · replace h := ite_f h ha9
          by_cases ha10 : ta5.1 > (100 + (IntKind.wrap .i64 a9))
          · replace h := ite_t h ha10
            replace h := Option.some.inj h
            subst h
            exact ⟨⟨100, 39, [.br true, .el (.agg [.v (.int .i8 ta2.1), .v (.int .u8 ta2.2.1), .v (.int .u8 ta2.2.2)]), .ret (.tup [.agg [I ta5.1, I ta5.2.1, I ta5.2.2.1], I ta5.2.2.2]), .br false, .ret (I ta7), .br false, .br false, .br true], [], [6], [], round_of (ob := [(decide (ta5.1 > (100 + (IntKind.wrap .i64 a9)))) = true, (decide (ta5.1 < 1)) = false, (ta7 != 0) = false, Computes cx 7 [.agg [I ta5.1, I ta5.2.1, I ta5.2.2.1]] (I ta7), (ta5.2.2.2 != 0) = false, Computes cx 6 [.agg [I (100 + (IntKind.wrap .i64 a9)), I ((Int.tmod (IntKind.wrap .i64 a1) 1001) + ((Int.tmod (IntKind.wrap .i64 a0) 21) * (Int.tmod (IntKind.wrap .i64 ta2.1) 60))), I 0]] (.tup [.agg [I ta5.1, I ta5.2.1, I ta5.2.2.1], I ta5.2.2.2]), inI64 ((Int.tmod (IntKind.wrap .i64 a1) 1001) + ((Int.tmod (IntKind.wrap .i64 a0) 21) * (Int.tmod (IntKind.wrap .i64 ta2.1) 60))), inI64 ((Int.tmod (IntKind.wrap .i64 a0) 21) * (Int.tmod (IntKind.wrap .i64 ta2.1) 60)), (60 : Int) ≠ 0, (0 : Int) ≤ sa.1, nth (a2) (Int.toNat sa.1) = some (.agg [.v (.int .i8 ta2.1), .v (.int .u8 ta2.2.1), .v (.int .u8 ta2.2.2)]), (decide (sa.1 < ((a2).length : Int))) = true]) (by kernel_rfl) ⟨(decide_eq_true ha10), (decide_eq_false ha9), (nef ha8), (c_ref01_CheckVector ha7), (nef ha6), (c_sun_Reduced_2 ha5), ha4, ha3, (by decide), (el_ok un_Ai28iu8iu8Z_ok ha2).1, (el_ok un_Ai28iu8iu8Z_ok ha2).2, (decide_eq_true ha1), trivial⟩⟩, nofun⟩
          · replace h := ite_f h ha10
            obtain ⟨ta11, ha11, h⟩ := bnd_of h
            by_cases ha12 : ta11.2.2 = 0
            · replace h := ite_t h ha12
              by_cases ha13 : ta11.2.1 = 1
              · replace h := ite_t h ha13
                by_cases ha14 : ta11.1 < 1
                · replace h := ite_t h ha14
                  replace h := Option.some.inj h
                  subst h
                  exact ⟨⟨100, 39, [.br true, .el (.agg [.v (.int .i8 ta2.1), .v (.int .u8 ta2.2.1), .v (.int .u8 ta2.2.2)]), .ret (.tup [.agg [I ta5.1, I ta5.2.1, I ta5.2.2.1], I ta5.2.2.2]), .br false, .ret (I ta7), .br false, .br false, .br false, .ret (.tup [.agg [I ta11.1, I ta11.2.1], I ta11.2.2]), .br false, .br false, .br true, .no, .no], [], [6], [], round_of (ob := [(decide (ta11.1 < 1)) = true, (ta11.2.1 != 1) = false, (ta11.2.2 != 0) = false, Computes cx 8 [.agg [I 0, I 0, I 0], .agg [I ta5.1, I ta5.2.1, I ta5.2.2.1], .agg [I (100 + (IntKind.wrap .i64 a9)), I 0, I 0], .agg [I 1, I 0, I 0]] (.tup [.agg [I ta11.1, I ta11.2.1], I ta11.2.2]), (decide (ta5.1 > (100 + (IntKind.wrap .i64 a9)))) = false, (decide (ta5.1 < 1)) = false, (ta7 != 0) = false, Computes cx 7 [.agg [I ta5.1, I ta5.2.1, I ta5.2.2.1]] (I ta7), (ta5.2.2.2 != 0) = false, Computes cx 6 [.agg [I (100 + (IntKind.wrap .i64 a9)), I ((Int.tmod (IntKind.wrap .i64 a1) 1001) + ((Int.tmod (IntKind.wrap .i64 a0) 21) * (Int.tmod (IntKind.wrap .i64 ta2.1) 60))), I 0]] (.tup [.agg [I ta5.1, I ta5.2.1, I ta5.2.2.1], I ta5.2.2.2]), inI64 ((Int.tmod (IntKind.wrap .i64 a1) 1001) + ((Int.tmod (IntKind.wrap .i64 a0) 21) * (Int.tmod (IntKind.wrap .i64 ta2.1) 60))), inI64 ((Int.tmod (IntKind.wrap .i64 a0) 21) * (Int.tmod (IntKind.wrap .i64 ta2.1) 60)), (60 : Int) ≠ 0, (0 : Int) ≤ sa.1, nth (a2) (Int.toNat sa.1) = some (.agg [.v (.int .i8 ta2.1), .v (.int .u8 ta2.2.1), .v (.int .u8 ta2.2.2)]), (decide (sa.1 < ((a2).length : Int))) = true]) (by kernel_rfl) ⟨(decide_eq_true ha14), (nef ha13), (nef ha12), (c_sun_Hit ha11), (decide_eq_false ha10), (decide_eq_false ha9), (nef ha8), (c_ref01_CheckVector ha7), (nef ha6), (c_sun_Reduced_2 ha5), ha4, ha3, (by decide), (el_ok un_Ai28iu8iu8Z_ok ha2).1, (el_ok un_Ai28iu8iu8Z_ok ha2).2, (decide_eq_true ha1), trivial⟩⟩, nofun⟩
                · replace h := ite_f h ha14
                  by_cases ha15 : ta11.1 > (100 + (IntKind.wrap .i64 a9))
                  · replace h := ite_t h ha15
                    replace h := Option.some.inj h
                    subst h
                    exact ⟨⟨100, 39, [.br true, .el (.agg [.v (.int .i8 ta2.1), .v (.int .u8 ta2.2.1), .v (.int .u8 ta2.2.2)]), .ret (.tup [.agg [I ta5.1, I ta5.2.1, I ta5.2.2.1], I ta5.2.2.2]), .br false, .ret (I ta7), .br false, .br false, .br false, .ret (.tup [.agg [I ta11.1, I ta11.2.1], I ta11.2.2]), .br false, .br false, .br false, .br true, .no], [], [6], [], round_of (ob := [(decide (ta11.1 > (100 + (IntKind.wrap .i64 a9)))) = true, (decide (ta11.1 < 1)) = false, (ta11.2.1 != 1) = false, (ta11.2.2 != 0) = false, Computes cx 8 [.agg [I 0, I 0, I 0], .agg [I ta5.1, I ta5.2.1, I ta5.2.2.1], .agg [I (100 + (IntKind.wrap .i64 a9)), I 0, I 0], .agg [I 1, I 0, I 0]] (.tup [.agg [I ta11.1, I ta11.2.1], I ta11.2.2]), (decide (ta5.1 > (100 + (IntKind.wrap .i64 a9)))) = false, (decide (ta5.1 < 1)) = false, (ta7 != 0) = false, Computes cx 7 [.agg [I ta5.1, I ta5.2.1, I ta5.2.2.1]] (I ta7), (ta5.2.2.2 != 0) = false, Computes cx 6 [.agg [I (100 + (IntKind.wrap .i64 a9)), I ((Int.tmod (IntKind.wrap .i64 a1) 1001) + ((Int.tmod (IntKind.wrap .i64 a0) 21) * (Int.tmod (IntKind.wrap .i64 ta2.1) 60))), I 0]] (.tup [.agg [I ta5.1, I ta5.2.1, I ta5.2.2.1], I ta5.2.2.2]), inI64 ((Int.tmod (IntKind.wrap .i64 a1) 1001) + ((Int.tmod (IntKind.wrap .i64 a0) 21) * (Int.tmod (IntKind.wrap .i64 ta2.1) 60))), inI64 ((Int.tmod (IntKind.wrap .i64 a0) 21) * (Int.tmod (IntKind.wrap .i64 ta2.1) 60)), (60 : Int) ≠ 0, (0 : Int) ≤ sa.1, nth (a2) (Int.toNat sa.1) = some (.agg [.v (.int .i8 ta2.1), .v (.int .u8 ta2.2.1), .v (.int .u8 ta2.2.2)]), (decide (sa.1 < ((a2).length : Int))) = true]) (by kernel_rfl) ⟨(decide_eq_true ha15), (decide_eq_false ha14), (nef ha13), (nef ha12), (c_sun_Hit ha11), (decide_eq_false ha10), (decide_eq_false ha9), (nef ha8), (c_ref01_CheckVector ha7), (nef ha6), (c_sun_Reduced_2 ha5), ha4, ha3, (by decide), (el_ok un_Ai28iu8iu8Z_ok ha2).1, (el_ok un_Ai28iu8iu8Z_ok ha2).2, (decide_eq_true ha1), trivial⟩⟩, nofun⟩
                  · replace h := ite_f h ha15
                    obtain ⟨ha16, h⟩ := grd_of h
                    by_cases ha17 : (ta11.1 * ta5.2.1) = ((Int.tmod (IntKind.wrap .i64 a1) 1001) + ((Int.tmod (IntKind.wrap .i64 a0) 21) * (Int.tmod (IntKind.wrap .i64 ta2.1) 60)))
                    · replace h := ite_t h ha17
                      obtain ⟨ha18, h⟩ := grd_of h
                      obtain ⟨ha19, h⟩ := grd_of h
                      obtain ⟨ha20, h⟩ := grd_of h
                      obtain ⟨ha21, h⟩ := grd_of h
                      replace h := Option.some.inj h
                      subst h
                      exact ⟨100, 39, [.br true, .el (.agg [.v (.int .i8 ta2.1), .v (.int .u8 ta2.2.1), .v (.int .u8 ta2.2.2)]), .ret (.tup [.agg [I ta5.1, I ta5.2.1, I ta5.2.2.1], I ta5.2.2.2]), .br false, .ret (I ta7), .br false, .br false, .br false, .ret (.tup [.agg [I ta11.1, I ta11.2.1], I ta11.2.2]), .br false, .br false, .br false, .br false, .br false, .br true], [], [5, 7, 8, 9, 10, 67, 68, 69], [1, 38], round_of (ob := [inI64 (sa.1 + 1), room cx 51 ((sa.2).length + 1), inI64 ((ta11.1 * ta5.2.1) + (IntKind.wrap .i64 ta2.2.2)), inI64 (ta11.1 * ta5.2.1), inI64 ((ta11.1 * ta5.2.1) - (IntKind.wrap .i64 ta2.2.1)), inI64 (ta11.1 * ta5.2.1), (60 : Int) ≠ 0, ((ta11.1 * ta5.2.1) != ((Int.tmod (IntKind.wrap .i64 a1) 1001) + ((Int.tmod (IntKind.wrap .i64 a0) 21) * (Int.tmod (IntKind.wrap .i64 ta2.1) 60)))) = false, inI64 (ta11.1 * ta5.2.1), (decide (ta11.1 > (100 + (IntKind.wrap .i64 a9)))) = false, (decide (ta11.1 < 1)) = false, (ta11.2.1 != 1) = false, (ta11.2.2 != 0) = false, Computes cx 8 [.agg [I 0, I 0, I 0], .agg [I ta5.1, I ta5.2.1, I ta5.2.2.1], .agg [I (100 + (IntKind.wrap .i64 a9)), I 0, I 0], .agg [I 1, I 0, I 0]] (.tup [.agg [I ta11.1, I ta11.2.1], I ta11.2.2]), (decide (ta5.1 > (100 + (IntKind.wrap .i64 a9)))) = false, (decide (ta5.1 < 1)) = false, (ta7 != 0) = false, Computes cx 7 [.agg [I ta5.1, I ta5.2.1, I ta5.2.2.1]] (I ta7), (ta5.2.2.2 != 0) = false, Computes cx 6 [.agg [I (100 + (IntKind.wrap .i64 a9)), I ((Int.tmod (IntKind.wrap .i64 a1) 1001) + ((Int.tmod (IntKind.wrap .i64 a0) 21) * (Int.tmod (IntKind.wrap .i64 ta2.1) 60))), I 0]] (.tup [.agg [I ta5.1, I ta5.2.1, I ta5.2.2.1], I ta5.2.2.2]), inI64 ((Int.tmod (IntKind.wrap .i64 a1) 1001) + ((Int.tmod (IntKind.wrap .i64 a0) 21) * (Int.tmod (IntKind.wrap .i64 ta2.1) 60))), inI64 ((Int.tmod (IntKind.wrap .i64 a0) 21) * (Int.tmod (IntKind.wrap .i64 ta2.1) 60)), (60 : Int) ≠ 0, (0 : Int) ≤ sa.1, nth (a2) (Int.toNat sa.1) = some (.agg [.v (.int .i8 ta2.1), .v (.int .u8 ta2.2.1), .v (.int .u8 ta2.2.2)]), (decide (sa.1 < ((a2).length : Int))) = true]) (by kernel_rfl) ⟨ha21, (room_of (b := 24) (by kernel_rfl) (by decide) ha20), ha19, ha16, ha18, ha16, (by decide), (nef ha17), ha16, (decide_eq_false ha15), (decide_eq_false ha14), (nef ha13), (nef ha12), (c_sun_Hit ha11), (decide_eq_false ha10), (decide_eq_false ha9), (nef ha8), (c_ref01_CheckVector ha7), (nef ha6), (c_sun_Reduced_2 ha5), ha4, ha3, (by decide), (el_ok un_Ai28iu8iu8Z_ok ha2).1, (el_ok un_Ai28iu8iu8Z_ok ha2).2, (decide_eq_true ha1), trivial⟩⟩
                    · replace h := ite_f h ha17
                      replace h := Option.some.inj h
                      subst h
                      exact ⟨⟨100, 39, [.br true, .el (.agg [.v (.int .i8 ta2.1), .v (.int .u8 ta2.2.1), .v (.int .u8 ta2.2.2)]), .ret (.tup [.agg [I ta5.1, I ta5.2.1, I ta5.2.2.1], I ta5.2.2.2]), .br false, .ret (I ta7), .br false, .br false, .br false, .ret (.tup [.agg [I ta11.1, I ta11.2.1], I ta11.2.2]), .br false, .br false, .br false, .br false, .br true], [], [6], [], round_of (ob := [((ta11.1 * ta5.2.1) != ((Int.tmod (IntKind.wrap .i64 a1) 1001) + ((Int.tmod (IntKind.wrap .i64 a0) 21) * (Int.tmod (IntKind.wrap .i64 ta2.1) 60)))) = true, inI64 (ta11.1 * ta5.2.1), (decide (ta11.1 > (100 + (IntKind.wrap .i64 a9)))) = false, (decide (ta11.1 < 1)) = false, (ta11.2.1 != 1) = false, (ta11.2.2 != 0) = false, Computes cx 8 [.agg [I 0, I 0, I 0], .agg [I ta5.1, I ta5.2.1, I ta5.2.2.1], .agg [I (100 + (IntKind.wrap .i64 a9)), I 0, I 0], .agg [I 1, I 0, I 0]] (.tup [.agg [I ta11.1, I ta11.2.1], I ta11.2.2]), (decide (ta5.1 > (100 + (IntKind.wrap .i64 a9)))) = false, (decide (ta5.1 < 1)) = false, (ta7 != 0) = false, Computes cx 7 [.agg [I ta5.1, I ta5.2.1, I ta5.2.2.1]] (I ta7), (ta5.2.2.2 != 0) = false, Computes cx 6 [.agg [I (100 + (IntKind.wrap .i64 a9)), I ((Int.tmod (IntKind.wrap .i64 a1) 1001) + ((Int.tmod (IntKind.wrap .i64 a0) 21) * (Int.tmod (IntKind.wrap .i64 ta2.1) 60))), I 0]] (.tup [.agg [I ta5.1, I ta5.2.1, I ta5.2.2.1], I ta5.2.2.2]), inI64 ((Int.tmod (IntKind.wrap .i64 a1) 1001) + ((Int.tmod (IntKind.wrap .i64 a0) 21) * (Int.tmod (IntKind.wrap .i64 ta2.1) 60))), inI64 ((Int.tmod (IntKind.wrap .i64 a0) 21) * (Int.tmod (IntKind.wrap .i64 ta2.1) 60)), (60 : Int) ≠ 0, (0 : Int) ≤ sa.1, nth (a2) (Int.toNat sa.1) = some (.agg [.v (.int .i8 ta2.1), .v (.int .u8 ta2.2.1), .v (.int .u8 ta2.2.2)]), (decide (sa.1 < ((a2).length : Int))) = true]) (by kernel_rfl) ⟨(net ha17), ha16, (decide_eq_false ha15), (decide_eq_false ha14), (nef ha13), (nef ha12), (c_sun_Hit ha11), (decide_eq_false ha10), (decide_eq_false ha9), (nef ha8), (c_ref01_CheckVector ha7), (nef ha6), (c_sun_Reduced_2 ha5), ha4, ha3, (by decide), (el_ok un_Ai28iu8iu8Z_ok ha2).1, (el_ok un_Ai28iu8iu8Z_ok ha2).2, (decide_eq_true ha1), trivial⟩⟩, nofun⟩
              · replace h := ite_f h ha13
                replace h := Option.some.inj h
                subst h
                exact ⟨⟨100, 39, [.br true, .el (.agg [.v (.int .i8 ta2.1), .v (.int .u8 ta2.2.1), .v (.int .u8 ta2.2.2)]), .ret (.tup [.agg [I ta5.1, I ta5.2.1, I ta5.2.2.1], I ta5.2.2.2]), .br false, .ret (I ta7), .br false, .br false, .br false, .ret (.tup [.agg [I ta11.1, I ta11.2.1], I ta11.2.2]), .br false, .br true, .no, .no, .no], [], [6], [], round_of (ob := [(ta11.2.1 != 1) = true, (ta11.2.2 != 0) = false, Computes cx 8 [.agg [I 0, I 0, I 0], .agg [I ta5.1, I ta5.2.1, I ta5.2.2.1], .agg [I (100 + (IntKind.wrap .i64 a9)), I 0, I 0], .agg [I 1, I 0, I 0]] (.tup [.agg [I ta11.1, I ta11.2.1], I ta11.2.2]), (decide (ta5.1 > (100 + (IntKind.wrap .i64 a9)))) = false, (decide (ta5.1 < 1)) = false, (ta7 != 0) = false, Computes cx 7 [.agg [I ta5.1, I ta5.2.1, I ta5.2.2.1]] (I ta7), (ta5.2.2.2 != 0) = false, Computes cx 6 [.agg [I (100 + (IntKind.wrap .i64 a9)), I ((Int.tmod (IntKind.wrap .i64 a1) 1001) + ((Int.tmod (IntKind.wrap .i64 a0) 21) * (Int.tmod (IntKind.wrap .i64 ta2.1) 60))), I 0]] (.tup [.agg [I ta5.1, I ta5.2.1, I ta5.2.2.1], I ta5.2.2.2]), inI64 ((Int.tmod (IntKind.wrap .i64 a1) 1001) + ((Int.tmod (IntKind.wrap .i64 a0) 21) * (Int.tmod (IntKind.wrap .i64 ta2.1) 60))), inI64 ((Int.tmod (IntKind.wrap .i64 a0) 21) * (Int.tmod (IntKind.wrap .i64 ta2.1) 60)), (60 : Int) ≠ 0, (0 : Int) ≤ sa.1, nth (a2) (Int.toNat sa.1) = some (.agg [.v (.int .i8 ta2.1), .v (.int .u8 ta2.2.1), .v (.int .u8 ta2.2.2)]), (decide (sa.1 < ((a2).length : Int))) = true]) (by kernel_rfl) ⟨(net ha13), (nef ha12), (c_sun_Hit ha11), (decide_eq_false ha10), (decide_eq_false ha9), (nef ha8), (c_ref01_CheckVector ha7), (nef ha6), (c_sun_Reduced_2 ha5), ha4, ha3, (by decide), (el_ok un_Ai28iu8iu8Z_ok ha2).1, (el_ok un_Ai28iu8iu8Z_ok ha2).2, (decide_eq_true ha1), trivial⟩⟩, nofun⟩
            · replace h := ite_f h ha12
              replace h := Option.some.inj h
              subst h
              exact ⟨⟨100, 39, [.br true, .el (.agg [.v (.int .i8 ta2.1), .v (.int .u8 ta2.2.1), .v (.int .u8 ta2.2.2)]), .ret (.tup [.agg [I ta5.1, I ta5.2.1, I ta5.2.2.1], I ta5.2.2.2]), .br false, .ret (I ta7), .br false, .br false, .br false, .ret (.tup [.agg [I ta11.1, I ta11.2.1], I ta11.2.2]), .br true, .no, .no, .no, .no], [], [6], [], round_of (ob := [(ta11.2.2 != 0) = true, Computes cx 8 [.agg [I 0, I 0, I 0], .agg [I ta5.1, I ta5.2.1, I ta5.2.2.1], .agg [I (100 + (IntKind.wrap .i64 a9)), I 0, I 0], .agg [I 1, I 0, I 0]] (.tup [.agg [I ta11.1, I ta11.2.1], I ta11.2.2]), (decide (ta5.1 > (100 + (IntKind.wrap .i64 a9)))) = false, (decide (ta5.1 < 1)) = false, (ta7 != 0) = false, Computes cx 7 [.agg [I ta5.1, I ta5.2.1, I ta5.2.2.1]] (I ta7), (ta5.2.2.2 != 0) = false, Computes cx 6 [.agg [I (100 + (IntKind.wrap .i64 a9)), I ((Int.tmod (IntKind.wrap .i64 a1) 1001) + ((Int.tmod (IntKind.wrap .i64 a0) 21) * (Int.tmod (IntKind.wrap .i64 ta2.1) 60))), I 0]] (.tup [.agg [I ta5.1, I ta5.2.1, I ta5.2.2.1], I ta5.2.2.2]), inI64 ((Int.tmod (IntKind.wrap .i64 a1) 1001) + ((Int.tmod (IntKind.wrap .i64 a0) 21) * (Int.tmod (IntKind.wrap .i64 ta2.1) 60))), inI64 ((Int.tmod (IntKind.wrap .i64 a0) 21) * (Int.tmod (IntKind.wrap .i64 ta2.1) 60)), (60 : Int) ≠ 0, (0 : Int) ≤ sa.1, nth (a2) (Int.toNat sa.1) = some (.agg [.v (.int .i8 ta2.1), .v (.int .u8 ta2.2.1), .v (.int .u8 ta2.2.2)]), (decide (sa.1 < ((a2).length : Int))) = true]) (by kernel_rfl) ⟨(net ha12), (c_sun_Hit ha11), (decide_eq_false ha10), (decide_eq_false ha9), (nef ha8), (c_ref01_CheckVector ha7), (nef ha6), (c_sun_Reduced_2 ha5), ha4, ha3, (by decide), (el_ok un_Ai28iu8iu8Z_ok ha2).1, (el_ok un_Ai28iu8iu8Z_ok ha2).2, (decide_eq_true ha1), trivial⟩⟩, nofun⟩
      · replace h := ite_f h ha8
        replace h := Option.some.inj h
        subst h
        exact ⟨⟨100, 39, [.br true, .el (.agg [.v (.int .i8 ta2.1), .v (.int .u8 ta2.2.1), .v (.int .u8 ta2.2.2)]), .ret (.tup [.agg [I ta5.1, I ta5.2.1, I ta5.2.2.1], I ta5.2.2.2]), .br false, .ret (I ta7), .br true, .no, .no], [], [6], [], round_of (ob := [(ta7 != 0) = true, Computes cx 7 [.agg [I ta5.1, I ta5.2.1, I ta5.2.2.1]] (I ta7), (ta5.2.2.2 != 0) = false, Computes cx 6 [.agg [I (100 + (IntKind.wrap .i64 a9)), I ((Int.tmod (IntKind.wrap .i64 a1) 1001) + ((Int.tmod (IntKind.wrap .i64 a0) 21) * (Int.tmod (IntKind.wrap .i64 ta2.1) 60))), I 0]] (.tup [.agg [I ta5.1, I ta5.2.1, I ta5.2.2.1], I ta5.2.2.2]), inI64 ((Int.tmod (IntKind.wrap .i64 a1) 1001) + ((Int.tmod (IntKind.wrap .i64 a0) 21) * (Int.tmod (IntKind.wrap .i64 ta2.1) 60))), inI64 ((Int.tmod (IntKind.wrap .i64 a0) 21) * (Int.tmod (IntKind.wrap .i64 ta2.1) 60)), (60 : Int) ≠ 0, (0 : Int) ≤ sa.1, nth (a2) (Int.toNat sa.1) = some (.agg [.v (.int .i8 ta2.1), .v (.int .u8 ta2.2.1), .v (.int .u8 ta2.2.2)]), (decide (sa.1 < ((a2).length : Int))) = true]) (by kernel_rfl) ⟨(net ha8), (c_ref01_CheckVector ha7), (nef ha6), (c_sun_Reduced_2 ha5), ha4, ha3, (by decide), (el_ok un_Ai28iu8iu8Z_ok ha2).1, (el_ok un_Ai28iu8iu8Z_ok ha2).2, (decide_eq_true ha1), trivial⟩⟩, nofun⟩
    · replace h := ite_f h ha6
      replace h := Option.some.inj h
      subst h
      exact ⟨⟨100, 39, [.br true, .el (.agg [.v (.int .i8 ta2.1), .v (.int .u8 ta2.2.1), .v (.int .u8 ta2.2.2)]), .ret (.tup [.agg [I ta5.1, I ta5.2.1, I ta5.2.2.1], I ta5.2.2.2]), .br true, .no, .no, .no], [], [6], [], round_of (ob := [(ta5.2.2.2 != 0) = true, Computes cx 6 [.agg [I (100 + (IntKind.wrap .i64 a9)), I ((Int.tmod (IntKind.wrap .i64 a1) 1001) + ((Int.tmod (IntKind.wrap .i64 a0) 21) * (Int.tmod (IntKind.wrap .i64 ta2.1) 60))), I 0]] (.tup [.agg [I ta5.1, I ta5.2.1, I ta5.2.2.1], I ta5.2.2.2]), inI64 ((Int.tmod (IntKind.wrap .i64 a1) 1001) + ((Int.tmod (IntKind.wrap .i64 a0) 21) * (Int.tmod (IntKind.wrap .i64 ta2.1) 60))), inI64 ((Int.tmod (IntKind.wrap .i64 a0) 21) * (Int.tmod (IntKind.wrap .i64 ta2.1) 60)), (60 : Int) ≠ 0, (0 : Int) ≤ sa.1, nth (a2) (Int.toNat sa.1) = some (.agg [.v (.int .i8 ta2.1), .v (.int .u8 ta2.2.1), .v (.int .u8 ta2.2.2)]), (decide (sa.1 < ((a2).length : Int))) = true]) (by kernel_rfl) ⟨(net ha6), (c_sun_Reduced_2 ha5), ha4, ha3, (by decide), (el_ok un_Ai28iu8iu8Z_ok ha2).1, (el_ok un_Ai28iu8iu8Z_ok ha2).2, (decide_eq_true ha1), trivial⟩⟩, nofun⟩
  · replace h := ite_f h ha1
    replace h := Option.some.inj h
    subst h
    exact ⟨⟨100, 39, [.br false], [], [5, 7, 8, 10], [1, 38], round_of (ob := [(decide (sa.1 < ((a2).length : Int))) = false]) (by kernel_rfl) ⟨(decide_eq_false ha1), trivial⟩⟩, nofun⟩
end Go.Proofs.YtegcijomjkffgaaDoor
