/-
  Printed by gsx.py: functions of the program as Lean functions, and that the code computes them.
-/
import Derived.Test.YtoblljobcafecaaGreatDoorGen1
set_option linter.unusedVariables false
set_option linter.unusedSimpArgs false
set_option linter.unnecessarySimpa false
set_option maxRecDepth 10000
set_option maxHeartbeats 4000000
namespace Go.Proofs.YtoblljobcafecaaGreatDoor
open Go.SX
/- spillage/drive.CheckInverted: .agg [I a0, I a1, I a2], .agg [I a3, I a4, I a5], .lst false 3 a6, .agg [I a7, I a8], I a9 -/
def F_drive_CheckInverted (n : Nat) (a0 : Int) (a1 : Int) (a2 : Int) (a3 : Int) (a4 : Int) (a5 : Int) (a6 : List D) (a7 : Int) (a8 : Int) (a9 : Int) : Option (Int × Int × Int) :=
  (F_drive_aimed_check n a0 a1 a2 a3 a4 a5 a6 a7 a8).bind fun t1 =>
  (F_drive_within n a9 a0 a1).bind fun t2 =>
  (F_drive_first n ([I t1, I t2])).bind fun t3 =>
  if t3 = 0 then
    (F_drive_aimed_hit n a0 a1 a2 a3 a4 a5 a6 a7 a8 a9).bind fun t5 =>
    if t5.2.2 = true then
      some (t5.1, t5.2.1, 0)
    else
    some (0, 0, 19)
  else
  some (0, 0, t3)
theorem c_drive_CheckInverted {n : Nat} {a0 : Int} {a1 : Int} {a2 : Int} {a3 : Int} {a4 : Int} {a5 : Int} {a6 : List D} {a7 : Int} {a8 : Int} {a9 : Int} {r : Int × Int × Int} (h : F_drive_CheckInverted n a0 a1 a2 a3 a4 a5 a6 a7 a8 a9 = some r) : Computes cx 27 [.agg [I a0, I a1, I a2], .agg [I a3, I a4, I a5], .lst false 3 a6, .agg [I a7, I a8], I a9] (.tup [.agg [I r.1, I r.2.1], I r.2.2]) := by
  unfold F_drive_CheckInverted at h
  obtain ⟨t1, h1, h⟩ := bnd_of h
  obtain ⟨t2, h2, h⟩ := bnd_of h
  obtain ⟨t3, h3, h⟩ := bnd_of h
  by_cases h4 : t3 = 0
  · replace h := ite_t h h4
    obtain ⟨t5, h5, h⟩ := bnd_of h
    by_cases h6 : t5.2.2 = true
    · replace h := ite_t h h6
      replace h := Option.some.inj h
      subst h
      exact run_fr (n := 100) (orc := [.ret (I t1), .ret (I t2), .ret (I t3), .br false, .ret (.tup [.agg [I t5.1, I t5.2.1], B t5.2.2]), .br false]) (allC (notf h6) (allC (c_drive_aimed_hit h5) (allC (nef h4) (allC (((c_drive_first h3).le (.cons (.full _ _ _) (.nil)) (.refl _)) : Computes cx 48 [.lst true 1 [I t1, I t2]] (I t3)) (allC (c_drive_within h2) (allC (c_drive_aimed_check h1) allN)))))) (by kernel_rfl)
    · replace h := ite_f h h6
      replace h := Option.some.inj h
      subst h
      exact run_fr (n := 100) (orc := [.ret (I t1), .ret (I t2), .ret (I t3), .br false, .ret (.tup [.agg [I t5.1, I t5.2.1], B t5.2.2]), .br true]) (allC (nott (bfalse h6)) (allC (c_drive_aimed_hit h5) (allC (nef h4) (allC (((c_drive_first h3).le (.cons (.full _ _ _) (.nil)) (.refl _)) : Computes cx 48 [.lst true 1 [I t1, I t2]] (I t3)) (allC (c_drive_within h2) (allC (c_drive_aimed_check h1) allN)))))) (by kernel_rfl)
  · replace h := ite_f h h4
    replace h := Option.some.inj h
    subst h
    exact run_fr (n := 100) (orc := [.ret (I t1), .ret (I t2), .ret (I t3), .br true]) (allC (net h4) (allC (((c_drive_first h3).le (.cons (.full _ _ _) (.nil)) (.refl _)) : Computes cx 48 [.lst true 1 [I t1, I t2]] (I t3)) (allC (c_drive_within h2) (allC (c_drive_aimed_check h1) allN)))) (by kernel_rfl)
/- spillage/drive.Track$1: I a0 -/
def F_drive_Track_c1_4 (n : Nat) (a0 : Int) : Option (Int) :=
  (F_drive_within n a0 (-1000) 1000).bind fun t1 =>
  some t1
theorem c_drive_Track_c1_4 {n : Nat} {a0 : Int} {r : Int} (h : F_drive_Track_c1_4 n a0 = some r) : Computes cx 61 [I a0] (I r) := by
  unfold F_drive_Track_c1_4 at h
  obtain ⟨t1, h1, h⟩ := bnd_of h
  replace h := Option.some.inj h
  subst h
  exact run_fr (n := 100) (orc := [.ret (I t1)]) (allC (c_drive_within h1) allN) (by kernel_rfl)
def F_drive_Track_2_L1 (n : Nat) (a0 : Int) (a1 : Int) (a2 : Int) (a3 : Int) (a4 : Int) (a5 : Int) (sa : (Unit) ⊕ (Int × Int × List D)) : Option (((Unit) ⊕ (Int × Int × List D)) ⊕ ((Unit) ⊕ (List D))) := match sa with
  | (.inl sa) => (
    if ((a0 == a2) && ((a1 == a3) && true)) = true then
      some (.inr (.inl ()))
    else
    if inI64 (a2 - a0) then
    if inI64 (a0 + (maxI (IntKind.wrap .i64 (0 - a4)) (minI a4 (a2 - a0)))) then
    if inI64 (a3 - a1) then
    if inI64 (a1 + (maxI (IntKind.wrap .i64 (0 - a5)) (minI a5 (a3 - a1)))) then
    some (.inl (.inr ((a0 + (maxI (IntKind.wrap .i64 (0 - a4)) (minI a4 (a2 - a0)))), (a1 + (maxI (IntKind.wrap .i64 (0 - a5)) (minI a5 (a3 - a1)))), [.agg [I a0, I a1], .agg [I (a0 + (maxI (IntKind.wrap .i64 (0 - a4)) (minI a4 (a2 - a0)))), I (a1 + (maxI (IntKind.wrap .i64 (0 - a5)) (minI a5 (a3 - a1))))]])))
    else none
    else none
    else none
    else none)
  | (.inr sa) => (
    if ((sa.1 == a2) && ((sa.2.1 == a3) && true)) = true then
      some (.inr (.inr sa.2.2))
    else
    if inI64 (a2 - sa.1) then
    if inI64 (sa.1 + (maxI (IntKind.wrap .i64 (0 - a4)) (minI a4 (a2 - sa.1)))) then
    if inI64 (a3 - sa.2.1) then
    if inI64 (sa.2.1 + (maxI (IntKind.wrap .i64 (0 - a5)) (minI a5 (a3 - sa.2.1)))) then
    if roomP 16 ((sa.2.2).length + 1) then
    some (.inl (.inr ((sa.1 + (maxI (IntKind.wrap .i64 (0 - a4)) (minI a4 (a2 - sa.1)))), (sa.2.1 + (maxI (IntKind.wrap .i64 (0 - a5)) (minI a5 (a3 - sa.2.1)))), (sa.2.2 ++ ([.agg [I (sa.1 + (maxI (IntKind.wrap .i64 (0 - a4)) (minI a4 (a2 - sa.1)))), I (sa.2.1 + (maxI (IntKind.wrap .i64 (0 - a5)) (minI a5 (a3 - sa.2.1))))]] : List D)))))
    else none
    else none
    else none
    else none
    else none)
noncomputable def T_drive_Track_2_L1 (a0 : Int) (a1 : Int) (a2 : Int) (a3 : Int) (a4 : Int) (a5 : Int) (sa : (Unit) ⊕ (Int × Int × List D)) : List (Nat × AV) := match sa with
  | (.inl sa) => [(4, .ptr 1 0 0 0 0), (5, .ptr 2 0 0 0 0), (10, .ptr 34 0 0 0 0), (11, .own 39 0)]
  | (.inr sa) => [(4, .ptr 1 0 0 0 0), (5, .ptr 2 0 0 0 0), (10, .ptr 34 0 0 0 0), (11, .own 39 0)]
noncomputable def H_drive_Track_2_L1 (a0 : Int) (a1 : Int) (a2 : Int) (a3 : Int) (a4 : Int) (a5 : Int) (sa : (Unit) ⊕ (Int × Int × List D)) : List (Nat × Blk) := match sa with
  | (.inl sa) => [(1, .box (.d (.agg [I a2, I a3]))), (2, .box (.d (.agg [I a4, I a5]))), (34, .box (.d (.agg [I a0, I a1]))), (39, .virt 0 2 [.agg [I a0, I a1]])]
  | (.inr sa) => [(1, .box (.d (.agg [I a2, I a3]))), (2, .box (.d (.agg [I a4, I a5]))), (34, .box (.d (.agg [I sa.1, I sa.2.1]))), (39, .row 0 2 sa.2.2)]
noncomputable def X_drive_Track_2_L1 (a0 : Int) (a1 : Int) (a2 : Int) (a3 : Int) (a4 : Int) (a5 : Int) (e : (Unit) ⊕ (List D)) : Ex := match e with
  | (.inl e) => (.exit 0)
  | (.inr e) => (.exit 0)
noncomputable def XT_drive_Track_2_L1 (a0 : Int) (a1 : Int) (a2 : Int) (a3 : Int) (a4 : Int) (a5 : Int) (e : (Unit) ⊕ (List D)) : List (Nat × AV) := match e with
  | (.inl e) => [(11, .own 39 0)]
  | (.inr e) => [(11, .own 39 0)]
noncomputable def XH_drive_Track_2_L1 (a0 : Int) (a1 : Int) (a2 : Int) (a3 : Int) (a4 : Int) (a5 : Int) (e : (Unit) ⊕ (List D)) : List (Nat × Blk) := match e with
  | (.inl e) => [(39, .virt 0 2 [.agg [I a0, I a1]])]
  | (.inr e) => [(39, .row 0 2 e)]
theorem R_drive_Track_2_L1 {n : Nat} {a0 : Int} {a1 : Int} {a2 : Int} {a3 : Int} {a4 : Int} {a5 : Int} (sa : (Unit) ⊕ (Int × Int × List D)) (r) (h : F_drive_Track_2_L1 n a0 a1 a2 a3 a4 a5 sa = some r) : Rd cx (loopAt cx.P 28 0) 79 0 false (T_drive_Track_2_L1 a0 a1 a2 a3 a4 a5) (H_drive_Track_2_L1 a0 a1 a2 a3 a4 a5) (X_drive_Track_2_L1 a0 a1 a2 a3 a4 a5) (XT_drive_Track_2_L1 a0 a1 a2 a3 a4 a5) (XH_drive_Track_2_L1 a0 a1 a2 a3 a4 a5) sa r := by
  unfold F_drive_Track_2_L1 at h
  rcases sa with sa | sa
  · by_cases ha1 : ((a0 == a2) && ((a1 == a3) && true)) = true
    · replace h := ite_t h ha1
      replace h := Option.some.inj h
      subst h
      exact ⟨⟨100, 40, [.br false], [], [11], [39], round_fr (allC (notf ha1) allN) (by kernel_rfl)⟩, nofun⟩
    · replace h := ite_f h ha1
      obtain ⟨ha2, h⟩ := grd_of h
      obtain ⟨ha3, h⟩ := grd_of h
      obtain ⟨ha4, h⟩ := grd_of h
      obtain ⟨ha5, h⟩ := grd_of h
      replace h := Option.some.inj h
      subst h
      exact ⟨100, 40, [.br true, .no, .no, .no, .no, .no, .no, .no, .no], [], [4, 5, 10, 11], [1, 2, 34, 39], round_fr (allC ((by unfold inI64; omega) : inI64 2) (allC ha5 (allC ha4 (allC ((by unfold inI64; omega) : inI64 1) (allC ha3 (allC ha2 (allC (nott (bfalse ha1)) allN))))))) (by kernel_rfl)⟩
  · by_cases ha1 : ((sa.1 == a2) && ((sa.2.1 == a3) && true)) = true
    · replace h := ite_t h ha1
      replace h := Option.some.inj h
      subst h
      exact ⟨⟨100, 40, [.br false], [], [11], [39], round_fr (allC (notf ha1) allN) (by kernel_rfl)⟩, nofun⟩
    · replace h := ite_f h ha1
      obtain ⟨ha2, h⟩ := grd_of h
      obtain ⟨ha3, h⟩ := grd_of h
      obtain ⟨ha4, h⟩ := grd_of h
      obtain ⟨ha5, h⟩ := grd_of h
      obtain ⟨ha6, h⟩ := grd_of h
      replace h := Option.some.inj h
      subst h
      exact ⟨100, 40, [.br true, .no, .no, .no, .no, .no, .no, .br true], [], [4, 5, 10, 11], [1, 2, 34, 39], round_fr (allC ((room_of (b := 16) (by kernel_rfl) (by decide) ha6) : room cx 73 ((sa.2.2).length + 1)) (allC ((by unfold inI64; omega) : inI64 2) (allC ha5 (allC ha4 (allC ((by unfold inI64; omega) : inI64 1) (allC ha3 (allC ha2 (allC (nott (bfalse ha1)) allN)))))))) (by kernel_rfl)⟩
/- spillage/drive.Track: .agg [I a0, I a1], .agg [I a2, I a3], .agg [I a4, I a5] -/
def F_drive_Track_2 (n : Nat) (a0 : Int) (a1 : Int) (a2 : Int) (a3 : Int) (a4 : Int) (a5 : Int) : Option (List D × Int) :=
  (F_drive_Track_c1_4 n a0).bind fun t1 =>
  (F_drive_Track_c1_4 n a1).bind fun t2 =>
  (F_drive_Track_c1_4 n a2).bind fun t3 =>
  (F_drive_Track_c1_4 n a3).bind fun t4 =>
  (F_drive_within n a4 1 100).bind fun t5 =>
  (F_drive_within n a5 1 100).bind fun t6 =>
  (F_drive_first n ([I t1, I t2, I t3, I t4, I t5, I t6])).bind fun t7 =>
  if t7 = 0 then
    (loopF (F_drive_Track_2_L1 n a0 a1 a2 a3 a4 a5) n (.inl ())).bind fun t9 => match t9 with
      | (.inl t9) => (
        some ([.agg [I a0, I a1]], 0))
      | (.inr t9) => (
        some (t9, 0))
  else
  some ([], t7)
theorem c_drive_Track_2 {n : Nat} {a0 : Int} {a1 : Int} {a2 : Int} {a3 : Int} {a4 : Int} {a5 : Int} {r : List D × Int} (h : F_drive_Track_2 n a0 a1 a2 a3 a4 a5 = some r) : Computes cx 28 [.agg [I a0, I a1], .agg [I a2, I a3], .agg [I a4, I a5]] (.tup [.lst false 2 r.1, I r.2]) := by
  unfold F_drive_Track_2 at h
  obtain ⟨t1, h1, h⟩ := bnd_of h
  obtain ⟨t2, h2, h⟩ := bnd_of h
  obtain ⟨t3, h3, h⟩ := bnd_of h
  obtain ⟨t4, h4, h⟩ := bnd_of h
  obtain ⟨t5, h5, h⟩ := bnd_of h
  obtain ⟨t6, h6, h⟩ := bnd_of h
  obtain ⟨t7, h7, h⟩ := bnd_of h
  by_cases h8 : t7 = 0
  · replace h := ite_t h h8
    obtain ⟨t9, h9, h⟩ := bnd_of h
    rcases t9 with t9 | t9
    · replace h := Option.some.inj h
      subst h
      exact (run_fr (n := 100) (r := .tup [.lst true 2 [.agg [I a0, I a1]], I 0]) (orc := [.ret (I t1), .ret (I t2), .ret (I t3), .ret (I t4), .ret (I t5), .ret (I t6), .ret (I t7), .br false, .lp [11, 0] [4, 5, 10, 11] [1, 2, 34, 39] (.exit 0) [(11, .own 39 0)] [(39, .virt 0 2 [.agg [I a0, I a1]])] 120]) (allC (loopF_to R_drive_Track_2_L1 h9) (allC (nef h8) (allC (((c_drive_first h7).le (.cons (.full _ _ _) (.nil)) (.refl _)) : Computes cx 48 [.lst true 1 [I t1, I t2, I t3, I t4, I t5, I t6]] (I t7)) (allC (c_drive_within h6) (allC (c_drive_within h5) (allC (c_drive_Track_c1_4 h4) (allC (c_drive_Track_c1_4 h3) (allC (c_drive_Track_c1_4 h2) (allC (c_drive_Track_c1_4 h1) allN))))))))) (by kernel_rfl)).le (LEs.refl _) (.tups (.cons (.full _ _ _) (.cons (.refl _) (.nil))))
    · replace h := Option.some.inj h
      subst h
      exact run_fr (n := 100) (orc := [.ret (I t1), .ret (I t2), .ret (I t3), .ret (I t4), .ret (I t5), .ret (I t6), .ret (I t7), .br false, .lp [11, 0] [4, 5, 10, 11] [1, 2, 34, 39] (.exit 0) [(11, .own 39 0)] [(39, .row 0 2 t9)] 120]) (allC (loopF_to R_drive_Track_2_L1 h9) (allC (nef h8) (allC (((c_drive_first h7).le (.cons (.full _ _ _) (.nil)) (.refl _)) : Computes cx 48 [.lst true 1 [I t1, I t2, I t3, I t4, I t5, I t6]] (I t7)) (allC (c_drive_within h6) (allC (c_drive_within h5) (allC (c_drive_Track_c1_4 h4) (allC (c_drive_Track_c1_4 h3) (allC (c_drive_Track_c1_4 h2) (allC (c_drive_Track_c1_4 h1) allN))))))))) (by kernel_rfl)
  · replace h := ite_f h h8
    replace h := Option.some.inj h
    subst h
    exact (run_fr (n := 100) (r := .tup [.lst true 0 [], I t7]) (orc := [.ret (I t1), .ret (I t2), .ret (I t3), .ret (I t4), .ret (I t5), .ret (I t6), .ret (I t7), .br true]) (allC (net h8) (allC (((c_drive_first h7).le (.cons (.full _ _ _) (.nil)) (.refl _)) : Computes cx 48 [.lst true 1 [I t1, I t2, I t3, I t4, I t5, I t6]] (I t7)) (allC (c_drive_within h6) (allC (c_drive_within h5) (allC (c_drive_Track_c1_4 h4) (allC (c_drive_Track_c1_4 h3) (allC (c_drive_Track_c1_4 h2) (allC (c_drive_Track_c1_4 h1) allN)))))))) (by kernel_rfl)).le (LEs.refl _) (.tups (.cons (.lst _ _ _ _ _ nofun (.inl rfl)) (.cons (.refl _) (.nil))))
/- math/bits.Len64: .v (.int .u64 3) -/
def F_math_bits_Len64 (n : Nat)  : Option (Int) :=
  some 2
theorem c_math_bits_Len64 {n : Nat}  {r : Int} (h : F_math_bits_Len64 n  = some r) : Computes cx 117 [.v (.int .u64 3)] (I r) := by
  unfold F_math_bits_Len64 at h
  replace h := Option.some.inj h
  subst h
  exact run_fr (n := 100) (orc := [.no, .no, .no, .no]) (allC ((by unfold inI64; omega) : inI64 2) allN) (by kernel_rfl)
/- math/bits.Len: .v (.int .u64 3) -/
def F_math_bits_Len (n : Nat)  : Option (Int) :=
  (F_math_bits_Len64 n).bind fun t1 =>
  some t1
theorem c_math_bits_Len {n : Nat}  {r : Int} (h : F_math_bits_Len n  = some r) : Computes cx 92 [.v (.int .u64 3)] (I r) := by
  unfold F_math_bits_Len at h
  obtain ⟨t1, h1, h⟩ := bnd_of h
  replace h := Option.some.inj h
  subst h
  exact run_fr (n := 100) (orc := [.no, .ret (I t1)]) (allC (c_math_bits_Len64 h1) allN) (by kernel_rfl)
/- spillage/drive.Voted$1: .agg [I a0, I a1], .agg [I a2, I a3] -/
def F_drive_Voted_c1_4 (n : Nat) (a0 : Int) (a1 : Int) (a2 : Int) (a3 : Int) : Option (Int) :=
  if inI64 (a0 - a2) then
  some (a0 - a2)
  else none
theorem c_drive_Voted_c1_4 {n : Nat} {a0 : Int} {a1 : Int} {a2 : Int} {a3 : Int} {r : Int} (h : F_drive_Voted_c1_4 n a0 a1 a2 a3 = some r) : Computes cx 63 [.agg [I a0, I a1], .agg [I a2, I a3]] (I r) := by
  unfold F_drive_Voted_c1_4 at h
  obtain ⟨h1, h⟩ := grd_of h
  replace h := Option.some.inj h
  subst h
  exact run_fr (n := 100) (orc := []) (allC h1 allN) (by kernel_rfl)
theorem e_drive_Voted_2_0 (a0 : Int) (a1 : Int) (a2 : Int) (a3 : Int) (t1 : Int) (t3 : Int) (t5 : Int) (t7 : Int) (t9 : Int) (t10 : Int) (t12 : Int) (t14 : Int) : runFn true 100 cx 29 [.agg [I a0, I a1, I a2], I a3] [.no, .no, .ret (I t1), .br false, .no, .no, .no, .no, .ret (I t3), .br false, .no, .no, .no, .ret (I t5), .br false, .no, .no, .no, .ret (I t7), .br false, .br true, .ret (I t9), .br true, .no, .no, .br true, .no, .no, .no, .no, .no, .no, .no, .no, .ret (I t10), .br true, .no, .no, .no, .no, .no, .no, .no, .no, .no, .no, .no, .no, .no, .no, .no, .no, .no, .no, .no, .ret (I t12), .br true, .no, .no, .no, .no, .no, .no, .no, .no, .no, .no, .no, .no, .no, .no, .ret (I t14), .br true, .no, .no, .no, .no, .no, .no, .no, .no, .no, .no, .no, .no, .no, .no, .no, .no, .no, .no, .no, .no, .no, .br true, .br true, .no, .no] = some (.tup [I a1, I (-1), I 0], [(decide ((a0 - a1) ≤ a3)) = true, (decide ((a1 - a2) ≤ a3)) = true, inI64 (a0 - a1), inI64 (a1 - a2), inI64 3, inI64 0, inI64 0, inI64 0, (decide (t14 < 0)) = true, Computes cx 63 [.agg [I a2, I 2], .agg [I a1, I 1]] (I t14), inI64 0, inI64 1, inI64 1, inI64 1, (decide (t12 < 0)) = true, Computes cx 63 [.agg [I a2, I 2], .agg [I a0, I 0]] (I t12), inI64 1, inI64 2, inI64 0, inI64 0, inI64 0, (decide (t10 < 0)) = true, Computes cx 63 [.agg [I a1, I 1], .agg [I a0, I 0]] (I t10), inI64 0, inI64 1, inI64 3, Computes cx 92 [.v (.int .u64 3)] (I t9), (t7 != 0) = false, Computes cx 59 [I a3, I 0, I 1000] (I t7), inI64 3, (t5 != 0) = false, Computes cx 59 [I a2, I (-1000), I 1000] (I t5), inI64 2, (t3 != 0) = false, Computes cx 59 [I a1, I (-1000), I 1000] (I t3), inI64 1, (t1 != 0) = false, Computes cx 59 [I a0, I (-1000), I 1000] (I t1)]) := by kernel_rfl
theorem e_drive_Voted_2_1 (a0 : Int) (a1 : Int) (a2 : Int) (a3 : Int) (t1 : Int) (t3 : Int) (t5 : Int) (t7 : Int) (t9 : Int) (t10 : Int) (t12 : Int) (t14 : Int) : runFn true 100 cx 29 [.agg [I a0, I a1, I a2], I a3] [.no, .no, .ret (I t1), .br false, .no, .no, .no, .no, .ret (I t3), .br false, .no, .no, .no, .ret (I t5), .br false, .no, .no, .no, .ret (I t7), .br false, .br true, .ret (I t9), .br true, .no, .no, .br true, .no, .no, .no, .no, .no, .no, .no, .no, .ret (I t10), .br true, .no, .no, .no, .no, .no, .no, .no, .no, .no, .no, .no, .no, .no, .no, .no, .no, .no, .no, .no, .ret (I t12), .br true, .no, .no, .no, .no, .no, .no, .no, .no, .no, .no, .no, .no, .no, .no, .ret (I t14), .br true, .no, .no, .no, .no, .no, .no, .no, .no, .no, .no, .no, .no, .no, .no, .no, .no, .no, .no, .no, .no, .no, .br true, .br false, .br true, .no, .no, .no, .no] = some (.tup [I a1, I 0, I 0], [(decide ((a1 - a2) ≤ a3)) = true, (decide ((a0 - a1) ≤ a3)) = false, (decide ((a1 - a2) ≤ a3)) = true, inI64 (a0 - a1), inI64 (a1 - a2), inI64 3, inI64 0, inI64 0, inI64 0, (decide (t14 < 0)) = true, Computes cx 63 [.agg [I a2, I 2], .agg [I a1, I 1]] (I t14), inI64 0, inI64 1, inI64 1, inI64 1, (decide (t12 < 0)) = true, Computes cx 63 [.agg [I a2, I 2], .agg [I a0, I 0]] (I t12), inI64 1, inI64 2, inI64 0, inI64 0, inI64 0, (decide (t10 < 0)) = true, Computes cx 63 [.agg [I a1, I 1], .agg [I a0, I 0]] (I t10), inI64 0, inI64 1, inI64 3, Computes cx 92 [.v (.int .u64 3)] (I t9), (t7 != 0) = false, Computes cx 59 [I a3, I 0, I 1000] (I t7), inI64 3, (t5 != 0) = false, Computes cx 59 [I a2, I (-1000), I 1000] (I t5), inI64 2, (t3 != 0) = false, Computes cx 59 [I a1, I (-1000), I 1000] (I t3), inI64 1, (t1 != 0) = false, Computes cx 59 [I a0, I (-1000), I 1000] (I t1)]) := by kernel_rfl
theorem e_drive_Voted_2_2 (a0 : Int) (a1 : Int) (a2 : Int) (a3 : Int) (t1 : Int) (t3 : Int) (t5 : Int) (t7 : Int) (t9 : Int) (t10 : Int) (t12 : Int) (t14 : Int) : runFn true 100 cx 29 [.agg [I a0, I a1, I a2], I a3] [.no, .no, .ret (I t1), .br false, .no, .no, .no, .no, .ret (I t3), .br false, .no, .no, .no, .ret (I t5), .br false, .no, .no, .no, .ret (I t7), .br false, .br true, .ret (I t9), .br true, .no, .no, .br true, .no, .no, .no, .no, .no, .no, .no, .no, .ret (I t10), .br true, .no, .no, .no, .no, .no, .no, .no, .no, .no, .no, .no, .no, .no, .no, .no, .no, .no, .no, .no, .ret (I t12), .br true, .no, .no, .no, .no, .no, .no, .no, .no, .no, .no, .no, .no, .no, .no, .ret (I t14), .br true, .no, .no, .no, .no, .no, .no, .no, .no, .no, .no, .no, .no, .no, .no, .no, .no, .no, .no, .no, .no, .no, .br false, .no, .br false, .br true, .no, .no, .no, .no] = some (.tup [I a1, I 2, I 0], [(decide ((a0 - a1) ≤ a3)) = true, (decide ((a1 - a2) ≤ a3)) = false, (decide ((a1 - a2) ≤ a3)) = false, inI64 (a0 - a1), inI64 (a1 - a2), inI64 3, inI64 0, inI64 0, inI64 0, (decide (t14 < 0)) = true, Computes cx 63 [.agg [I a2, I 2], .agg [I a1, I 1]] (I t14), inI64 0, inI64 1, inI64 1, inI64 1, (decide (t12 < 0)) = true, Computes cx 63 [.agg [I a2, I 2], .agg [I a0, I 0]] (I t12), inI64 1, inI64 2, inI64 0, inI64 0, inI64 0, (decide (t10 < 0)) = true, Computes cx 63 [.agg [I a1, I 1], .agg [I a0, I 0]] (I t10), inI64 0, inI64 1, inI64 3, Computes cx 92 [.v (.int .u64 3)] (I t9), (t7 != 0) = false, Computes cx 59 [I a3, I 0, I 1000] (I t7), inI64 3, (t5 != 0) = false, Computes cx 59 [I a2, I (-1000), I 1000] (I t5), inI64 2, (t3 != 0) = false, Computes cx 59 [I a1, I (-1000), I 1000] (I t3), inI64 1, (t1 != 0) = false, Computes cx 59 [I a0, I (-1000), I 1000] (I t1)]) := by kernel_rfl
theorem e_drive_Voted_2_3 (a0 : Int) (a1 : Int) (a2 : Int) (a3 : Int) (t1 : Int) (t3 : Int) (t5 : Int) (t7 : Int) (t9 : Int) (t10 : Int) (t12 : Int) (t14 : Int) : runFn true 100 cx 29 [.agg [I a0, I a1, I a2], I a3] [.no, .no, .ret (I t1), .br false, .no, .no, .no, .no, .ret (I t3), .br false, .no, .no, .no, .ret (I t5), .br false, .no, .no, .no, .ret (I t7), .br false, .br true, .ret (I t9), .br true, .no, .no, .br true, .no, .no, .no, .no, .no, .no, .no, .no, .ret (I t10), .br true, .no, .no, .no, .no, .no, .no, .no, .no, .no, .no, .no, .no, .no, .no, .no, .no, .no, .no, .no, .ret (I t12), .br true, .no, .no, .no, .no, .no, .no, .no, .no, .no, .no, .no, .no, .no, .no, .ret (I t14), .br true, .no, .no, .no, .no, .no, .no, .no, .no, .no, .no, .no, .no, .no, .no, .no, .no, .no, .no, .no, .no, .no, .br false, .no, .br false, .br false] = some (.tup [I 0, I 0, I 7], [(decide ((a0 - a1) ≤ a3)) = false, (decide ((a1 - a2) ≤ a3)) = false, (decide ((a1 - a2) ≤ a3)) = false, inI64 (a0 - a1), inI64 (a1 - a2), inI64 3, inI64 0, inI64 0, inI64 0, (decide (t14 < 0)) = true, Computes cx 63 [.agg [I a2, I 2], .agg [I a1, I 1]] (I t14), inI64 0, inI64 1, inI64 1, inI64 1, (decide (t12 < 0)) = true, Computes cx 63 [.agg [I a2, I 2], .agg [I a0, I 0]] (I t12), inI64 1, inI64 2, inI64 0, inI64 0, inI64 0, (decide (t10 < 0)) = true, Computes cx 63 [.agg [I a1, I 1], .agg [I a0, I 0]] (I t10), inI64 0, inI64 1, inI64 3, Computes cx 92 [.v (.int .u64 3)] (I t9), (t7 != 0) = false, Computes cx 59 [I a3, I 0, I 1000] (I t7), inI64 3, (t5 != 0) = false, Computes cx 59 [I a2, I (-1000), I 1000] (I t5), inI64 2, (t3 != 0) = false, Computes cx 59 [I a1, I (-1000), I 1000] (I t3), inI64 1, (t1 != 0) = false, Computes cx 59 [I a0, I (-1000), I 1000] (I t1)]) := by kernel_rfl
theorem e_drive_Voted_2_4 (a0 : Int) (a1 : Int) (a2 : Int) (a3 : Int) (t1 : Int) (t3 : Int) (t5 : Int) (t7 : Int) (t9 : Int) (t10 : Int) (t12 : Int) (t14 : Int) : runFn true 100 cx 29 [.agg [I a0, I a1, I a2], I a3] [.no, .no, .ret (I t1), .br false, .no, .no, .no, .no, .ret (I t3), .br false, .no, .no, .no, .ret (I t5), .br false, .no, .no, .no, .ret (I t7), .br false, .br true, .ret (I t9), .br true, .no, .no, .br true, .no, .no, .no, .no, .no, .no, .no, .no, .ret (I t10), .br true, .no, .no, .no, .no, .no, .no, .no, .no, .no, .no, .no, .no, .no, .no, .no, .no, .no, .no, .no, .ret (I t12), .br true, .no, .no, .no, .no, .no, .no, .no, .no, .no, .no, .no, .no, .no, .no, .ret (I t14), .br false, .no, .no, .no, .no, .no, .no, .no, .no, .no, .no, .br true, .br true, .no, .no] = some (.tup [I a2, I (-1), I 0], [(decide ((a0 - a2) ≤ a3)) = true, (decide ((a2 - a1) ≤ a3)) = true, inI64 (a0 - a2), inI64 (a2 - a1), inI64 3, (decide (t14 < 0)) = false, Computes cx 63 [.agg [I a2, I 2], .agg [I a1, I 1]] (I t14), inI64 0, inI64 1, inI64 1, inI64 1, (decide (t12 < 0)) = true, Computes cx 63 [.agg [I a2, I 2], .agg [I a0, I 0]] (I t12), inI64 1, inI64 2, inI64 0, inI64 0, inI64 0, (decide (t10 < 0)) = true, Computes cx 63 [.agg [I a1, I 1], .agg [I a0, I 0]] (I t10), inI64 0, inI64 1, inI64 3, Computes cx 92 [.v (.int .u64 3)] (I t9), (t7 != 0) = false, Computes cx 59 [I a3, I 0, I 1000] (I t7), inI64 3, (t5 != 0) = false, Computes cx 59 [I a2, I (-1000), I 1000] (I t5), inI64 2, (t3 != 0) = false, Computes cx 59 [I a1, I (-1000), I 1000] (I t3), inI64 1, (t1 != 0) = false, Computes cx 59 [I a0, I (-1000), I 1000] (I t1)]) := by kernel_rfl
theorem e_drive_Voted_2_5 (a0 : Int) (a1 : Int) (a2 : Int) (a3 : Int) (t1 : Int) (t3 : Int) (t5 : Int) (t7 : Int) (t9 : Int) (t10 : Int) (t12 : Int) (t14 : Int) : runFn true 100 cx 29 [.agg [I a0, I a1, I a2], I a3] [.no, .no, .ret (I t1), .br false, .no, .no, .no, .no, .ret (I t3), .br false, .no, .no, .no, .ret (I t5), .br false, .no, .no, .no, .ret (I t7), .br false, .br true, .ret (I t9), .br true, .no, .no, .br true, .no, .no, .no, .no, .no, .no, .no, .no, .ret (I t10), .br true, .no, .no, .no, .no, .no, .no, .no, .no, .no, .no, .no, .no, .no, .no, .no, .no, .no, .no, .no, .ret (I t12), .br true, .no, .no, .no, .no, .no, .no, .no, .no, .no, .no, .no, .no, .no, .no, .ret (I t14), .br false, .no, .no, .no, .no, .no, .no, .no, .no, .no, .no, .br true, .br false, .br true, .no, .no, .no, .no] = some (.tup [I a2, I 0, I 0], [(decide ((a2 - a1) ≤ a3)) = true, (decide ((a0 - a2) ≤ a3)) = false, (decide ((a2 - a1) ≤ a3)) = true, inI64 (a0 - a2), inI64 (a2 - a1), inI64 3, (decide (t14 < 0)) = false, Computes cx 63 [.agg [I a2, I 2], .agg [I a1, I 1]] (I t14), inI64 0, inI64 1, inI64 1, inI64 1, (decide (t12 < 0)) = true, Computes cx 63 [.agg [I a2, I 2], .agg [I a0, I 0]] (I t12), inI64 1, inI64 2, inI64 0, inI64 0, inI64 0, (decide (t10 < 0)) = true, Computes cx 63 [.agg [I a1, I 1], .agg [I a0, I 0]] (I t10), inI64 0, inI64 1, inI64 3, Computes cx 92 [.v (.int .u64 3)] (I t9), (t7 != 0) = false, Computes cx 59 [I a3, I 0, I 1000] (I t7), inI64 3, (t5 != 0) = false, Computes cx 59 [I a2, I (-1000), I 1000] (I t5), inI64 2, (t3 != 0) = false, Computes cx 59 [I a1, I (-1000), I 1000] (I t3), inI64 1, (t1 != 0) = false, Computes cx 59 [I a0, I (-1000), I 1000] (I t1)]) := by kernel_rfl
theorem e_drive_Voted_2_6 (a0 : Int) (a1 : Int) (a2 : Int) (a3 : Int) (t1 : Int) (t3 : Int) (t5 : Int) (t7 : Int) (t9 : Int) (t10 : Int) (t12 : Int) (t14 : Int) : runFn true 100 cx 29 [.agg [I a0, I a1, I a2], I a3] [.no, .no, .ret (I t1), .br false, .no, .no, .no, .no, .ret (I t3), .br false, .no, .no, .no, .ret (I t5), .br false, .no, .no, .no, .ret (I t7), .br false, .br true, .ret (I t9), .br true, .no, .no, .br true, .no, .no, .no, .no, .no, .no, .no, .no, .ret (I t10), .br true, .no, .no, .no, .no, .no, .no, .no, .no, .no, .no, .no, .no, .no, .no, .no, .no, .no, .no, .no, .ret (I t12), .br true, .no, .no, .no, .no, .no, .no, .no, .no, .no, .no, .no, .no, .no, .no, .ret (I t14), .br false, .no, .no, .no, .no, .no, .no, .no, .no, .no, .no, .br false, .no, .br false, .br true, .no, .no, .no, .no] = some (.tup [I a2, I 1, I 0], [(decide ((a0 - a2) ≤ a3)) = true, (decide ((a2 - a1) ≤ a3)) = false, (decide ((a2 - a1) ≤ a3)) = false, inI64 (a0 - a2), inI64 (a2 - a1), inI64 3, (decide (t14 < 0)) = false, Computes cx 63 [.agg [I a2, I 2], .agg [I a1, I 1]] (I t14), inI64 0, inI64 1, inI64 1, inI64 1, (decide (t12 < 0)) = true, Computes cx 63 [.agg [I a2, I 2], .agg [I a0, I 0]] (I t12), inI64 1, inI64 2, inI64 0, inI64 0, inI64 0, (decide (t10 < 0)) = true, Computes cx 63 [.agg [I a1, I 1], .agg [I a0, I 0]] (I t10), inI64 0, inI64 1, inI64 3, Computes cx 92 [.v (.int .u64 3)] (I t9), (t7 != 0) = false, Computes cx 59 [I a3, I 0, I 1000] (I t7), inI64 3, (t5 != 0) = false, Computes cx 59 [I a2, I (-1000), I 1000] (I t5), inI64 2, (t3 != 0) = false, Computes cx 59 [I a1, I (-1000), I 1000] (I t3), inI64 1, (t1 != 0) = false, Computes cx 59 [I a0, I (-1000), I 1000] (I t1)]) := by kernel_rfl
theorem e_drive_Voted_2_7 (a0 : Int) (a1 : Int) (a2 : Int) (a3 : Int) (t1 : Int) (t3 : Int) (t5 : Int) (t7 : Int) (t9 : Int) (t10 : Int) (t12 : Int) (t14 : Int) : runFn true 100 cx 29 [.agg [I a0, I a1, I a2], I a3] [.no, .no, .ret (I t1), .br false, .no, .no, .no, .no, .ret (I t3), .br false, .no, .no, .no, .ret (I t5), .br false, .no, .no, .no, .ret (I t7), .br false, .br true, .ret (I t9), .br true, .no, .no, .br true, .no, .no, .no, .no, .no, .no, .no, .no, .ret (I t10), .br true, .no, .no, .no, .no, .no, .no, .no, .no, .no, .no, .no, .no, .no, .no, .no, .no, .no, .no, .no, .ret (I t12), .br true, .no, .no, .no, .no, .no, .no, .no, .no, .no, .no, .no, .no, .no, .no, .ret (I t14), .br false, .no, .no, .no, .no, .no, .no, .no, .no, .no, .no, .br false, .no, .br false, .br false] = some (.tup [I 0, I 0, I 7], [(decide ((a0 - a2) ≤ a3)) = false, (decide ((a2 - a1) ≤ a3)) = false, (decide ((a2 - a1) ≤ a3)) = false, inI64 (a0 - a2), inI64 (a2 - a1), inI64 3, (decide (t14 < 0)) = false, Computes cx 63 [.agg [I a2, I 2], .agg [I a1, I 1]] (I t14), inI64 0, inI64 1, inI64 1, inI64 1, (decide (t12 < 0)) = true, Computes cx 63 [.agg [I a2, I 2], .agg [I a0, I 0]] (I t12), inI64 1, inI64 2, inI64 0, inI64 0, inI64 0, (decide (t10 < 0)) = true, Computes cx 63 [.agg [I a1, I 1], .agg [I a0, I 0]] (I t10), inI64 0, inI64 1, inI64 3, Computes cx 92 [.v (.int .u64 3)] (I t9), (t7 != 0) = false, Computes cx 59 [I a3, I 0, I 1000] (I t7), inI64 3, (t5 != 0) = false, Computes cx 59 [I a2, I (-1000), I 1000] (I t5), inI64 2, (t3 != 0) = false, Computes cx 59 [I a1, I (-1000), I 1000] (I t3), inI64 1, (t1 != 0) = false, Computes cx 59 [I a0, I (-1000), I 1000] (I t1)]) := by kernel_rfl
theorem e_drive_Voted_2_8 (a0 : Int) (a1 : Int) (a2 : Int) (a3 : Int) (t1 : Int) (t3 : Int) (t5 : Int) (t7 : Int) (t9 : Int) (t10 : Int) (t12 : Int) : runFn true 100 cx 29 [.agg [I a0, I a1, I a2], I a3] [.no, .no, .ret (I t1), .br false, .no, .no, .no, .no, .ret (I t3), .br false, .no, .no, .no, .ret (I t5), .br false, .no, .no, .no, .ret (I t7), .br false, .br true, .ret (I t9), .br true, .no, .no, .br true, .no, .no, .no, .no, .no, .no, .no, .no, .ret (I t10), .br true, .no, .no, .no, .no, .no, .no, .no, .no, .no, .no, .no, .no, .no, .no, .no, .no, .no, .no, .no, .ret (I t12), .br false, .no, .no, .no, .no, .no, .no, .no, .no, .no, .no, .br true, .br true, .no, .no] = some (.tup [I a0, I (-1), I 0], [(decide ((a2 - a0) ≤ a3)) = true, (decide ((a0 - a1) ≤ a3)) = true, inI64 (a2 - a0), inI64 (a0 - a1), inI64 3, (decide (t12 < 0)) = false, Computes cx 63 [.agg [I a2, I 2], .agg [I a0, I 0]] (I t12), inI64 1, inI64 2, inI64 0, inI64 0, inI64 0, (decide (t10 < 0)) = true, Computes cx 63 [.agg [I a1, I 1], .agg [I a0, I 0]] (I t10), inI64 0, inI64 1, inI64 3, Computes cx 92 [.v (.int .u64 3)] (I t9), (t7 != 0) = false, Computes cx 59 [I a3, I 0, I 1000] (I t7), inI64 3, (t5 != 0) = false, Computes cx 59 [I a2, I (-1000), I 1000] (I t5), inI64 2, (t3 != 0) = false, Computes cx 59 [I a1, I (-1000), I 1000] (I t3), inI64 1, (t1 != 0) = false, Computes cx 59 [I a0, I (-1000), I 1000] (I t1)]) := by kernel_rfl
theorem e_drive_Voted_2_9 (a0 : Int) (a1 : Int) (a2 : Int) (a3 : Int) (t1 : Int) (t3 : Int) (t5 : Int) (t7 : Int) (t9 : Int) (t10 : Int) (t12 : Int) : runFn true 100 cx 29 [.agg [I a0, I a1, I a2], I a3] [.no, .no, .ret (I t1), .br false, .no, .no, .no, .no, .ret (I t3), .br false, .no, .no, .no, .ret (I t5), .br false, .no, .no, .no, .ret (I t7), .br false, .br true, .ret (I t9), .br true, .no, .no, .br true, .no, .no, .no, .no, .no, .no, .no, .no, .ret (I t10), .br true, .no, .no, .no, .no, .no, .no, .no, .no, .no, .no, .no, .no, .no, .no, .no, .no, .no, .no, .no, .ret (I t12), .br false, .no, .no, .no, .no, .no, .no, .no, .no, .no, .no, .br true, .br false, .br true, .no, .no, .no, .no] = some (.tup [I a0, I 2, I 0], [(decide ((a0 - a1) ≤ a3)) = true, (decide ((a2 - a0) ≤ a3)) = false, (decide ((a0 - a1) ≤ a3)) = true, inI64 (a2 - a0), inI64 (a0 - a1), inI64 3, (decide (t12 < 0)) = false, Computes cx 63 [.agg [I a2, I 2], .agg [I a0, I 0]] (I t12), inI64 1, inI64 2, inI64 0, inI64 0, inI64 0, (decide (t10 < 0)) = true, Computes cx 63 [.agg [I a1, I 1], .agg [I a0, I 0]] (I t10), inI64 0, inI64 1, inI64 3, Computes cx 92 [.v (.int .u64 3)] (I t9), (t7 != 0) = false, Computes cx 59 [I a3, I 0, I 1000] (I t7), inI64 3, (t5 != 0) = false, Computes cx 59 [I a2, I (-1000), I 1000] (I t5), inI64 2, (t3 != 0) = false, Computes cx 59 [I a1, I (-1000), I 1000] (I t3), inI64 1, (t1 != 0) = false, Computes cx 59 [I a0, I (-1000), I 1000] (I t1)]) := by kernel_rfl
theorem e_drive_Voted_2_10 (a0 : Int) (a1 : Int) (a2 : Int) (a3 : Int) (t1 : Int) (t3 : Int) (t5 : Int) (t7 : Int) (t9 : Int) (t10 : Int) (t12 : Int) : runFn true 100 cx 29 [.agg [I a0, I a1, I a2], I a3] [.no, .no, .ret (I t1), .br false, .no, .no, .no, .no, .ret (I t3), .br false, .no, .no, .no, .ret (I t5), .br false, .no, .no, .no, .ret (I t7), .br false, .br true, .ret (I t9), .br true, .no, .no, .br true, .no, .no, .no, .no, .no, .no, .no, .no, .ret (I t10), .br true, .no, .no, .no, .no, .no, .no, .no, .no, .no, .no, .no, .no, .no, .no, .no, .no, .no, .no, .no, .ret (I t12), .br false, .no, .no, .no, .no, .no, .no, .no, .no, .no, .no, .br false, .no, .br false, .br true, .no, .no, .no, .no] = some (.tup [I a0, I 1, I 0], [(decide ((a2 - a0) ≤ a3)) = true, (decide ((a0 - a1) ≤ a3)) = false, (decide ((a0 - a1) ≤ a3)) = false, inI64 (a2 - a0), inI64 (a0 - a1), inI64 3, (decide (t12 < 0)) = false, Computes cx 63 [.agg [I a2, I 2], .agg [I a0, I 0]] (I t12), inI64 1, inI64 2, inI64 0, inI64 0, inI64 0, (decide (t10 < 0)) = true, Computes cx 63 [.agg [I a1, I 1], .agg [I a0, I 0]] (I t10), inI64 0, inI64 1, inI64 3, Computes cx 92 [.v (.int .u64 3)] (I t9), (t7 != 0) = false, Computes cx 59 [I a3, I 0, I 1000] (I t7), inI64 3, (t5 != 0) = false, Computes cx 59 [I a2, I (-1000), I 1000] (I t5), inI64 2, (t3 != 0) = false, Computes cx 59 [I a1, I (-1000), I 1000] (I t3), inI64 1, (t1 != 0) = false, Computes cx 59 [I a0, I (-1000), I 1000] (I t1)]) := by kernel_rfl
theorem e_drive_Voted_2_11 (a0 : Int) (a1 : Int) (a2 : Int) (a3 : Int) (t1 : Int) (t3 : Int) (t5 : Int) (t7 : Int) (t9 : Int) (t10 : Int) (t12 : Int) : runFn true 100 cx 29 [.agg [I a0, I a1, I a2], I a3] [.no, .no, .ret (I t1), .br false, .no, .no, .no, .no, .ret (I t3), .br false, .no, .no, .no, .ret (I t5), .br false, .no, .no, .no, .ret (I t7), .br false, .br true, .ret (I t9), .br true, .no, .no, .br true, .no, .no, .no, .no, .no, .no, .no, .no, .ret (I t10), .br true, .no, .no, .no, .no, .no, .no, .no, .no, .no, .no, .no, .no, .no, .no, .no, .no, .no, .no, .no, .ret (I t12), .br false, .no, .no, .no, .no, .no, .no, .no, .no, .no, .no, .br false, .no, .br false, .br false] = some (.tup [I 0, I 0, I 7], [(decide ((a2 - a0) ≤ a3)) = false, (decide ((a0 - a1) ≤ a3)) = false, (decide ((a0 - a1) ≤ a3)) = false, inI64 (a2 - a0), inI64 (a0 - a1), inI64 3, (decide (t12 < 0)) = false, Computes cx 63 [.agg [I a2, I 2], .agg [I a0, I 0]] (I t12), inI64 1, inI64 2, inI64 0, inI64 0, inI64 0, (decide (t10 < 0)) = true, Computes cx 63 [.agg [I a1, I 1], .agg [I a0, I 0]] (I t10), inI64 0, inI64 1, inI64 3, Computes cx 92 [.v (.int .u64 3)] (I t9), (t7 != 0) = false, Computes cx 59 [I a3, I 0, I 1000] (I t7), inI64 3, (t5 != 0) = false, Computes cx 59 [I a2, I (-1000), I 1000] (I t5), inI64 2, (t3 != 0) = false, Computes cx 59 [I a1, I (-1000), I 1000] (I t3), inI64 1, (t1 != 0) = false, Computes cx 59 [I a0, I (-1000), I 1000] (I t1)]) := by kernel_rfl
theorem e_drive_Voted_2_12 (a0 : Int) (a1 : Int) (a2 : Int) (a3 : Int) (t1 : Int) (t3 : Int) (t5 : Int) (t7 : Int) (t9 : Int) (t10 : Int) (t12 : Int) (t14 : Int) : runFn true 100 cx 29 [.agg [I a0, I a1, I a2], I a3] [.no, .no, .ret (I t1), .br false, .no, .no, .no, .no, .ret (I t3), .br false, .no, .no, .no, .ret (I t5), .br false, .no, .no, .no, .ret (I t7), .br false, .br true, .ret (I t9), .br true, .no, .no, .br true, .no, .no, .no, .no, .no, .no, .no, .no, .ret (I t10), .br false, .no, .no, .no, .no, .no, .no, .no, .no, .ret (I t12), .br true, .no, .no, .no, .no, .no, .no, .no, .no, .no, .no, .no, .no, .no, .no, .ret (I t14), .br true, .no, .no, .no, .no, .no, .no, .no, .no, .no, .no, .no, .no, .no, .no, .no, .no, .no, .no, .no, .no, .no, .br true, .br true, .no, .no] = some (.tup [I a0, I (-1), I 0], [(decide ((a1 - a0) ≤ a3)) = true, (decide ((a0 - a2) ≤ a3)) = true, inI64 (a1 - a0), inI64 (a0 - a2), inI64 3, inI64 0, inI64 0, inI64 0, (decide (t14 < 0)) = true, Computes cx 63 [.agg [I a2, I 2], .agg [I a0, I 0]] (I t14), inI64 0, inI64 1, inI64 1, inI64 1, (decide (t12 < 0)) = true, Computes cx 63 [.agg [I a2, I 2], .agg [I a1, I 1]] (I t12), inI64 1, inI64 2, (decide (t10 < 0)) = false, Computes cx 63 [.agg [I a1, I 1], .agg [I a0, I 0]] (I t10), inI64 0, inI64 1, inI64 3, Computes cx 92 [.v (.int .u64 3)] (I t9), (t7 != 0) = false, Computes cx 59 [I a3, I 0, I 1000] (I t7), inI64 3, (t5 != 0) = false, Computes cx 59 [I a2, I (-1000), I 1000] (I t5), inI64 2, (t3 != 0) = false, Computes cx 59 [I a1, I (-1000), I 1000] (I t3), inI64 1, (t1 != 0) = false, Computes cx 59 [I a0, I (-1000), I 1000] (I t1)]) := by kernel_rfl
theorem e_drive_Voted_2_13 (a0 : Int) (a1 : Int) (a2 : Int) (a3 : Int) (t1 : Int) (t3 : Int) (t5 : Int) (t7 : Int) (t9 : Int) (t10 : Int) (t12 : Int) (t14 : Int) : runFn true 100 cx 29 [.agg [I a0, I a1, I a2], I a3] [.no, .no, .ret (I t1), .br false, .no, .no, .no, .no, .ret (I t3), .br false, .no, .no, .no, .ret (I t5), .br false, .no, .no, .no, .ret (I t7), .br false, .br true, .ret (I t9), .br true, .no, .no, .br true, .no, .no, .no, .no, .no, .no, .no, .no, .ret (I t10), .br false, .no, .no, .no, .no, .no, .no, .no, .no, .ret (I t12), .br true, .no, .no, .no, .no, .no, .no, .no, .no, .no, .no, .no, .no, .no, .no, .ret (I t14), .br true, .no, .no, .no, .no, .no, .no, .no, .no, .no, .no, .no, .no, .no, .no, .no, .no, .no, .no, .no, .no, .no, .br true, .br false, .br true, .no, .no, .no, .no] = some (.tup [I a0, I 1, I 0], [(decide ((a0 - a2) ≤ a3)) = true, (decide ((a1 - a0) ≤ a3)) = false, (decide ((a0 - a2) ≤ a3)) = true, inI64 (a1 - a0), inI64 (a0 - a2), inI64 3, inI64 0, inI64 0, inI64 0, (decide (t14 < 0)) = true, Computes cx 63 [.agg [I a2, I 2], .agg [I a0, I 0]] (I t14), inI64 0, inI64 1, inI64 1, inI64 1, (decide (t12 < 0)) = true, Computes cx 63 [.agg [I a2, I 2], .agg [I a1, I 1]] (I t12), inI64 1, inI64 2, (decide (t10 < 0)) = false, Computes cx 63 [.agg [I a1, I 1], .agg [I a0, I 0]] (I t10), inI64 0, inI64 1, inI64 3, Computes cx 92 [.v (.int .u64 3)] (I t9), (t7 != 0) = false, Computes cx 59 [I a3, I 0, I 1000] (I t7), inI64 3, (t5 != 0) = false, Computes cx 59 [I a2, I (-1000), I 1000] (I t5), inI64 2, (t3 != 0) = false, Computes cx 59 [I a1, I (-1000), I 1000] (I t3), inI64 1, (t1 != 0) = false, Computes cx 59 [I a0, I (-1000), I 1000] (I t1)]) := by kernel_rfl
theorem e_drive_Voted_2_14 (a0 : Int) (a1 : Int) (a2 : Int) (a3 : Int) (t1 : Int) (t3 : Int) (t5 : Int) (t7 : Int) (t9 : Int) (t10 : Int) (t12 : Int) (t14 : Int) : runFn true 100 cx 29 [.agg [I a0, I a1, I a2], I a3] [.no, .no, .ret (I t1), .br false, .no, .no, .no, .no, .ret (I t3), .br false, .no, .no, .no, .ret (I t5), .br false, .no, .no, .no, .ret (I t7), .br false, .br true, .ret (I t9), .br true, .no, .no, .br true, .no, .no, .no, .no, .no, .no, .no, .no, .ret (I t10), .br false, .no, .no, .no, .no, .no, .no, .no, .no, .ret (I t12), .br true, .no, .no, .no, .no, .no, .no, .no, .no, .no, .no, .no, .no, .no, .no, .ret (I t14), .br true, .no, .no, .no, .no, .no, .no, .no, .no, .no, .no, .no, .no, .no, .no, .no, .no, .no, .no, .no, .no, .no, .br false, .no, .br false, .br true, .no, .no, .no, .no] = some (.tup [I a0, I 2, I 0], [(decide ((a1 - a0) ≤ a3)) = true, (decide ((a0 - a2) ≤ a3)) = false, (decide ((a0 - a2) ≤ a3)) = false, inI64 (a1 - a0), inI64 (a0 - a2), inI64 3, inI64 0, inI64 0, inI64 0, (decide (t14 < 0)) = true, Computes cx 63 [.agg [I a2, I 2], .agg [I a0, I 0]] (I t14), inI64 0, inI64 1, inI64 1, inI64 1, (decide (t12 < 0)) = true, Computes cx 63 [.agg [I a2, I 2], .agg [I a1, I 1]] (I t12), inI64 1, inI64 2, (decide (t10 < 0)) = false, Computes cx 63 [.agg [I a1, I 1], .agg [I a0, I 0]] (I t10), inI64 0, inI64 1, inI64 3, Computes cx 92 [.v (.int .u64 3)] (I t9), (t7 != 0) = false, Computes cx 59 [I a3, I 0, I 1000] (I t7), inI64 3, (t5 != 0) = false, Computes cx 59 [I a2, I (-1000), I 1000] (I t5), inI64 2, (t3 != 0) = false, Computes cx 59 [I a1, I (-1000), I 1000] (I t3), inI64 1, (t1 != 0) = false, Computes cx 59 [I a0, I (-1000), I 1000] (I t1)]) := by kernel_rfl
theorem e_drive_Voted_2_15 (a0 : Int) (a1 : Int) (a2 : Int) (a3 : Int) (t1 : Int) (t3 : Int) (t5 : Int) (t7 : Int) (t9 : Int) (t10 : Int) (t12 : Int) (t14 : Int) : runFn true 100 cx 29 [.agg [I a0, I a1, I a2], I a3] [.no, .no, .ret (I t1), .br false, .no, .no, .no, .no, .ret (I t3), .br false, .no, .no, .no, .ret (I t5), .br false, .no, .no, .no, .ret (I t7), .br false, .br true, .ret (I t9), .br true, .no, .no, .br true, .no, .no, .no, .no, .no, .no, .no, .no, .ret (I t10), .br false, .no, .no, .no, .no, .no, .no, .no, .no, .ret (I t12), .br true, .no, .no, .no, .no, .no, .no, .no, .no, .no, .no, .no, .no, .no, .no, .ret (I t14), .br true, .no, .no, .no, .no, .no, .no, .no, .no, .no, .no, .no, .no, .no, .no, .no, .no, .no, .no, .no, .no, .no, .br false, .no, .br false, .br false] = some (.tup [I 0, I 0, I 7], [(decide ((a1 - a0) ≤ a3)) = false, (decide ((a0 - a2) ≤ a3)) = false, (decide ((a0 - a2) ≤ a3)) = false, inI64 (a1 - a0), inI64 (a0 - a2), inI64 3, inI64 0, inI64 0, inI64 0, (decide (t14 < 0)) = true, Computes cx 63 [.agg [I a2, I 2], .agg [I a0, I 0]] (I t14), inI64 0, inI64 1, inI64 1, inI64 1, (decide (t12 < 0)) = true, Computes cx 63 [.agg [I a2, I 2], .agg [I a1, I 1]] (I t12), inI64 1, inI64 2, (decide (t10 < 0)) = false, Computes cx 63 [.agg [I a1, I 1], .agg [I a0, I 0]] (I t10), inI64 0, inI64 1, inI64 3, Computes cx 92 [.v (.int .u64 3)] (I t9), (t7 != 0) = false, Computes cx 59 [I a3, I 0, I 1000] (I t7), inI64 3, (t5 != 0) = false, Computes cx 59 [I a2, I (-1000), I 1000] (I t5), inI64 2, (t3 != 0) = false, Computes cx 59 [I a1, I (-1000), I 1000] (I t3), inI64 1, (t1 != 0) = false, Computes cx 59 [I a0, I (-1000), I 1000] (I t1)]) := by kernel_rfl
theorem e_drive_Voted_2_16 (a0 : Int) (a1 : Int) (a2 : Int) (a3 : Int) (t1 : Int) (t3 : Int) (t5 : Int) (t7 : Int) (t9 : Int) (t10 : Int) (t12 : Int) (t14 : Int) : runFn true 100 cx 29 [.agg [I a0, I a1, I a2], I a3] [.no, .no, .ret (I t1), .br false, .no, .no, .no, .no, .ret (I t3), .br false, .no, .no, .no, .ret (I t5), .br false, .no, .no, .no, .ret (I t7), .br false, .br true, .ret (I t9), .br true, .no, .no, .br true, .no, .no, .no, .no, .no, .no, .no, .no, .ret (I t10), .br false, .no, .no, .no, .no, .no, .no, .no, .no, .ret (I t12), .br true, .no, .no, .no, .no, .no, .no, .no, .no, .no, .no, .no, .no, .no, .no, .ret (I t14), .br false, .no, .no, .no, .no, .no, .no, .no, .no, .no, .no, .br true, .br true, .no, .no] = some (.tup [I a2, I (-1), I 0], [(decide ((a1 - a2) ≤ a3)) = true, (decide ((a2 - a0) ≤ a3)) = true, inI64 (a1 - a2), inI64 (a2 - a0), inI64 3, (decide (t14 < 0)) = false, Computes cx 63 [.agg [I a2, I 2], .agg [I a0, I 0]] (I t14), inI64 0, inI64 1, inI64 1, inI64 1, (decide (t12 < 0)) = true, Computes cx 63 [.agg [I a2, I 2], .agg [I a1, I 1]] (I t12), inI64 1, inI64 2, (decide (t10 < 0)) = false, Computes cx 63 [.agg [I a1, I 1], .agg [I a0, I 0]] (I t10), inI64 0, inI64 1, inI64 3, Computes cx 92 [.v (.int .u64 3)] (I t9), (t7 != 0) = false, Computes cx 59 [I a3, I 0, I 1000] (I t7), inI64 3, (t5 != 0) = false, Computes cx 59 [I a2, I (-1000), I 1000] (I t5), inI64 2, (t3 != 0) = false, Computes cx 59 [I a1, I (-1000), I 1000] (I t3), inI64 1, (t1 != 0) = false, Computes cx 59 [I a0, I (-1000), I 1000] (I t1)]) := by kernel_rfl
theorem e_drive_Voted_2_17 (a0 : Int) (a1 : Int) (a2 : Int) (a3 : Int) (t1 : Int) (t3 : Int) (t5 : Int) (t7 : Int) (t9 : Int) (t10 : Int) (t12 : Int) (t14 : Int) : runFn true 100 cx 29 [.agg [I a0, I a1, I a2], I a3] [.no, .no, .ret (I t1), .br false, .no, .no, .no, .no, .ret (I t3), .br false, .no, .no, .no, .ret (I t5), .br false, .no, .no, .no, .ret (I t7), .br false, .br true, .ret (I t9), .br true, .no, .no, .br true, .no, .no, .no, .no, .no, .no, .no, .no, .ret (I t10), .br false, .no, .no, .no, .no, .no, .no, .no, .no, .ret (I t12), .br true, .no, .no, .no, .no, .no, .no, .no, .no, .no, .no, .no, .no, .no, .no, .ret (I t14), .br false, .no, .no, .no, .no, .no, .no, .no, .no, .no, .no, .br true, .br false, .br true, .no, .no, .no, .no] = some (.tup [I a2, I 1, I 0], [(decide ((a2 - a0) ≤ a3)) = true, (decide ((a1 - a2) ≤ a3)) = false, (decide ((a2 - a0) ≤ a3)) = true, inI64 (a1 - a2), inI64 (a2 - a0), inI64 3, (decide (t14 < 0)) = false, Computes cx 63 [.agg [I a2, I 2], .agg [I a0, I 0]] (I t14), inI64 0, inI64 1, inI64 1, inI64 1, (decide (t12 < 0)) = true, Computes cx 63 [.agg [I a2, I 2], .agg [I a1, I 1]] (I t12), inI64 1, inI64 2, (decide (t10 < 0)) = false, Computes cx 63 [.agg [I a1, I 1], .agg [I a0, I 0]] (I t10), inI64 0, inI64 1, inI64 3, Computes cx 92 [.v (.int .u64 3)] (I t9), (t7 != 0) = false, Computes cx 59 [I a3, I 0, I 1000] (I t7), inI64 3, (t5 != 0) = false, Computes cx 59 [I a2, I (-1000), I 1000] (I t5), inI64 2, (t3 != 0) = false, Computes cx 59 [I a1, I (-1000), I 1000] (I t3), inI64 1, (t1 != 0) = false, Computes cx 59 [I a0, I (-1000), I 1000] (I t1)]) := by kernel_rfl
theorem e_drive_Voted_2_18 (a0 : Int) (a1 : Int) (a2 : Int) (a3 : Int) (t1 : Int) (t3 : Int) (t5 : Int) (t7 : Int) (t9 : Int) (t10 : Int) (t12 : Int) (t14 : Int) : runFn true 100 cx 29 [.agg [I a0, I a1, I a2], I a3] [.no, .no, .ret (I t1), .br false, .no, .no, .no, .no, .ret (I t3), .br false, .no, .no, .no, .ret (I t5), .br false, .no, .no, .no, .ret (I t7), .br false, .br true, .ret (I t9), .br true, .no, .no, .br true, .no, .no, .no, .no, .no, .no, .no, .no, .ret (I t10), .br false, .no, .no, .no, .no, .no, .no, .no, .no, .ret (I t12), .br true, .no, .no, .no, .no, .no, .no, .no, .no, .no, .no, .no, .no, .no, .no, .ret (I t14), .br false, .no, .no, .no, .no, .no, .no, .no, .no, .no, .no, .br false, .no, .br false, .br true, .no, .no, .no, .no] = some (.tup [I a2, I 0, I 0], [(decide ((a1 - a2) ≤ a3)) = true, (decide ((a2 - a0) ≤ a3)) = false, (decide ((a2 - a0) ≤ a3)) = false, inI64 (a1 - a2), inI64 (a2 - a0), inI64 3, (decide (t14 < 0)) = false, Computes cx 63 [.agg [I a2, I 2], .agg [I a0, I 0]] (I t14), inI64 0, inI64 1, inI64 1, inI64 1, (decide (t12 < 0)) = true, Computes cx 63 [.agg [I a2, I 2], .agg [I a1, I 1]] (I t12), inI64 1, inI64 2, (decide (t10 < 0)) = false, Computes cx 63 [.agg [I a1, I 1], .agg [I a0, I 0]] (I t10), inI64 0, inI64 1, inI64 3, Computes cx 92 [.v (.int .u64 3)] (I t9), (t7 != 0) = false, Computes cx 59 [I a3, I 0, I 1000] (I t7), inI64 3, (t5 != 0) = false, Computes cx 59 [I a2, I (-1000), I 1000] (I t5), inI64 2, (t3 != 0) = false, Computes cx 59 [I a1, I (-1000), I 1000] (I t3), inI64 1, (t1 != 0) = false, Computes cx 59 [I a0, I (-1000), I 1000] (I t1)]) := by kernel_rfl
theorem e_drive_Voted_2_19 (a0 : Int) (a1 : Int) (a2 : Int) (a3 : Int) (t1 : Int) (t3 : Int) (t5 : Int) (t7 : Int) (t9 : Int) (t10 : Int) (t12 : Int) (t14 : Int) : runFn true 100 cx 29 [.agg [I a0, I a1, I a2], I a3] [.no, .no, .ret (I t1), .br false, .no, .no, .no, .no, .ret (I t3), .br false, .no, .no, .no, .ret (I t5), .br false, .no, .no, .no, .ret (I t7), .br false, .br true, .ret (I t9), .br true, .no, .no, .br true, .no, .no, .no, .no, .no, .no, .no, .no, .ret (I t10), .br false, .no, .no, .no, .no, .no, .no, .no, .no, .ret (I t12), .br true, .no, .no, .no, .no, .no, .no, .no, .no, .no, .no, .no, .no, .no, .no, .ret (I t14), .br false, .no, .no, .no, .no, .no, .no, .no, .no, .no, .no, .br false, .no, .br false, .br false] = some (.tup [I 0, I 0, I 7], [(decide ((a1 - a2) ≤ a3)) = false, (decide ((a2 - a0) ≤ a3)) = false, (decide ((a2 - a0) ≤ a3)) = false, inI64 (a1 - a2), inI64 (a2 - a0), inI64 3, (decide (t14 < 0)) = false, Computes cx 63 [.agg [I a2, I 2], .agg [I a0, I 0]] (I t14), inI64 0, inI64 1, inI64 1, inI64 1, (decide (t12 < 0)) = true, Computes cx 63 [.agg [I a2, I 2], .agg [I a1, I 1]] (I t12), inI64 1, inI64 2, (decide (t10 < 0)) = false, Computes cx 63 [.agg [I a1, I 1], .agg [I a0, I 0]] (I t10), inI64 0, inI64 1, inI64 3, Computes cx 92 [.v (.int .u64 3)] (I t9), (t7 != 0) = false, Computes cx 59 [I a3, I 0, I 1000] (I t7), inI64 3, (t5 != 0) = false, Computes cx 59 [I a2, I (-1000), I 1000] (I t5), inI64 2, (t3 != 0) = false, Computes cx 59 [I a1, I (-1000), I 1000] (I t3), inI64 1, (t1 != 0) = false, Computes cx 59 [I a0, I (-1000), I 1000] (I t1)]) := by kernel_rfl
theorem e_drive_Voted_2_20 (a0 : Int) (a1 : Int) (a2 : Int) (a3 : Int) (t1 : Int) (t3 : Int) (t5 : Int) (t7 : Int) (t9 : Int) (t10 : Int) (t12 : Int) : runFn true 100 cx 29 [.agg [I a0, I a1, I a2], I a3] [.no, .no, .ret (I t1), .br false, .no, .no, .no, .no, .ret (I t3), .br false, .no, .no, .no, .ret (I t5), .br false, .no, .no, .no, .ret (I t7), .br false, .br true, .ret (I t9), .br true, .no, .no, .br true, .no, .no, .no, .no, .no, .no, .no, .no, .ret (I t10), .br false, .no, .no, .no, .no, .no, .no, .no, .no, .ret (I t12), .br false, .no, .no, .no, .no, .no, .no, .no, .no, .no, .no, .br true, .br true, .no, .no] = some (.tup [I a1, I (-1), I 0], [(decide ((a2 - a1) ≤ a3)) = true, (decide ((a1 - a0) ≤ a3)) = true, inI64 (a2 - a1), inI64 (a1 - a0), inI64 3, (decide (t12 < 0)) = false, Computes cx 63 [.agg [I a2, I 2], .agg [I a1, I 1]] (I t12), inI64 1, inI64 2, (decide (t10 < 0)) = false, Computes cx 63 [.agg [I a1, I 1], .agg [I a0, I 0]] (I t10), inI64 0, inI64 1, inI64 3, Computes cx 92 [.v (.int .u64 3)] (I t9), (t7 != 0) = false, Computes cx 59 [I a3, I 0, I 1000] (I t7), inI64 3, (t5 != 0) = false, Computes cx 59 [I a2, I (-1000), I 1000] (I t5), inI64 2, (t3 != 0) = false, Computes cx 59 [I a1, I (-1000), I 1000] (I t3), inI64 1, (t1 != 0) = false, Computes cx 59 [I a0, I (-1000), I 1000] (I t1)]) := by kernel_rfl
theorem e_drive_Voted_2_21 (a0 : Int) (a1 : Int) (a2 : Int) (a3 : Int) (t1 : Int) (t3 : Int) (t5 : Int) (t7 : Int) (t9 : Int) (t10 : Int) (t12 : Int) : runFn true 100 cx 29 [.agg [I a0, I a1, I a2], I a3] [.no, .no, .ret (I t1), .br false, .no, .no, .no, .no, .ret (I t3), .br false, .no, .no, .no, .ret (I t5), .br false, .no, .no, .no, .ret (I t7), .br false, .br true, .ret (I t9), .br true, .no, .no, .br true, .no, .no, .no, .no, .no, .no, .no, .no, .ret (I t10), .br false, .no, .no, .no, .no, .no, .no, .no, .no, .ret (I t12), .br false, .no, .no, .no, .no, .no, .no, .no, .no, .no, .no, .br true, .br false, .br true, .no, .no, .no, .no] = some (.tup [I a1, I 2, I 0], [(decide ((a1 - a0) ≤ a3)) = true, (decide ((a2 - a1) ≤ a3)) = false, (decide ((a1 - a0) ≤ a3)) = true, inI64 (a2 - a1), inI64 (a1 - a0), inI64 3, (decide (t12 < 0)) = false, Computes cx 63 [.agg [I a2, I 2], .agg [I a1, I 1]] (I t12), inI64 1, inI64 2, (decide (t10 < 0)) = false, Computes cx 63 [.agg [I a1, I 1], .agg [I a0, I 0]] (I t10), inI64 0, inI64 1, inI64 3, Computes cx 92 [.v (.int .u64 3)] (I t9), (t7 != 0) = false, Computes cx 59 [I a3, I 0, I 1000] (I t7), inI64 3, (t5 != 0) = false, Computes cx 59 [I a2, I (-1000), I 1000] (I t5), inI64 2, (t3 != 0) = false, Computes cx 59 [I a1, I (-1000), I 1000] (I t3), inI64 1, (t1 != 0) = false, Computes cx 59 [I a0, I (-1000), I 1000] (I t1)]) := by kernel_rfl
theorem e_drive_Voted_2_22 (a0 : Int) (a1 : Int) (a2 : Int) (a3 : Int) (t1 : Int) (t3 : Int) (t5 : Int) (t7 : Int) (t9 : Int) (t10 : Int) (t12 : Int) : runFn true 100 cx 29 [.agg [I a0, I a1, I a2], I a3] [.no, .no, .ret (I t1), .br false, .no, .no, .no, .no, .ret (I t3), .br false, .no, .no, .no, .ret (I t5), .br false, .no, .no, .no, .ret (I t7), .br false, .br true, .ret (I t9), .br true, .no, .no, .br true, .no, .no, .no, .no, .no, .no, .no, .no, .ret (I t10), .br false, .no, .no, .no, .no, .no, .no, .no, .no, .ret (I t12), .br false, .no, .no, .no, .no, .no, .no, .no, .no, .no, .no, .br false, .no, .br false, .br true, .no, .no, .no, .no] = some (.tup [I a1, I 0, I 0], [(decide ((a2 - a1) ≤ a3)) = true, (decide ((a1 - a0) ≤ a3)) = false, (decide ((a1 - a0) ≤ a3)) = false, inI64 (a2 - a1), inI64 (a1 - a0), inI64 3, (decide (t12 < 0)) = false, Computes cx 63 [.agg [I a2, I 2], .agg [I a1, I 1]] (I t12), inI64 1, inI64 2, (decide (t10 < 0)) = false, Computes cx 63 [.agg [I a1, I 1], .agg [I a0, I 0]] (I t10), inI64 0, inI64 1, inI64 3, Computes cx 92 [.v (.int .u64 3)] (I t9), (t7 != 0) = false, Computes cx 59 [I a3, I 0, I 1000] (I t7), inI64 3, (t5 != 0) = false, Computes cx 59 [I a2, I (-1000), I 1000] (I t5), inI64 2, (t3 != 0) = false, Computes cx 59 [I a1, I (-1000), I 1000] (I t3), inI64 1, (t1 != 0) = false, Computes cx 59 [I a0, I (-1000), I 1000] (I t1)]) := by kernel_rfl
theorem e_drive_Voted_2_23 (a0 : Int) (a1 : Int) (a2 : Int) (a3 : Int) (t1 : Int) (t3 : Int) (t5 : Int) (t7 : Int) (t9 : Int) (t10 : Int) (t12 : Int) : runFn true 100 cx 29 [.agg [I a0, I a1, I a2], I a3] [.no, .no, .ret (I t1), .br false, .no, .no, .no, .no, .ret (I t3), .br false, .no, .no, .no, .ret (I t5), .br false, .no, .no, .no, .ret (I t7), .br false, .br true, .ret (I t9), .br true, .no, .no, .br true, .no, .no, .no, .no, .no, .no, .no, .no, .ret (I t10), .br false, .no, .no, .no, .no, .no, .no, .no, .no, .ret (I t12), .br false, .no, .no, .no, .no, .no, .no, .no, .no, .no, .no, .br false, .no, .br false, .br false] = some (.tup [I 0, I 0, I 7], [(decide ((a2 - a1) ≤ a3)) = false, (decide ((a1 - a0) ≤ a3)) = false, (decide ((a1 - a0) ≤ a3)) = false, inI64 (a2 - a1), inI64 (a1 - a0), inI64 3, (decide (t12 < 0)) = false, Computes cx 63 [.agg [I a2, I 2], .agg [I a1, I 1]] (I t12), inI64 1, inI64 2, (decide (t10 < 0)) = false, Computes cx 63 [.agg [I a1, I 1], .agg [I a0, I 0]] (I t10), inI64 0, inI64 1, inI64 3, Computes cx 92 [.v (.int .u64 3)] (I t9), (t7 != 0) = false, Computes cx 59 [I a3, I 0, I 1000] (I t7), inI64 3, (t5 != 0) = false, Computes cx 59 [I a2, I (-1000), I 1000] (I t5), inI64 2, (t3 != 0) = false, Computes cx 59 [I a1, I (-1000), I 1000] (I t3), inI64 1, (t1 != 0) = false, Computes cx 59 [I a0, I (-1000), I 1000] (I t1)]) := by kernel_rfl
theorem e_drive_Voted_2_24 (a0 : Int) (a1 : Int) (a2 : Int) (a3 : Int) (t1 : Int) (t3 : Int) (t5 : Int) (t7 : Int) : runFn true 100 cx 29 [.agg [I a0, I a1, I a2], I a3] [.no, .no, .ret (I t1), .br false, .no, .no, .no, .no, .ret (I t3), .br false, .no, .no, .no, .ret (I t5), .br false, .no, .no, .no, .ret (I t7), .br true] = some (.tup [I 0, I 0, I t7], [(t7 != 0) = true, Computes cx 59 [I a3, I 0, I 1000] (I t7), inI64 3, (t5 != 0) = false, Computes cx 59 [I a2, I (-1000), I 1000] (I t5), inI64 2, (t3 != 0) = false, Computes cx 59 [I a1, I (-1000), I 1000] (I t3), inI64 1, (t1 != 0) = false, Computes cx 59 [I a0, I (-1000), I 1000] (I t1)]) := by kernel_rfl
theorem e_drive_Voted_2_25 (a0 : Int) (a1 : Int) (a2 : Int) (a3 : Int) (t1 : Int) (t3 : Int) (t5 : Int) : runFn true 100 cx 29 [.agg [I a0, I a1, I a2], I a3] [.no, .no, .ret (I t1), .br false, .no, .no, .no, .no, .ret (I t3), .br false, .no, .no, .no, .ret (I t5), .br true] = some (.tup [I 0, I 0, I t5], [(t5 != 0) = true, Computes cx 59 [I a2, I (-1000), I 1000] (I t5), inI64 2, (t3 != 0) = false, Computes cx 59 [I a1, I (-1000), I 1000] (I t3), inI64 1, (t1 != 0) = false, Computes cx 59 [I a0, I (-1000), I 1000] (I t1)]) := by kernel_rfl
theorem e_drive_Voted_2_26 (a0 : Int) (a1 : Int) (a2 : Int) (a3 : Int) (t1 : Int) (t3 : Int) : runFn true 100 cx 29 [.agg [I a0, I a1, I a2], I a3] [.no, .no, .ret (I t1), .br false, .no, .no, .no, .no, .ret (I t3), .br true] = some (.tup [I 0, I 0, I t3], [(t3 != 0) = true, Computes cx 59 [I a1, I (-1000), I 1000] (I t3), inI64 1, (t1 != 0) = false, Computes cx 59 [I a0, I (-1000), I 1000] (I t1)]) := by kernel_rfl
theorem e_drive_Voted_2_27 (a0 : Int) (a1 : Int) (a2 : Int) (a3 : Int) (t1 : Int) : runFn true 100 cx 29 [.agg [I a0, I a1, I a2], I a3] [.no, .no, .ret (I t1), .br true] = some (.tup [I 0, I 0, I t1], [(t1 != 0) = true, Computes cx 59 [I a0, I (-1000), I 1000] (I t1)]) := by kernel_rfl
/- spillage/drive.Voted: .agg [I a0, I a1, I a2], I a3 -/
def F_drive_Voted_2 (n : Nat) (a0 : Int) (a1 : Int) (a2 : Int) (a3 : Int) : Option (Int × Int × Int) :=
  (F_drive_within n a0 (-1000) 1000).bind fun t1 =>
  if t1 = 0 then
    (F_drive_within n a1 (-1000) 1000).bind fun t3 =>
    if t3 = 0 then
      (F_drive_within n a2 (-1000) 1000).bind fun t5 =>
      if t5 = 0 then
        (F_drive_within n a3 0 1000).bind fun t7 =>
        if t7 = 0 then
          (F_math_bits_Len n).bind fun t9 =>
          (F_drive_Voted_c1_4 n a1 1 a0 0).bind fun t10 =>
          if t10 < 0 then
            (F_drive_Voted_c1_4 n a2 2 a0 0).bind fun t12 =>
            if t12 < 0 then
              (F_drive_Voted_c1_4 n a2 2 a1 1).bind fun t14 =>
              if t14 < 0 then
                if inI64 (a1 - a2) then
                if inI64 (a0 - a1) then
                if (a1 - a2) ≤ a3 then
                  if (a0 - a1) ≤ a3 then
                    some (a1, (-1), 0)
                  else
                  some (a1, 0, 0)
                else
                if (a0 - a1) ≤ a3 then
                  some (a1, 2, 0)
                else
                some (0, 0, 7)
                else none
                else none
              else
              if inI64 (a2 - a1) then
              if inI64 (a0 - a2) then
              if (a2 - a1) ≤ a3 then
                if (a0 - a2) ≤ a3 then
                  some (a2, (-1), 0)
                else
                some (a2, 0, 0)
              else
              if (a0 - a2) ≤ a3 then
                some (a2, 1, 0)
              else
              some (0, 0, 7)
              else none
              else none
            else
            if inI64 (a0 - a1) then
            if inI64 (a2 - a0) then
            if (a0 - a1) ≤ a3 then
              if (a2 - a0) ≤ a3 then
                some (a0, (-1), 0)
              else
              some (a0, 2, 0)
            else
            if (a2 - a0) ≤ a3 then
              some (a0, 1, 0)
            else
            some (0, 0, 7)
            else none
            else none
          else
          (F_drive_Voted_c1_4 n a2 2 a1 1).bind fun t12 =>
          if t12 < 0 then
            (F_drive_Voted_c1_4 n a2 2 a0 0).bind fun t14 =>
            if t14 < 0 then
              if inI64 (a0 - a2) then
              if inI64 (a1 - a0) then
              if (a0 - a2) ≤ a3 then
                if (a1 - a0) ≤ a3 then
                  some (a0, (-1), 0)
                else
                some (a0, 1, 0)
              else
              if (a1 - a0) ≤ a3 then
                some (a0, 2, 0)
              else
              some (0, 0, 7)
              else none
              else none
            else
            if inI64 (a2 - a0) then
            if inI64 (a1 - a2) then
            if (a2 - a0) ≤ a3 then
              if (a1 - a2) ≤ a3 then
                some (a2, (-1), 0)
              else
              some (a2, 1, 0)
            else
            if (a1 - a2) ≤ a3 then
              some (a2, 0, 0)
            else
            some (0, 0, 7)
            else none
            else none
          else
          if inI64 (a1 - a0) then
          if inI64 (a2 - a1) then
          if (a1 - a0) ≤ a3 then
            if (a2 - a1) ≤ a3 then
              some (a1, (-1), 0)
            else
            some (a1, 2, 0)
          else
          if (a2 - a1) ≤ a3 then
            some (a1, 0, 0)
          else
          some (0, 0, 7)
          else none
          else none
        else
        some (0, 0, t7)
      else
      some (0, 0, t5)
    else
    some (0, 0, t3)
  else
  some (0, 0, t1)
theorem c_drive_Voted_2 {n : Nat} {a0 : Int} {a1 : Int} {a2 : Int} {a3 : Int} {r : Int × Int × Int} (h : F_drive_Voted_2 n a0 a1 a2 a3 = some r) : Computes cx 29 [.agg [I a0, I a1, I a2], I a3] (.tup [I r.1, I r.2.1, I r.2.2]) := by
  unfold F_drive_Voted_2 at h
  obtain ⟨t1, h1, h⟩ := bnd_of h
  by_cases h2 : t1 = 0
  · replace h := ite_t h h2
    obtain ⟨t3, h3, h⟩ := bnd_of h
    by_cases h4 : t3 = 0
    · replace h := ite_t h h4
      obtain ⟨t5, h5, h⟩ := bnd_of h
      by_cases h6 : t5 = 0
      · replace h := ite_t h h6
        obtain ⟨t7, h7, h⟩ := bnd_of h
        by_cases h8 : t7 = 0
        · replace h := ite_t h h8
          obtain ⟨t9, h9, h⟩ := bnd_of h
          obtain ⟨t10, h10, h⟩ := bnd_of h
          by_cases h11 : t10 < 0
          · replace h := ite_t h h11
            obtain ⟨t12, h12, h⟩ := bnd_of h
            by_cases h13 : t12 < 0
            · replace h := ite_t h h13
              obtain ⟨t14, h14, h⟩ := bnd_of h
              by_cases h15 : t14 < 0
              · replace h := ite_t h h15
                obtain ⟨h16, h⟩ := grd_of h
                obtain ⟨h17, h⟩ := grd_of h
                by_cases h18 : (a1 - a2) ≤ a3
                · replace h := ite_t h h18
                  by_cases h19 : (a0 - a1) ≤ a3
                  · replace h := ite_t h h19
                    replace h := Option.some.inj h
                    subst h
                    exact run (e_drive_Voted_2_0 a0 a1 a2 a3 t1 t3 t5 t7 t9 t10 t12 t14) ⟨(decide_eq_true h19), (decide_eq_true h18), h17, h16, (by unfold inI64; omega), (by unfold inI64; omega), (by unfold inI64; omega), (by unfold inI64; omega), (decide_eq_true h15), (c_drive_Voted_c1_4 h14), (by unfold inI64; omega), (by unfold inI64; omega), (by unfold inI64; omega), (by unfold inI64; omega), (decide_eq_true h13), (c_drive_Voted_c1_4 h12), (by unfold inI64; omega), (by unfold inI64; omega), (by unfold inI64; omega), (by unfold inI64; omega), (by unfold inI64; omega), (decide_eq_true h11), (c_drive_Voted_c1_4 h10), (by unfold inI64; omega), (by unfold inI64; omega), (by unfold inI64; omega), (c_math_bits_Len h9), (nef h8), (c_drive_within h7), (by unfold inI64; omega), (nef h6), (c_drive_within h5), (by unfold inI64; omega), (nef h4), (c_drive_within h3), (by unfold inI64; omega), (nef h2), (c_drive_within h1), trivial⟩
                  · replace h := ite_f h h19
                    replace h := Option.some.inj h
                    subst h
                    exact run (e_drive_Voted_2_1 a0 a1 a2 a3 t1 t3 t5 t7 t9 t10 t12 t14) ⟨(decide_eq_true h18), (decide_eq_false h19), (decide_eq_true h18), h17, h16, (by unfold inI64; omega), (by unfold inI64; omega), (by unfold inI64; omega), (by unfold inI64; omega), (decide_eq_true h15), (c_drive_Voted_c1_4 h14), (by unfold inI64; omega), (by unfold inI64; omega), (by unfold inI64; omega), (by unfold inI64; omega), (decide_eq_true h13), (c_drive_Voted_c1_4 h12), (by unfold inI64; omega), (by unfold inI64; omega), (by unfold inI64; omega), (by unfold inI64; omega), (by unfold inI64; omega), (decide_eq_true h11), (c_drive_Voted_c1_4 h10), (by unfold inI64; omega), (by unfold inI64; omega), (by unfold inI64; omega), (c_math_bits_Len h9), (nef h8), (c_drive_within h7), (by unfold inI64; omega), (nef h6), (c_drive_within h5), (by unfold inI64; omega), (nef h4), (c_drive_within h3), (by unfold inI64; omega), (nef h2), (c_drive_within h1), trivial⟩
                · replace h := ite_f h h18
                  by_cases h19 : (a0 - a1) ≤ a3
                  · replace h := ite_t h h19
                    replace h := Option.some.inj h
                    subst h
                    exact run (e_drive_Voted_2_2 a0 a1 a2 a3 t1 t3 t5 t7 t9 t10 t12 t14) ⟨(decide_eq_true h19), (decide_eq_false h18), (decide_eq_false h18), h17, h16, (by unfold inI64; omega), (by unfold inI64; omega), (by unfold inI64; omega), (by unfold inI64; omega), (decide_eq_true h15), (c_drive_Voted_c1_4 h14), (by unfold inI64; omega), (by unfold inI64; omega), (by unfold inI64; omega), (by unfold inI64; omega), (decide_eq_true h13), (c_drive_Voted_c1_4 h12), (by unfold inI64; omega), (by unfold inI64; omega), (by unfold inI64; omega), (by unfold inI64; omega), (by unfold inI64; omega), (decide_eq_true h11), (c_drive_Voted_c1_4 h10), (by unfold inI64; omega), (by unfold inI64; omega), (by unfold inI64; omega), (c_math_bits_Len h9), (nef h8), (c_drive_within h7), (by unfold inI64; omega), (nef h6), (c_drive_within h5), (by unfold inI64; omega), (nef h4), (c_drive_within h3), (by unfold inI64; omega), (nef h2), (c_drive_within h1), trivial⟩
                  · replace h := ite_f h h19
                    replace h := Option.some.inj h
                    subst h
                    exact run (e_drive_Voted_2_3 a0 a1 a2 a3 t1 t3 t5 t7 t9 t10 t12 t14) ⟨(decide_eq_false h19), (decide_eq_false h18), (decide_eq_false h18), h17, h16, (by unfold inI64; omega), (by unfold inI64; omega), (by unfold inI64; omega), (by unfold inI64; omega), (decide_eq_true h15), (c_drive_Voted_c1_4 h14), (by unfold inI64; omega), (by unfold inI64; omega), (by unfold inI64; omega), (by unfold inI64; omega), (decide_eq_true h13), (c_drive_Voted_c1_4 h12), (by unfold inI64; omega), (by unfold inI64; omega), (by unfold inI64; omega), (by unfold inI64; omega), (by unfold inI64; omega), (decide_eq_true h11), (c_drive_Voted_c1_4 h10), (by unfold inI64; omega), (by unfold inI64; omega), (by unfold inI64; omega), (c_math_bits_Len h9), (nef h8), (c_drive_within h7), (by unfold inI64; omega), (nef h6), (c_drive_within h5), (by unfold inI64; omega), (nef h4), (c_drive_within h3), (by unfold inI64; omega), (nef h2), (c_drive_within h1), trivial⟩
              · replace h := ite_f h h15
                obtain ⟨h16, h⟩ := grd_of h
                obtain ⟨h17, h⟩ := grd_of h
                by_cases h18 : (a2 - a1) ≤ a3
                · replace h := ite_t h h18
                  by_cases h19 : (a0 - a2) ≤ a3
                  · replace h := ite_t h h19
                    replace h := Option.some.inj h
                    subst h
                    exact run (e_drive_Voted_2_4 a0 a1 a2 a3 t1 t3 t5 t7 t9 t10 t12 t14) ⟨(decide_eq_true h19), (decide_eq_true h18), h17, h16, (by unfold inI64; omega), (decide_eq_false h15), (c_drive_Voted_c1_4 h14), (by unfold inI64; omega), (by unfold inI64; omega), (by unfold inI64; omega), (by unfold inI64; omega), (decide_eq_true h13), (c_drive_Voted_c1_4 h12), (by unfold inI64; omega), (by unfold inI64; omega), (by unfold inI64; omega), (by unfold inI64; omega), (by unfold inI64; omega), (decide_eq_true h11), (c_drive_Voted_c1_4 h10), (by unfold inI64; omega), (by unfold inI64; omega), (by unfold inI64; omega), (c_math_bits_Len h9), (nef h8), (c_drive_within h7), (by unfold inI64; omega), (nef h6), (c_drive_within h5), (by unfold inI64; omega), (nef h4), (c_drive_within h3), (by unfold inI64; omega), (nef h2), (c_drive_within h1), trivial⟩
                  · replace h := ite_f h h19
                    replace h := Option.some.inj h
                    subst h
                    exact run (e_drive_Voted_2_5 a0 a1 a2 a3 t1 t3 t5 t7 t9 t10 t12 t14) ⟨(decide_eq_true h18), (decide_eq_false h19), (decide_eq_true h18), h17, h16, (by unfold inI64; omega), (decide_eq_false h15), (c_drive_Voted_c1_4 h14), (by unfold inI64; omega), (by unfold inI64; omega), (by unfold inI64; omega), (by unfold inI64; omega), (decide_eq_true h13), (c_drive_Voted_c1_4 h12), (by unfold inI64; omega), (by unfold inI64; omega), (by unfold inI64; omega), (by unfold inI64; omega), (by unfold inI64; omega), (decide_eq_true h11), (c_drive_Voted_c1_4 h10), (by unfold inI64; omega), (by unfold inI64; omega), (by unfold inI64; omega), (c_math_bits_Len h9), (nef h8), (c_drive_within h7), (by unfold inI64; omega), (nef h6), (c_drive_within h5), (by unfold inI64; omega), (nef h4), (c_drive_within h3), (by unfold inI64; omega), (nef h2), (c_drive_within h1), trivial⟩
                · replace h := ite_f h h18
                  by_cases h19 : (a0 - a2) ≤ a3
                  · replace h := ite_t h h19
                    replace h := Option.some.inj h
                    subst h
                    exact run (e_drive_Voted_2_6 a0 a1 a2 a3 t1 t3 t5 t7 t9 t10 t12 t14) ⟨(decide_eq_true h19), (decide_eq_false h18), (decide_eq_false h18), h17, h16, (by unfold inI64; omega), (decide_eq_false h15), (c_drive_Voted_c1_4 h14), (by unfold inI64; omega), (by unfold inI64; omega), (by unfold inI64; omega), (by unfold inI64; omega), (decide_eq_true h13), (c_drive_Voted_c1_4 h12), (by unfold inI64; omega), (by unfold inI64; omega), (by unfold inI64; omega), (by unfold inI64; omega), (by unfold inI64; omega), (decide_eq_true h11), (c_drive_Voted_c1_4 h10), (by unfold inI64; omega), (by unfold inI64; omega), (by unfold inI64; omega), (c_math_bits_Len h9), (nef h8), (c_drive_within h7), (by unfold inI64; omega), (nef h6), (c_drive_within h5), (by unfold inI64; omega), (nef h4), (c_drive_within h3), (by unfold inI64; omega), (nef h2), (c_drive_within h1), trivial⟩
                  · replace h := ite_f h h19
                    replace h := Option.some.inj h
                    subst h
                    exact run (e_drive_Voted_2_7 a0 a1 a2 a3 t1 t3 t5 t7 t9 t10 t12 t14) ⟨(decide_eq_false h19), (decide_eq_false h18), (decide_eq_false h18), h17, h16, (by unfold inI64; omega), (decide_eq_false h15), (c_drive_Voted_c1_4 h14), (by unfold inI64; omega), (by unfold inI64; omega), (by unfold inI64; omega), (by unfold inI64; omega), (decide_eq_true h13), (c_drive_Voted_c1_4 h12), (by unfold inI64; omega), (by unfold inI64; omega), (by unfold inI64; omega), (by unfold inI64; omega), (by unfold inI64; omega), (decide_eq_true h11), (c_drive_Voted_c1_4 h10), (by unfold inI64; omega), (by unfold inI64; omega), (by unfold inI64; omega), (c_math_bits_Len h9), (nef h8), (c_drive_within h7), (by unfold inI64; omega), (nef h6), (c_drive_within h5), (by unfold inI64; omega), (nef h4), (c_drive_within h3), (by unfold inI64; omega), (nef h2), (c_drive_within h1), trivial⟩
            · replace h := ite_f h h13
              obtain ⟨h14, h⟩ := grd_of h
              obtain ⟨h15, h⟩ := grd_of h
              by_cases h16 : (a0 - a1) ≤ a3
              · replace h := ite_t h h16
                by_cases h17 : (a2 - a0) ≤ a3
                · replace h := ite_t h h17
                  replace h := Option.some.inj h
                  subst h
                  exact run (e_drive_Voted_2_8 a0 a1 a2 a3 t1 t3 t5 t7 t9 t10 t12) ⟨(decide_eq_true h17), (decide_eq_true h16), h15, h14, (by unfold inI64; omega), (decide_eq_false h13), (c_drive_Voted_c1_4 h12), (by unfold inI64; omega), (by unfold inI64; omega), (by unfold inI64; omega), (by unfold inI64; omega), (by unfold inI64; omega), (decide_eq_true h11), (c_drive_Voted_c1_4 h10), (by unfold inI64; omega), (by unfold inI64; omega), (by unfold inI64; omega), (c_math_bits_Len h9), (nef h8), (c_drive_within h7), (by unfold inI64; omega), (nef h6), (c_drive_within h5), (by unfold inI64; omega), (nef h4), (c_drive_within h3), (by unfold inI64; omega), (nef h2), (c_drive_within h1), trivial⟩
                · replace h := ite_f h h17
                  replace h := Option.some.inj h
                  subst h
                  exact run (e_drive_Voted_2_9 a0 a1 a2 a3 t1 t3 t5 t7 t9 t10 t12) ⟨(decide_eq_true h16), (decide_eq_false h17), (decide_eq_true h16), h15, h14, (by unfold inI64; omega), (decide_eq_false h13), (c_drive_Voted_c1_4 h12), (by unfold inI64; omega), (by unfold inI64; omega), (by unfold inI64; omega), (by unfold inI64; omega), (by unfold inI64; omega), (decide_eq_true h11), (c_drive_Voted_c1_4 h10), (by unfold inI64; omega), (by unfold inI64; omega), (by unfold inI64; omega), (c_math_bits_Len h9), (nef h8), (c_drive_within h7), (by unfold inI64; omega), (nef h6), (c_drive_within h5), (by unfold inI64; omega), (nef h4), (c_drive_within h3), (by unfold inI64; omega), (nef h2), (c_drive_within h1), trivial⟩
              · replace h := ite_f h h16
                by_cases h17 : (a2 - a0) ≤ a3
                · replace h := ite_t h h17
                  replace h := Option.some.inj h
                  subst h
                  exact run (e_drive_Voted_2_10 a0 a1 a2 a3 t1 t3 t5 t7 t9 t10 t12) ⟨(decide_eq_true h17), (decide_eq_false h16), (decide_eq_false h16), h15, h14, (by unfold inI64; omega), (decide_eq_false h13), (c_drive_Voted_c1_4 h12), (by unfold inI64; omega), (by unfold inI64; omega), (by unfold inI64; omega), (by unfold inI64; omega), (by unfold inI64; omega), (decide_eq_true h11), (c_drive_Voted_c1_4 h10), (by unfold inI64; omega), (by unfold inI64; omega), (by unfold inI64; omega), (c_math_bits_Len h9), (nef h8), (c_drive_within h7), (by unfold inI64; omega), (nef h6), (c_drive_within h5), (by unfold inI64; omega), (nef h4), (c_drive_within h3), (by unfold inI64; omega), (nef h2), (c_drive_within h1), trivial⟩
                · replace h := ite_f h h17
                  replace h := Option.some.inj h
                  subst h
                  exact run (e_drive_Voted_2_11 a0 a1 a2 a3 t1 t3 t5 t7 t9 t10 t12) ⟨(decide_eq_false h17), (decide_eq_false h16), (decide_eq_false h16), h15, h14, (by unfold inI64; omega), (decide_eq_false h13), (c_drive_Voted_c1_4 h12), (by unfold inI64; omega), (by unfold inI64; omega), (by unfold inI64; omega), (by unfold inI64; omega), (by unfold inI64; omega), (decide_eq_true h11), (c_drive_Voted_c1_4 h10), (by unfold inI64; omega), (by unfold inI64; omega), (by unfold inI64; omega), (c_math_bits_Len h9), (nef h8), (c_drive_within h7), (by unfold inI64; omega), (nef h6), (c_drive_within h5), (by unfold inI64; omega), (nef h4), (c_drive_within h3), (by unfold inI64; omega), (nef h2), (c_drive_within h1), trivial⟩
          · replace h := ite_f h h11
            obtain ⟨t12, h12, h⟩ := bnd_of h
            by_cases h13 : t12 < 0
            · replace h := ite_t h h13
              obtain ⟨t14, h14, h⟩ := bnd_of h
              by_cases h15 : t14 < 0
              · replace h := ite_t h h15
                obtain ⟨h16, h⟩ := grd_of h
                obtain ⟨h17, h⟩ := grd_of h
                by_cases h18 : (a0 - a2) ≤ a3
                · replace h := ite_t h h18
                  by_cases h19 : (a1 - a0) ≤ a3
                  · replace h := ite_t h h19
                    replace h := Option.some.inj h
                    subst h
                    exact run (e_drive_Voted_2_12 a0 a1 a2 a3 t1 t3 t5 t7 t9 t10 t12 t14) ⟨(decide_eq_true h19), (decide_eq_true h18), h17, h16, (by unfold inI64; omega), (by unfold inI64; omega), (by unfold inI64; omega), (by unfold inI64; omega), (decide_eq_true h15), (c_drive_Voted_c1_4 h14), (by unfold inI64; omega), (by unfold inI64; omega), (by unfold inI64; omega), (by unfold inI64; omega), (decide_eq_true h13), (c_drive_Voted_c1_4 h12), (by unfold inI64; omega), (by unfold inI64; omega), (decide_eq_false h11), (c_drive_Voted_c1_4 h10), (by unfold inI64; omega), (by unfold inI64; omega), (by unfold inI64; omega), (c_math_bits_Len h9), (nef h8), (c_drive_within h7), (by unfold inI64; omega), (nef h6), (c_drive_within h5), (by unfold inI64; omega), (nef h4), (c_drive_within h3), (by unfold inI64; omega), (nef h2), (c_drive_within h1), trivial⟩
                  · replace h := ite_f h h19
                    replace h := Option.some.inj h
                    subst h
                    exact run (e_drive_Voted_2_13 a0 a1 a2 a3 t1 t3 t5 t7 t9 t10 t12 t14) ⟨(decide_eq_true h18), (decide_eq_false h19), (decide_eq_true h18), h17, h16, (by unfold inI64; omega), (by unfold inI64; omega), (by unfold inI64; omega), (by unfold inI64; omega), (decide_eq_true h15), (c_drive_Voted_c1_4 h14), (by unfold inI64; omega), (by unfold inI64; omega), (by unfold inI64; omega), (by unfold inI64; omega), (decide_eq_true h13), (c_drive_Voted_c1_4 h12), (by unfold inI64; omega), (by unfold inI64; omega), (decide_eq_false h11), (c_drive_Voted_c1_4 h10), (by unfold inI64; omega), (by unfold inI64; omega), (by unfold inI64; omega), (c_math_bits_Len h9), (nef h8), (c_drive_within h7), (by unfold inI64; omega), (nef h6), (c_drive_within h5), (by unfold inI64; omega), (nef h4), (c_drive_within h3), (by unfold inI64; omega), (nef h2), (c_drive_within h1), trivial⟩
                · replace h := ite_f h h18
                  by_cases h19 : (a1 - a0) ≤ a3
                  · replace h := ite_t h h19
                    replace h := Option.some.inj h
                    subst h
                    exact run (e_drive_Voted_2_14 a0 a1 a2 a3 t1 t3 t5 t7 t9 t10 t12 t14) ⟨(decide_eq_true h19), (decide_eq_false h18), (decide_eq_false h18), h17, h16, (by unfold inI64; omega), (by unfold inI64; omega), (by unfold inI64; omega), (by unfold inI64; omega), (decide_eq_true h15), (c_drive_Voted_c1_4 h14), (by unfold inI64; omega), (by unfold inI64; omega), (by unfold inI64; omega), (by unfold inI64; omega), (decide_eq_true h13), (c_drive_Voted_c1_4 h12), (by unfold inI64; omega), (by unfold inI64; omega), (decide_eq_false h11), (c_drive_Voted_c1_4 h10), (by unfold inI64; omega), (by unfold inI64; omega), (by unfold inI64; omega), (c_math_bits_Len h9), (nef h8), (c_drive_within h7), (by unfold inI64; omega), (nef h6), (c_drive_within h5), (by unfold inI64; omega), (nef h4), (c_drive_within h3), (by unfold inI64; omega), (nef h2), (c_drive_within h1), trivial⟩
                  · replace h := ite_f h h19
                    replace h := Option.some.inj h
                    subst h
                    exact run (e_drive_Voted_2_15 a0 a1 a2 a3 t1 t3 t5 t7 t9 t10 t12 t14) ⟨(decide_eq_false h19), (decide_eq_false h18), (decide_eq_false h18), h17, h16, (by unfold inI64; omega), (by unfold inI64; omega), (by unfold inI64; omega), (by unfold inI64; omega), (decide_eq_true h15), (c_drive_Voted_c1_4 h14), (by unfold inI64; omega), (by unfold inI64; omega), (by unfold inI64; omega), (by unfold inI64; omega), (decide_eq_true h13), (c_drive_Voted_c1_4 h12), (by unfold inI64; omega), (by unfold inI64; omega), (decide_eq_false h11), (c_drive_Voted_c1_4 h10), (by unfold inI64; omega), (by unfold inI64; omega), (by unfold inI64; omega), (c_math_bits_Len h9), (nef h8), (c_drive_within h7), (by unfold inI64; omega), (nef h6), (c_drive_within h5), (by unfold inI64; omega), (nef h4), (c_drive_within h3), (by unfold inI64; omega), (nef h2), (c_drive_within h1), trivial⟩
              · replace h := ite_f h h15
                obtain ⟨h16, h⟩ := grd_of h
                obtain ⟨h17, h⟩ := grd_of h
                by_cases h18 : (a2 - a0) ≤ a3
                · replace h := ite_t h h18
                  by_cases h19 : (a1 - a2) ≤ a3
                  · replace h := ite_t h h19
                    replace h := Option.some.inj h
                    subst h
                    exact run (e_drive_Voted_2_16 a0 a1 a2 a3 t1 t3 t5 t7 t9 t10 t12 t14) ⟨(decide_eq_true h19), (decide_eq_true h18), h17, h16, (by unfold inI64; omega), (decide_eq_false h15), (c_drive_Voted_c1_4 h14), (by unfold inI64; omega), (by unfold inI64; omega), (by unfold inI64; omega), (by unfold inI64; omega), (decide_eq_true h13), (c_drive_Voted_c1_4 h12), (by unfold inI64; omega), (by unfold inI64; omega), (decide_eq_false h11), (c_drive_Voted_c1_4 h10), (by unfold inI64; omega), (by unfold inI64; omega), (by unfold inI64; omega), (c_math_bits_Len h9), (nef h8), (c_drive_within h7), (by unfold inI64; omega), (nef h6), (c_drive_within h5), (by unfold inI64; omega), (nef h4), (c_drive_within h3), (by unfold inI64; omega), (nef h2), (c_drive_within h1), trivial⟩
                  · replace h := ite_f h h19
                    replace h := Option.some.inj h
                    subst h
                    exact run (e_drive_Voted_2_17 a0 a1 a2 a3 t1 t3 t5 t7 t9 t10 t12 t14) ⟨(decide_eq_true h18), (decide_eq_false h19), (decide_eq_true h18), h17, h16, (by unfold inI64; omega), (decide_eq_false h15), (c_drive_Voted_c1_4 h14), (by unfold inI64; omega), (by unfold inI64; omega), (by unfold inI64; omega), (by unfold inI64; omega), (decide_eq_true h13), (c_drive_Voted_c1_4 h12), (by unfold inI64; omega), (by unfold inI64; omega), (decide_eq_false h11), (c_drive_Voted_c1_4 h10), (by unfold inI64; omega), (by unfold inI64; omega), (by unfold inI64; omega), (c_math_bits_Len h9), (nef h8), (c_drive_within h7), (by unfold inI64; omega), (nef h6), (c_drive_within h5), (by unfold inI64; omega), (nef h4), (c_drive_within h3), (by unfold inI64; omega), (nef h2), (c_drive_within h1), trivial⟩
                · replace h := ite_f h h18
                  by_cases h19 : (a1 - a2) ≤ a3
                  · replace h := ite_t h h19
                    replace h := Option.some.inj h
                    subst h
                    exact run (e_drive_Voted_2_18 a0 a1 a2 a3 t1 t3 t5 t7 t9 t10 t12 t14) ⟨(decide_eq_true h19), (decide_eq_false h18), (decide_eq_false h18), h17, h16, (by unfold inI64; omega), (decide_eq_false h15), (c_drive_Voted_c1_4 h14), (by unfold inI64; omega), (by unfold inI64; omega), (by unfold inI64; omega), (by unfold inI64; omega), (decide_eq_true h13), (c_drive_Voted_c1_4 h12), (by unfold inI64; omega), (by unfold inI64; omega), (decide_eq_false h11), (c_drive_Voted_c1_4 h10), (by unfold inI64; omega), (by unfold inI64; omega), (by unfold inI64; omega), (c_math_bits_Len h9), (nef h8), (c_drive_within h7), (by unfold inI64; omega), (nef h6), (c_drive_within h5), (by unfold inI64; omega), (nef h4), (c_drive_within h3), (by unfold inI64; omega), (nef h2), (c_drive_within h1), trivial⟩
                  · replace h := ite_f h h19
                    replace h := Option.some.inj h
                    subst h
                    exact run (e_drive_Voted_2_19 a0 a1 a2 a3 t1 t3 t5 t7 t9 t10 t12 t14) ⟨(decide_eq_false h19), (decide_eq_false h18), (decide_eq_false h18), h17, h16, (by unfold inI64; omega), (decide_eq_false h15), (c_drive_Voted_c1_4 h14), (by unfold inI64; omega), (by unfold inI64; omega), (by unfold inI64; omega), (by unfold inI64; omega), (decide_eq_true h13), (c_drive_Voted_c1_4 h12), (by unfold inI64; omega), (by unfold inI64; omega), (decide_eq_false h11), (c_drive_Voted_c1_4 h10), (by unfold inI64; omega), (by unfold inI64; omega), (by unfold inI64; omega), (c_math_bits_Len h9), (nef h8), (c_drive_within h7), (by unfold inI64; omega), (nef h6), (c_drive_within h5), (by unfold inI64; omega), (nef h4), (c_drive_within h3), (by unfold inI64; omega), (nef h2), (c_drive_within h1), trivial⟩
            · replace h := ite_f h h13
              obtain ⟨h14, h⟩ := grd_of h
              obtain ⟨h15, h⟩ := grd_of h
              by_cases h16 : (a1 - a0) ≤ a3
              · replace h := ite_t h h16
                by_cases h17 : (a2 - a1) ≤ a3
                · replace h := ite_t h h17
                  replace h := Option.some.inj h
                  subst h
                  exact run (e_drive_Voted_2_20 a0 a1 a2 a3 t1 t3 t5 t7 t9 t10 t12) ⟨(decide_eq_true h17), (decide_eq_true h16), h15, h14, (by unfold inI64; omega), (decide_eq_false h13), (c_drive_Voted_c1_4 h12), (by unfold inI64; omega), (by unfold inI64; omega), (decide_eq_false h11), (c_drive_Voted_c1_4 h10), (by unfold inI64; omega), (by unfold inI64; omega), (by unfold inI64; omega), (c_math_bits_Len h9), (nef h8), (c_drive_within h7), (by unfold inI64; omega), (nef h6), (c_drive_within h5), (by unfold inI64; omega), (nef h4), (c_drive_within h3), (by unfold inI64; omega), (nef h2), (c_drive_within h1), trivial⟩
                · replace h := ite_f h h17
                  replace h := Option.some.inj h
                  subst h
                  exact run (e_drive_Voted_2_21 a0 a1 a2 a3 t1 t3 t5 t7 t9 t10 t12) ⟨(decide_eq_true h16), (decide_eq_false h17), (decide_eq_true h16), h15, h14, (by unfold inI64; omega), (decide_eq_false h13), (c_drive_Voted_c1_4 h12), (by unfold inI64; omega), (by unfold inI64; omega), (decide_eq_false h11), (c_drive_Voted_c1_4 h10), (by unfold inI64; omega), (by unfold inI64; omega), (by unfold inI64; omega), (c_math_bits_Len h9), (nef h8), (c_drive_within h7), (by unfold inI64; omega), (nef h6), (c_drive_within h5), (by unfold inI64; omega), (nef h4), (c_drive_within h3), (by unfold inI64; omega), (nef h2), (c_drive_within h1), trivial⟩
              · replace h := ite_f h h16
                by_cases h17 : (a2 - a1) ≤ a3
                · replace h := ite_t h h17
                  replace h := Option.some.inj h
                  subst h
                  exact run (e_drive_Voted_2_22 a0 a1 a2 a3 t1 t3 t5 t7 t9 t10 t12) ⟨(decide_eq_true h17), (decide_eq_false h16), (decide_eq_false h16), h15, h14, (by unfold inI64; omega), (decide_eq_false h13), (c_drive_Voted_c1_4 h12), (by unfold inI64; omega), (by unfold inI64; omega), (decide_eq_false h11), (c_drive_Voted_c1_4 h10), (by unfold inI64; omega), (by unfold inI64; omega), (by unfold inI64; omega), (c_math_bits_Len h9), (nef h8), (c_drive_within h7), (by unfold inI64; omega), (nef h6), (c_drive_within h5), (by unfold inI64; omega), (nef h4), (c_drive_within h3), (by unfold inI64; omega), (nef h2), (c_drive_within h1), trivial⟩
                · replace h := ite_f h h17
                  replace h := Option.some.inj h
                  subst h
                  exact run (e_drive_Voted_2_23 a0 a1 a2 a3 t1 t3 t5 t7 t9 t10 t12) ⟨(decide_eq_false h17), (decide_eq_false h16), (decide_eq_false h16), h15, h14, (by unfold inI64; omega), (decide_eq_false h13), (c_drive_Voted_c1_4 h12), (by unfold inI64; omega), (by unfold inI64; omega), (decide_eq_false h11), (c_drive_Voted_c1_4 h10), (by unfold inI64; omega), (by unfold inI64; omega), (by unfold inI64; omega), (c_math_bits_Len h9), (nef h8), (c_drive_within h7), (by unfold inI64; omega), (nef h6), (c_drive_within h5), (by unfold inI64; omega), (nef h4), (c_drive_within h3), (by unfold inI64; omega), (nef h2), (c_drive_within h1), trivial⟩
        · replace h := ite_f h h8
          replace h := Option.some.inj h
          subst h
          exact run (e_drive_Voted_2_24 a0 a1 a2 a3 t1 t3 t5 t7) ⟨(net h8), (c_drive_within h7), (by unfold inI64; omega), (nef h6), (c_drive_within h5), (by unfold inI64; omega), (nef h4), (c_drive_within h3), (by unfold inI64; omega), (nef h2), (c_drive_within h1), trivial⟩
      · replace h := ite_f h h6
        replace h := Option.some.inj h
        subst h
        exact run (e_drive_Voted_2_25 a0 a1 a2 a3 t1 t3 t5) ⟨(net h6), (c_drive_within h5), (by unfold inI64; omega), (nef h4), (c_drive_within h3), (by unfold inI64; omega), (nef h2), (c_drive_within h1), trivial⟩
    · replace h := ite_f h h4
      replace h := Option.some.inj h
      subst h
      exact run (e_drive_Voted_2_26 a0 a1 a2 a3 t1 t3) ⟨(net h4), (c_drive_within h3), (by unfold inI64; omega), (nef h2), (c_drive_within h1), trivial⟩
  · replace h := ite_f h h2
    replace h := Option.some.inj h
    subst h
    exact run (e_drive_Voted_2_27 a0 a1 a2 a3 t1) ⟨(net h2), (c_drive_within h1), trivial⟩
/- math.IsNaN: .v (.float .f64 a0) -/
def F_math_IsNaN (n : Nat) (a0 : Nat) : Option (Bool) :=
  some ((FloatKind.format .f64).order a0 a0 != some .eq)
theorem c_math_IsNaN {n : Nat} {a0 : Nat} {r : Bool} (h : F_math_IsNaN n a0 = some r) : Computes cx 118 [.v (.float .f64 a0)] (B r) := by
  unfold F_math_IsNaN at h
  replace h := Option.some.inj h
  subst h
  exact run_fr (n := 100) (orc := []) allN (by kernel_rfl)
/- math.IsInf: .v (.float .f64 a0), I a1 -/
def F_math_IsInf (n : Nat) (a0 : Nat) (a1 : Int) : Option (Bool) :=
  if a1 = 0 then
    (F_math_Abs n a0).bind fun t2 =>
    some ((FloatKind.format .f64).order t2 9218868437227405311 == some .gt)
  else
  if a1 < 0 then
    some ((FloatKind.format .f64).order (Op.negFloat .f64 a0) 9218868437227405311 == some .gt)
  else
  some ((FloatKind.format .f64).order a0 9218868437227405311 == some .gt)
theorem c_math_IsInf {n : Nat} {a0 : Nat} {a1 : Int} {r : Bool} (h : F_math_IsInf n a0 a1 = some r) : Computes cx 119 [.v (.float .f64 a0), I a1] (B r) := by
  unfold F_math_IsInf at h
  by_cases h1 : a1 = 0
  · replace h := ite_t h h1
    obtain ⟨t2, h2, h⟩ := bnd_of h
    replace h := Option.some.inj h
    subst h
    exact run_fr (n := 100) (orc := [.br true, .ret (.v (.float .f64 t2))]) (allC (c_math_Abs h2) (allC (eqt h1) allN)) (by kernel_rfl)
  · replace h := ite_f h h1
    by_cases h2 : a1 < 0
    · replace h := ite_t h h2
      replace h := Option.some.inj h
      subst h
      exact run_fr (n := 100) (orc := [.br false, .br true]) (allC (decide_eq_true h2) (allC (eqf h1) allN)) (by kernel_rfl)
    · replace h := ite_f h h2
      replace h := Option.some.inj h
      subst h
      exact run_fr (n := 100) (orc := [.br false, .br false]) (allC (decide_eq_false h2) (allC (eqf h1) allN)) (by kernel_rfl)
/- spillage/light.infinite: .v (.float .f32 a0) -/
def F_light_infinite_2 (n : Nat) (a0 : Nat) : Option (Bool) :=
  if (f2f .f32 a0 .f64).isSome = true then
  (F_math_IsNaN n ((f2f .f32 a0 .f64).getD 0)).bind fun t2 =>
  if t2 = true then
    some true
  else
  (F_math_IsInf n ((f2f .f32 a0 .f64).getD 0) 0).bind fun t4 =>
  some t4
  else none
theorem c_light_infinite_2 {n : Nat} {a0 : Nat} {r : Bool} (h : F_light_infinite_2 n a0 = some r) : Computes cx 95 [.v (.float .f32 a0)] (B r) := by
  unfold F_light_infinite_2 at h
  obtain ⟨h1, h⟩ := grd_of h
  obtain ⟨t2, h2, h⟩ := bnd_of h
  by_cases h3 : t2 = true
  · replace h := ite_t h h3
    replace h := Option.some.inj h
    subst h
    exact run_fr (n := 100) (orc := [.ret (B t2), .br true]) (allC h3 (allC (c_math_IsNaN h2) (allC h1 allN))) (by kernel_rfl)
  · replace h := ite_f h h3
    obtain ⟨t4, h4, h⟩ := bnd_of h
    replace h := Option.some.inj h
    subst h
    exact run_fr (n := 100) (orc := [.ret (B t2), .br false, .ret (B t4)]) (allC (c_math_IsInf h4) (allC h1 (allC (bfalse h3) (allC (c_math_IsNaN h2) (allC h1 allN))))) (by kernel_rfl)
/- spillage/light.when: B a0, I a1 -/
def F_light_when (n : Nat) (a0 : Bool) (a1 : Int) : Option (Int) :=
  if a0 = true then
    some a1
  else
  some 0
theorem c_light_when {n : Nat} {a0 : Bool} {a1 : Int} {r : Int} (h : F_light_when n a0 a1 = some r) : Computes cx 94 [B a0, I a1] (I r) := by
  unfold F_light_when at h
  by_cases h1 : a0 = true
  · replace h := ite_t h h1
    replace h := Option.some.inj h
    subst h
    exact run_fr (n := 100) (orc := [.br true]) (allC h1 allN) (by kernel_rfl)
  · replace h := ite_f h h1
    replace h := Option.some.inj h
    subst h
    exact run_fr (n := 100) (orc := [.br false]) (allC (bfalse h1) allN) (by kernel_rfl)
/- spillage/light.when: B true, I 3 -/
def F_light_when_2 (n : Nat)  : Option (Int) :=
  some 3
theorem c_light_when_2 {n : Nat}  {r : Int} (h : F_light_when_2 n  = some r) : Computes cx 94 [B true, I 3] (I r) := by
  unfold F_light_when_2 at h
  replace h := Option.some.inj h
  subst h
  exact run_fr (n := 100) (orc := [.no]) allN (by kernel_rfl)
/- spillage/light.onGrid: .v (.float .f32 a0), .v (.float .f32 a1) -/
def F_light_onGrid_2 (n : Nat) (a0 : Nat) (a1 : Nat) : Option (Int) :=
  if ((FloatKind.format .f32).order a0 (Op.negFloat .f32 a1) == some .lt) = true then
    (F_light_when_2 n).bind fun t2 =>
    some t2
  else
  if ((FloatKind.format .f32).order a0 a1 == some .gt) = true then
    (F_light_when_2 n).bind fun t3 =>
    some t3
  else
  if (fop .mul .f32 1098907648 a0).isSome = true then
  if (f2f .f32 ((fop .mul .f32 1098907648 a0).getD 0) .f64).isSome = true then
  (F_math_Floor n ((f2f .f32 ((fop .mul .f32 1098907648 a0).getD 0) .f64).getD 0)).bind fun t5 =>
  if (f2f .f64 t5 .f32).isSome = true then
  (F_light_when n ((FloatKind.format .f32).order ((f2f .f64 t5 .f32).getD 0) ((fop .mul .f32 1098907648 a0).getD 0) != some .eq) 3).bind fun t7 =>
  some t7
  else none
  else none
  else none
theorem c_light_onGrid_2 {n : Nat} {a0 : Nat} {a1 : Nat} {r : Int} (h : F_light_onGrid_2 n a0 a1 = some r) : Computes cx 96 [.v (.float .f32 a0), .v (.float .f32 a1)] (I r) := by
  unfold F_light_onGrid_2 at h
  by_cases h1 : ((FloatKind.format .f32).order a0 (Op.negFloat .f32 a1) == some .lt) = true
  · replace h := ite_t h h1
    obtain ⟨t2, h2, h⟩ := bnd_of h
    replace h := Option.some.inj h
    subst h
    exact run_fr (n := 100) (orc := [.br true, .no, .ret (I t2)]) (allC (c_light_when_2 h2) (allC h1 allN)) (by kernel_rfl)
  · replace h := ite_f h h1
    by_cases h2 : ((FloatKind.format .f32).order a0 a1 == some .gt) = true
    · replace h := ite_t h h2
      obtain ⟨t3, h3, h⟩ := bnd_of h
      replace h := Option.some.inj h
      subst h
      exact run_fr (n := 100) (orc := [.br false, .br true, .ret (I t3)]) (allC (c_light_when_2 h3) (allC h2 (allC (bfalse h1) allN))) (by kernel_rfl)
    · replace h := ite_f h h2
      obtain ⟨h3, h⟩ := grd_of h
      obtain ⟨h4, h⟩ := grd_of h
      obtain ⟨t5, h5, h⟩ := bnd_of h
      obtain ⟨h6, h⟩ := grd_of h
      obtain ⟨t7, h7, h⟩ := bnd_of h
      replace h := Option.some.inj h
      subst h
      exact run_fr (n := 100) (orc := [.br false, .br false, .ret (.v (.float .f64 t5)), .ret (I t7)]) (allC (c_light_when h7) (allC h3 (allC h6 (allC (c_math_Floor h5) (allC h4 (allC h3 (allC (bfalse h2) (allC (bfalse h1) allN)))))))) (by kernel_rfl)
def F_light_first_L1 (n : Nat) (a0 : List D) (sa : (Int)) : Option (((Int)) ⊕ ((Int) ⊕ (Unit))) :=
  if sa < ((a0).length : Int) then
    (el un_i a0 sa).bind fun ta2 =>
    if ta2 = 0 then
      if inI64 (sa + 1) then
      some (.inl (sa + 1))
      else none
    else
    some (.inr (.inl ta2))
  else
  some (.inr (.inr ()))
noncomputable def T_light_first_L1 (a0 : List D) (sa : (Int)) : List (Nat × AV) := [(5, .d (.lst false 1 a0)), (6, .d (I ((a0).length : Int))), (7, .d (I sa))]
noncomputable def H_light_first_L1 (a0 : List D) (sa : (Int)) : List (Nat × Blk) := []
noncomputable def X_light_first_L1 (a0 : List D) (e : (Int) ⊕ (Unit)) : Ex := match e with
  | (.inl e) => .ret
  | (.inr e) => (.exit 0)
noncomputable def XT_light_first_L1 (a0 : List D) (e : (Int) ⊕ (Unit)) : List (Nat × AV) := match e with
  | (.inl e) => [(2, .d (I e))]
  | (.inr e) => []
noncomputable def XH_light_first_L1 (a0 : List D) (e : (Int) ⊕ (Unit)) : List (Nat × Blk) := match e with
  | (.inl e) => []
  | (.inr e) => []
theorem R_light_first_L1 {n : Nat} {a0 : List D} (sa : (Int)) (r) (h : F_light_first_L1 n a0 sa = some r) : Rd cx (loopAt cx.P 93 0) 15 0 false (T_light_first_L1 a0) (H_light_first_L1 a0) (X_light_first_L1 a0) (XT_light_first_L1 a0) (XH_light_first_L1 a0) sa r := by
  unfold F_light_first_L1 at h
  by_cases ha1 : sa < ((a0).length : Int)
  · replace h := ite_t h ha1
    obtain ⟨ta2, ha2, h⟩ := bnd_of h
    by_cases ha3 : ta2 = 0
    · replace h := ite_t h ha3
      obtain ⟨ha4, h⟩ := grd_of h
      replace h := Option.some.inj h
      subst h
      exact ⟨100, 4, [.br true, .el (enc_i ta2), .br false], [], [5, 6, 7], [], round_fr (allC ha4 (allC (nef ha3) (allC (el_ok un_i_ok ha2).1 (allC (el_ok un_i_ok ha2).2 (allC (decide_eq_true ha1) allN))))) (by kernel_rfl)⟩
    · replace h := ite_f h ha3
      replace h := Option.some.inj h
      subst h
      exact ⟨⟨100, 4, [.br true, .el (enc_i ta2), .br true], [], [2], [], round_fr (allC (net ha3) (allC (el_ok un_i_ok ha2).1 (allC (el_ok un_i_ok ha2).2 (allC (decide_eq_true ha1) allN)))) (by kernel_rfl)⟩, nofun⟩
  · replace h := ite_f h ha1
    replace h := Option.some.inj h
    subst h
    exact ⟨⟨100, 4, [.br false], [], [], [], round_fr (allC (decide_eq_false ha1) allN) (by kernel_rfl)⟩, nofun⟩
/- spillage/light.first: .lst false 1 a0 -/
def F_light_first (n : Nat) (a0 : List D) : Option (Int) :=
  (loopF (F_light_first_L1 n a0) n 0).bind fun t1 => match t1 with
    | (.inl t1) => (
      some t1)
    | (.inr t1) => (
      some 0)
theorem c_light_first {n : Nat} {a0 : List D} {r : Int} (h : F_light_first n a0 = some r) : Computes cx 93 [.lst false 1 a0] (I r) := by
  unfold F_light_first at h
  obtain ⟨t1, h1, h⟩ := bnd_of h
  rcases t1 with t1 | t1
  · replace h := Option.some.inj h
    subst h
    exact run_fr (n := 100) (orc := [.lp [] [5, 6, 7] [] .ret [(2, .d (I t1))] [] 23]) (allC (loopF_to R_light_first_L1 h1) allN) (by kernel_rfl)
  · replace h := Option.some.inj h
    subst h
    exact run_fr (n := 100) (orc := [.lp [] [5, 6, 7] [] (.exit 0) [] [] 23]) (allC (loopF_to R_light_first_L1 h1) allN) (by kernel_rfl)
def enc_ff32 (x : Nat) : D := .v (.float .f32 x)
def un_ff32 (d : D) : Option (Nat) := un_flt .f32 d
theorem un_ff32_ok {d : D} {x : Nat} (h : un_ff32 d = some x) : d = enc_ff32 x := un_flt_ok h
/- spillage/light.CheckSample: .v (.float .f32 a0) -/
def F_light_CheckSample_7 (n : Nat) (a0 : Nat) : Option (Int) :=
  (F_light_infinite_2 n a0).bind fun t1 =>
  (F_light_when n t1 1).bind fun t2 =>
  (F_light_onGrid_2 n a0 1149239296).bind fun t3 =>
  (F_light_first n ([I t2, I t3])).bind fun t4 =>
  some t4
theorem c_light_CheckSample_7 {n : Nat} {a0 : Nat} {r : Int} (h : F_light_CheckSample_7 n a0 = some r) : Computes cx 65 [.v (.float .f32 a0)] (I r) := by
  unfold F_light_CheckSample_7 at h
  obtain ⟨t1, h1, h⟩ := bnd_of h
  obtain ⟨t2, h2, h⟩ := bnd_of h
  obtain ⟨t3, h3, h⟩ := bnd_of h
  obtain ⟨t4, h4, h⟩ := bnd_of h
  replace h := Option.some.inj h
  subst h
  exact run_fr (n := 100) (orc := [.ret (B t1), .ret (I t2), .ret (I t3), .ret (I t4)]) (allC (((c_light_first h4).le (.cons (.full _ _ _) (.nil)) (.refl _)) : Computes cx 93 [.lst true 1 [I t2, I t3]] (I t4)) (allC (c_light_onGrid_2 h3) (allC (c_light_when h2) (allC (c_light_infinite_2 h1) allN)))) (by kernel_rfl)
def F_drive_mapped_g_4_L1 (n : Nat) (a0 : List D) (sa : (Int × List D)) : Option (((Int × List D)) ⊕ ((List D))) :=
  if sa.1 < ((a0).length : Int) then
    (el un_ff32 a0 sa.1).bind fun ta2 =>
    (F_light_CheckSample_7 n ta2).bind fun ta3 =>
    if roomP 8 ((sa.2).length + 1) then
    if inI64 (sa.1 + 1) then
    some (.inl ((sa.1 + 1), (sa.2 ++ ([I ta3] : List D))))
    else none
    else none
  else
  some (.inr sa.2)
noncomputable def T_drive_mapped_g_4_L1 (a0 : List D) (sa : (Int × List D)) : List (Nat × AV) := [(1, .d (.fn (.func 65) [] [])), (5, .own 5 0), (8, .d (.lst false 1 a0)), (9, .d (I ((a0).length : Int))), (10, .d (I sa.1))]
noncomputable def H_drive_mapped_g_4_L1 (a0 : List D) (sa : (Int × List D)) : List (Nat × Blk) := [(5, .row 0 1 sa.2)]
noncomputable def X_drive_mapped_g_4_L1 (a0 : List D) (e : (List D)) : Ex := (.exit 0)
noncomputable def XT_drive_mapped_g_4_L1 (a0 : List D) (e : (List D)) : List (Nat × AV) := [(5, .own 5 0)]
noncomputable def XH_drive_mapped_g_4_L1 (a0 : List D) (e : (List D)) : List (Nat × Blk) := [(5, .row 0 1 e)]
theorem R_drive_mapped_g_4_L1 {n : Nat} {a0 : List D} (sa : (Int × List D)) (r) (h : F_drive_mapped_g_4_L1 n a0 sa = some r) : Rd cx (loopAt cx.P 64 0) 22 0 false (T_drive_mapped_g_4_L1 a0) (H_drive_mapped_g_4_L1 a0) (X_drive_mapped_g_4_L1 a0) (XT_drive_mapped_g_4_L1 a0) (XH_drive_mapped_g_4_L1 a0) sa r := by
  unfold F_drive_mapped_g_4_L1 at h
  by_cases ha1 : sa.1 < ((a0).length : Int)
  · replace h := ite_t h ha1
    obtain ⟨ta2, ha2, h⟩ := bnd_of h
    obtain ⟨ta3, ha3, h⟩ := bnd_of h
    obtain ⟨ha4, h⟩ := grd_of h
    obtain ⟨ha5, h⟩ := grd_of h
    replace h := Option.some.inj h
    subst h
    exact ⟨100, 6, [.br true, .el (enc_ff32 ta2), .ret (I ta3), .br true], [], [1, 5, 8, 9, 10], [5], round_fr (allC ha5 (allC ((room_of (b := 8) (by kernel_rfl) (by decide) ha4) : room cx 25 ((sa.2).length + 1)) (allC (c_light_CheckSample_7 ha3) (allC (el_ok un_ff32_ok ha2).1 (allC (el_ok un_ff32_ok ha2).2 (allC (decide_eq_true ha1) allN)))))) (by kernel_rfl)⟩
  · replace h := ite_f h ha1
    replace h := Option.some.inj h
    subst h
    exact ⟨⟨100, 6, [.br false], [], [5], [5], round_fr (allC (decide_eq_false ha1) allN) (by kernel_rfl)⟩, nofun⟩
/- spillage/drive.mapped[float32,spillage/api.Errno]: .lst false 1 a0, .fn (.func 65) [] [] -/
def F_drive_mapped_g_4 (n : Nat) (a0 : List D) : Option (List D) :=
  (loopF (F_drive_mapped_g_4_L1 n a0) n (0, [])).bind fun t1 =>
  some t1
theorem c_drive_mapped_g_4 {n : Nat} {a0 : List D} {r : List D} (h : F_drive_mapped_g_4 n a0 = some r) : Computes cx 64 [.lst false 1 a0, .fn (.func 65) [] []] (.lst false 1 r) := by
  unfold F_drive_mapped_g_4 at h
  obtain ⟨t1, h1, h⟩ := bnd_of h
  replace h := Option.some.inj h
  subst h
  exact run_fr (n := 100) (orc := [.lp [5, 1] [1, 5, 8, 9, 10] [5] (.exit 0) [(5, .own 5 0)] [(5, .row 0 1 t1)] 30]) (allC (loopF_to R_drive_mapped_g_4_L1 h1) allN) (by kernel_rfl)
def F_drive_Overloads_2_L1 (n : Nat) (a0 : List D) (a1 : Nat) (a2 : Int) (sa : (Int × Int × List D)) : Option (((Int × Int × List D)) ⊕ ((List D))) :=
  if sa.2.1 < (((a0 ++ ([.v (.float .f32 a1)] : List D)) : List D).length : Int) then
    if 0 ≤ sa.2.1 ∧ sa.2.1 < (((a0 ++ ([.v (.float .f32 a1)] : List D)) : List D).length : Int) then
    ((nth ((a0 ++ ([.v (.float .f32 a1)] : List D)) : List D) (Int.toNat sa.2.1)).bind un_ff32).bind fun ta3 =>
    if ((FloatKind.format .f32).order ta3 a1 == some .gt) = true then
      if inI64 (sa.2.1 + 1) then
      some (.inl (sa.1, (sa.2.1 + 1), sa.2.2))
      else none
    else
    if inI64 (sa.2.1 - sa.1) then
    if (sa.2.1 - sa.1) ≥ a2 then
      if roomP 16 ((sa.2.2).length + 1) then
      if inI64 (sa.2.1 + 1) then
      some (.inl ((sa.2.1 + 1), (sa.2.1 + 1), (sa.2.2 ++ ([.agg [I sa.1, I sa.2.1]] : List D))))
      else none
      else none
    else
    if inI64 (sa.2.1 + 1) then
    some (.inl ((sa.2.1 + 1), (sa.2.1 + 1), sa.2.2))
    else none
    else none
    else none
  else
  some (.inr sa.2.2)
noncomputable def T_drive_Overloads_2_L1 (a0 : List D) (a1 : Nat) (a2 : Int) (sa : (Int × Int × List D)) : List (Nat × AV) := [(1, .d (.v (.float .f32 a1))), (2, .d (I a2)), (9, .own 33 0), (10, .d (I sa.1)), (32, .own 31 0), (33, .d (I (((a0 ++ ([.v (.float .f32 a1)] : List D)) : List D).length : Int))), (34, .d (I sa.2.1))]
noncomputable def H_drive_Overloads_2_L1 (a0 : List D) (a1 : Nat) (a2 : Int) (sa : (Int × Int × List D)) : List (Nat × Blk) := [(31, .row 0 1 (a0 ++ ([.v (.float .f32 a1)] : List D))), (33, .row 0 2 sa.2.2)]
noncomputable def X_drive_Overloads_2_L1 (a0 : List D) (a1 : Nat) (a2 : Int) (e : (List D)) : Ex := (.exit 0)
noncomputable def XT_drive_Overloads_2_L1 (a0 : List D) (a1 : Nat) (a2 : Int) (e : (List D)) : List (Nat × AV) := [(9, .own 33 0)]
noncomputable def XH_drive_Overloads_2_L1 (a0 : List D) (a1 : Nat) (a2 : Int) (e : (List D)) : List (Nat × Blk) := [(33, .row 0 2 e)]
theorem R_drive_Overloads_2_L1 {n : Nat} {a0 : List D} {a1 : Nat} {a2 : Int} (sa : (Int × Int × List D)) (r) (h : F_drive_Overloads_2_L1 n a0 a1 a2 sa = some r) : Rd cx (loopAt cx.P 30 0) 57 0 false (T_drive_Overloads_2_L1 a0 a1 a2) (H_drive_Overloads_2_L1 a0 a1 a2) (X_drive_Overloads_2_L1 a0 a1 a2) (XT_drive_Overloads_2_L1 a0 a1 a2) (XH_drive_Overloads_2_L1 a0 a1 a2) sa r := by
  unfold F_drive_Overloads_2_L1 at h
  by_cases ha1 : sa.2.1 < (((a0 ++ ([.v (.float .f32 a1)] : List D)) : List D).length : Int)
  · replace h := ite_t h ha1
    obtain ⟨ha2, h⟩ := grd_of h
    obtain ⟨ta3, ha3, h⟩ := bnd_of h
    by_cases ha4 : ((FloatKind.format .f32).order ta3 a1 == some .gt) = true
    · replace h := ite_t h ha4
      obtain ⟨ha5, h⟩ := grd_of h
      replace h := Option.some.inj h
      subst h
      exact ⟨100, 34, [.br true, .br true, .el (enc_ff32 ta3), .br true], [], [1, 2, 9, 10, 32, 33, 34], [31, 33], round_fr (allC ha5 (allC ha4 (allC (nel_ok un_ff32_ok ha3) (allC ha2 (allC (decide_eq_true ha1) allN))))) (by kernel_rfl)⟩
    · replace h := ite_f h ha4
      obtain ⟨ha5, h⟩ := grd_of h
      by_cases ha6 : (sa.2.1 - sa.1) ≥ a2
      · replace h := ite_t h ha6
        obtain ⟨ha7, h⟩ := grd_of h
        obtain ⟨ha8, h⟩ := grd_of h
        replace h := Option.some.inj h
        subst h
        exact ⟨100, 34, [.br true, .br true, .el (enc_ff32 ta3), .br false, .br true, .br true], [], [1, 2, 9, 10, 32, 33, 34], [31, 33], round_fr (allC ha8 (allC ha8 (allC ((room_of (b := 16) (by kernel_rfl) (by decide) ha7) : room cx 85 ((sa.2.2).length + 1)) (allC (decide_eq_true ha6) (allC ha5 (allC (bfalse ha4) (allC (nel_ok un_ff32_ok ha3) (allC ha2 (allC (decide_eq_true ha1) allN))))))))) (by kernel_rfl)⟩
      · replace h := ite_f h ha6
        obtain ⟨ha7, h⟩ := grd_of h
        replace h := Option.some.inj h
        subst h
        exact ⟨100, 34, [.br true, .br true, .el (enc_ff32 ta3), .br false, .br false], [], [1, 2, 9, 10, 32, 33, 34], [31, 33], round_fr (allC ha7 (allC ha7 (allC (decide_eq_false ha6) (allC ha5 (allC (bfalse ha4) (allC (nel_ok un_ff32_ok ha3) (allC ha2 (allC (decide_eq_true ha1) allN)))))))) (by kernel_rfl)⟩
  · replace h := ite_f h ha1
    replace h := Option.some.inj h
    subst h
    exact ⟨⟨100, 34, [.br false], [], [9], [33], round_fr (allC (decide_eq_false ha1) allN) (by kernel_rfl)⟩, nofun⟩
/- spillage/drive.Overloads: .lst false 1 a0, .v (.float .f32 a1), I a2 -/
def F_drive_Overloads_2 (n : Nat) (a0 : List D) (a1 : Nat) (a2 : Int) : Option (List D × Int) :=
  if ((a0).length : Int) > 4096 then
    some ([], 5)
  else
  (F_drive_mapped_g_4 n a0).bind fun t2 =>
  (F_drive_first n t2).bind fun t3 =>
  (F_light_CheckSample_7 n a1).bind fun t4 =>
  (F_drive_within n a2 1 4096).bind fun t5 =>
  (F_drive_first n ([I t3, I t4, I t5])).bind fun t6 =>
  if t6 = 0 then
    if isNilL a0 = true then
      none /- whether an empty list is nil -/
    else
    if roomP 4 (0 + (a0).length) then
    if roomP 4 ((a0).length + 1) then
    (loopF (F_drive_Overloads_2_L1 n a0 a1 a2) n (0, 0, [])).bind fun t11 =>
    some (t11, 0)
    else none
    else none
  else
  some ([], t6)
theorem c_drive_Overloads_2 {n : Nat} {a0 : List D} {a1 : Nat} {a2 : Int} {r : List D × Int} (h : F_drive_Overloads_2 n a0 a1 a2 = some r) : Computes cx 30 [.lst false 1 a0, .v (.float .f32 a1), I a2] (.tup [.lst false 2 r.1, I r.2]) := by
  unfold F_drive_Overloads_2 at h
  by_cases h1 : ((a0).length : Int) > 4096
  · replace h := ite_t h h1
    replace h := Option.some.inj h
    subst h
    exact (run_fr (n := 100) (r := .tup [.lst true 0 [], I 5]) (orc := [.br true]) (allC (decide_eq_true h1) allN) (by kernel_rfl)).le (LEs.refl _) (.tups (.cons (.lst _ _ _ _ _ nofun (.inl rfl)) (.cons (.refl _) (.nil))))
  · replace h := ite_f h h1
    obtain ⟨t2, h2, h⟩ := bnd_of h
    obtain ⟨t3, h3, h⟩ := bnd_of h
    obtain ⟨t4, h4, h⟩ := bnd_of h
    obtain ⟨t5, h5, h⟩ := bnd_of h
    obtain ⟨t6, h6, h⟩ := bnd_of h
    by_cases h7 : t6 = 0
    · replace h := ite_t h h7
      by_cases h8 : isNilL a0 = true
      · replace h := ite_t h h8
        cases h
      · replace h := ite_f h h8
        obtain ⟨h9, h⟩ := grd_of h
        obtain ⟨h10, h⟩ := grd_of h
        obtain ⟨t11, h11, h⟩ := bnd_of h
        replace h := Option.some.inj h
        subst h
        exact run_fr (n := 100) (orc := [.br false, .ret (.lst false 1 t2), .ret (I t3), .ret (I t4), .ret (I t5), .ret (I t6), .br false, .br true, .no, .br true, .br false, .br true, .lp [9, 2] [1, 2, 9, 10, 32, 33, 34] [31, 33] (.exit 0) [(9, .own 33 0)] [(33, .row 0 2 t11)] 71]) (allC (loopF_to R_drive_Overloads_2_L1 h11) (allC ((room_of (b := 4) (by kernel_rfl) (by decide) h10) : room cx 80 ((a0).length + 1)) (allC (bfalse h8) (allC ((room_of (b := 4) (by kernel_rfl) (by decide) h9) : room cx 80 (0 + (a0).length)) (allC ((by intro e; rw [e] at h8; exact h8 rfl) : a0 ≠ []) (allC (nef h7) (allC (((c_drive_first h6).le (.cons (.full _ _ _) (.nil)) (.refl _)) : Computes cx 48 [.lst true 1 [I t3, I t4, I t5]] (I t6)) (allC (c_drive_within h5) (allC (c_light_CheckSample_7 h4) (allC (c_drive_first h3) (allC (c_drive_mapped_g_4 h2) (allC (decide_eq_false h1) allN)))))))))))) (by kernel_rfl)
    · replace h := ite_f h h7
      replace h := Option.some.inj h
      subst h
      exact (run_fr (n := 100) (r := .tup [.lst true 0 [], I t6]) (orc := [.br false, .ret (.lst false 1 t2), .ret (I t3), .ret (I t4), .ret (I t5), .ret (I t6), .br true]) (allC (net h7) (allC (((c_drive_first h6).le (.cons (.full _ _ _) (.nil)) (.refl _)) : Computes cx 48 [.lst true 1 [I t3, I t4, I t5]] (I t6)) (allC (c_drive_within h5) (allC (c_light_CheckSample_7 h4) (allC (c_drive_first h3) (allC (c_drive_mapped_g_4 h2) (allC (decide_eq_false h1) allN))))))) (by kernel_rfl)).le (LEs.refl _) (.tups (.cons (.lst _ _ _ _ _ nofun (.inl rfl)) (.cons (.refl _) (.nil))))
def F_drive_mapped_g_6_L1 (n : Nat) (a0 : List D) (sa : (Int × List D)) : Option (((Int × List D)) ⊕ ((List D))) :=
  if sa.1 < ((a0).length : Int) then
    (el un_i a0 sa.1).bind fun ta2 =>
    (F_strconv_Itoa n ta2).bind fun ta3 =>
    if roomP 16 ((sa.2).length + 1) then
    if inI64 (sa.1 + 1) then
    some (.inl ((sa.1 + 1), (sa.2 ++ ([.v (.string ta3)] : List D))))
    else none
    else none
  else
  some (.inr sa.2)
noncomputable def T_drive_mapped_g_6_L1 (a0 : List D) (sa : (Int × List D)) : List (Nat × AV) := [(1, .d (.fn (.func 71) [] [])), (5, .own 5 0), (8, .d (.lst false 1 a0)), (9, .d (I ((a0).length : Int))), (10, .d (I sa.1))]
noncomputable def H_drive_mapped_g_6_L1 (a0 : List D) (sa : (Int × List D)) : List (Nat × Blk) := [(5, .row 0 1 sa.2)]
noncomputable def X_drive_mapped_g_6_L1 (a0 : List D) (e : (List D)) : Ex := (.exit 0)
noncomputable def XT_drive_mapped_g_6_L1 (a0 : List D) (e : (List D)) : List (Nat × AV) := [(5, .own 5 0)]
noncomputable def XH_drive_mapped_g_6_L1 (a0 : List D) (e : (List D)) : List (Nat × Blk) := [(5, .row 0 1 e)]
theorem R_drive_mapped_g_6_L1 {n : Nat} {a0 : List D} (sa : (Int × List D)) (r) (h : F_drive_mapped_g_6_L1 n a0 sa = some r) : Rd cx (loopAt cx.P 70 0) 22 0 false (T_drive_mapped_g_6_L1 a0) (H_drive_mapped_g_6_L1 a0) (X_drive_mapped_g_6_L1 a0) (XT_drive_mapped_g_6_L1 a0) (XH_drive_mapped_g_6_L1 a0) sa r := by
  unfold F_drive_mapped_g_6_L1 at h
  by_cases ha1 : sa.1 < ((a0).length : Int)
  · replace h := ite_t h ha1
    obtain ⟨ta2, ha2, h⟩ := bnd_of h
    obtain ⟨ta3, ha3, h⟩ := bnd_of h
    obtain ⟨ha4, h⟩ := grd_of h
    obtain ⟨ha5, h⟩ := grd_of h
    replace h := Option.some.inj h
    subst h
    exact ⟨100, 6, [.br true, .el (enc_i ta2), .ret (.v (.string ta3)), .br true], [], [1, 5, 8, 9, 10], [5], round_fr (allC ha5 (allC ((room_of (b := 16) (by kernel_rfl) (by decide) ha4) : room cx 9 ((sa.2).length + 1)) (allC (c_strconv_Itoa ha3) (allC (el_ok un_i_ok ha2).1 (allC (el_ok un_i_ok ha2).2 (allC (decide_eq_true ha1) allN)))))) (by kernel_rfl)⟩
  · replace h := ite_f h ha1
    replace h := Option.some.inj h
    subst h
    exact ⟨⟨100, 6, [.br false], [], [5], [5], round_fr (allC (decide_eq_false ha1) allN) (by kernel_rfl)⟩, nofun⟩
/- spillage/drive.mapped[int,string]: .lst false 1 a0, .fn (.func 71) [] [] -/
def F_drive_mapped_g_6 (n : Nat) (a0 : List D) : Option (List D) :=
  (loopF (F_drive_mapped_g_6_L1 n a0) n (0, [])).bind fun t1 =>
  some t1
theorem c_drive_mapped_g_6 {n : Nat} {a0 : List D} {r : List D} (h : F_drive_mapped_g_6 n a0 = some r) : Computes cx 70 [.lst false 1 a0, .fn (.func 71) [] []] (.lst false 1 r) := by
  unfold F_drive_mapped_g_6 at h
  obtain ⟨t1, h1, h⟩ := bnd_of h
  replace h := Option.some.inj h
  subst h
  exact run_fr (n := 100) (orc := [.lp [5, 1] [1, 5, 8, 9, 10] [5] (.exit 0) [(5, .own 5 0)] [(5, .row 0 1 t1)] 30]) (allC (loopF_to R_drive_mapped_g_6_L1 h1) allN) (by kernel_rfl)
end Go.Proofs.YtoblljobcafecaaGreatDoor
