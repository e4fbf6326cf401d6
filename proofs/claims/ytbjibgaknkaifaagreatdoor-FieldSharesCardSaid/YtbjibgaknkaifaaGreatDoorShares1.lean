/-
  Printed by gsx.py: functions of the program as Lean functions, and that the code computes them.
-/
import Derived.Test.YtbjibgaknkaifaaGreatDoorWake
set_option linter.unusedVariables false
set_option linter.unusedSimpArgs false
set_option linter.unnecessarySimpa false
set_option maxRecDepth 10000
namespace Go.Proofs.YtbjibgaknkaifaaGreatDoor
open Go.SX
/- spillage/field.lowest: I 1, I 1 -/
def F_field_lowest_2 (n : Nat)  : Option (Int × Int) :=
  some (1, 1)
theorem c_field_lowest_2 {n : Nat}  {r : Int × Int} (h : F_field_lowest_2 n  = some r) : Computes cx 68 [I 1, I 1] (.agg [I r.1, I r.2]) := by
  unfold F_field_lowest_2 at h
  replace h := Option.some.inj h
  subst h
  exact run (n := 100) (f := 68) (args := [I 1, I 1]) (orc := [.no, .no, .no, .no]) (r := .agg [I 1, I 1]) (ob := [(1 : Int) ≠ 0, inI64 1, (1 : Int) ≠ 0, inI64 1, (1 : Int) ≠ 0]) (by kernel_rfl) ⟨(by decide), (by unfold inI64; omega), (by decide), (by unfold inI64; omega), (by decide), trivial⟩
/- spillage/field.Efficiency: .lst false 2 [] -/
def F_field_Efficiency (n : Nat)  : Option (Int × Int × Int) :=
  (F_field_lowest_2 n).bind fun t1 =>
  some (t1.1, t1.2, 0)
theorem c_field_Efficiency {n : Nat}  {r : Int × Int × Int} (h : F_field_Efficiency n  = some r) : Computes cx 24 [.lst false 2 []] (.tup [.agg [I r.1, I r.2.1], I r.2.2]) := by
  unfold F_field_Efficiency at h
  obtain ⟨t1, h1, h⟩ := bnd_of h
  replace h := Option.some.inj h
  subst h
  exact run (n := 100) (f := 24) (args := [.lst false 2 []]) (orc := [.no, .no, .no, .ret (.agg [I t1.1, I t1.2])]) (r := .tup [.agg [I t1.1, I t1.2], I 0]) (ob := [Computes cx 68 [I 1, I 1] (.agg [I t1.1, I t1.2])]) (by kernel_rfl) ⟨(c_field_lowest_2 h1), trivial⟩
def F_field_Summed_L1 (n : Nat) (a0 : List D) (sa : (Int × Int × Int)) : Option (((Int × Int × Int)) ⊕ ((Int) ⊕ (Int × Int))) :=
  if sa.2.2 < ((a0).length : Int) then
    (el un_Ai3Z a0 sa.2.2).bind fun ta2 =>
    (F_field_within n ta2.2.1 1 64).bind fun ta3 =>
    (F_field_within n ta2.1 0 ta2.2.1).bind fun ta4 =>
    (F_field_within n ta2.2.2 0 1000).bind fun ta5 =>
    (F_field_first n ([I ta3, I ta4, I ta5])).bind fun ta6 =>
    if ta6 = 0 then
      if inI64 (ta2.1 * ta2.2.2) then
      if inI64 (sa.1 + (ta2.1 * ta2.2.2)) then
      if inI64 (ta2.2.1 * ta2.2.2) then
      if inI64 (sa.2.1 + (ta2.2.1 * ta2.2.2)) then
      if inI64 (sa.2.2 + 1) then
      some (.inl ((sa.1 + (ta2.1 * ta2.2.2)), (sa.2.1 + (ta2.2.1 * ta2.2.2)), (sa.2.2 + 1)))
      else none
      else none
      else none
      else none
      else none
    else
    some (.inr (.inl ta6))
  else
  some (.inr (.inr (sa.1, sa.2.1)))
noncomputable def T_field_Summed_L1 (a0 : List D) (sa : (Int × Int × Int)) : List (Nat × AV) := [(2, .ptr 0 0 0 0 0), (4, .d (I sa.1)), (5, .d (I sa.2.1)), (13, .d (.lst false 3 a0)), (14, .d (I ((a0).length : Int))), (15, .d (I sa.2.2))]
noncomputable def H_field_Summed_L1 (a0 : List D) (sa : (Int × Int × Int)) : List (Nat × Blk) := [(0, .box (.d (.agg [I 0, I 0])))]
noncomputable def X_field_Summed_L1 (a0 : List D) (e : (Int) ⊕ (Int × Int)) : Ex := match e with
  | (.inl e) => .ret
  | (.inr e) => (.exit 0)
noncomputable def XT_field_Summed_L1 (a0 : List D) (e : (Int) ⊕ (Int × Int)) : List (Nat × AV) := match e with
  | (.inl e) => [(2, .ptr 0 0 0 0 0), (3, .d (I e))]
  | (.inr e) => [(2, .ptr 0 0 0 0 0), (4, .d (I e.1)), (5, .d (I e.2))]
noncomputable def XH_field_Summed_L1 (a0 : List D) (e : (Int) ⊕ (Int × Int)) : List (Nat × Blk) := match e with
  | (.inl e) => [(0, .box (.d (.agg [I 0, I 0])))]
  | (.inr e) => [(0, .box (.d (.agg [I 0, I 0])))]
theorem R_field_Summed_L1 {n : Nat} {a0 : List D} (sa : (Int × Int × Int)) (r) (h : F_field_Summed_L1 n a0 sa = some r) : Rd cx (loopAt cx.P 25 0) 57 0 false (T_field_Summed_L1 a0) (H_field_Summed_L1 a0) (X_field_Summed_L1 a0) (XT_field_Summed_L1 a0) (XH_field_Summed_L1 a0) sa r := by
  unfold F_field_Summed_L1 at h
  by_cases ha1 : sa.2.2 < ((a0).length : Int)
  · replace h := ite_t h ha1
    obtain ⟨ta2, ha2, h⟩ := bnd_of h
    obtain ⟨ta3, ha3, h⟩ := bnd_of h
    obtain ⟨ta4, ha4, h⟩ := bnd_of h
    obtain ⟨ta5, ha5, h⟩ := bnd_of h
    obtain ⟨ta6, ha6, h⟩ := bnd_of h
    by_cases ha7 : ta6 = 0
    · replace h := ite_t h ha7
      obtain ⟨ha8, h⟩ := grd_of h
      obtain ⟨ha9, h⟩ := grd_of h
      obtain ⟨ha10, h⟩ := grd_of h
      obtain ⟨ha11, h⟩ := grd_of h
      obtain ⟨ha12, h⟩ := grd_of h
      replace h := Option.some.inj h
      subst h
      exact ⟨100, 10, [.br true, .el (.agg [I ta2.1, I ta2.2.1, I ta2.2.2]), .ret (I ta3), .ret (I ta4), .ret (I ta5), .ret (I ta6), .br false], [], [2, 4, 5, 13, 14, 15], [0], round_of (ob := [inI64 (sa.2.2 + 1), inI64 (sa.2.1 + (ta2.2.1 * ta2.2.2)), inI64 (ta2.2.1 * ta2.2.2), inI64 (sa.1 + (ta2.1 * ta2.2.2)), inI64 (ta2.1 * ta2.2.2), (ta6 != 0) = false, Computes cx 62 [.lst true 1 [I ta3, I ta4, I ta5]] (I ta6), Computes cx 89 [I ta2.2.2, I 0, I 1000] (I ta5), Computes cx 89 [I ta2.1, I 0, I ta2.2.1] (I ta4), Computes cx 89 [I ta2.2.1, I 1, I 64] (I ta3), (0 : Int) ≤ sa.2.2, nth (a0) (Int.toNat sa.2.2) = some (.agg [I ta2.1, I ta2.2.1, I ta2.2.2]), (decide (sa.2.2 < ((a0).length : Int))) = true]) (by kernel_rfl) ⟨ha12, ha11, ha10, ha9, ha8, (nef ha7), ((c_field_first ha6).le (.cons (.full _ _ _) (.nil)) (.refl _)), (c_field_within ha5), (c_field_within ha4), (c_field_within ha3), (el_ok un_Ai3Z_ok ha2).1, (el_ok un_Ai3Z_ok ha2).2, (decide_eq_true ha1), trivial⟩⟩
    · replace h := ite_f h ha7
      replace h := Option.some.inj h
      subst h
      exact ⟨⟨100, 10, [.br true, .el (.agg [I ta2.1, I ta2.2.1, I ta2.2.2]), .ret (I ta3), .ret (I ta4), .ret (I ta5), .ret (I ta6), .br true], [], [2, 3], [0], round_of (ob := [(ta6 != 0) = true, Computes cx 62 [.lst true 1 [I ta3, I ta4, I ta5]] (I ta6), Computes cx 89 [I ta2.2.2, I 0, I 1000] (I ta5), Computes cx 89 [I ta2.1, I 0, I ta2.2.1] (I ta4), Computes cx 89 [I ta2.2.1, I 1, I 64] (I ta3), (0 : Int) ≤ sa.2.2, nth (a0) (Int.toNat sa.2.2) = some (.agg [I ta2.1, I ta2.2.1, I ta2.2.2]), (decide (sa.2.2 < ((a0).length : Int))) = true]) (by kernel_rfl) ⟨(net ha7), ((c_field_first ha6).le (.cons (.full _ _ _) (.nil)) (.refl _)), (c_field_within ha5), (c_field_within ha4), (c_field_within ha3), (el_ok un_Ai3Z_ok ha2).1, (el_ok un_Ai3Z_ok ha2).2, (decide_eq_true ha1), trivial⟩⟩, nofun⟩
  · replace h := ite_f h ha1
    replace h := Option.some.inj h
    subst h
    exact ⟨⟨100, 10, [.br false], [], [2, 4, 5], [0], round_of (ob := [(decide (sa.2.2 < ((a0).length : Int))) = false]) (by kernel_rfl) ⟨(decide_eq_false ha1), trivial⟩⟩, nofun⟩
/- spillage/field.Summed: .lst false 3 a0 -/
def F_field_Summed (n : Nat) (a0 : List D) : Option (Int × Int × Int) :=
  if ((a0).length : Int) > 256 then
    some (0, 0, 5)
  else
  (loopF (F_field_Summed_L1 n a0) n (0, 0, 0)).bind fun t2 => match t2 with
    | (.inl t2) => (
      some (0, 0, t2))
    | (.inr t2) => (
      if t2.2 = 0 then
        some (0, 0, 7)
      else
      (F_field_lowest n t2.1 t2.2).bind fun t4 =>
      some (t4.1, t4.2, 0))
theorem c_field_Summed {n : Nat} {a0 : List D} {r : Int × Int × Int} (h : F_field_Summed n a0 = some r) : Computes cx 25 [.lst false 3 a0] (.tup [.agg [I r.1, I r.2.1], I r.2.2]) := by
  unfold F_field_Summed at h
  by_cases h1 : ((a0).length : Int) > 256
  · replace h := ite_t h h1
    replace h := Option.some.inj h
    subst h
    exact run (n := 100) (f := 25) (args := [.lst false 3 a0]) (orc := [.br true]) (r := .tup [.agg [I 0, I 0], I 5]) (ob := [(decide (((a0).length : Int) > 256)) = true]) (by kernel_rfl) ⟨(decide_eq_true h1), trivial⟩
  · replace h := ite_f h h1
    obtain ⟨t2, h2, h⟩ := bnd_of h
    rcases t2 with t2 | t2
    · replace h := Option.some.inj h
      subst h
      exact run (n := 100) (f := 25) (args := [.lst false 3 a0]) (orc := [.br false, .lp [] [2, 4, 5, 13, 14, 15] [0] .ret [(2, .ptr 0 0 0 0 0), (3, .d (I t2))] [(0, .box (.d (.agg [I 0, I 0])))] 60]) (r := .tup [.agg [I 0, I 0], I t2]) (ob := [LoopN cx (loopAt cx.P 25 0) 57 0 false [(2, .ptr 0 0 0 0 0), (4, .d (I 0)), (5, .d (I 0)), (13, .d (.lst false 3 a0)), (14, .d (I ((a0).length : Int))), (15, .d (I 0))] [(0, .box (.d (.agg [I 0, I 0])))] .ret [(2, .ptr 0 0 0 0 0), (3, .d (I t2))] [(0, .box (.d (.agg [I 0, I 0])))], (decide (((a0).length : Int) > 256)) = false]) (by kernel_rfl) ⟨(loopF_to R_field_Summed_L1 h2), (decide_eq_false h1), trivial⟩
    · by_cases h3 : t2.2 = 0
      · replace h := ite_t h h3
        replace h := Option.some.inj h
        subst h
        exact run (n := 100) (f := 25) (args := [.lst false 3 a0]) (orc := [.br false, .lp [] [2, 4, 5, 13, 14, 15] [0] (.exit 0) [(2, .ptr 0 0 0 0 0), (4, .d (I t2.1)), (5, .d (I t2.2))] [(0, .box (.d (.agg [I 0, I 0])))] 60, .br true]) (r := .tup [.agg [I 0, I 0], I 7]) (ob := [(t2.2 == 0) = true, LoopN cx (loopAt cx.P 25 0) 57 0 false [(2, .ptr 0 0 0 0 0), (4, .d (I 0)), (5, .d (I 0)), (13, .d (.lst false 3 a0)), (14, .d (I ((a0).length : Int))), (15, .d (I 0))] [(0, .box (.d (.agg [I 0, I 0])))] (.exit 0) [(2, .ptr 0 0 0 0 0), (4, .d (I t2.1)), (5, .d (I t2.2))] [(0, .box (.d (.agg [I 0, I 0])))], (decide (((a0).length : Int) > 256)) = false]) (by kernel_rfl) ⟨(eqt h3), (loopF_to R_field_Summed_L1 h2), (decide_eq_false h1), trivial⟩
      · replace h := ite_f h h3
        obtain ⟨t4, h4, h⟩ := bnd_of h
        replace h := Option.some.inj h
        subst h
        exact run (n := 100) (f := 25) (args := [.lst false 3 a0]) (orc := [.br false, .lp [] [2, 4, 5, 13, 14, 15] [0] (.exit 0) [(2, .ptr 0 0 0 0 0), (4, .d (I t2.1)), (5, .d (I t2.2))] [(0, .box (.d (.agg [I 0, I 0])))] 60, .br false, .ret (.agg [I t4.1, I t4.2])]) (r := .tup [.agg [I t4.1, I t4.2], I 0]) (ob := [Computes cx 68 [I t2.1, I t2.2] (.agg [I t4.1, I t4.2]), (t2.2 == 0) = false, LoopN cx (loopAt cx.P 25 0) 57 0 false [(2, .ptr 0 0 0 0 0), (4, .d (I 0)), (5, .d (I 0)), (13, .d (.lst false 3 a0)), (14, .d (I ((a0).length : Int))), (15, .d (I 0))] [(0, .box (.d (.agg [I 0, I 0])))] (.exit 0) [(2, .ptr 0 0 0 0 0), (4, .d (I t2.1)), (5, .d (I t2.2))] [(0, .box (.d (.agg [I 0, I 0])))], (decide (((a0).length : Int) > 256)) = false]) (by kernel_rfl) ⟨(c_field_lowest h4), (eqf h3), (loopF_to R_field_Summed_L1 h2), (decide_eq_false h1), trivial⟩
def enc_Ai2Z (x : Int × Int) : D := .agg [I x.1, I x.2]
def un_Ai2Z : D → Option (Int × Int)
  | .agg [c0, c1] => (un_int .i64 c0).bind fun y0 => (un_int .i64 c1).bind fun y1 => some (y0, y1)
  | _ => none
theorem un_Ai2Z_ok {d : D} {x : Int × Int} (h : un_Ai2Z d = some x) : d = enc_Ai2Z x := by
  unfold un_Ai2Z at h
  split at h
  case h_2 => cases h
  obtain ⟨y0, h0, h⟩ := bnd_of h
  obtain ⟨y1, h1, h⟩ := bnd_of h
  cases h
  have e0 := un_int_ok h0
  have e1 := un_int_ok h1
  rw [e0, e1]; rfl
def F_ref01_Divisor_L1 (n : Nat)  (sa : (Int × Int)) : Option (((Int × Int)) ⊕ ((Int))) :=
  if sa.2 = 0 then
    some (.inr sa.1)
  else
  if sa.2 ≠ 0 then
  some (.inl (sa.2, (Int.tmod sa.1 sa.2)))
  else none
noncomputable def T_ref01_Divisor_L1  (sa : (Int × Int)) : List (Nat × AV) := [(0, .d (I sa.1)), (1, .d (I sa.2))]
noncomputable def H_ref01_Divisor_L1  (sa : (Int × Int)) : List (Nat × Blk) := []
noncomputable def X_ref01_Divisor_L1  (e : (Int)) : Ex := (.exit 0)
noncomputable def XT_ref01_Divisor_L1  (e : (Int)) : List (Nat × AV) := [(0, .d (I e))]
noncomputable def XH_ref01_Divisor_L1  (e : (Int)) : List (Nat × Blk) := []
theorem R_ref01_Divisor_L1 {n : Nat}  (sa : (Int × Int)) (r) (h : F_ref01_Divisor_L1 n  sa = some r) : Rd cx (loopAt cx.P 122 0) 24 0 false (T_ref01_Divisor_L1 ) (H_ref01_Divisor_L1 ) (X_ref01_Divisor_L1 ) (XT_ref01_Divisor_L1 ) (XH_ref01_Divisor_L1 ) sa r := by
  unfold F_ref01_Divisor_L1 at h
  by_cases ha1 : sa.2 = 0
  · replace h := ite_t h ha1
    replace h := Option.some.inj h
    subst h
    exact ⟨⟨100, 11, [.br false], [], [0], [], round_of (ob := [(sa.2 != 0) = false]) (by kernel_rfl) ⟨(nef ha1), trivial⟩⟩, nofun⟩
  · replace h := ite_f h ha1
    obtain ⟨ha2, h⟩ := grd_of h
    replace h := Option.some.inj h
    subst h
    exact ⟨100, 11, [.br true], [], [0, 1], [], round_of (ob := [sa.2 ≠ 0, (sa.2 != 0) = true]) (by kernel_rfl) ⟨ha2, (net ha1), trivial⟩⟩
def F_ref01_Divisor_L2 (n : Nat)  (sa : (Int × Int)) : Option (((Int × Int)) ⊕ ((Int))) :=
  if sa.2 = 0 then
    some (.inr sa.1)
  else
  if sa.2 ≠ 0 then
  some (.inl (sa.2, (Int.tmod sa.1 sa.2)))
  else none
noncomputable def T_ref01_Divisor_L2  (sa : (Int × Int)) : List (Nat × AV) := [(0, .d (I sa.1)), (1, .d (I sa.2))]
noncomputable def H_ref01_Divisor_L2  (sa : (Int × Int)) : List (Nat × Blk) := []
noncomputable def X_ref01_Divisor_L2  (e : (Int)) : Ex := (.exit 0)
noncomputable def XT_ref01_Divisor_L2  (e : (Int)) : List (Nat × AV) := [(0, .d (I e))]
noncomputable def XH_ref01_Divisor_L2  (e : (Int)) : List (Nat × Blk) := []
theorem R_ref01_Divisor_L2 {n : Nat}  (sa : (Int × Int)) (r) (h : F_ref01_Divisor_L2 n  sa = some r) : Rd cx (loopAt cx.P 122 0) 24 0 false (T_ref01_Divisor_L2 ) (H_ref01_Divisor_L2 ) (X_ref01_Divisor_L2 ) (XT_ref01_Divisor_L2 ) (XH_ref01_Divisor_L2 ) sa r := by
  unfold F_ref01_Divisor_L2 at h
  by_cases ha1 : sa.2 = 0
  · replace h := ite_t h ha1
    replace h := Option.some.inj h
    subst h
    exact ⟨⟨100, 8, [.br false], [], [0], [], round_of (ob := [(sa.2 != 0) = false]) (by kernel_rfl) ⟨(nef ha1), trivial⟩⟩, nofun⟩
  · replace h := ite_f h ha1
    obtain ⟨ha2, h⟩ := grd_of h
    replace h := Option.some.inj h
    subst h
    exact ⟨100, 8, [.br true], [], [0, 1], [], round_of (ob := [sa.2 ≠ 0, (sa.2 != 0) = true]) (by kernel_rfl) ⟨ha2, (net ha1), trivial⟩⟩
def F_ref01_Divisor_L3 (n : Nat)  (sa : (Int × Int)) : Option (((Int × Int)) ⊕ ((Int))) :=
  if sa.2 = 0 then
    some (.inr sa.1)
  else
  if sa.2 ≠ 0 then
  some (.inl (sa.2, (Int.tmod sa.1 sa.2)))
  else none
noncomputable def T_ref01_Divisor_L3  (sa : (Int × Int)) : List (Nat × AV) := [(0, .d (I sa.1)), (1, .d (I sa.2))]
noncomputable def H_ref01_Divisor_L3  (sa : (Int × Int)) : List (Nat × Blk) := []
noncomputable def X_ref01_Divisor_L3  (e : (Int)) : Ex := (.exit 0)
noncomputable def XT_ref01_Divisor_L3  (e : (Int)) : List (Nat × AV) := [(0, .d (I e))]
noncomputable def XH_ref01_Divisor_L3  (e : (Int)) : List (Nat × Blk) := []
theorem R_ref01_Divisor_L3 {n : Nat}  (sa : (Int × Int)) (r) (h : F_ref01_Divisor_L3 n  sa = some r) : Rd cx (loopAt cx.P 122 0) 24 0 false (T_ref01_Divisor_L3 ) (H_ref01_Divisor_L3 ) (X_ref01_Divisor_L3 ) (XT_ref01_Divisor_L3 ) (XH_ref01_Divisor_L3 ) sa r := by
  unfold F_ref01_Divisor_L3 at h
  by_cases ha1 : sa.2 = 0
  · replace h := ite_t h ha1
    replace h := Option.some.inj h
    subst h
    exact ⟨⟨100, 8, [.br false], [], [0], [], round_of (ob := [(sa.2 != 0) = false]) (by kernel_rfl) ⟨(nef ha1), trivial⟩⟩, nofun⟩
  · replace h := ite_f h ha1
    obtain ⟨ha2, h⟩ := grd_of h
    replace h := Option.some.inj h
    subst h
    exact ⟨100, 8, [.br true], [], [0, 1], [], round_of (ob := [sa.2 ≠ 0, (sa.2 != 0) = true]) (by kernel_rfl) ⟨ha2, (net ha1), trivial⟩⟩
def F_ref01_Divisor_L4 (n : Nat)  (sa : (Int × Int)) : Option (((Int × Int)) ⊕ ((Int))) :=
  if sa.2 = 0 then
    some (.inr sa.1)
  else
  if sa.2 ≠ 0 then
  some (.inl (sa.2, (Int.tmod sa.1 sa.2)))
  else none
noncomputable def T_ref01_Divisor_L4  (sa : (Int × Int)) : List (Nat × AV) := [(0, .d (I sa.1)), (1, .d (I sa.2))]
noncomputable def H_ref01_Divisor_L4  (sa : (Int × Int)) : List (Nat × Blk) := []
noncomputable def X_ref01_Divisor_L4  (e : (Int)) : Ex := (.exit 0)
noncomputable def XT_ref01_Divisor_L4  (e : (Int)) : List (Nat × AV) := [(0, .d (I e))]
noncomputable def XH_ref01_Divisor_L4  (e : (Int)) : List (Nat × Blk) := []
theorem R_ref01_Divisor_L4 {n : Nat}  (sa : (Int × Int)) (r) (h : F_ref01_Divisor_L4 n  sa = some r) : Rd cx (loopAt cx.P 122 0) 24 0 false (T_ref01_Divisor_L4 ) (H_ref01_Divisor_L4 ) (X_ref01_Divisor_L4 ) (XT_ref01_Divisor_L4 ) (XH_ref01_Divisor_L4 ) sa r := by
  unfold F_ref01_Divisor_L4 at h
  by_cases ha1 : sa.2 = 0
  · replace h := ite_t h ha1
    replace h := Option.some.inj h
    subst h
    exact ⟨⟨100, 5, [.br false], [], [0], [], round_of (ob := [(sa.2 != 0) = false]) (by kernel_rfl) ⟨(nef ha1), trivial⟩⟩, nofun⟩
  · replace h := ite_f h ha1
    obtain ⟨ha2, h⟩ := grd_of h
    replace h := Option.some.inj h
    subst h
    exact ⟨100, 5, [.br true], [], [0, 1], [], round_of (ob := [sa.2 ≠ 0, (sa.2 != 0) = true]) (by kernel_rfl) ⟨ha2, (net ha1), trivial⟩⟩
/- spillage/spillageref01.Divisor: I a0, I a1 -/
def F_ref01_Divisor (n : Nat) (a0 : Int) (a1 : Int) : Option (Int) :=
  if a0 < 0 then
    if inI64 (0 - a0) then
    if a1 < 0 then
      if inI64 (0 - a1) then
      (loopF (F_ref01_Divisor_L1 n) n ((0 - a0), (0 - a1))).bind fun t5 =>
      if t5 = 0 then
        some 1
      else
      some t5
      else none
    else
    (loopF (F_ref01_Divisor_L2 n) n ((0 - a0), a1)).bind fun t4 =>
    if t4 = 0 then
      some 1
    else
    some t4
    else none
  else
  if a1 < 0 then
    if inI64 (0 - a1) then
    (loopF (F_ref01_Divisor_L3 n) n (a0, (0 - a1))).bind fun t4 =>
    if t4 = 0 then
      some 1
    else
    some t4
    else none
  else
  (loopF (F_ref01_Divisor_L4 n) n (a0, a1)).bind fun t3 =>
  if t3 = 0 then
    some 1
  else
  some t3
theorem c_ref01_Divisor {n : Nat} {a0 : Int} {a1 : Int} {r : Int} (h : F_ref01_Divisor n a0 a1 = some r) : Computes cx 122 [I a0, I a1] (I r) := by
  unfold F_ref01_Divisor at h
  by_cases h1 : a0 < 0
  · replace h := ite_t h h1
    obtain ⟨h2, h⟩ := grd_of h
    by_cases h3 : a1 < 0
    · replace h := ite_t h h3
      obtain ⟨h4, h⟩ := grd_of h
      obtain ⟨t5, h5, h⟩ := bnd_of h
      by_cases h6 : t5 = 0
      · replace h := ite_t h h6
        replace h := Option.some.inj h
        subst h
        exact run (n := 100) (f := 122) (args := [I a0, I a1]) (orc := [.br true, .br true, .lp [] [0, 1] [] (.exit 0) [(0, .d (I t5))] [] 32, .br true]) (r := I 1) (ob := [(t5 == 0) = true, LoopN cx (loopAt cx.P 122 0) 24 0 false [(0, .d (I (0 - a0))), (1, .d (I (0 - a1)))] [] (.exit 0) [(0, .d (I t5))] [], inI64 (0 - a1), (decide (a1 < 0)) = true, inI64 (0 - a0), (decide (a0 < 0)) = true]) (by kernel_rfl) ⟨(eqt h6), (loopF_to R_ref01_Divisor_L1 h5), h4, (decide_eq_true h3), h2, (decide_eq_true h1), trivial⟩
      · replace h := ite_f h h6
        replace h := Option.some.inj h
        subst h
        exact run (n := 100) (f := 122) (args := [I a0, I a1]) (orc := [.br true, .br true, .lp [] [0, 1] [] (.exit 0) [(0, .d (I t5))] [] 32, .br false]) (r := I t5) (ob := [(t5 == 0) = false, LoopN cx (loopAt cx.P 122 0) 24 0 false [(0, .d (I (0 - a0))), (1, .d (I (0 - a1)))] [] (.exit 0) [(0, .d (I t5))] [], inI64 (0 - a1), (decide (a1 < 0)) = true, inI64 (0 - a0), (decide (a0 < 0)) = true]) (by kernel_rfl) ⟨(eqf h6), (loopF_to R_ref01_Divisor_L1 h5), h4, (decide_eq_true h3), h2, (decide_eq_true h1), trivial⟩
    · replace h := ite_f h h3
      obtain ⟨t4, h4, h⟩ := bnd_of h
      by_cases h5 : t4 = 0
      · replace h := ite_t h h5
        replace h := Option.some.inj h
        subst h
        exact run (n := 100) (f := 122) (args := [I a0, I a1]) (orc := [.br true, .br false, .lp [] [0, 1] [] (.exit 0) [(0, .d (I t4))] [] 29, .br true]) (r := I 1) (ob := [(t4 == 0) = true, LoopN cx (loopAt cx.P 122 0) 24 0 false [(0, .d (I (0 - a0))), (1, .d (I a1))] [] (.exit 0) [(0, .d (I t4))] [], (decide (a1 < 0)) = false, inI64 (0 - a0), (decide (a0 < 0)) = true]) (by kernel_rfl) ⟨(eqt h5), (loopF_to R_ref01_Divisor_L2 h4), (decide_eq_false h3), h2, (decide_eq_true h1), trivial⟩
      · replace h := ite_f h h5
        replace h := Option.some.inj h
        subst h
        exact run (n := 100) (f := 122) (args := [I a0, I a1]) (orc := [.br true, .br false, .lp [] [0, 1] [] (.exit 0) [(0, .d (I t4))] [] 29, .br false]) (r := I t4) (ob := [(t4 == 0) = false, LoopN cx (loopAt cx.P 122 0) 24 0 false [(0, .d (I (0 - a0))), (1, .d (I a1))] [] (.exit 0) [(0, .d (I t4))] [], (decide (a1 < 0)) = false, inI64 (0 - a0), (decide (a0 < 0)) = true]) (by kernel_rfl) ⟨(eqf h5), (loopF_to R_ref01_Divisor_L2 h4), (decide_eq_false h3), h2, (decide_eq_true h1), trivial⟩
  · replace h := ite_f h h1
    by_cases h2 : a1 < 0
    · replace h := ite_t h h2
      obtain ⟨h3, h⟩ := grd_of h
      obtain ⟨t4, h4, h⟩ := bnd_of h
      by_cases h5 : t4 = 0
      · replace h := ite_t h h5
        replace h := Option.some.inj h
        subst h
        exact run (n := 100) (f := 122) (args := [I a0, I a1]) (orc := [.br false, .br true, .lp [] [0, 1] [] (.exit 0) [(0, .d (I t4))] [] 29, .br true]) (r := I 1) (ob := [(t4 == 0) = true, LoopN cx (loopAt cx.P 122 0) 24 0 false [(0, .d (I a0)), (1, .d (I (0 - a1)))] [] (.exit 0) [(0, .d (I t4))] [], inI64 (0 - a1), (decide (a1 < 0)) = true, (decide (a0 < 0)) = false]) (by kernel_rfl) ⟨(eqt h5), (loopF_to R_ref01_Divisor_L3 h4), h3, (decide_eq_true h2), (decide_eq_false h1), trivial⟩
      · replace h := ite_f h h5
        replace h := Option.some.inj h
        subst h
        exact run (n := 100) (f := 122) (args := [I a0, I a1]) (orc := [.br false, .br true, .lp [] [0, 1] [] (.exit 0) [(0, .d (I t4))] [] 29, .br false]) (r := I t4) (ob := [(t4 == 0) = false, LoopN cx (loopAt cx.P 122 0) 24 0 false [(0, .d (I a0)), (1, .d (I (0 - a1)))] [] (.exit 0) [(0, .d (I t4))] [], inI64 (0 - a1), (decide (a1 < 0)) = true, (decide (a0 < 0)) = false]) (by kernel_rfl) ⟨(eqf h5), (loopF_to R_ref01_Divisor_L3 h4), h3, (decide_eq_true h2), (decide_eq_false h1), trivial⟩
    · replace h := ite_f h h2
      obtain ⟨t3, h3, h⟩ := bnd_of h
      by_cases h4 : t3 = 0
      · replace h := ite_t h h4
        replace h := Option.some.inj h
        subst h
        exact run (n := 100) (f := 122) (args := [I a0, I a1]) (orc := [.br false, .br false, .lp [] [0, 1] [] (.exit 0) [(0, .d (I t3))] [] 26, .br true]) (r := I 1) (ob := [(t3 == 0) = true, LoopN cx (loopAt cx.P 122 0) 24 0 false [(0, .d (I a0)), (1, .d (I a1))] [] (.exit 0) [(0, .d (I t3))] [], (decide (a1 < 0)) = false, (decide (a0 < 0)) = false]) (by kernel_rfl) ⟨(eqt h4), (loopF_to R_ref01_Divisor_L4 h3), (decide_eq_false h2), (decide_eq_false h1), trivial⟩
      · replace h := ite_f h h4
        replace h := Option.some.inj h
        subst h
        exact run (n := 100) (f := 122) (args := [I a0, I a1]) (orc := [.br false, .br false, .lp [] [0, 1] [] (.exit 0) [(0, .d (I t3))] [] 26, .br false]) (r := I t3) (ob := [(t3 == 0) = false, LoopN cx (loopAt cx.P 122 0) 24 0 false [(0, .d (I a0)), (1, .d (I a1))] [] (.exit 0) [(0, .d (I t3))] [], (decide (a1 < 0)) = false, (decide (a0 < 0)) = false]) (by kernel_rfl) ⟨(eqf h4), (loopF_to R_ref01_Divisor_L4 h3), (decide_eq_false h2), (decide_eq_false h1), trivial⟩
/- spillage/spillageref01.CheckRatio: .agg [I a0, I a1] -/
def F_ref01_CheckRatio (n : Nat) (a0 : Int) (a1 : Int) : Option (Int) :=
  (F_ref01_CheckRange n a0 (-999999999) 999999999).bind fun t1 =>
  (F_ref01_CheckRange n a1 1 999999999).bind fun t2 =>
  (F_ref01_First n ([I t1, I t2])).bind fun t3 =>
  if t3 = 0 then
    (F_ref01_Divisor n a0 a1).bind fun t5 =>
    (F_ref01_When n (decide (t5 > 1)) 1).bind fun t6 =>
    some t6
  else
  some t3
theorem c_ref01_CheckRatio {n : Nat} {a0 : Int} {a1 : Int} {r : Int} (h : F_ref01_CheckRatio n a0 a1 = some r) : Computes cx 90 [.agg [I a0, I a1]] (I r) := by
  unfold F_ref01_CheckRatio at h
  obtain ⟨t1, h1, h⟩ := bnd_of h
  obtain ⟨t2, h2, h⟩ := bnd_of h
  obtain ⟨t3, h3, h⟩ := bnd_of h
  by_cases h4 : t3 = 0
  · replace h := ite_t h h4
    obtain ⟨t5, h5, h⟩ := bnd_of h
    obtain ⟨t6, h6, h⟩ := bnd_of h
    replace h := Option.some.inj h
    subst h
    exact run (n := 100) (f := 90) (args := [.agg [I a0, I a1]]) (orc := [.ret (I t1), .ret (I t2), .ret (I t3), .br false, .ret (I t5), .ret (I t6)]) (r := I t6) (ob := [Computes cx 15 [B (decide (t5 > 1)), I 1] (I t6), Computes cx 122 [I a0, I a1] (I t5), (t3 != 0) = false, Computes cx 12 [.lst true 1 [I t1, I t2]] (I t3), Computes cx 84 [I a1, I 1, I 999999999] (I t2), Computes cx 84 [I a0, I (-999999999), I 999999999] (I t1)]) (by kernel_rfl) ⟨(c_ref01_When h6), (c_ref01_Divisor h5), (nef h4), ((c_ref01_First h3).le (.cons (.full _ _ _) (.nil)) (.refl _)), (c_ref01_CheckRange h2), (c_ref01_CheckRange h1), trivial⟩
  · replace h := ite_f h h4
    replace h := Option.some.inj h
    subst h
    exact run (n := 100) (f := 90) (args := [.agg [I a0, I a1]]) (orc := [.ret (I t1), .ret (I t2), .ret (I t3), .br true]) (r := I t3) (ob := [(t3 != 0) = true, Computes cx 12 [.lst true 1 [I t1, I t2]] (I t3), Computes cx 84 [I a1, I 1, I 999999999] (I t2), Computes cx 84 [I a0, I (-999999999), I 999999999] (I t1)]) (by kernel_rfl) ⟨(net h4), ((c_ref01_First h3).le (.cons (.full _ _ _) (.nil)) (.refl _)), (c_ref01_CheckRange h2), (c_ref01_CheckRange h1), trivial⟩
def F_ref04_CheckShares_L1 (n : Nat) (a0 : List D) (sa : (Int)) : Option (((Int)) ⊕ ((Int) ⊕ (Unit))) :=
  if sa < ((a0).length : Int) then
    (el un_Ai2Z a0 sa).bind fun ta2 =>
    (F_ref01_CheckRatio n ta2.1 ta2.2).bind fun ta3 =>
    if ta2.1 < 0 then
      (F_ref01_When_2 n).bind fun ta5 =>
      (F_ref01_First n ([I ta3, I ta5])).bind fun ta6 =>
      if ta6 = 0 then
        if inI64 (sa + 1) then
        some (.inl (sa + 1))
        else none
      else
      some (.inr (.inl ta6))
    else
    if ta2.1 > ta2.2 then
      (F_ref01_When_2 n).bind fun ta6 =>
      (F_ref01_First n ([I ta3, I ta6])).bind fun ta7 =>
      if ta7 = 0 then
        if inI64 (sa + 1) then
        some (.inl (sa + 1))
        else none
      else
      some (.inr (.inl ta7))
    else
    (F_ref01_When n (decide (ta2.2 > 1000)) 3).bind fun ta6 =>
    (F_ref01_First n ([I ta3, I ta6])).bind fun ta7 =>
    if ta7 = 0 then
      if inI64 (sa + 1) then
      some (.inl (sa + 1))
      else none
    else
    some (.inr (.inl ta7))
  else
  some (.inr (.inr ()))
noncomputable def T_ref04_CheckShares_L1 (a0 : List D) (sa : (Int)) : List (Nat × AV) := [(0, .d (.lst false 2 a0)), (3, .d (I sa))]
noncomputable def H_ref04_CheckShares_L1 (a0 : List D) (sa : (Int)) : List (Nat × Blk) := []
noncomputable def X_ref04_CheckShares_L1 (a0 : List D) (e : (Int) ⊕ (Unit)) : Ex := match e with
  | (.inl e) => .ret
  | (.inr e) => (.exit 0)
noncomputable def XT_ref04_CheckShares_L1 (a0 : List D) (e : (Int) ⊕ (Unit)) : List (Nat × AV) := match e with
  | (.inl e) => [(2, .d (I e))]
  | (.inr e) => []
noncomputable def XH_ref04_CheckShares_L1 (a0 : List D) (e : (Int) ⊕ (Unit)) : List (Nat × Blk) := match e with
  | (.inl e) => []
  | (.inr e) => []
theorem R_ref04_CheckShares_L1 {n : Nat} {a0 : List D} (sa : (Int)) (r) (h : F_ref04_CheckShares_L1 n a0 sa = some r) : Rd cx (loopAt cx.P 26 0) 52 0 false (T_ref04_CheckShares_L1 a0) (H_ref04_CheckShares_L1 a0) (X_ref04_CheckShares_L1 a0) (XT_ref04_CheckShares_L1 a0) (XH_ref04_CheckShares_L1 a0) sa r := by
  unfold F_ref04_CheckShares_L1 at h
  by_cases ha1 : sa < ((a0).length : Int)
  · replace h := ite_t h ha1
    obtain ⟨ta2, ha2, h⟩ := bnd_of h
    obtain ⟨ta3, ha3, h⟩ := bnd_of h
    by_cases ha4 : ta2.1 < 0
    · replace h := ite_t h ha4
      obtain ⟨ta5, ha5, h⟩ := bnd_of h
      obtain ⟨ta6, ha6, h⟩ := bnd_of h
      by_cases ha7 : ta6 = 0
      · replace h := ite_t h ha7
        obtain ⟨ha8, h⟩ := grd_of h
        replace h := Option.some.inj h
        subst h
        exact ⟨100, 5, [.br true, .el (.agg [I ta2.1, I ta2.2]), .ret (I ta3), .el (.agg [I ta2.1, I ta2.2]), .br true, .no, .ret (I ta5), .ret (I ta6), .br false], [], [0, 3], [], round_of (ob := [inI64 (sa + 1), (ta6 != 0) = false, Computes cx 12 [.lst true 1 [I ta3, I ta5]] (I ta6), Computes cx 15 [B true, I 3] (I ta5), (decide (ta2.1 < 0)) = true, (0 : Int) ≤ sa, nth (a0) (Int.toNat sa) = some (.agg [I ta2.1, I ta2.2]), Computes cx 90 [.agg [I ta2.1, I ta2.2]] (I ta3), (0 : Int) ≤ sa, nth (a0) (Int.toNat sa) = some (.agg [I ta2.1, I ta2.2]), (decide (sa < ((a0).length : Int))) = true]) (by kernel_rfl) ⟨ha8, (nef ha7), ((c_ref01_First ha6).le (.cons (.full _ _ _) (.nil)) (.refl _)), (c_ref01_When_2 ha5), (decide_eq_true ha4), (el_ok un_Ai2Z_ok ha2).1, (el_ok un_Ai2Z_ok ha2).2, (c_ref01_CheckRatio ha3), (el_ok un_Ai2Z_ok ha2).1, (el_ok un_Ai2Z_ok ha2).2, (decide_eq_true ha1), trivial⟩⟩
      · replace h := ite_f h ha7
        replace h := Option.some.inj h
        subst h
        exact ⟨⟨100, 5, [.br true, .el (.agg [I ta2.1, I ta2.2]), .ret (I ta3), .el (.agg [I ta2.1, I ta2.2]), .br true, .no, .ret (I ta5), .ret (I ta6), .br true], [], [2], [], round_of (ob := [(ta6 != 0) = true, Computes cx 12 [.lst true 1 [I ta3, I ta5]] (I ta6), Computes cx 15 [B true, I 3] (I ta5), (decide (ta2.1 < 0)) = true, (0 : Int) ≤ sa, nth (a0) (Int.toNat sa) = some (.agg [I ta2.1, I ta2.2]), Computes cx 90 [.agg [I ta2.1, I ta2.2]] (I ta3), (0 : Int) ≤ sa, nth (a0) (Int.toNat sa) = some (.agg [I ta2.1, I ta2.2]), (decide (sa < ((a0).length : Int))) = true]) (by kernel_rfl) ⟨(net ha7), ((c_ref01_First ha6).le (.cons (.full _ _ _) (.nil)) (.refl _)), (c_ref01_When_2 ha5), (decide_eq_true ha4), (el_ok un_Ai2Z_ok ha2).1, (el_ok un_Ai2Z_ok ha2).2, (c_ref01_CheckRatio ha3), (el_ok un_Ai2Z_ok ha2).1, (el_ok un_Ai2Z_ok ha2).2, (decide_eq_true ha1), trivial⟩⟩, nofun⟩
    · replace h := ite_f h ha4
      by_cases ha5 : ta2.1 > ta2.2
      · replace h := ite_t h ha5
        obtain ⟨ta6, ha6, h⟩ := bnd_of h
        obtain ⟨ta7, ha7, h⟩ := bnd_of h
        by_cases ha8 : ta7 = 0
        · replace h := ite_t h ha8
          obtain ⟨ha9, h⟩ := grd_of h
          replace h := Option.some.inj h
          subst h
          exact ⟨100, 5, [.br true, .el (.agg [I ta2.1, I ta2.2]), .ret (I ta3), .el (.agg [I ta2.1, I ta2.2]), .br false, .el (.agg [I ta2.1, I ta2.2]), .el (.agg [I ta2.1, I ta2.2]), .br true, .ret (I ta6), .ret (I ta7), .br false], [], [0, 3], [], round_of (ob := [inI64 (sa + 1), (ta7 != 0) = false, Computes cx 12 [.lst true 1 [I ta3, I ta6]] (I ta7), Computes cx 15 [B true, I 3] (I ta6), (decide (ta2.1 > ta2.2)) = true, (0 : Int) ≤ sa, nth (a0) (Int.toNat sa) = some (.agg [I ta2.1, I ta2.2]), (0 : Int) ≤ sa, nth (a0) (Int.toNat sa) = some (.agg [I ta2.1, I ta2.2]), (decide (ta2.1 < 0)) = false, (0 : Int) ≤ sa, nth (a0) (Int.toNat sa) = some (.agg [I ta2.1, I ta2.2]), Computes cx 90 [.agg [I ta2.1, I ta2.2]] (I ta3), (0 : Int) ≤ sa, nth (a0) (Int.toNat sa) = some (.agg [I ta2.1, I ta2.2]), (decide (sa < ((a0).length : Int))) = true]) (by kernel_rfl) ⟨ha9, (nef ha8), ((c_ref01_First ha7).le (.cons (.full _ _ _) (.nil)) (.refl _)), (c_ref01_When_2 ha6), (decide_eq_true ha5), (el_ok un_Ai2Z_ok ha2).1, (el_ok un_Ai2Z_ok ha2).2, (el_ok un_Ai2Z_ok ha2).1, (el_ok un_Ai2Z_ok ha2).2, (decide_eq_false ha4), (el_ok un_Ai2Z_ok ha2).1, (el_ok un_Ai2Z_ok ha2).2, (c_ref01_CheckRatio ha3), (el_ok un_Ai2Z_ok ha2).1, (el_ok un_Ai2Z_ok ha2).2, (decide_eq_true ha1), trivial⟩⟩
        · replace h := ite_f h ha8
          replace h := Option.some.inj h
          subst h
          exact ⟨⟨100, 5, [.br true, .el (.agg [I ta2.1, I ta2.2]), .ret (I ta3), .el (.agg [I ta2.1, I ta2.2]), .br false, .el (.agg [I ta2.1, I ta2.2]), .el (.agg [I ta2.1, I ta2.2]), .br true, .ret (I ta6), .ret (I ta7), .br true], [], [2], [], round_of (ob := [(ta7 != 0) = true, Computes cx 12 [.lst true 1 [I ta3, I ta6]] (I ta7), Computes cx 15 [B true, I 3] (I ta6), (decide (ta2.1 > ta2.2)) = true, (0 : Int) ≤ sa, nth (a0) (Int.toNat sa) = some (.agg [I ta2.1, I ta2.2]), (0 : Int) ≤ sa, nth (a0) (Int.toNat sa) = some (.agg [I ta2.1, I ta2.2]), (decide (ta2.1 < 0)) = false, (0 : Int) ≤ sa, nth (a0) (Int.toNat sa) = some (.agg [I ta2.1, I ta2.2]), Computes cx 90 [.agg [I ta2.1, I ta2.2]] (I ta3), (0 : Int) ≤ sa, nth (a0) (Int.toNat sa) = some (.agg [I ta2.1, I ta2.2]), (decide (sa < ((a0).length : Int))) = true]) (by kernel_rfl) ⟨(net ha8), ((c_ref01_First ha7).le (.cons (.full _ _ _) (.nil)) (.refl _)), (c_ref01_When_2 ha6), (decide_eq_true ha5), (el_ok un_Ai2Z_ok ha2).1, (el_ok un_Ai2Z_ok ha2).2, (el_ok un_Ai2Z_ok ha2).1, (el_ok un_Ai2Z_ok ha2).2, (decide_eq_false ha4), (el_ok un_Ai2Z_ok ha2).1, (el_ok un_Ai2Z_ok ha2).2, (c_ref01_CheckRatio ha3), (el_ok un_Ai2Z_ok ha2).1, (el_ok un_Ai2Z_ok ha2).2, (decide_eq_true ha1), trivial⟩⟩, nofun⟩
      · replace h := ite_f h ha5
        obtain ⟨ta6, ha6, h⟩ := bnd_of h
        obtain ⟨ta7, ha7, h⟩ := bnd_of h
        by_cases ha8 : ta7 = 0
        · replace h := ite_t h ha8
          obtain ⟨ha9, h⟩ := grd_of h
          replace h := Option.some.inj h
          subst h
          exact ⟨100, 5, [.br true, .el (.agg [I ta2.1, I ta2.2]), .ret (I ta3), .el (.agg [I ta2.1, I ta2.2]), .br false, .el (.agg [I ta2.1, I ta2.2]), .el (.agg [I ta2.1, I ta2.2]), .br false, .el (.agg [I ta2.1, I ta2.2]), .ret (I ta6), .ret (I ta7), .br false], [], [0, 3], [], round_of (ob := [inI64 (sa + 1), (ta7 != 0) = false, Computes cx 12 [.lst true 1 [I ta3, I ta6]] (I ta7), Computes cx 15 [B (decide (ta2.2 > 1000)), I 3] (I ta6), (0 : Int) ≤ sa, nth (a0) (Int.toNat sa) = some (.agg [I ta2.1, I ta2.2]), (decide (ta2.1 > ta2.2)) = false, (0 : Int) ≤ sa, nth (a0) (Int.toNat sa) = some (.agg [I ta2.1, I ta2.2]), (0 : Int) ≤ sa, nth (a0) (Int.toNat sa) = some (.agg [I ta2.1, I ta2.2]), (decide (ta2.1 < 0)) = false, (0 : Int) ≤ sa, nth (a0) (Int.toNat sa) = some (.agg [I ta2.1, I ta2.2]), Computes cx 90 [.agg [I ta2.1, I ta2.2]] (I ta3), (0 : Int) ≤ sa, nth (a0) (Int.toNat sa) = some (.agg [I ta2.1, I ta2.2]), (decide (sa < ((a0).length : Int))) = true]) (by kernel_rfl) ⟨ha9, (nef ha8), ((c_ref01_First ha7).le (.cons (.full _ _ _) (.nil)) (.refl _)), (c_ref01_When ha6), (el_ok un_Ai2Z_ok ha2).1, (el_ok un_Ai2Z_ok ha2).2, (decide_eq_false ha5), (el_ok un_Ai2Z_ok ha2).1, (el_ok un_Ai2Z_ok ha2).2, (el_ok un_Ai2Z_ok ha2).1, (el_ok un_Ai2Z_ok ha2).2, (decide_eq_false ha4), (el_ok un_Ai2Z_ok ha2).1, (el_ok un_Ai2Z_ok ha2).2, (c_ref01_CheckRatio ha3), (el_ok un_Ai2Z_ok ha2).1, (el_ok un_Ai2Z_ok ha2).2, (decide_eq_true ha1), trivial⟩⟩
        · replace h := ite_f h ha8
          replace h := Option.some.inj h
          subst h
          exact ⟨⟨100, 5, [.br true, .el (.agg [I ta2.1, I ta2.2]), .ret (I ta3), .el (.agg [I ta2.1, I ta2.2]), .br false, .el (.agg [I ta2.1, I ta2.2]), .el (.agg [I ta2.1, I ta2.2]), .br false, .el (.agg [I ta2.1, I ta2.2]), .ret (I ta6), .ret (I ta7), .br true], [], [2], [], round_of (ob := [(ta7 != 0) = true, Computes cx 12 [.lst true 1 [I ta3, I ta6]] (I ta7), Computes cx 15 [B (decide (ta2.2 > 1000)), I 3] (I ta6), (0 : Int) ≤ sa, nth (a0) (Int.toNat sa) = some (.agg [I ta2.1, I ta2.2]), (decide (ta2.1 > ta2.2)) = false, (0 : Int) ≤ sa, nth (a0) (Int.toNat sa) = some (.agg [I ta2.1, I ta2.2]), (0 : Int) ≤ sa, nth (a0) (Int.toNat sa) = some (.agg [I ta2.1, I ta2.2]), (decide (ta2.1 < 0)) = false, (0 : Int) ≤ sa, nth (a0) (Int.toNat sa) = some (.agg [I ta2.1, I ta2.2]), Computes cx 90 [.agg [I ta2.1, I ta2.2]] (I ta3), (0 : Int) ≤ sa, nth (a0) (Int.toNat sa) = some (.agg [I ta2.1, I ta2.2]), (decide (sa < ((a0).length : Int))) = true]) (by kernel_rfl) ⟨(net ha8), ((c_ref01_First ha7).le (.cons (.full _ _ _) (.nil)) (.refl _)), (c_ref01_When ha6), (el_ok un_Ai2Z_ok ha2).1, (el_ok un_Ai2Z_ok ha2).2, (decide_eq_false ha5), (el_ok un_Ai2Z_ok ha2).1, (el_ok un_Ai2Z_ok ha2).2, (el_ok un_Ai2Z_ok ha2).1, (el_ok un_Ai2Z_ok ha2).2, (decide_eq_false ha4), (el_ok un_Ai2Z_ok ha2).1, (el_ok un_Ai2Z_ok ha2).2, (c_ref01_CheckRatio ha3), (el_ok un_Ai2Z_ok ha2).1, (el_ok un_Ai2Z_ok ha2).2, (decide_eq_true ha1), trivial⟩⟩, nofun⟩
  · replace h := ite_f h ha1
    replace h := Option.some.inj h
    subst h
    exact ⟨⟨100, 5, [.br false], [], [], [], round_of (ob := [(decide (sa < ((a0).length : Int))) = false]) (by kernel_rfl) ⟨(decide_eq_false ha1), trivial⟩⟩, nofun⟩
/- spillage/spillageref04.CheckShares: .lst false 2 a0 -/
def F_ref04_CheckShares (n : Nat) (a0 : List D) : Option (Int) :=
  if ((a0).length : Int) > 6 then
    some 5
  else
  (loopF (F_ref04_CheckShares_L1 n a0) n 0).bind fun t2 => match t2 with
    | (.inl t2) => (
      some t2)
    | (.inr t2) => (
      some 0)
theorem c_ref04_CheckShares {n : Nat} {a0 : List D} {r : Int} (h : F_ref04_CheckShares n a0 = some r) : Computes cx 26 [.lst false 2 a0] (I r) := by
  unfold F_ref04_CheckShares at h
  by_cases h1 : ((a0).length : Int) > 6
  · replace h := ite_t h h1
    replace h := Option.some.inj h
    subst h
    exact run (n := 100) (f := 26) (args := [.lst false 2 a0]) (orc := [.br true]) (r := I 5) (ob := [(decide (((a0).length : Int) > 6)) = true]) (by kernel_rfl) ⟨(decide_eq_true h1), trivial⟩
  · replace h := ite_f h h1
    obtain ⟨t2, h2, h⟩ := bnd_of h
    rcases t2 with t2 | t2
    · replace h := Option.some.inj h
      subst h
      exact run (n := 100) (f := 26) (args := [.lst false 2 a0]) (orc := [.br false, .lp [] [0, 3] [] .ret [(2, .d (I t2))] [] 61]) (r := I t2) (ob := [LoopN cx (loopAt cx.P 26 0) 52 0 false [(0, .d (.lst false 2 a0)), (3, .d (I 0))] [] .ret [(2, .d (I t2))] [], (decide (((a0).length : Int) > 6)) = false]) (by kernel_rfl) ⟨(loopF_to R_ref04_CheckShares_L1 h2), (decide_eq_false h1), trivial⟩
    · replace h := Option.some.inj h
      subst h
      exact run (n := 100) (f := 26) (args := [.lst false 2 a0]) (orc := [.br false, .lp [] [0, 3] [] (.exit 0) [] [] 61]) (r := I 0) (ob := [LoopN cx (loopAt cx.P 26 0) 52 0 false [(0, .d (.lst false 2 a0)), (3, .d (I 0))] [] (.exit 0) [] [], (decide (((a0).length : Int) > 6)) = false]) (by kernel_rfl) ⟨(loopF_to R_ref04_CheckShares_L1 h2), (decide_eq_false h1), trivial⟩
def F_ref04_CheckReadings_L1 (n : Nat) (a0 : List D) (sa : (Int)) : Option (((Int)) ⊕ ((Int) ⊕ (Unit))) :=
  if sa < ((a0).length : Int) then
    (el un_Ai3Z a0 sa).bind fun ta2 =>
    (F_ref01_CheckRange n ta2.2.1 1 64).bind fun ta3 =>
    (F_ref01_CheckRange n ta2.1 0 ta2.2.1).bind fun ta4 =>
    (F_ref01_CheckRange n ta2.2.2 0 1000).bind fun ta5 =>
    (F_ref01_First n ([I ta3, I ta4, I ta5])).bind fun ta6 =>
    if ta6 = 0 then
      if inI64 (sa + 1) then
      some (.inl (sa + 1))
      else none
    else
    some (.inr (.inl ta6))
  else
  some (.inr (.inr ()))
noncomputable def T_ref04_CheckReadings_L1 (a0 : List D) (sa : (Int)) : List (Nat × AV) := [(0, .d (.lst false 3 a0)), (3, .d (I sa))]
noncomputable def H_ref04_CheckReadings_L1 (a0 : List D) (sa : (Int)) : List (Nat × Blk) := []
noncomputable def X_ref04_CheckReadings_L1 (a0 : List D) (e : (Int) ⊕ (Unit)) : Ex := match e with
  | (.inl e) => .ret
  | (.inr e) => (.exit 0)
noncomputable def XT_ref04_CheckReadings_L1 (a0 : List D) (e : (Int) ⊕ (Unit)) : List (Nat × AV) := match e with
  | (.inl e) => [(2, .d (I e))]
  | (.inr e) => []
noncomputable def XH_ref04_CheckReadings_L1 (a0 : List D) (e : (Int) ⊕ (Unit)) : List (Nat × Blk) := match e with
  | (.inl e) => []
  | (.inr e) => []
theorem R_ref04_CheckReadings_L1 {n : Nat} {a0 : List D} (sa : (Int)) (r) (h : F_ref04_CheckReadings_L1 n a0 sa = some r) : Rd cx (loopAt cx.P 27 0) 35 0 false (T_ref04_CheckReadings_L1 a0) (H_ref04_CheckReadings_L1 a0) (X_ref04_CheckReadings_L1 a0) (XT_ref04_CheckReadings_L1 a0) (XH_ref04_CheckReadings_L1 a0) sa r := by
  unfold F_ref04_CheckReadings_L1 at h
  by_cases ha1 : sa < ((a0).length : Int)
  · replace h := ite_t h ha1
    obtain ⟨ta2, ha2, h⟩ := bnd_of h
    obtain ⟨ta3, ha3, h⟩ := bnd_of h
    obtain ⟨ta4, ha4, h⟩ := bnd_of h
    obtain ⟨ta5, ha5, h⟩ := bnd_of h
    obtain ⟨ta6, ha6, h⟩ := bnd_of h
    by_cases ha7 : ta6 = 0
    · replace h := ite_t h ha7
      obtain ⟨ha8, h⟩ := grd_of h
      replace h := Option.some.inj h
      subst h
      exact ⟨100, 5, [.br true, .el (.agg [I ta2.1, I ta2.2.1, I ta2.2.2]), .ret (I ta3), .ret (I ta4), .ret (I ta5), .ret (I ta6), .br false], [], [0, 3], [], round_of (ob := [inI64 (sa + 1), (ta6 != 0) = false, Computes cx 12 [.lst true 1 [I ta3, I ta4, I ta5]] (I ta6), Computes cx 84 [I ta2.2.2, I 0, I 1000] (I ta5), Computes cx 84 [I ta2.1, I 0, I ta2.2.1] (I ta4), Computes cx 84 [I ta2.2.1, I 1, I 64] (I ta3), (0 : Int) ≤ sa, nth (a0) (Int.toNat sa) = some (.agg [I ta2.1, I ta2.2.1, I ta2.2.2]), (decide (sa < ((a0).length : Int))) = true]) (by kernel_rfl) ⟨ha8, (nef ha7), ((c_ref01_First ha6).le (.cons (.full _ _ _) (.nil)) (.refl _)), (c_ref01_CheckRange ha5), (c_ref01_CheckRange ha4), (c_ref01_CheckRange ha3), (el_ok un_Ai3Z_ok ha2).1, (el_ok un_Ai3Z_ok ha2).2, (decide_eq_true ha1), trivial⟩⟩
    · replace h := ite_f h ha7
      replace h := Option.some.inj h
      subst h
      exact ⟨⟨100, 5, [.br true, .el (.agg [I ta2.1, I ta2.2.1, I ta2.2.2]), .ret (I ta3), .ret (I ta4), .ret (I ta5), .ret (I ta6), .br true], [], [2], [], round_of (ob := [(ta6 != 0) = true, Computes cx 12 [.lst true 1 [I ta3, I ta4, I ta5]] (I ta6), Computes cx 84 [I ta2.2.2, I 0, I 1000] (I ta5), Computes cx 84 [I ta2.1, I 0, I ta2.2.1] (I ta4), Computes cx 84 [I ta2.2.1, I 1, I 64] (I ta3), (0 : Int) ≤ sa, nth (a0) (Int.toNat sa) = some (.agg [I ta2.1, I ta2.2.1, I ta2.2.2]), (decide (sa < ((a0).length : Int))) = true]) (by kernel_rfl) ⟨(net ha7), ((c_ref01_First ha6).le (.cons (.full _ _ _) (.nil)) (.refl _)), (c_ref01_CheckRange ha5), (c_ref01_CheckRange ha4), (c_ref01_CheckRange ha3), (el_ok un_Ai3Z_ok ha2).1, (el_ok un_Ai3Z_ok ha2).2, (decide_eq_true ha1), trivial⟩⟩, nofun⟩
  · replace h := ite_f h ha1
    replace h := Option.some.inj h
    subst h
    exact ⟨⟨100, 5, [.br false], [], [], [], round_of (ob := [(decide (sa < ((a0).length : Int))) = false]) (by kernel_rfl) ⟨(decide_eq_false ha1), trivial⟩⟩, nofun⟩
/- spillage/spillageref04.CheckReadings: .lst false 3 a0 -/
def F_ref04_CheckReadings (n : Nat) (a0 : List D) : Option (Int) :=
  if ((a0).length : Int) > 256 then
    some 5
  else
  (loopF (F_ref04_CheckReadings_L1 n a0) n 0).bind fun t2 => match t2 with
    | (.inl t2) => (
      some t2)
    | (.inr t2) => (
      some 0)
theorem c_ref04_CheckReadings {n : Nat} {a0 : List D} {r : Int} (h : F_ref04_CheckReadings n a0 = some r) : Computes cx 27 [.lst false 3 a0] (I r) := by
  unfold F_ref04_CheckReadings at h
  by_cases h1 : ((a0).length : Int) > 256
  · replace h := ite_t h h1
    replace h := Option.some.inj h
    subst h
    exact run (n := 100) (f := 27) (args := [.lst false 3 a0]) (orc := [.br true]) (r := I 5) (ob := [(decide (((a0).length : Int) > 256)) = true]) (by kernel_rfl) ⟨(decide_eq_true h1), trivial⟩
  · replace h := ite_f h h1
    obtain ⟨t2, h2, h⟩ := bnd_of h
    rcases t2 with t2 | t2
    · replace h := Option.some.inj h
      subst h
      exact run (n := 100) (f := 27) (args := [.lst false 3 a0]) (orc := [.br false, .lp [] [0, 3] [] .ret [(2, .d (I t2))] [] 45]) (r := I t2) (ob := [LoopN cx (loopAt cx.P 27 0) 35 0 false [(0, .d (.lst false 3 a0)), (3, .d (I 0))] [] .ret [(2, .d (I t2))] [], (decide (((a0).length : Int) > 256)) = false]) (by kernel_rfl) ⟨(loopF_to R_ref04_CheckReadings_L1 h2), (decide_eq_false h1), trivial⟩
    · replace h := Option.some.inj h
      subst h
      exact run (n := 100) (f := 27) (args := [.lst false 3 a0]) (orc := [.br false, .lp [] [0, 3] [] (.exit 0) [] [] 45]) (r := I 0) (ob := [LoopN cx (loopAt cx.P 27 0) 35 0 false [(0, .d (.lst false 3 a0)), (3, .d (I 0))] [] (.exit 0) [] [], (decide (((a0).length : Int) > 256)) = false]) (by kernel_rfl) ⟨(loopF_to R_ref04_CheckReadings_L1 h2), (decide_eq_false h1), trivial⟩
/- spillage/spillageref01.Lowest: I a0, I a1 -/
def F_ref01_Lowest (n : Nat) (a0 : Int) (a1 : Int) : Option (Int × Int) :=
  if a1 < 0 then
    if inI64 (0 - a0) then
    if inI64 (0 - a1) then
    (F_ref01_Divisor n (0 - a0) (0 - a1)).bind fun t4 =>
    if t4 ≠ 0 then
    if inI64 (Int.tdiv (0 - a0) t4) then
    if inI64 (Int.tdiv (0 - a1) t4) then
    some ((Int.tdiv (0 - a0) t4), (Int.tdiv (0 - a1) t4))
    else none
    else none
    else none
    else none
    else none
  else
  (F_ref01_Divisor n a0 a1).bind fun t2 =>
  if t2 ≠ 0 then
  if inI64 (Int.tdiv a0 t2) then
  if inI64 (Int.tdiv a1 t2) then
  some ((Int.tdiv a0 t2), (Int.tdiv a1 t2))
  else none
  else none
  else none
theorem c_ref01_Lowest {n : Nat} {a0 : Int} {a1 : Int} {r : Int × Int} (h : F_ref01_Lowest n a0 a1 = some r) : Computes cx 79 [I a0, I a1] (.agg [I r.1, I r.2]) := by
  unfold F_ref01_Lowest at h
  by_cases h1 : a1 < 0
  · replace h := ite_t h h1
    obtain ⟨h2, h⟩ := grd_of h
    obtain ⟨h3, h⟩ := grd_of h
    obtain ⟨t4, h4, h⟩ := bnd_of h
    obtain ⟨h5, h⟩ := grd_of h
    obtain ⟨h6, h⟩ := grd_of h
    obtain ⟨h7, h⟩ := grd_of h
    replace h := Option.some.inj h
    subst h
    exact run (n := 100) (f := 79) (args := [I a0, I a1]) (orc := [.br true, .ret (I t4)]) (r := .agg [I (Int.tdiv (0 - a0) t4), I (Int.tdiv (0 - a1) t4)]) (ob := [t4 ≠ 0, inI64 (Int.tdiv (0 - a1) t4), t4 ≠ 0, inI64 (Int.tdiv (0 - a0) t4), Computes cx 122 [I (0 - a0), I (0 - a1)] (I t4), inI64 (0 - a1), inI64 (0 - a0), (decide (a1 < 0)) = true]) (by kernel_rfl) ⟨h5, h7, h5, h6, (c_ref01_Divisor h4), h3, h2, (decide_eq_true h1), trivial⟩
  · replace h := ite_f h h1
    obtain ⟨t2, h2, h⟩ := bnd_of h
    obtain ⟨h3, h⟩ := grd_of h
    obtain ⟨h4, h⟩ := grd_of h
    obtain ⟨h5, h⟩ := grd_of h
    replace h := Option.some.inj h
    subst h
    exact run (n := 100) (f := 79) (args := [I a0, I a1]) (orc := [.br false, .ret (I t2)]) (r := .agg [I (Int.tdiv a0 t2), I (Int.tdiv a1 t2)]) (ob := [t2 ≠ 0, inI64 (Int.tdiv a1 t2), t2 ≠ 0, inI64 (Int.tdiv a0 t2), Computes cx 122 [I a0, I a1] (I t2), (decide (a1 < 0)) = false]) (by kernel_rfl) ⟨h3, h5, h3, h4, (c_ref01_Divisor h2), (decide_eq_false h1), trivial⟩
def F_ref04_Efficiency_L1 (n : Nat) (a0 : List D) (sa : (Int × Int × Int)) : Option (((Int × Int × Int)) ⊕ ((Int × Int))) :=
  if sa.1 < ((a0).length : Int) then
    (el un_Ai2Z a0 sa.1).bind fun ta2 =>
    if inI64 (sa.2.1 * ta2.1) then
    if inI64 (sa.2.2 * ta2.2) then
    (F_ref01_Lowest n (sa.2.1 * ta2.1) (sa.2.2 * ta2.2)).bind fun ta5 =>
    if inI64 (sa.1 + 1) then
    some (.inl ((sa.1 + 1), ta5.1, ta5.2))
    else none
    else none
    else none
  else
  some (.inr (sa.2.1, sa.2.2))
noncomputable def T_ref04_Efficiency_L1 (a0 : List D) (sa : (Int × Int × Int)) : List (Nat × AV) := [(0, .d (.lst false 2 a0)), (2, .ptr 0 0 0 0 0), (3, .ptr 2 0 0 0 0), (4, .d (I sa.1))]
noncomputable def H_ref04_Efficiency_L1 (a0 : List D) (sa : (Int × Int × Int)) : List (Nat × Blk) := [(0, .box (.d (.agg [I 0, I 0]))), (2, .box (.d (.agg [I sa.2.1, I sa.2.2])))]
noncomputable def X_ref04_Efficiency_L1 (a0 : List D) (e : (Int × Int)) : Ex := (.exit 0)
noncomputable def XT_ref04_Efficiency_L1 (a0 : List D) (e : (Int × Int)) : List (Nat × AV) := [(2, .ptr 0 0 0 0 0), (3, .ptr 2 0 0 0 0)]
noncomputable def XH_ref04_Efficiency_L1 (a0 : List D) (e : (Int × Int)) : List (Nat × Blk) := [(0, .box (.d (.agg [I 0, I 0]))), (2, .box (.d (.agg [I e.1, I e.2])))]
theorem R_ref04_Efficiency_L1 {n : Nat} {a0 : List D} (sa : (Int × Int × Int)) (r) (h : F_ref04_Efficiency_L1 n a0 sa = some r) : Rd cx (loopAt cx.P 28 0) 30 0 false (T_ref04_Efficiency_L1 a0) (H_ref04_Efficiency_L1 a0) (X_ref04_Efficiency_L1 a0) (XT_ref04_Efficiency_L1 a0) (XH_ref04_Efficiency_L1 a0) sa r := by
  unfold F_ref04_Efficiency_L1 at h
  by_cases ha1 : sa.1 < ((a0).length : Int)
  · replace h := ite_t h ha1
    obtain ⟨ta2, ha2, h⟩ := bnd_of h
    obtain ⟨ha3, h⟩ := grd_of h
    obtain ⟨ha4, h⟩ := grd_of h
    obtain ⟨ta5, ha5, h⟩ := bnd_of h
    obtain ⟨ha6, h⟩ := grd_of h
    replace h := Option.some.inj h
    subst h
    exact ⟨100, 5, [.br true, .el (.agg [I ta2.1, I ta2.2]), .el (.agg [I ta2.1, I ta2.2]), .ret (.agg [I ta5.1, I ta5.2])], [], [0, 2, 3, 4], [0, 2], round_of (ob := [inI64 (sa.1 + 1), Computes cx 79 [I (sa.2.1 * ta2.1), I (sa.2.2 * ta2.2)] (.agg [I ta5.1, I ta5.2]), inI64 (sa.2.2 * ta2.2), (0 : Int) ≤ sa.1, nth (a0) (Int.toNat sa.1) = some (.agg [I ta2.1, I ta2.2]), inI64 (sa.2.1 * ta2.1), (0 : Int) ≤ sa.1, nth (a0) (Int.toNat sa.1) = some (.agg [I ta2.1, I ta2.2]), (decide (sa.1 < ((a0).length : Int))) = true]) (by kernel_rfl) ⟨ha6, (c_ref01_Lowest ha5), ha4, (el_ok un_Ai2Z_ok ha2).1, (el_ok un_Ai2Z_ok ha2).2, ha3, (el_ok un_Ai2Z_ok ha2).1, (el_ok un_Ai2Z_ok ha2).2, (decide_eq_true ha1), trivial⟩⟩
  · replace h := ite_f h ha1
    replace h := Option.some.inj h
    subst h
    exact ⟨⟨100, 5, [.br false], [], [2, 3], [0, 2], round_of (ob := [(decide (sa.1 < ((a0).length : Int))) = false]) (by kernel_rfl) ⟨(decide_eq_false ha1), trivial⟩⟩, nofun⟩
/- spillage/spillageref04.Efficiency: .lst false 2 a0 -/
def F_ref04_Efficiency (n : Nat) (a0 : List D) : Option (Int × Int) :=
  (loopF (F_ref04_Efficiency_L1 n a0) n (0, 1, 1)).bind fun t1 =>
  some (t1.1, t1.2)
theorem c_ref04_Efficiency {n : Nat} {a0 : List D} {r : Int × Int} (h : F_ref04_Efficiency n a0 = some r) : Computes cx 28 [.lst false 2 a0] (.agg [I r.1, I r.2]) := by
  unfold F_ref04_Efficiency at h
  obtain ⟨t1, h1, h⟩ := bnd_of h
  replace h := Option.some.inj h
  subst h
  exact run (n := 100) (f := 28) (args := [.lst false 2 a0]) (orc := [.lp [] [0, 2, 3, 4] [0, 2] (.exit 0) [(2, .ptr 0 0 0 0 0), (3, .ptr 2 0 0 0 0)] [(0, .box (.d (.agg [I 0, I 0]))), (2, .box (.d (.agg [I t1.1, I t1.2])))] 41]) (r := .agg [I t1.1, I t1.2]) (ob := [LoopN cx (loopAt cx.P 28 0) 30 0 false [(0, .d (.lst false 2 a0)), (2, .ptr 0 0 0 0 0), (3, .ptr 2 0 0 0 0), (4, .d (I 0))] [(0, .box (.d (.agg [I 0, I 0]))), (2, .box (.d (.agg [I 1, I 1])))] (.exit 0) [(2, .ptr 0 0 0 0 0), (3, .ptr 2 0 0 0 0)] [(0, .box (.d (.agg [I 0, I 0]))), (2, .box (.d (.agg [I t1.1, I t1.2])))]]) (by kernel_rfl) ⟨(loopF_to R_ref04_Efficiency_L1 h1), trivial⟩
def F_ref04_Summed_L1 (n : Nat) (a0 : List D) (sa : (Int × Int × Int)) : Option (((Int × Int × Int)) ⊕ ((Int × Int))) :=
  if sa.2.2 < ((a0).length : Int) then
    (el un_Ai3Z a0 sa.2.2).bind fun ta2 =>
    if inI64 (ta2.1 * ta2.2.2) then
    if inI64 (sa.1 + (ta2.1 * ta2.2.2)) then
    if inI64 (ta2.2.1 * ta2.2.2) then
    if inI64 (sa.2.1 + (ta2.2.1 * ta2.2.2)) then
    if inI64 (sa.2.2 + 1) then
    some (.inl ((sa.1 + (ta2.1 * ta2.2.2)), (sa.2.1 + (ta2.2.1 * ta2.2.2)), (sa.2.2 + 1)))
    else none
    else none
    else none
    else none
    else none
  else
  some (.inr (sa.1, sa.2.1))
noncomputable def T_ref04_Summed_L1 (a0 : List D) (sa : (Int × Int × Int)) : List (Nat × AV) := [(0, .d (.lst false 3 a0)), (2, .ptr 0 0 0 0 0), (4, .d (I sa.1)), (5, .d (I sa.2.1)), (6, .d (I sa.2.2))]
noncomputable def H_ref04_Summed_L1 (a0 : List D) (sa : (Int × Int × Int)) : List (Nat × Blk) := [(0, .box (.d (.agg [I 0, I 0])))]
noncomputable def X_ref04_Summed_L1 (a0 : List D) (e : (Int × Int)) : Ex := (.exit 0)
noncomputable def XT_ref04_Summed_L1 (a0 : List D) (e : (Int × Int)) : List (Nat × AV) := [(2, .ptr 0 0 0 0 0), (4, .d (I e.1)), (5, .d (I e.2))]
noncomputable def XH_ref04_Summed_L1 (a0 : List D) (e : (Int × Int)) : List (Nat × Blk) := [(0, .box (.d (.agg [I 0, I 0])))]
theorem R_ref04_Summed_L1 {n : Nat} {a0 : List D} (sa : (Int × Int × Int)) (r) (h : F_ref04_Summed_L1 n a0 sa = some r) : Rd cx (loopAt cx.P 29 0) 45 0 false (T_ref04_Summed_L1 a0) (H_ref04_Summed_L1 a0) (X_ref04_Summed_L1 a0) (XT_ref04_Summed_L1 a0) (XH_ref04_Summed_L1 a0) sa r := by
  unfold F_ref04_Summed_L1 at h
  by_cases ha1 : sa.2.2 < ((a0).length : Int)
  · replace h := ite_t h ha1
    obtain ⟨ta2, ha2, h⟩ := bnd_of h
    obtain ⟨ha3, h⟩ := grd_of h
    obtain ⟨ha4, h⟩ := grd_of h
    obtain ⟨ha5, h⟩ := grd_of h
    obtain ⟨ha6, h⟩ := grd_of h
    obtain ⟨ha7, h⟩ := grd_of h
    replace h := Option.some.inj h
    subst h
    exact ⟨100, 5, [.br true, .el (.agg [I ta2.1, I ta2.2.1, I ta2.2.2]), .el (.agg [I ta2.1, I ta2.2.1, I ta2.2.2]), .el (.agg [I ta2.1, I ta2.2.1, I ta2.2.2]), .el (.agg [I ta2.1, I ta2.2.1, I ta2.2.2])], [], [0, 2, 4, 5, 6], [0], round_of (ob := [inI64 (sa.2.2 + 1), inI64 (sa.2.1 + (ta2.2.1 * ta2.2.2)), inI64 (ta2.2.1 * ta2.2.2), (0 : Int) ≤ sa.2.2, nth (a0) (Int.toNat sa.2.2) = some (.agg [I ta2.1, I ta2.2.1, I ta2.2.2]), (0 : Int) ≤ sa.2.2, nth (a0) (Int.toNat sa.2.2) = some (.agg [I ta2.1, I ta2.2.1, I ta2.2.2]), inI64 (sa.1 + (ta2.1 * ta2.2.2)), inI64 (ta2.1 * ta2.2.2), (0 : Int) ≤ sa.2.2, nth (a0) (Int.toNat sa.2.2) = some (.agg [I ta2.1, I ta2.2.1, I ta2.2.2]), (0 : Int) ≤ sa.2.2, nth (a0) (Int.toNat sa.2.2) = some (.agg [I ta2.1, I ta2.2.1, I ta2.2.2]), (decide (sa.2.2 < ((a0).length : Int))) = true]) (by kernel_rfl) ⟨ha7, ha6, ha5, (el_ok un_Ai3Z_ok ha2).1, (el_ok un_Ai3Z_ok ha2).2, (el_ok un_Ai3Z_ok ha2).1, (el_ok un_Ai3Z_ok ha2).2, ha4, ha3, (el_ok un_Ai3Z_ok ha2).1, (el_ok un_Ai3Z_ok ha2).2, (el_ok un_Ai3Z_ok ha2).1, (el_ok un_Ai3Z_ok ha2).2, (decide_eq_true ha1), trivial⟩⟩
  · replace h := ite_f h ha1
    replace h := Option.some.inj h
    subst h
    exact ⟨⟨100, 5, [.br false], [], [2, 4, 5], [0], round_of (ob := [(decide (sa.2.2 < ((a0).length : Int))) = false]) (by kernel_rfl) ⟨(decide_eq_false ha1), trivial⟩⟩, nofun⟩
/- spillage/spillageref04.Summed: .lst false 3 a0 -/
def F_ref04_Summed (n : Nat) (a0 : List D) : Option (Int × Int × Int) :=
  (loopF (F_ref04_Summed_L1 n a0) n (0, 0, 0)).bind fun t1 =>
  if t1.2 = 0 then
    some (0, 0, 7)
  else
  (F_ref01_Lowest n t1.1 t1.2).bind fun t3 =>
  some (t3.1, t3.2, 0)
theorem c_ref04_Summed {n : Nat} {a0 : List D} {r : Int × Int × Int} (h : F_ref04_Summed n a0 = some r) : Computes cx 29 [.lst false 3 a0] (.tup [.agg [I r.1, I r.2.1], I r.2.2]) := by
  unfold F_ref04_Summed at h
  obtain ⟨t1, h1, h⟩ := bnd_of h
  by_cases h2 : t1.2 = 0
  · replace h := ite_t h h2
    replace h := Option.some.inj h
    subst h
    exact run (n := 100) (f := 29) (args := [.lst false 3 a0]) (orc := [.lp [] [0, 2, 4, 5, 6] [0] (.exit 0) [(2, .ptr 0 0 0 0 0), (4, .d (I t1.1)), (5, .d (I t1.2))] [(0, .box (.d (.agg [I 0, I 0])))] 51, .br true]) (r := .tup [.agg [I 0, I 0], I 7]) (ob := [(t1.2 == 0) = true, LoopN cx (loopAt cx.P 29 0) 45 0 false [(0, .d (.lst false 3 a0)), (2, .ptr 0 0 0 0 0), (4, .d (I 0)), (5, .d (I 0)), (6, .d (I 0))] [(0, .box (.d (.agg [I 0, I 0])))] (.exit 0) [(2, .ptr 0 0 0 0 0), (4, .d (I t1.1)), (5, .d (I t1.2))] [(0, .box (.d (.agg [I 0, I 0])))]]) (by kernel_rfl) ⟨(eqt h2), (loopF_to R_ref04_Summed_L1 h1), trivial⟩
  · replace h := ite_f h h2
    obtain ⟨t3, h3, h⟩ := bnd_of h
    replace h := Option.some.inj h
    subst h
    exact run (n := 100) (f := 29) (args := [.lst false 3 a0]) (orc := [.lp [] [0, 2, 4, 5, 6] [0] (.exit 0) [(2, .ptr 0 0 0 0 0), (4, .d (I t1.1)), (5, .d (I t1.2))] [(0, .box (.d (.agg [I 0, I 0])))] 51, .br false, .ret (.agg [I t3.1, I t3.2])]) (r := .tup [.agg [I t3.1, I t3.2], I 0]) (ob := [Computes cx 79 [I t1.1, I t1.2] (.agg [I t3.1, I t3.2]), (t1.2 == 0) = false, LoopN cx (loopAt cx.P 29 0) 45 0 false [(0, .d (.lst false 3 a0)), (2, .ptr 0 0 0 0 0), (4, .d (I 0)), (5, .d (I 0)), (6, .d (I 0))] [(0, .box (.d (.agg [I 0, I 0])))] (.exit 0) [(2, .ptr 0 0 0 0 0), (4, .d (I t1.1)), (5, .d (I t1.2))] [(0, .box (.d (.agg [I 0, I 0])))]]) (by kernel_rfl) ⟨(c_ref01_Lowest h3), (eqf h2), (loopF_to R_ref04_Summed_L1 h1), trivial⟩
/- spillage/light.when: B true, I 3 -/
def F_light_when (n : Nat)  : Option (Int) :=
  some 3
theorem c_light_when {n : Nat}  {r : Int} (h : F_light_when n  = some r) : Computes cx 126 [B true, I 3] (I r) := by
  unfold F_light_when at h
  replace h := Option.some.inj h
  subst h
  exact run (n := 100) (f := 126) (args := [B true, I 3]) (orc := [.no]) (r := I 3) (ob := []) (by kernel_rfl) trivial
/- spillage/light.when: B a0, I a1 -/
def F_light_when_2 (n : Nat) (a0 : Bool) (a1 : Int) : Option (Int) :=
  if a0 = true then
    some a1
  else
  some 0
theorem c_light_when_2 {n : Nat} {a0 : Bool} {a1 : Int} {r : Int} (h : F_light_when_2 n a0 a1 = some r) : Computes cx 126 [B a0, I a1] (I r) := by
  unfold F_light_when_2 at h
  by_cases h1 : a0 = true
  · replace h := ite_t h h1
    replace h := Option.some.inj h
    subst h
    exact run (n := 100) (f := 126) (args := [B a0, I a1]) (orc := [.br true]) (r := I a1) (ob := [a0 = true]) (by kernel_rfl) ⟨h1, trivial⟩
  · replace h := ite_f h h1
    replace h := Option.some.inj h
    subst h
    exact run (n := 100) (f := 126) (args := [B a0, I a1]) (orc := [.br false]) (r := I 0) (ob := [a0 = false]) (by kernel_rfl) ⟨(bfalse h1), trivial⟩
/- spillage/light.within: I a0, I a1, I a2 -/
def F_light_within (n : Nat) (a0 : Int) (a1 : Int) (a2 : Int) : Option (Int) :=
  if a0 < a1 then
    (F_light_when n).bind fun t2 =>
    some t2
  else
  (F_light_when_2 n (decide (a0 > a2)) 3).bind fun t2 =>
  some t2
theorem c_light_within {n : Nat} {a0 : Int} {a1 : Int} {a2 : Int} {r : Int} (h : F_light_within n a0 a1 a2 = some r) : Computes cx 125 [I a0, I a1, I a2] (I r) := by
  unfold F_light_within at h
  by_cases h1 : a0 < a1
  · replace h := ite_t h h1
    obtain ⟨t2, h2, h⟩ := bnd_of h
    replace h := Option.some.inj h
    subst h
    exact run (n := 100) (f := 125) (args := [I a0, I a1, I a2]) (orc := [.br true, .ret (I t2)]) (r := I t2) (ob := [Computes cx 126 [B true, I 3] (I t2), (decide (a0 < a1)) = true]) (by kernel_rfl) ⟨(c_light_when h2), (decide_eq_true h1), trivial⟩
  · replace h := ite_f h h1
    obtain ⟨t2, h2, h⟩ := bnd_of h
    replace h := Option.some.inj h
    subst h
    exact run (n := 100) (f := 125) (args := [I a0, I a1, I a2]) (orc := [.br false, .ret (I t2)]) (r := I t2) (ob := [Computes cx 126 [B (decide (a0 > a2)), I 3] (I t2), (decide (a0 < a1)) = false]) (by kernel_rfl) ⟨(c_light_when_2 h2), (decide_eq_false h1), trivial⟩
def F_light_first_L1 (n : Nat) (a0 : List D) (sa : (Int)) : Option (((Int)) ⊕ ((Int) ⊕ (Unit))) :=
  if sa < ((a0).length : Int) then
    (el un_i a0 sa).bind fun ta2 =>
    if ta2 = 0 then
      if inI64 (sa + 1) then
      some (.inl (sa + 1))
      else none
    else
    some (.inr (.inl ta2))
  else
  some (.inr (.inr ()))
noncomputable def T_light_first_L1 (a0 : List D) (sa : (Int)) : List (Nat × AV) := [(5, .d (.lst false 1 a0)), (6, .d (I ((a0).length : Int))), (7, .d (I sa))]
noncomputable def H_light_first_L1 (a0 : List D) (sa : (Int)) : List (Nat × Blk) := []
noncomputable def X_light_first_L1 (a0 : List D) (e : (Int) ⊕ (Unit)) : Ex := match e with
  | (.inl e) => .ret
  | (.inr e) => (.exit 0)
noncomputable def XT_light_first_L1 (a0 : List D) (e : (Int) ⊕ (Unit)) : List (Nat × AV) := match e with
  | (.inl e) => [(2, .d (I e))]
  | (.inr e) => []
noncomputable def XH_light_first_L1 (a0 : List D) (e : (Int) ⊕ (Unit)) : List (Nat × Blk) := match e with
  | (.inl e) => []
  | (.inr e) => []
theorem R_light_first_L1 {n : Nat} {a0 : List D} (sa : (Int)) (r) (h : F_light_first_L1 n a0 sa = some r) : Rd cx (loopAt cx.P 124 0) 15 0 false (T_light_first_L1 a0) (H_light_first_L1 a0) (X_light_first_L1 a0) (XT_light_first_L1 a0) (XH_light_first_L1 a0) sa r := by
  unfold F_light_first_L1 at h
  by_cases ha1 : sa < ((a0).length : Int)
  · replace h := ite_t h ha1
    obtain ⟨ta2, ha2, h⟩ := bnd_of h
    by_cases ha3 : ta2 = 0
    · replace h := ite_t h ha3
      obtain ⟨ha4, h⟩ := grd_of h
      replace h := Option.some.inj h
      subst h
      exact ⟨100, 4, [.br true, .el (I ta2), .br false], [], [5, 6, 7], [], round_of (ob := [inI64 (sa + 1), (ta2 != 0) = false, (0 : Int) ≤ sa, nth (a0) (Int.toNat sa) = some (I ta2), (decide (sa < ((a0).length : Int))) = true]) (by kernel_rfl) ⟨ha4, (nef ha3), (el_ok un_i_ok ha2).1, (el_ok un_i_ok ha2).2, (decide_eq_true ha1), trivial⟩⟩
    · replace h := ite_f h ha3
      replace h := Option.some.inj h
      subst h
      exact ⟨⟨100, 4, [.br true, .el (I ta2), .br true], [], [2], [], round_of (ob := [(ta2 != 0) = true, (0 : Int) ≤ sa, nth (a0) (Int.toNat sa) = some (I ta2), (decide (sa < ((a0).length : Int))) = true]) (by kernel_rfl) ⟨(net ha3), (el_ok un_i_ok ha2).1, (el_ok un_i_ok ha2).2, (decide_eq_true ha1), trivial⟩⟩, nofun⟩
  · replace h := ite_f h ha1
    replace h := Option.some.inj h
    subst h
    exact ⟨⟨100, 4, [.br false], [], [], [], round_of (ob := [(decide (sa < ((a0).length : Int))) = false]) (by kernel_rfl) ⟨(decide_eq_false ha1), trivial⟩⟩, nofun⟩
/- spillage/light.first: .lst false 1 a0 -/
def F_light_first (n : Nat) (a0 : List D) : Option (Int) :=
  (loopF (F_light_first_L1 n a0) n 0).bind fun t1 => match t1 with
    | (.inl t1) => (
      some t1)
    | (.inr t1) => (
      some 0)
theorem c_light_first {n : Nat} {a0 : List D} {r : Int} (h : F_light_first n a0 = some r) : Computes cx 124 [.lst false 1 a0] (I r) := by
  unfold F_light_first at h
  obtain ⟨t1, h1, h⟩ := bnd_of h
  rcases t1 with t1 | t1
  · replace h := Option.some.inj h
    subst h
    exact run (n := 100) (f := 124) (args := [.lst false 1 a0]) (orc := [.lp [] [5, 6, 7] [] .ret [(2, .d (I t1))] [] 23]) (r := I t1) (ob := [LoopN cx (loopAt cx.P 124 0) 15 0 false [(5, .d (.lst false 1 a0)), (6, .d (I ((a0).length : Int))), (7, .d (I 0))] [] .ret [(2, .d (I t1))] []]) (by kernel_rfl) ⟨(loopF_to R_light_first_L1 h1), trivial⟩
  · replace h := Option.some.inj h
    subst h
    exact run (n := 100) (f := 124) (args := [.lst false 1 a0]) (orc := [.lp [] [5, 6, 7] [] (.exit 0) [] [] 23]) (r := I 0) (ob := [LoopN cx (loopAt cx.P 124 0) 15 0 false [(5, .d (.lst false 1 a0)), (6, .d (I ((a0).length : Int))), (7, .d (I 0))] [] (.exit 0) [] []]) (by kernel_rfl) ⟨(loopF_to R_light_first_L1 h1), trivial⟩
def F_light_CheckRatio_L1 (n : Nat)  (sa : (Int × Int)) : Option (((Int × Int)) ⊕ ((Int))) :=
  if sa.2 = 0 then
    some (.inr sa.1)
  else
  if sa.2 ≠ 0 then
  some (.inl (sa.2, (Int.tmod sa.1 sa.2)))
  else none
noncomputable def T_light_CheckRatio_L1  (sa : (Int × Int)) : List (Nat × AV) := [(4, .d (I sa.1)), (5, .d (I sa.2))]
noncomputable def H_light_CheckRatio_L1  (sa : (Int × Int)) : List (Nat × Blk) := []
noncomputable def X_light_CheckRatio_L1  (e : (Int)) : Ex := (.exit 0)
noncomputable def XT_light_CheckRatio_L1  (e : (Int)) : List (Nat × AV) := [(4, .d (I e))]
noncomputable def XH_light_CheckRatio_L1  (e : (Int)) : List (Nat × Blk) := []
theorem R_light_CheckRatio_L1 {n : Nat}  (sa : (Int × Int)) (r) (h : F_light_CheckRatio_L1 n  sa = some r) : Rd cx (loopAt cx.P 88 0) 34 0 false (T_light_CheckRatio_L1 ) (H_light_CheckRatio_L1 ) (X_light_CheckRatio_L1 ) (XT_light_CheckRatio_L1 ) (XH_light_CheckRatio_L1 ) sa r := by
  unfold F_light_CheckRatio_L1 at h
  by_cases ha1 : sa.2 = 0
  · replace h := ite_t h ha1
    replace h := Option.some.inj h
    subst h
    exact ⟨⟨100, 23, [.br false], [], [4], [], round_of (ob := [(sa.2 != 0) = false]) (by kernel_rfl) ⟨(nef ha1), trivial⟩⟩, nofun⟩
  · replace h := ite_f h ha1
    obtain ⟨ha2, h⟩ := grd_of h
    replace h := Option.some.inj h
    subst h
    exact ⟨100, 23, [.br true], [], [4, 5], [], round_of (ob := [sa.2 ≠ 0, (sa.2 != 0) = true]) (by kernel_rfl) ⟨ha2, (net ha1), trivial⟩⟩
/- spillage/light.CheckRatio: .agg [I a0, I a1] -/
def F_light_CheckRatio (n : Nat) (a0 : Int) (a1 : Int) : Option (Int) :=
  (F_light_within n a0 (-999999999) 999999999).bind fun t1 =>
  (F_light_within n a1 1 999999999).bind fun t2 =>
  (F_light_first n ([I t1, I t2])).bind fun t3 =>
  if t3 = 0 then
    (loopF (F_light_CheckRatio_L1 n) n ((maxI a0 (IntKind.wrap .i64 (0 - a0))), a1)).bind fun t5 =>
    (F_light_when_2 n (t5 != 1) 1).bind fun t6 =>
    some t6
  else
  some t3
theorem c_light_CheckRatio {n : Nat} {a0 : Int} {a1 : Int} {r : Int} (h : F_light_CheckRatio n a0 a1 = some r) : Computes cx 88 [.agg [I a0, I a1]] (I r) := by
  unfold F_light_CheckRatio at h
  obtain ⟨t1, h1, h⟩ := bnd_of h
  obtain ⟨t2, h2, h⟩ := bnd_of h
  obtain ⟨t3, h3, h⟩ := bnd_of h
  by_cases h4 : t3 = 0
  · replace h := ite_t h h4
    obtain ⟨t5, h5, h⟩ := bnd_of h
    obtain ⟨t6, h6, h⟩ := bnd_of h
    replace h := Option.some.inj h
    subst h
    exact run (n := 100) (f := 88) (args := [.agg [I a0, I a1]]) (orc := [.ret (I t1), .ret (I t2), .ret (I t3), .br false, .lp [] [] [] .ret [] [] 0, .lp [] [4, 5] [] (.exit 0) [(4, .d (I t5))] [] 42, .ret (I t6)]) (r := I t6) (ob := [Computes cx 126 [B (t5 != 1), I 1] (I t6), LoopN cx (loopAt cx.P 88 0) 34 0 false [(4, .d (I (maxI a0 (IntKind.wrap .i64 (0 - a0))))), (5, .d (I a1))] [] (.exit 0) [(4, .d (I t5))] [], (t3 != 0) = false, Computes cx 124 [.lst true 1 [I t1, I t2]] (I t3), Computes cx 125 [I a1, I 1, I 999999999] (I t2), Computes cx 125 [I a0, I (-999999999), I 999999999] (I t1)]) (by kernel_rfl) ⟨(c_light_when_2 h6), (loopF_to R_light_CheckRatio_L1 h5), (nef h4), ((c_light_first h3).le (.cons (.full _ _ _) (.nil)) (.refl _)), (c_light_within h2), (c_light_within h1), trivial⟩
  · replace h := ite_f h h4
    replace h := Option.some.inj h
    subst h
    exact run (n := 100) (f := 88) (args := [.agg [I a0, I a1]]) (orc := [.ret (I t1), .ret (I t2), .ret (I t3), .br true]) (r := I t3) (ob := [(t3 != 0) = true, Computes cx 124 [.lst true 1 [I t1, I t2]] (I t3), Computes cx 125 [I a1, I 1, I 999999999] (I t2), Computes cx 125 [I a0, I (-999999999), I 999999999] (I t1)]) (by kernel_rfl) ⟨(net h4), ((c_light_first h3).le (.cons (.full _ _ _) (.nil)) (.refl _)), (c_light_within h2), (c_light_within h1), trivial⟩
def F_field_Efficiency_2_L1 (n : Nat) (a0 : List D) (sa : (Int × Int × Int)) : Option (((Int × Int × Int)) ⊕ ((Int) ⊕ (Int × Int))) :=
  if sa.2.2 < ((a0).length : Int) then
    (el un_Ai2Z a0 sa.2.2).bind fun ta2 =>
    (F_light_CheckRatio n ta2.1 ta2.2).bind fun ta3 =>
    if ta2.1 < 0 then
      (F_field_when_2 n).bind fun ta5 =>
      (F_field_first n ([I ta3, I ta5])).bind fun ta6 =>
      if ta6 = 0 then
        if inI64 (sa.1 * ta2.1) then
        if inI64 (sa.2.1 * ta2.2) then
        if inI64 (sa.2.2 + 1) then
        some (.inl ((sa.1 * ta2.1), (sa.2.1 * ta2.2), (sa.2.2 + 1)))
        else none
        else none
        else none
      else
      some (.inr (.inl ta6))
    else
    if ta2.1 > ta2.2 then
      (F_field_when_2 n).bind fun ta6 =>
      (F_field_first n ([I ta3, I ta6])).bind fun ta7 =>
      if ta7 = 0 then
        if inI64 (sa.1 * ta2.1) then
        if inI64 (sa.2.1 * ta2.2) then
        if inI64 (sa.2.2 + 1) then
        some (.inl ((sa.1 * ta2.1), (sa.2.1 * ta2.2), (sa.2.2 + 1)))
        else none
        else none
        else none
      else
      some (.inr (.inl ta7))
    else
    (F_field_when n (decide (ta2.2 > 1000)) 3).bind fun ta6 =>
    (F_field_first n ([I ta3, I ta6])).bind fun ta7 =>
    if ta7 = 0 then
      if inI64 (sa.1 * ta2.1) then
      if inI64 (sa.2.1 * ta2.2) then
      if inI64 (sa.2.2 + 1) then
      some (.inl ((sa.1 * ta2.1), (sa.2.1 * ta2.2), (sa.2.2 + 1)))
      else none
      else none
      else none
    else
    some (.inr (.inl ta7))
  else
  some (.inr (.inr (sa.1, sa.2.1)))
noncomputable def T_field_Efficiency_2_L1 (a0 : List D) (sa : (Int × Int × Int)) : List (Nat × AV) := [(2, .ptr 0 0 0 0 0), (4, .d (I sa.1)), (5, .d (I sa.2.1)), (13, .d (.lst false 2 a0)), (14, .d (I ((a0).length : Int))), (15, .d (I sa.2.2))]
noncomputable def H_field_Efficiency_2_L1 (a0 : List D) (sa : (Int × Int × Int)) : List (Nat × Blk) := [(0, .box (.d (.agg [I 0, I 0])))]
noncomputable def X_field_Efficiency_2_L1 (a0 : List D) (e : (Int) ⊕ (Int × Int)) : Ex := match e with
  | (.inl e) => .ret
  | (.inr e) => (.exit 0)
noncomputable def XT_field_Efficiency_2_L1 (a0 : List D) (e : (Int) ⊕ (Int × Int)) : List (Nat × AV) := match e with
  | (.inl e) => [(2, .ptr 0 0 0 0 0), (3, .d (I e))]
  | (.inr e) => [(2, .ptr 0 0 0 0 0), (4, .d (I e.1)), (5, .d (I e.2))]
noncomputable def XH_field_Efficiency_2_L1 (a0 : List D) (e : (Int) ⊕ (Int × Int)) : List (Nat × Blk) := match e with
  | (.inl e) => [(0, .box (.d (.agg [I 0, I 0])))]
  | (.inr e) => [(0, .box (.d (.agg [I 0, I 0])))]
theorem R_field_Efficiency_2_L1 {n : Nat} {a0 : List D} (sa : (Int × Int × Int)) (r) (h : F_field_Efficiency_2_L1 n a0 sa = some r) : Rd cx (loopAt cx.P 24 0) 55 0 false (T_field_Efficiency_2_L1 a0) (H_field_Efficiency_2_L1 a0) (X_field_Efficiency_2_L1 a0) (XT_field_Efficiency_2_L1 a0) (XH_field_Efficiency_2_L1 a0) sa r := by
  unfold F_field_Efficiency_2_L1 at h
  by_cases ha1 : sa.2.2 < ((a0).length : Int)
  · replace h := ite_t h ha1
    obtain ⟨ta2, ha2, h⟩ := bnd_of h
    obtain ⟨ta3, ha3, h⟩ := bnd_of h
    by_cases ha4 : ta2.1 < 0
    · replace h := ite_t h ha4
      obtain ⟨ta5, ha5, h⟩ := bnd_of h
      obtain ⟨ta6, ha6, h⟩ := bnd_of h
      by_cases ha7 : ta6 = 0
      · replace h := ite_t h ha7
        obtain ⟨ha8, h⟩ := grd_of h
        obtain ⟨ha9, h⟩ := grd_of h
        obtain ⟨ha10, h⟩ := grd_of h
        replace h := Option.some.inj h
        subst h
        exact ⟨100, 10, [.br true, .el (.agg [I ta2.1, I ta2.2]), .ret (I ta3), .br true, .no, .ret (I ta5), .ret (I ta6), .br false], [], [2, 4, 5, 13, 14, 15], [0], round_of (ob := [inI64 (sa.2.2 + 1), inI64 (sa.2.1 * ta2.2), inI64 (sa.1 * ta2.1), (ta6 != 0) = false, Computes cx 62 [.lst true 1 [I ta3, I ta5]] (I ta6), Computes cx 69 [B true, I 3] (I ta5), (decide (ta2.1 < 0)) = true, Computes cx 88 [.agg [I ta2.1, I ta2.2]] (I ta3), (0 : Int) ≤ sa.2.2, nth (a0) (Int.toNat sa.2.2) = some (.agg [I ta2.1, I ta2.2]), (decide (sa.2.2 < ((a0).length : Int))) = true]) (by kernel_rfl) ⟨ha10, ha9, ha8, (nef ha7), ((c_field_first ha6).le (.cons (.full _ _ _) (.nil)) (.refl _)), (c_field_when_2 ha5), (decide_eq_true ha4), (c_light_CheckRatio ha3), (el_ok un_Ai2Z_ok ha2).1, (el_ok un_Ai2Z_ok ha2).2, (decide_eq_true ha1), trivial⟩⟩
      · replace h := ite_f h ha7
        replace h := Option.some.inj h
        subst h
        exact ⟨⟨100, 10, [.br true, .el (.agg [I ta2.1, I ta2.2]), .ret (I ta3), .br true, .no, .ret (I ta5), .ret (I ta6), .br true], [], [2, 3], [0], round_of (ob := [(ta6 != 0) = true, Computes cx 62 [.lst true 1 [I ta3, I ta5]] (I ta6), Computes cx 69 [B true, I 3] (I ta5), (decide (ta2.1 < 0)) = true, Computes cx 88 [.agg [I ta2.1, I ta2.2]] (I ta3), (0 : Int) ≤ sa.2.2, nth (a0) (Int.toNat sa.2.2) = some (.agg [I ta2.1, I ta2.2]), (decide (sa.2.2 < ((a0).length : Int))) = true]) (by kernel_rfl) ⟨(net ha7), ((c_field_first ha6).le (.cons (.full _ _ _) (.nil)) (.refl _)), (c_field_when_2 ha5), (decide_eq_true ha4), (c_light_CheckRatio ha3), (el_ok un_Ai2Z_ok ha2).1, (el_ok un_Ai2Z_ok ha2).2, (decide_eq_true ha1), trivial⟩⟩, nofun⟩
    · replace h := ite_f h ha4
      by_cases ha5 : ta2.1 > ta2.2
      · replace h := ite_t h ha5
        obtain ⟨ta6, ha6, h⟩ := bnd_of h
        obtain ⟨ta7, ha7, h⟩ := bnd_of h
        by_cases ha8 : ta7 = 0
        · replace h := ite_t h ha8
          obtain ⟨ha9, h⟩ := grd_of h
          obtain ⟨ha10, h⟩ := grd_of h
          obtain ⟨ha11, h⟩ := grd_of h
          replace h := Option.some.inj h
          subst h
          exact ⟨100, 10, [.br true, .el (.agg [I ta2.1, I ta2.2]), .ret (I ta3), .br false, .br true, .ret (I ta6), .ret (I ta7), .br false], [], [2, 4, 5, 13, 14, 15], [0], round_of (ob := [inI64 (sa.2.2 + 1), inI64 (sa.2.1 * ta2.2), inI64 (sa.1 * ta2.1), (ta7 != 0) = false, Computes cx 62 [.lst true 1 [I ta3, I ta6]] (I ta7), Computes cx 69 [B true, I 3] (I ta6), (decide (ta2.1 > ta2.2)) = true, (decide (ta2.1 < 0)) = false, Computes cx 88 [.agg [I ta2.1, I ta2.2]] (I ta3), (0 : Int) ≤ sa.2.2, nth (a0) (Int.toNat sa.2.2) = some (.agg [I ta2.1, I ta2.2]), (decide (sa.2.2 < ((a0).length : Int))) = true]) (by kernel_rfl) ⟨ha11, ha10, ha9, (nef ha8), ((c_field_first ha7).le (.cons (.full _ _ _) (.nil)) (.refl _)), (c_field_when_2 ha6), (decide_eq_true ha5), (decide_eq_false ha4), (c_light_CheckRatio ha3), (el_ok un_Ai2Z_ok ha2).1, (el_ok un_Ai2Z_ok ha2).2, (decide_eq_true ha1), trivial⟩⟩
        · replace h := ite_f h ha8
          replace h := Option.some.inj h
          subst h
          exact ⟨⟨100, 10, [.br true, .el (.agg [I ta2.1, I ta2.2]), .ret (I ta3), .br false, .br true, .ret (I ta6), .ret (I ta7), .br true], [], [2, 3], [0], round_of (ob := [(ta7 != 0) = true, Computes cx 62 [.lst true 1 [I ta3, I ta6]] (I ta7), Computes cx 69 [B true, I 3] (I ta6), (decide (ta2.1 > ta2.2)) = true, (decide (ta2.1 < 0)) = false, Computes cx 88 [.agg [I ta2.1, I ta2.2]] (I ta3), (0 : Int) ≤ sa.2.2, nth (a0) (Int.toNat sa.2.2) = some (.agg [I ta2.1, I ta2.2]), (decide (sa.2.2 < ((a0).length : Int))) = true]) (by kernel_rfl) ⟨(net ha8), ((c_field_first ha7).le (.cons (.full _ _ _) (.nil)) (.refl _)), (c_field_when_2 ha6), (decide_eq_true ha5), (decide_eq_false ha4), (c_light_CheckRatio ha3), (el_ok un_Ai2Z_ok ha2).1, (el_ok un_Ai2Z_ok ha2).2, (decide_eq_true ha1), trivial⟩⟩, nofun⟩
      · replace h := ite_f h ha5
        obtain ⟨ta6, ha6, h⟩ := bnd_of h
        obtain ⟨ta7, ha7, h⟩ := bnd_of h
        by_cases ha8 : ta7 = 0
        · replace h := ite_t h ha8
          obtain ⟨ha9, h⟩ := grd_of h
          obtain ⟨ha10, h⟩ := grd_of h
          obtain ⟨ha11, h⟩ := grd_of h
          replace h := Option.some.inj h
          subst h
          exact ⟨100, 10, [.br true, .el (.agg [I ta2.1, I ta2.2]), .ret (I ta3), .br false, .br false, .ret (I ta6), .ret (I ta7), .br false], [], [2, 4, 5, 13, 14, 15], [0], round_of (ob := [inI64 (sa.2.2 + 1), inI64 (sa.2.1 * ta2.2), inI64 (sa.1 * ta2.1), (ta7 != 0) = false, Computes cx 62 [.lst true 1 [I ta3, I ta6]] (I ta7), Computes cx 69 [B (decide (ta2.2 > 1000)), I 3] (I ta6), (decide (ta2.1 > ta2.2)) = false, (decide (ta2.1 < 0)) = false, Computes cx 88 [.agg [I ta2.1, I ta2.2]] (I ta3), (0 : Int) ≤ sa.2.2, nth (a0) (Int.toNat sa.2.2) = some (.agg [I ta2.1, I ta2.2]), (decide (sa.2.2 < ((a0).length : Int))) = true]) (by kernel_rfl) ⟨ha11, ha10, ha9, (nef ha8), ((c_field_first ha7).le (.cons (.full _ _ _) (.nil)) (.refl _)), (c_field_when ha6), (decide_eq_false ha5), (decide_eq_false ha4), (c_light_CheckRatio ha3), (el_ok un_Ai2Z_ok ha2).1, (el_ok un_Ai2Z_ok ha2).2, (decide_eq_true ha1), trivial⟩⟩
        · replace h := ite_f h ha8
          replace h := Option.some.inj h
          subst h
          exact ⟨⟨100, 10, [.br true, .el (.agg [I ta2.1, I ta2.2]), .ret (I ta3), .br false, .br false, .ret (I ta6), .ret (I ta7), .br true], [], [2, 3], [0], round_of (ob := [(ta7 != 0) = true, Computes cx 62 [.lst true 1 [I ta3, I ta6]] (I ta7), Computes cx 69 [B (decide (ta2.2 > 1000)), I 3] (I ta6), (decide (ta2.1 > ta2.2)) = false, (decide (ta2.1 < 0)) = false, Computes cx 88 [.agg [I ta2.1, I ta2.2]] (I ta3), (0 : Int) ≤ sa.2.2, nth (a0) (Int.toNat sa.2.2) = some (.agg [I ta2.1, I ta2.2]), (decide (sa.2.2 < ((a0).length : Int))) = true]) (by kernel_rfl) ⟨(net ha8), ((c_field_first ha7).le (.cons (.full _ _ _) (.nil)) (.refl _)), (c_field_when ha6), (decide_eq_false ha5), (decide_eq_false ha4), (c_light_CheckRatio ha3), (el_ok un_Ai2Z_ok ha2).1, (el_ok un_Ai2Z_ok ha2).2, (decide_eq_true ha1), trivial⟩⟩, nofun⟩
  · replace h := ite_f h ha1
    replace h := Option.some.inj h
    subst h
    exact ⟨⟨100, 10, [.br false], [], [2, 4, 5], [0], round_of (ob := [(decide (sa.2.2 < ((a0).length : Int))) = false]) (by kernel_rfl) ⟨(decide_eq_false ha1), trivial⟩⟩, nofun⟩
/- spillage/field.Efficiency: .lst false 2 a0 -/
def F_field_Efficiency_2 (n : Nat) (a0 : List D) : Option (Int × Int × Int) :=
  if ((a0).length : Int) > 6 then
    some (0, 0, 5)
  else
  (loopF (F_field_Efficiency_2_L1 n a0) n (1, 1, 0)).bind fun t2 => match t2 with
    | (.inl t2) => (
      some (0, 0, t2))
    | (.inr t2) => (
      (F_field_lowest n t2.1 t2.2).bind fun t3 =>
      some (t3.1, t3.2, 0))
theorem c_field_Efficiency_2 {n : Nat} {a0 : List D} {r : Int × Int × Int} (h : F_field_Efficiency_2 n a0 = some r) : Computes cx 24 [.lst false 2 a0] (.tup [.agg [I r.1, I r.2.1], I r.2.2]) := by
  unfold F_field_Efficiency_2 at h
  by_cases h1 : ((a0).length : Int) > 6
  · replace h := ite_t h h1
    replace h := Option.some.inj h
    subst h
    exact run (n := 100) (f := 24) (args := [.lst false 2 a0]) (orc := [.br true]) (r := .tup [.agg [I 0, I 0], I 5]) (ob := [(decide (((a0).length : Int) > 6)) = true]) (by kernel_rfl) ⟨(decide_eq_true h1), trivial⟩
  · replace h := ite_f h h1
    obtain ⟨t2, h2, h⟩ := bnd_of h
    rcases t2 with t2 | t2
    · replace h := Option.some.inj h
      subst h
      exact run (n := 100) (f := 24) (args := [.lst false 2 a0]) (orc := [.br false, .lp [] [2, 4, 5, 13, 14, 15] [0] .ret [(2, .ptr 0 0 0 0 0), (3, .d (I t2))] [(0, .box (.d (.agg [I 0, I 0])))] 61]) (r := .tup [.agg [I 0, I 0], I t2]) (ob := [LoopN cx (loopAt cx.P 24 0) 55 0 false [(2, .ptr 0 0 0 0 0), (4, .d (I 1)), (5, .d (I 1)), (13, .d (.lst false 2 a0)), (14, .d (I ((a0).length : Int))), (15, .d (I 0))] [(0, .box (.d (.agg [I 0, I 0])))] .ret [(2, .ptr 0 0 0 0 0), (3, .d (I t2))] [(0, .box (.d (.agg [I 0, I 0])))], (decide (((a0).length : Int) > 6)) = false]) (by kernel_rfl) ⟨(loopF_to R_field_Efficiency_2_L1 h2), (decide_eq_false h1), trivial⟩
    · obtain ⟨t3, h3, h⟩ := bnd_of h
      replace h := Option.some.inj h
      subst h
      exact run (n := 100) (f := 24) (args := [.lst false 2 a0]) (orc := [.br false, .lp [] [2, 4, 5, 13, 14, 15] [0] (.exit 0) [(2, .ptr 0 0 0 0 0), (4, .d (I t2.1)), (5, .d (I t2.2))] [(0, .box (.d (.agg [I 0, I 0])))] 61, .ret (.agg [I t3.1, I t3.2])]) (r := .tup [.agg [I t3.1, I t3.2], I 0]) (ob := [Computes cx 68 [I t2.1, I t2.2] (.agg [I t3.1, I t3.2]), LoopN cx (loopAt cx.P 24 0) 55 0 false [(2, .ptr 0 0 0 0 0), (4, .d (I 1)), (5, .d (I 1)), (13, .d (.lst false 2 a0)), (14, .d (I ((a0).length : Int))), (15, .d (I 0))] [(0, .box (.d (.agg [I 0, I 0])))] (.exit 0) [(2, .ptr 0 0 0 0 0), (4, .d (I t2.1)), (5, .d (I t2.2))] [(0, .box (.d (.agg [I 0, I 0])))], (decide (((a0).length : Int) > 6)) = false]) (by kernel_rfl) ⟨(c_field_lowest h3), (loopF_to R_field_Efficiency_2_L1 h2), (decide_eq_false h1), trivial⟩
def F_law04_FieldShares_L1 (n : Nat) (a0 : List D) (a1 : List D) (sa : (Int × List D)) : Option (((Int × List D)) ⊕ ((List D))) :=
  if sa.1 < ((a1).length : Int) then
    (el un_Ai3Z a1 sa.1).bind fun ta2 =>
    if roomP 24 ((sa.2).length + 1) then
    if inI64 (sa.1 + 1) then
    some (.inl ((sa.1 + 1), (sa.2 ++ ([.agg [I ta2.1, I ta2.2.1, I ta2.2.2]] : List D))))
    else none
    else none
  else
  some (.inr sa.2)
noncomputable def T_law04_FieldShares_L1 (a0 : List D) (a1 : List D) (sa : (Int × List D)) : List (Nat × AV) := [(0, .d (.lst false 2 a0)), (1, .d (.lst false 3 a1)), (5, .own 22 0), (34, .d (.lst false 3 a1)), (35, .d (I ((a1).length : Int))), (36, .d (I sa.1))]
noncomputable def H_law04_FieldShares_L1 (a0 : List D) (a1 : List D) (sa : (Int × List D)) : List (Nat × Blk) := [(22, .row 0 3 sa.2)]
noncomputable def X_law04_FieldShares_L1 (a0 : List D) (a1 : List D) (e : (List D)) : Ex := (.exit 0)
noncomputable def XT_law04_FieldShares_L1 (a0 : List D) (a1 : List D) (e : (List D)) : List (Nat × AV) := [(0, .d (.lst false 2 a0)), (1, .d (.lst false 3 a1)), (5, .own 22 0)]
noncomputable def XH_law04_FieldShares_L1 (a0 : List D) (a1 : List D) (e : (List D)) : List (Nat × Blk) := [(22, .row 0 3 e)]
theorem R_law04_FieldShares_L1 {n : Nat} {a0 : List D} {a1 : List D} (sa : (Int × List D)) (r) (h : F_law04_FieldShares_L1 n a0 a1 sa = some r) : Rd cx (loopAt cx.P 5 0) 90 0 false (T_law04_FieldShares_L1 a0 a1) (H_law04_FieldShares_L1 a0 a1) (X_law04_FieldShares_L1 a0 a1) (XT_law04_FieldShares_L1 a0 a1) (XH_law04_FieldShares_L1 a0 a1) sa r := by
  unfold F_law04_FieldShares_L1 at h
  by_cases ha1 : sa.1 < ((a1).length : Int)
  · replace h := ite_t h ha1
    obtain ⟨ta2, ha2, h⟩ := bnd_of h
    obtain ⟨ha3, h⟩ := grd_of h
    obtain ⟨ha4, h⟩ := grd_of h
    replace h := Option.some.inj h
    subst h
    exact ⟨100, 23, [.br true, .el (.agg [I ta2.1, I ta2.2.1, I ta2.2.2]), .br true], [], [0, 1, 5, 34, 35, 36], [22], round_of (ob := [inI64 (sa.1 + 1), room cx 60 ((sa.2).length + 1), (0 : Int) ≤ sa.1, nth (a1) (Int.toNat sa.1) = some (.agg [I ta2.1, I ta2.2.1, I ta2.2.2]), (decide (sa.1 < ((a1).length : Int))) = true]) (by kernel_rfl) ⟨ha4, (room_of (b := 24) (by kernel_rfl) (by decide) ha3), (el_ok un_Ai3Z_ok ha2).1, (el_ok un_Ai3Z_ok ha2).2, (decide_eq_true ha1), trivial⟩⟩
  · replace h := ite_f h ha1
    replace h := Option.some.inj h
    subst h
    exact ⟨⟨100, 23, [.br false], [], [0, 1, 5], [22], round_of (ob := [(decide (sa.1 < ((a1).length : Int))) = false]) (by kernel_rfl) ⟨(decide_eq_false ha1), trivial⟩⟩, nofun⟩
theorem e_law04_FieldShares_0 (a0 : List D) (a1 : List D) (t1 : Bool) : runFn true 100 cx 5 [.lst false 2 a0, .lst false 3 a1] [.ret (B t1), .br false, .br true, .no, .ret (B t1)] = some (B t1, [Computes cx 8 [] (B t1), (decide (((a0).length : Int) > 8)) = true, (!t1) = false, Computes cx 8 [] (B t1)]) := by kernel_rfl
theorem e_law04_FieldShares_1 (a0 : List D) (a1 : List D) (t1 : Bool) (t6 : List D) (t9 : Int × Int × Int) (t10 : Int × Int × Int) (t11 : Int) (t12 : Int) (t14 : Int × Int) (t16 : Int × Int × Int) : runFn true 100 cx 5 [.lst false 2 a0, .lst false 3 a1] [.ret (B t1), .br false, .br false, .br true, .br false, .lp [5, 3] [0, 1, 5, 34, 35, 36] [22] (.exit 0) [(0, .d (.lst false 2 a0)), (1, .d (.lst false 3 a1)), (5, .own 22 0)] [(22, .row 0 3 t6)] 46, .br true, .br true, .ret (.tup [.agg [I t9.1, I t9.2.1], I t9.2.2]), .ret (.tup [.agg [I t10.1, I t10.2.1], I t10.2.2]), .ret (I t11), .ret (I t12), .br true, .ret (.agg [I t14.1, I t14.2]), .br true, .ret (.tup [.agg [I t16.1, I t16.2.1], I t16.2.2]), .br true, .br true, .br true] = some (B (t10.2.2 == t16.2.2), [((t10.1 == t16.1) && ((t10.2.1 == t16.2.1) && true)) = true, (t9.2.2 == t11) = true, ((t9.1 == t14.1) && ((t9.2.1 == t14.2) && true)) = true, Computes cx 29 [.lst false 3 a1] (.tup [.agg [I t16.1, I t16.2.1], I t16.2.2]), (t12 == 0) = true, Computes cx 28 [.lst false 2 a0] (.agg [I t14.1, I t14.2]), (t11 == 0) = true, Computes cx 27 [.lst false 3 a1] (I t12), Computes cx 26 [.lst false 2 a0] (I t11), Computes cx 25 [.lst false 3 t6] (.tup [.agg [I t10.1, I t10.2.1], I t10.2.2]), Computes cx 24 [.lst false 2 []] (.tup [.agg [I t9.1, I t9.2.1], I t9.2.2]), isNilL a0 = true, room cx 29 (0 + (a0).length), LoopN cx (loopAt cx.P 5 0) 90 0 false [(0, .d (.lst false 2 a0)), (1, .d (.lst false 3 a1)), (5, .own 22 0), (34, .d (.lst false 3 a1)), (35, .d (I ((a1).length : Int))), (36, .d (I 0))] [(22, .row 0 3 [])] (.exit 0) [(0, .d (.lst false 2 a0)), (1, .d (.lst false 3 a1)), (5, .own 22 0)] [(22, .row 0 3 t6)], (((a1).length : Int) != 257) = false, (decide (((a1).length : Int) > 12)) = true, (decide (((a0).length : Int) > 8)) = false, (!t1) = false, Computes cx 8 [] (B t1)]) := by kernel_rfl
theorem e_law04_FieldShares_5 (a0 : List D) (a1 : List D) (t1 : Bool) (t6 : List D) (t9 : Int × Int × Int) (t10 : Int × Int × Int) (t11 : Int) (t12 : Int) (t14 : Int × Int) : runFn true 100 cx 5 [.lst false 2 a0, .lst false 3 a1] [.ret (B t1), .br false, .br false, .br true, .br false, .lp [5, 3] [0, 1, 5, 34, 35, 36] [22] (.exit 0) [(0, .d (.lst false 2 a0)), (1, .d (.lst false 3 a1)), (5, .own 22 0)] [(22, .row 0 3 t6)] 46, .br true, .br true, .ret (.tup [.agg [I t9.1, I t9.2.1], I t9.2.2]), .ret (.tup [.agg [I t10.1, I t10.2.1], I t10.2.2]), .ret (I t11), .ret (I t12), .br true, .ret (.agg [I t14.1, I t14.2]), .br false, .br true, .br true, .br true] = some (B (t10.2.2 == t12), [((t10.1 == 0) && ((t10.2.1 == 0) && true)) = true, (t9.2.2 == t11) = true, ((t9.1 == t14.1) && ((t9.2.1 == t14.2) && true)) = true, (t12 == 0) = false, Computes cx 28 [.lst false 2 a0] (.agg [I t14.1, I t14.2]), (t11 == 0) = true, Computes cx 27 [.lst false 3 a1] (I t12), Computes cx 26 [.lst false 2 a0] (I t11), Computes cx 25 [.lst false 3 t6] (.tup [.agg [I t10.1, I t10.2.1], I t10.2.2]), Computes cx 24 [.lst false 2 []] (.tup [.agg [I t9.1, I t9.2.1], I t9.2.2]), isNilL a0 = true, room cx 29 (0 + (a0).length), LoopN cx (loopAt cx.P 5 0) 90 0 false [(0, .d (.lst false 2 a0)), (1, .d (.lst false 3 a1)), (5, .own 22 0), (34, .d (.lst false 3 a1)), (35, .d (I ((a1).length : Int))), (36, .d (I 0))] [(22, .row 0 3 [])] (.exit 0) [(0, .d (.lst false 2 a0)), (1, .d (.lst false 3 a1)), (5, .own 22 0)] [(22, .row 0 3 t6)], (((a1).length : Int) != 257) = false, (decide (((a1).length : Int) > 12)) = true, (decide (((a0).length : Int) > 8)) = false, (!t1) = false, Computes cx 8 [] (B t1)]) := by kernel_rfl
theorem e_law04_FieldShares_9 (a0 : List D) (a1 : List D) (t1 : Bool) (t6 : List D) (t9 : Int × Int × Int) (t10 : Int × Int × Int) (t11 : Int) (t12 : Int) (t15 : Int × Int × Int) : runFn true 100 cx 5 [.lst false 2 a0, .lst false 3 a1] [.ret (B t1), .br false, .br false, .br true, .br false, .lp [5, 3] [0, 1, 5, 34, 35, 36] [22] (.exit 0) [(0, .d (.lst false 2 a0)), (1, .d (.lst false 3 a1)), (5, .own 22 0)] [(22, .row 0 3 t6)] 46, .br true, .br true, .ret (.tup [.agg [I t9.1, I t9.2.1], I t9.2.2]), .ret (.tup [.agg [I t10.1, I t10.2.1], I t10.2.2]), .ret (I t11), .ret (I t12), .br false, .br true, .ret (.tup [.agg [I t15.1, I t15.2.1], I t15.2.2]), .br true, .br true, .br true] = some (B (t10.2.2 == t15.2.2), [((t10.1 == t15.1) && ((t10.2.1 == t15.2.1) && true)) = true, (t9.2.2 == t11) = true, ((t9.1 == 0) && ((t9.2.1 == 0) && true)) = true, Computes cx 29 [.lst false 3 a1] (.tup [.agg [I t15.1, I t15.2.1], I t15.2.2]), (t12 == 0) = true, (t11 == 0) = false, Computes cx 27 [.lst false 3 a1] (I t12), Computes cx 26 [.lst false 2 a0] (I t11), Computes cx 25 [.lst false 3 t6] (.tup [.agg [I t10.1, I t10.2.1], I t10.2.2]), Computes cx 24 [.lst false 2 []] (.tup [.agg [I t9.1, I t9.2.1], I t9.2.2]), isNilL a0 = true, room cx 29 (0 + (a0).length), LoopN cx (loopAt cx.P 5 0) 90 0 false [(0, .d (.lst false 2 a0)), (1, .d (.lst false 3 a1)), (5, .own 22 0), (34, .d (.lst false 3 a1)), (35, .d (I ((a1).length : Int))), (36, .d (I 0))] [(22, .row 0 3 [])] (.exit 0) [(0, .d (.lst false 2 a0)), (1, .d (.lst false 3 a1)), (5, .own 22 0)] [(22, .row 0 3 t6)], (((a1).length : Int) != 257) = false, (decide (((a1).length : Int) > 12)) = true, (decide (((a0).length : Int) > 8)) = false, (!t1) = false, Computes cx 8 [] (B t1)]) := by kernel_rfl
theorem e_law04_FieldShares_13 (a0 : List D) (a1 : List D) (t1 : Bool) (t6 : List D) (t9 : Int × Int × Int) (t10 : Int × Int × Int) (t11 : Int) (t12 : Int) : runFn true 100 cx 5 [.lst false 2 a0, .lst false 3 a1] [.ret (B t1), .br false, .br false, .br true, .br false, .lp [5, 3] [0, 1, 5, 34, 35, 36] [22] (.exit 0) [(0, .d (.lst false 2 a0)), (1, .d (.lst false 3 a1)), (5, .own 22 0)] [(22, .row 0 3 t6)] 46, .br true, .br true, .ret (.tup [.agg [I t9.1, I t9.2.1], I t9.2.2]), .ret (.tup [.agg [I t10.1, I t10.2.1], I t10.2.2]), .ret (I t11), .ret (I t12), .br false, .br false, .br true, .br true, .br true] = some (B (t10.2.2 == t12), [((t10.1 == 0) && ((t10.2.1 == 0) && true)) = true, (t9.2.2 == t11) = true, ((t9.1 == 0) && ((t9.2.1 == 0) && true)) = true, (t12 == 0) = false, (t11 == 0) = false, Computes cx 27 [.lst false 3 a1] (I t12), Computes cx 26 [.lst false 2 a0] (I t11), Computes cx 25 [.lst false 3 t6] (.tup [.agg [I t10.1, I t10.2.1], I t10.2.2]), Computes cx 24 [.lst false 2 []] (.tup [.agg [I t9.1, I t9.2.1], I t9.2.2]), isNilL a0 = true, room cx 29 (0 + (a0).length), LoopN cx (loopAt cx.P 5 0) 90 0 false [(0, .d (.lst false 2 a0)), (1, .d (.lst false 3 a1)), (5, .own 22 0), (34, .d (.lst false 3 a1)), (35, .d (I ((a1).length : Int))), (36, .d (I 0))] [(22, .row 0 3 [])] (.exit 0) [(0, .d (.lst false 2 a0)), (1, .d (.lst false 3 a1)), (5, .own 22 0)] [(22, .row 0 3 t6)], (((a1).length : Int) != 257) = false, (decide (((a1).length : Int) > 12)) = true, (decide (((a0).length : Int) > 8)) = false, (!t1) = false, Computes cx 8 [] (B t1)]) := by kernel_rfl
theorem e_law04_FieldShares_17 (a0 : List D) (a1 : List D) (t1 : Bool) (t6 : List D) (t9 : Int × Int × Int) (t10 : Int × Int × Int) (t11 : Int) (t12 : Int) (t14 : Int × Int) (t16 : Int × Int × Int) : runFn true 100 cx 5 [.lst false 2 a0, .lst false 3 a1] [.ret (B t1), .br false, .br false, .br true, .br false, .lp [5, 3] [0, 1, 5, 34, 35, 36] [22] (.exit 0) [(0, .d (.lst false 2 a0)), (1, .d (.lst false 3 a1)), (5, .own 22 0)] [(22, .row 0 3 t6)] 46, .br true, .br false, .ret (.tup [.agg [I t9.1, I t9.2.1], I t9.2.2]), .ret (.tup [.agg [I t10.1, I t10.2.1], I t10.2.2]), .ret (I t11), .ret (I t12), .br true, .ret (.agg [I t14.1, I t14.2]), .br true, .ret (.tup [.agg [I t16.1, I t16.2.1], I t16.2.2]), .br true, .br true, .br true] = some (B (t10.2.2 == t16.2.2), [((t10.1 == t16.1) && ((t10.2.1 == t16.2.1) && true)) = true, (t9.2.2 == t11) = true, ((t9.1 == t14.1) && ((t9.2.1 == t14.2) && true)) = true, Computes cx 29 [.lst false 3 a1] (.tup [.agg [I t16.1, I t16.2.1], I t16.2.2]), (t12 == 0) = true, Computes cx 28 [.lst false 2 a0] (.agg [I t14.1, I t14.2]), (t11 == 0) = true, Computes cx 27 [.lst false 3 a1] (I t12), Computes cx 26 [.lst false 2 a0] (I t11), Computes cx 25 [.lst false 3 t6] (.tup [.agg [I t10.1, I t10.2.1], I t10.2.2]), Computes cx 24 [.lst false 2 a0] (.tup [.agg [I t9.1, I t9.2.1], I t9.2.2]), isNilL a0 = false, room cx 29 (0 + (a0).length), LoopN cx (loopAt cx.P 5 0) 90 0 false [(0, .d (.lst false 2 a0)), (1, .d (.lst false 3 a1)), (5, .own 22 0), (34, .d (.lst false 3 a1)), (35, .d (I ((a1).length : Int))), (36, .d (I 0))] [(22, .row 0 3 [])] (.exit 0) [(0, .d (.lst false 2 a0)), (1, .d (.lst false 3 a1)), (5, .own 22 0)] [(22, .row 0 3 t6)], (((a1).length : Int) != 257) = false, (decide (((a1).length : Int) > 12)) = true, (decide (((a0).length : Int) > 8)) = false, (!t1) = false, Computes cx 8 [] (B t1)]) := by kernel_rfl
theorem e_law04_FieldShares_21 (a0 : List D) (a1 : List D) (t1 : Bool) (t6 : List D) (t9 : Int × Int × Int) (t10 : Int × Int × Int) (t11 : Int) (t12 : Int) (t14 : Int × Int) : runFn true 100 cx 5 [.lst false 2 a0, .lst false 3 a1] [.ret (B t1), .br false, .br false, .br true, .br false, .lp [5, 3] [0, 1, 5, 34, 35, 36] [22] (.exit 0) [(0, .d (.lst false 2 a0)), (1, .d (.lst false 3 a1)), (5, .own 22 0)] [(22, .row 0 3 t6)] 46, .br true, .br false, .ret (.tup [.agg [I t9.1, I t9.2.1], I t9.2.2]), .ret (.tup [.agg [I t10.1, I t10.2.1], I t10.2.2]), .ret (I t11), .ret (I t12), .br true, .ret (.agg [I t14.1, I t14.2]), .br false, .br true, .br true, .br true] = some (B (t10.2.2 == t12), [((t10.1 == 0) && ((t10.2.1 == 0) && true)) = true, (t9.2.2 == t11) = true, ((t9.1 == t14.1) && ((t9.2.1 == t14.2) && true)) = true, (t12 == 0) = false, Computes cx 28 [.lst false 2 a0] (.agg [I t14.1, I t14.2]), (t11 == 0) = true, Computes cx 27 [.lst false 3 a1] (I t12), Computes cx 26 [.lst false 2 a0] (I t11), Computes cx 25 [.lst false 3 t6] (.tup [.agg [I t10.1, I t10.2.1], I t10.2.2]), Computes cx 24 [.lst false 2 a0] (.tup [.agg [I t9.1, I t9.2.1], I t9.2.2]), isNilL a0 = false, room cx 29 (0 + (a0).length), LoopN cx (loopAt cx.P 5 0) 90 0 false [(0, .d (.lst false 2 a0)), (1, .d (.lst false 3 a1)), (5, .own 22 0), (34, .d (.lst false 3 a1)), (35, .d (I ((a1).length : Int))), (36, .d (I 0))] [(22, .row 0 3 [])] (.exit 0) [(0, .d (.lst false 2 a0)), (1, .d (.lst false 3 a1)), (5, .own 22 0)] [(22, .row 0 3 t6)], (((a1).length : Int) != 257) = false, (decide (((a1).length : Int) > 12)) = true, (decide (((a0).length : Int) > 8)) = false, (!t1) = false, Computes cx 8 [] (B t1)]) := by kernel_rfl
theorem e_law04_FieldShares_25 (a0 : List D) (a1 : List D) (t1 : Bool) (t6 : List D) (t9 : Int × Int × Int) (t10 : Int × Int × Int) (t11 : Int) (t12 : Int) (t15 : Int × Int × Int) : runFn true 100 cx 5 [.lst false 2 a0, .lst false 3 a1] [.ret (B t1), .br false, .br false, .br true, .br false, .lp [5, 3] [0, 1, 5, 34, 35, 36] [22] (.exit 0) [(0, .d (.lst false 2 a0)), (1, .d (.lst false 3 a1)), (5, .own 22 0)] [(22, .row 0 3 t6)] 46, .br true, .br false, .ret (.tup [.agg [I t9.1, I t9.2.1], I t9.2.2]), .ret (.tup [.agg [I t10.1, I t10.2.1], I t10.2.2]), .ret (I t11), .ret (I t12), .br false, .br true, .ret (.tup [.agg [I t15.1, I t15.2.1], I t15.2.2]), .br true, .br true, .br true] = some (B (t10.2.2 == t15.2.2), [((t10.1 == t15.1) && ((t10.2.1 == t15.2.1) && true)) = true, (t9.2.2 == t11) = true, ((t9.1 == 0) && ((t9.2.1 == 0) && true)) = true, Computes cx 29 [.lst false 3 a1] (.tup [.agg [I t15.1, I t15.2.1], I t15.2.2]), (t12 == 0) = true, (t11 == 0) = false, Computes cx 27 [.lst false 3 a1] (I t12), Computes cx 26 [.lst false 2 a0] (I t11), Computes cx 25 [.lst false 3 t6] (.tup [.agg [I t10.1, I t10.2.1], I t10.2.2]), Computes cx 24 [.lst false 2 a0] (.tup [.agg [I t9.1, I t9.2.1], I t9.2.2]), isNilL a0 = false, room cx 29 (0 + (a0).length), LoopN cx (loopAt cx.P 5 0) 90 0 false [(0, .d (.lst false 2 a0)), (1, .d (.lst false 3 a1)), (5, .own 22 0), (34, .d (.lst false 3 a1)), (35, .d (I ((a1).length : Int))), (36, .d (I 0))] [(22, .row 0 3 [])] (.exit 0) [(0, .d (.lst false 2 a0)), (1, .d (.lst false 3 a1)), (5, .own 22 0)] [(22, .row 0 3 t6)], (((a1).length : Int) != 257) = false, (decide (((a1).length : Int) > 12)) = true, (decide (((a0).length : Int) > 8)) = false, (!t1) = false, Computes cx 8 [] (B t1)]) := by kernel_rfl
theorem e_law04_FieldShares_29 (a0 : List D) (a1 : List D) (t1 : Bool) (t6 : List D) (t9 : Int × Int × Int) (t10 : Int × Int × Int) (t11 : Int) (t12 : Int) : runFn true 100 cx 5 [.lst false 2 a0, .lst false 3 a1] [.ret (B t1), .br false, .br false, .br true, .br false, .lp [5, 3] [0, 1, 5, 34, 35, 36] [22] (.exit 0) [(0, .d (.lst false 2 a0)), (1, .d (.lst false 3 a1)), (5, .own 22 0)] [(22, .row 0 3 t6)] 46, .br true, .br false, .ret (.tup [.agg [I t9.1, I t9.2.1], I t9.2.2]), .ret (.tup [.agg [I t10.1, I t10.2.1], I t10.2.2]), .ret (I t11), .ret (I t12), .br false, .br false, .br true, .br true, .br true] = some (B (t10.2.2 == t12), [((t10.1 == 0) && ((t10.2.1 == 0) && true)) = true, (t9.2.2 == t11) = true, ((t9.1 == 0) && ((t9.2.1 == 0) && true)) = true, (t12 == 0) = false, (t11 == 0) = false, Computes cx 27 [.lst false 3 a1] (I t12), Computes cx 26 [.lst false 2 a0] (I t11), Computes cx 25 [.lst false 3 t6] (.tup [.agg [I t10.1, I t10.2.1], I t10.2.2]), Computes cx 24 [.lst false 2 a0] (.tup [.agg [I t9.1, I t9.2.1], I t9.2.2]), isNilL a0 = false, room cx 29 (0 + (a0).length), LoopN cx (loopAt cx.P 5 0) 90 0 false [(0, .d (.lst false 2 a0)), (1, .d (.lst false 3 a1)), (5, .own 22 0), (34, .d (.lst false 3 a1)), (35, .d (I ((a1).length : Int))), (36, .d (I 0))] [(22, .row 0 3 [])] (.exit 0) [(0, .d (.lst false 2 a0)), (1, .d (.lst false 3 a1)), (5, .own 22 0)] [(22, .row 0 3 t6)], (((a1).length : Int) != 257) = false, (decide (((a1).length : Int) > 12)) = true, (decide (((a0).length : Int) > 8)) = false, (!t1) = false, Computes cx 8 [] (B t1)]) := by kernel_rfl
theorem e_law04_FieldShares_33 (a0 : List D) (a1 : List D) (t1 : Bool) : runFn true 100 cx 5 [.lst false 2 a0, .lst false 3 a1] [.ret (B t1), .br false, .br false, .br true, .br true, .ret (B t1)] = some (B t1, [Computes cx 8 [] (B t1), (((a1).length : Int) != 257) = true, (decide (((a1).length : Int) > 12)) = true, (decide (((a0).length : Int) > 8)) = false, (!t1) = false, Computes cx 8 [] (B t1)]) := by kernel_rfl
theorem e_law04_FieldShares_34 (a0 : List D) (a1 : List D) (t1 : Bool) (t5 : List D) (t8 : Int × Int × Int) (t9 : Int × Int × Int) (t10 : Int) (t11 : Int) (t13 : Int × Int) (t15 : Int × Int × Int) : runFn true 100 cx 5 [.lst false 2 a0, .lst false 3 a1] [.ret (B t1), .br false, .br false, .br false, .no, .lp [5, 3] [0, 1, 5, 34, 35, 36] [22] (.exit 0) [(0, .d (.lst false 2 a0)), (1, .d (.lst false 3 a1)), (5, .own 22 0)] [(22, .row 0 3 t5)] 46, .br true, .br true, .ret (.tup [.agg [I t8.1, I t8.2.1], I t8.2.2]), .ret (.tup [.agg [I t9.1, I t9.2.1], I t9.2.2]), .ret (I t10), .ret (I t11), .br true, .ret (.agg [I t13.1, I t13.2]), .br true, .ret (.tup [.agg [I t15.1, I t15.2.1], I t15.2.2]), .br true, .br true, .br true] = some (B (t9.2.2 == t15.2.2), [((t9.1 == t15.1) && ((t9.2.1 == t15.2.1) && true)) = true, (t8.2.2 == t10) = true, ((t8.1 == t13.1) && ((t8.2.1 == t13.2) && true)) = true, Computes cx 29 [.lst false 3 a1] (.tup [.agg [I t15.1, I t15.2.1], I t15.2.2]), (t11 == 0) = true, Computes cx 28 [.lst false 2 a0] (.agg [I t13.1, I t13.2]), (t10 == 0) = true, Computes cx 27 [.lst false 3 a1] (I t11), Computes cx 26 [.lst false 2 a0] (I t10), Computes cx 25 [.lst false 3 t5] (.tup [.agg [I t9.1, I t9.2.1], I t9.2.2]), Computes cx 24 [.lst false 2 []] (.tup [.agg [I t8.1, I t8.2.1], I t8.2.2]), isNilL a0 = true, room cx 29 (0 + (a0).length), LoopN cx (loopAt cx.P 5 0) 90 0 false [(0, .d (.lst false 2 a0)), (1, .d (.lst false 3 a1)), (5, .own 22 0), (34, .d (.lst false 3 a1)), (35, .d (I ((a1).length : Int))), (36, .d (I 0))] [(22, .row 0 3 [])] (.exit 0) [(0, .d (.lst false 2 a0)), (1, .d (.lst false 3 a1)), (5, .own 22 0)] [(22, .row 0 3 t5)], (decide (((a1).length : Int) > 12)) = false, (decide (((a0).length : Int) > 8)) = false, (!t1) = false, Computes cx 8 [] (B t1)]) := by kernel_rfl
theorem e_law04_FieldShares_38 (a0 : List D) (a1 : List D) (t1 : Bool) (t5 : List D) (t8 : Int × Int × Int) (t9 : Int × Int × Int) (t10 : Int) (t11 : Int) (t13 : Int × Int) : runFn true 100 cx 5 [.lst false 2 a0, .lst false 3 a1] [.ret (B t1), .br false, .br false, .br false, .no, .lp [5, 3] [0, 1, 5, 34, 35, 36] [22] (.exit 0) [(0, .d (.lst false 2 a0)), (1, .d (.lst false 3 a1)), (5, .own 22 0)] [(22, .row 0 3 t5)] 46, .br true, .br true, .ret (.tup [.agg [I t8.1, I t8.2.1], I t8.2.2]), .ret (.tup [.agg [I t9.1, I t9.2.1], I t9.2.2]), .ret (I t10), .ret (I t11), .br true, .ret (.agg [I t13.1, I t13.2]), .br false, .br true, .br true, .br true] = some (B (t9.2.2 == t11), [((t9.1 == 0) && ((t9.2.1 == 0) && true)) = true, (t8.2.2 == t10) = true, ((t8.1 == t13.1) && ((t8.2.1 == t13.2) && true)) = true, (t11 == 0) = false, Computes cx 28 [.lst false 2 a0] (.agg [I t13.1, I t13.2]), (t10 == 0) = true, Computes cx 27 [.lst false 3 a1] (I t11), Computes cx 26 [.lst false 2 a0] (I t10), Computes cx 25 [.lst false 3 t5] (.tup [.agg [I t9.1, I t9.2.1], I t9.2.2]), Computes cx 24 [.lst false 2 []] (.tup [.agg [I t8.1, I t8.2.1], I t8.2.2]), isNilL a0 = true, room cx 29 (0 + (a0).length), LoopN cx (loopAt cx.P 5 0) 90 0 false [(0, .d (.lst false 2 a0)), (1, .d (.lst false 3 a1)), (5, .own 22 0), (34, .d (.lst false 3 a1)), (35, .d (I ((a1).length : Int))), (36, .d (I 0))] [(22, .row 0 3 [])] (.exit 0) [(0, .d (.lst false 2 a0)), (1, .d (.lst false 3 a1)), (5, .own 22 0)] [(22, .row 0 3 t5)], (decide (((a1).length : Int) > 12)) = false, (decide (((a0).length : Int) > 8)) = false, (!t1) = false, Computes cx 8 [] (B t1)]) := by kernel_rfl
theorem e_law04_FieldShares_42 (a0 : List D) (a1 : List D) (t1 : Bool) (t5 : List D) (t8 : Int × Int × Int) (t9 : Int × Int × Int) (t10 : Int) (t11 : Int) (t14 : Int × Int × Int) : runFn true 100 cx 5 [.lst false 2 a0, .lst false 3 a1] [.ret (B t1), .br false, .br false, .br false, .no, .lp [5, 3] [0, 1, 5, 34, 35, 36] [22] (.exit 0) [(0, .d (.lst false 2 a0)), (1, .d (.lst false 3 a1)), (5, .own 22 0)] [(22, .row 0 3 t5)] 46, .br true, .br true, .ret (.tup [.agg [I t8.1, I t8.2.1], I t8.2.2]), .ret (.tup [.agg [I t9.1, I t9.2.1], I t9.2.2]), .ret (I t10), .ret (I t11), .br false, .br true, .ret (.tup [.agg [I t14.1, I t14.2.1], I t14.2.2]), .br true, .br true, .br true] = some (B (t9.2.2 == t14.2.2), [((t9.1 == t14.1) && ((t9.2.1 == t14.2.1) && true)) = true, (t8.2.2 == t10) = true, ((t8.1 == 0) && ((t8.2.1 == 0) && true)) = true, Computes cx 29 [.lst false 3 a1] (.tup [.agg [I t14.1, I t14.2.1], I t14.2.2]), (t11 == 0) = true, (t10 == 0) = false, Computes cx 27 [.lst false 3 a1] (I t11), Computes cx 26 [.lst false 2 a0] (I t10), Computes cx 25 [.lst false 3 t5] (.tup [.agg [I t9.1, I t9.2.1], I t9.2.2]), Computes cx 24 [.lst false 2 []] (.tup [.agg [I t8.1, I t8.2.1], I t8.2.2]), isNilL a0 = true, room cx 29 (0 + (a0).length), LoopN cx (loopAt cx.P 5 0) 90 0 false [(0, .d (.lst false 2 a0)), (1, .d (.lst false 3 a1)), (5, .own 22 0), (34, .d (.lst false 3 a1)), (35, .d (I ((a1).length : Int))), (36, .d (I 0))] [(22, .row 0 3 [])] (.exit 0) [(0, .d (.lst false 2 a0)), (1, .d (.lst false 3 a1)), (5, .own 22 0)] [(22, .row 0 3 t5)], (decide (((a1).length : Int) > 12)) = false, (decide (((a0).length : Int) > 8)) = false, (!t1) = false, Computes cx 8 [] (B t1)]) := by kernel_rfl
theorem e_law04_FieldShares_46 (a0 : List D) (a1 : List D) (t1 : Bool) (t5 : List D) (t8 : Int × Int × Int) (t9 : Int × Int × Int) (t10 : Int) (t11 : Int) : runFn true 100 cx 5 [.lst false 2 a0, .lst false 3 a1] [.ret (B t1), .br false, .br false, .br false, .no, .lp [5, 3] [0, 1, 5, 34, 35, 36] [22] (.exit 0) [(0, .d (.lst false 2 a0)), (1, .d (.lst false 3 a1)), (5, .own 22 0)] [(22, .row 0 3 t5)] 46, .br true, .br true, .ret (.tup [.agg [I t8.1, I t8.2.1], I t8.2.2]), .ret (.tup [.agg [I t9.1, I t9.2.1], I t9.2.2]), .ret (I t10), .ret (I t11), .br false, .br false, .br true, .br true, .br true] = some (B (t9.2.2 == t11), [((t9.1 == 0) && ((t9.2.1 == 0) && true)) = true, (t8.2.2 == t10) = true, ((t8.1 == 0) && ((t8.2.1 == 0) && true)) = true, (t11 == 0) = false, (t10 == 0) = false, Computes cx 27 [.lst false 3 a1] (I t11), Computes cx 26 [.lst false 2 a0] (I t10), Computes cx 25 [.lst false 3 t5] (.tup [.agg [I t9.1, I t9.2.1], I t9.2.2]), Computes cx 24 [.lst false 2 []] (.tup [.agg [I t8.1, I t8.2.1], I t8.2.2]), isNilL a0 = true, room cx 29 (0 + (a0).length), LoopN cx (loopAt cx.P 5 0) 90 0 false [(0, .d (.lst false 2 a0)), (1, .d (.lst false 3 a1)), (5, .own 22 0), (34, .d (.lst false 3 a1)), (35, .d (I ((a1).length : Int))), (36, .d (I 0))] [(22, .row 0 3 [])] (.exit 0) [(0, .d (.lst false 2 a0)), (1, .d (.lst false 3 a1)), (5, .own 22 0)] [(22, .row 0 3 t5)], (decide (((a1).length : Int) > 12)) = false, (decide (((a0).length : Int) > 8)) = false, (!t1) = false, Computes cx 8 [] (B t1)]) := by kernel_rfl
theorem e_law04_FieldShares_50 (a0 : List D) (a1 : List D) (t1 : Bool) (t5 : List D) (t8 : Int × Int × Int) (t9 : Int × Int × Int) (t10 : Int) (t11 : Int) (t13 : Int × Int) (t15 : Int × Int × Int) : runFn true 100 cx 5 [.lst false 2 a0, .lst false 3 a1] [.ret (B t1), .br false, .br false, .br false, .no, .lp [5, 3] [0, 1, 5, 34, 35, 36] [22] (.exit 0) [(0, .d (.lst false 2 a0)), (1, .d (.lst false 3 a1)), (5, .own 22 0)] [(22, .row 0 3 t5)] 46, .br true, .br false, .ret (.tup [.agg [I t8.1, I t8.2.1], I t8.2.2]), .ret (.tup [.agg [I t9.1, I t9.2.1], I t9.2.2]), .ret (I t10), .ret (I t11), .br true, .ret (.agg [I t13.1, I t13.2]), .br true, .ret (.tup [.agg [I t15.1, I t15.2.1], I t15.2.2]), .br true, .br true, .br true] = some (B (t9.2.2 == t15.2.2), [((t9.1 == t15.1) && ((t9.2.1 == t15.2.1) && true)) = true, (t8.2.2 == t10) = true, ((t8.1 == t13.1) && ((t8.2.1 == t13.2) && true)) = true, Computes cx 29 [.lst false 3 a1] (.tup [.agg [I t15.1, I t15.2.1], I t15.2.2]), (t11 == 0) = true, Computes cx 28 [.lst false 2 a0] (.agg [I t13.1, I t13.2]), (t10 == 0) = true, Computes cx 27 [.lst false 3 a1] (I t11), Computes cx 26 [.lst false 2 a0] (I t10), Computes cx 25 [.lst false 3 t5] (.tup [.agg [I t9.1, I t9.2.1], I t9.2.2]), Computes cx 24 [.lst false 2 a0] (.tup [.agg [I t8.1, I t8.2.1], I t8.2.2]), isNilL a0 = false, room cx 29 (0 + (a0).length), LoopN cx (loopAt cx.P 5 0) 90 0 false [(0, .d (.lst false 2 a0)), (1, .d (.lst false 3 a1)), (5, .own 22 0), (34, .d (.lst false 3 a1)), (35, .d (I ((a1).length : Int))), (36, .d (I 0))] [(22, .row 0 3 [])] (.exit 0) [(0, .d (.lst false 2 a0)), (1, .d (.lst false 3 a1)), (5, .own 22 0)] [(22, .row 0 3 t5)], (decide (((a1).length : Int) > 12)) = false, (decide (((a0).length : Int) > 8)) = false, (!t1) = false, Computes cx 8 [] (B t1)]) := by kernel_rfl
theorem e_law04_FieldShares_54 (a0 : List D) (a1 : List D) (t1 : Bool) (t5 : List D) (t8 : Int × Int × Int) (t9 : Int × Int × Int) (t10 : Int) (t11 : Int) (t13 : Int × Int) : runFn true 100 cx 5 [.lst false 2 a0, .lst false 3 a1] [.ret (B t1), .br false, .br false, .br false, .no, .lp [5, 3] [0, 1, 5, 34, 35, 36] [22] (.exit 0) [(0, .d (.lst false 2 a0)), (1, .d (.lst false 3 a1)), (5, .own 22 0)] [(22, .row 0 3 t5)] 46, .br true, .br false, .ret (.tup [.agg [I t8.1, I t8.2.1], I t8.2.2]), .ret (.tup [.agg [I t9.1, I t9.2.1], I t9.2.2]), .ret (I t10), .ret (I t11), .br true, .ret (.agg [I t13.1, I t13.2]), .br false, .br true, .br true, .br true] = some (B (t9.2.2 == t11), [((t9.1 == 0) && ((t9.2.1 == 0) && true)) = true, (t8.2.2 == t10) = true, ((t8.1 == t13.1) && ((t8.2.1 == t13.2) && true)) = true, (t11 == 0) = false, Computes cx 28 [.lst false 2 a0] (.agg [I t13.1, I t13.2]), (t10 == 0) = true, Computes cx 27 [.lst false 3 a1] (I t11), Computes cx 26 [.lst false 2 a0] (I t10), Computes cx 25 [.lst false 3 t5] (.tup [.agg [I t9.1, I t9.2.1], I t9.2.2]), Computes cx 24 [.lst false 2 a0] (.tup [.agg [I t8.1, I t8.2.1], I t8.2.2]), isNilL a0 = false, room cx 29 (0 + (a0).length), LoopN cx (loopAt cx.P 5 0) 90 0 false [(0, .d (.lst false 2 a0)), (1, .d (.lst false 3 a1)), (5, .own 22 0), (34, .d (.lst false 3 a1)), (35, .d (I ((a1).length : Int))), (36, .d (I 0))] [(22, .row 0 3 [])] (.exit 0) [(0, .d (.lst false 2 a0)), (1, .d (.lst false 3 a1)), (5, .own 22 0)] [(22, .row 0 3 t5)], (decide (((a1).length : Int) > 12)) = false, (decide (((a0).length : Int) > 8)) = false, (!t1) = false, Computes cx 8 [] (B t1)]) := by kernel_rfl
theorem e_law04_FieldShares_58 (a0 : List D) (a1 : List D) (t1 : Bool) (t5 : List D) (t8 : Int × Int × Int) (t9 : Int × Int × Int) (t10 : Int) (t11 : Int) (t14 : Int × Int × Int) : runFn true 100 cx 5 [.lst false 2 a0, .lst false 3 a1] [.ret (B t1), .br false, .br false, .br false, .no, .lp [5, 3] [0, 1, 5, 34, 35, 36] [22] (.exit 0) [(0, .d (.lst false 2 a0)), (1, .d (.lst false 3 a1)), (5, .own 22 0)] [(22, .row 0 3 t5)] 46, .br true, .br false, .ret (.tup [.agg [I t8.1, I t8.2.1], I t8.2.2]), .ret (.tup [.agg [I t9.1, I t9.2.1], I t9.2.2]), .ret (I t10), .ret (I t11), .br false, .br true, .ret (.tup [.agg [I t14.1, I t14.2.1], I t14.2.2]), .br true, .br true, .br true] = some (B (t9.2.2 == t14.2.2), [((t9.1 == t14.1) && ((t9.2.1 == t14.2.1) && true)) = true, (t8.2.2 == t10) = true, ((t8.1 == 0) && ((t8.2.1 == 0) && true)) = true, Computes cx 29 [.lst false 3 a1] (.tup [.agg [I t14.1, I t14.2.1], I t14.2.2]), (t11 == 0) = true, (t10 == 0) = false, Computes cx 27 [.lst false 3 a1] (I t11), Computes cx 26 [.lst false 2 a0] (I t10), Computes cx 25 [.lst false 3 t5] (.tup [.agg [I t9.1, I t9.2.1], I t9.2.2]), Computes cx 24 [.lst false 2 a0] (.tup [.agg [I t8.1, I t8.2.1], I t8.2.2]), isNilL a0 = false, room cx 29 (0 + (a0).length), LoopN cx (loopAt cx.P 5 0) 90 0 false [(0, .d (.lst false 2 a0)), (1, .d (.lst false 3 a1)), (5, .own 22 0), (34, .d (.lst false 3 a1)), (35, .d (I ((a1).length : Int))), (36, .d (I 0))] [(22, .row 0 3 [])] (.exit 0) [(0, .d (.lst false 2 a0)), (1, .d (.lst false 3 a1)), (5, .own 22 0)] [(22, .row 0 3 t5)], (decide (((a1).length : Int) > 12)) = false, (decide (((a0).length : Int) > 8)) = false, (!t1) = false, Computes cx 8 [] (B t1)]) := by kernel_rfl
theorem e_law04_FieldShares_62 (a0 : List D) (a1 : List D) (t1 : Bool) (t5 : List D) (t8 : Int × Int × Int) (t9 : Int × Int × Int) (t10 : Int) (t11 : Int) : runFn true 100 cx 5 [.lst false 2 a0, .lst false 3 a1] [.ret (B t1), .br false, .br false, .br false, .no, .lp [5, 3] [0, 1, 5, 34, 35, 36] [22] (.exit 0) [(0, .d (.lst false 2 a0)), (1, .d (.lst false 3 a1)), (5, .own 22 0)] [(22, .row 0 3 t5)] 46, .br true, .br false, .ret (.tup [.agg [I t8.1, I t8.2.1], I t8.2.2]), .ret (.tup [.agg [I t9.1, I t9.2.1], I t9.2.2]), .ret (I t10), .ret (I t11), .br false, .br false, .br true, .br true, .br true] = some (B (t9.2.2 == t11), [((t9.1 == 0) && ((t9.2.1 == 0) && true)) = true, (t8.2.2 == t10) = true, ((t8.1 == 0) && ((t8.2.1 == 0) && true)) = true, (t11 == 0) = false, (t10 == 0) = false, Computes cx 27 [.lst false 3 a1] (I t11), Computes cx 26 [.lst false 2 a0] (I t10), Computes cx 25 [.lst false 3 t5] (.tup [.agg [I t9.1, I t9.2.1], I t9.2.2]), Computes cx 24 [.lst false 2 a0] (.tup [.agg [I t8.1, I t8.2.1], I t8.2.2]), isNilL a0 = false, room cx 29 (0 + (a0).length), LoopN cx (loopAt cx.P 5 0) 90 0 false [(0, .d (.lst false 2 a0)), (1, .d (.lst false 3 a1)), (5, .own 22 0), (34, .d (.lst false 3 a1)), (35, .d (I ((a1).length : Int))), (36, .d (I 0))] [(22, .row 0 3 [])] (.exit 0) [(0, .d (.lst false 2 a0)), (1, .d (.lst false 3 a1)), (5, .own 22 0)] [(22, .row 0 3 t5)], (decide (((a1).length : Int) > 12)) = false, (decide (((a0).length : Int) > 8)) = false, (!t1) = false, Computes cx 8 [] (B t1)]) := by kernel_rfl
theorem e_law04_FieldShares_66 (a0 : List D) (a1 : List D) (t1 : Bool) : runFn true 100 cx 5 [.lst false 2 a0, .lst false 3 a1] [.ret (B t1), .br true, .no, .no, .ret (B t1)] = some (B t1, [Computes cx 8 [] (B t1), (!t1) = true, Computes cx 8 [] (B t1)]) := by kernel_rfl
end Go.Proofs.YtbjibgaknkaifaaGreatDoor
