/-
  Printed by gsx.py: functions of the program as Lean functions, and that the code computes them.
-/
import Derived.Test.YtiogobiijlaalaaDoorBase
set_option linter.unusedVariables false
set_option linter.unusedSimpArgs false
set_option linter.unnecessarySimpa false
set_option maxRecDepth 10000
namespace Go.Proofs.YtiogobiijlaalaaDoor
open Go.SX
def enc_i (x : Int) : D := I x
def un_i (d : D) : Option (Int) := un_int .i64 d
theorem un_i_ok {d : D} {x : Int} (h : un_i d = some x) : d = enc_i x := un_int_ok h
def F_light_first_L1 (n : Nat) (a0 : List D) (sa : (Int)) : Option (((Int)) ⊕ ((Int) ⊕ (Unit))) :=
  if sa < ((a0).length : Int) then
    (el un_i a0 sa).bind fun ta2 =>
    if ta2 = 0 then
      if inI64 (sa + 1) then
      some (.inl (sa + 1))
      else none
    else
    some (.inr (.inl ta2))
  else
  some (.inr (.inr ()))
noncomputable def T_light_first_L1 (a0 : List D) (sa : (Int)) : List (Nat × AV) := [(5, .d (.lst false 1 a0)), (6, .d (I ((a0).length : Int))), (7, .d (I sa))]
noncomputable def H_light_first_L1 (a0 : List D) (sa : (Int)) : List (Nat × Blk) := []
noncomputable def X_light_first_L1 (a0 : List D) (e : (Int) ⊕ (Unit)) : Ex := match e with
  | (.inl e) => .ret
  | (.inr e) => (.exit 0)
noncomputable def XT_light_first_L1 (a0 : List D) (e : (Int) ⊕ (Unit)) : List (Nat × AV) := match e with
  | (.inl e) => [(2, .d (I e))]
  | (.inr e) => []
noncomputable def XH_light_first_L1 (a0 : List D) (e : (Int) ⊕ (Unit)) : List (Nat × Blk) := match e with
  | (.inl e) => []
  | (.inr e) => []
theorem R_light_first_L1 {n : Nat} {a0 : List D} (sa : (Int)) (r) (h : F_light_first_L1 n a0 sa = some r) : Rd cx (loopAt cx.P 91 0) 15 0 false (T_light_first_L1 a0) (H_light_first_L1 a0) (X_light_first_L1 a0) (XT_light_first_L1 a0) (XH_light_first_L1 a0) sa r := by
  unfold F_light_first_L1 at h
  by_cases ha1 : sa < ((a0).length : Int)
  · replace h := ite_t h ha1
    obtain ⟨ta2, ha2, h⟩ := bnd_of h
    by_cases ha3 : ta2 = 0
    · replace h := ite_t h ha3
      obtain ⟨ha4, h⟩ := grd_of h
      replace h := Option.some.inj h
      subst h
      exact ⟨100, 4, [.br true, .el (I ta2), .br false], [], [5, 6, 7], [], round_of (ob := [inI64 (sa + 1), (ta2 != 0) = false, (0 : Int) ≤ sa, nth (a0) (Int.toNat sa) = some (I ta2), (decide (sa < ((a0).length : Int))) = true]) (by kernel_rfl) ⟨ha4, (nef ha3), (el_ok un_i_ok ha2).1, (el_ok un_i_ok ha2).2, (decide_eq_true ha1), trivial⟩⟩
    · replace h := ite_f h ha3
      replace h := Option.some.inj h
      subst h
      exact ⟨⟨100, 4, [.br true, .el (I ta2), .br true], [], [2], [], round_of (ob := [(ta2 != 0) = true, (0 : Int) ≤ sa, nth (a0) (Int.toNat sa) = some (I ta2), (decide (sa < ((a0).length : Int))) = true]) (by kernel_rfl) ⟨(net ha3), (el_ok un_i_ok ha2).1, (el_ok un_i_ok ha2).2, (decide_eq_true ha1), trivial⟩⟩, nofun⟩
  · replace h := ite_f h ha1
    replace h := Option.some.inj h
    subst h
    exact ⟨⟨100, 4, [.br false], [], [], [], round_of (ob := [(decide (sa < ((a0).length : Int))) = false]) (by kernel_rfl) ⟨(decide_eq_false ha1), trivial⟩⟩, nofun⟩
/- spillage/light.first: .lst false 1 a0 -/
def F_light_first (n : Nat) (a0 : List D) : Option (Int) :=
  (loopF (F_light_first_L1 n a0) n 0).bind fun t1 => match t1 with
    | (.inl t1) => (
      some t1)
    | (.inr t1) => (
      some 0)
theorem c_light_first {n : Nat} {a0 : List D} {r : Int} (h : F_light_first n a0 = some r) : Computes cx 91 [.lst false 1 a0] (I r) := by
  unfold F_light_first at h
  obtain ⟨t1, h1, h⟩ := bnd_of h
  rcases t1 with t1 | t1
  · replace h := Option.some.inj h
    subst h
    exact run (n := 100) (f := 91) (args := [.lst false 1 a0]) (orc := [.lp [] [5, 6, 7] [] .ret [(2, .d (I t1))] [] 23]) (r := I t1) (ob := [LoopN cx (loopAt cx.P 91 0) 15 0 false [(5, .d (.lst false 1 a0)), (6, .d (I ((a0).length : Int))), (7, .d (I 0))] [] .ret [(2, .d (I t1))] []]) (by kernel_rfl) ⟨(loopF_to R_light_first_L1 h1), trivial⟩
  · replace h := Option.some.inj h
    subst h
    exact run (n := 100) (f := 91) (args := [.lst false 1 a0]) (orc := [.lp [] [5, 6, 7] [] (.exit 0) [] [] 23]) (r := I 0) (ob := [LoopN cx (loopAt cx.P 91 0) 15 0 false [(5, .d (.lst false 1 a0)), (6, .d (I ((a0).length : Int))), (7, .d (I 0))] [] (.exit 0) [] []]) (by kernel_rfl) ⟨(loopF_to R_light_first_L1 h1), trivial⟩
/- spillage/sun.when: B a0, I a1 -/
def F_sun_when (n : Nat) (a0 : Bool) (a1 : Int) : Option (Int) :=
  if a0 = true then
    some a1
  else
  some 0
theorem c_sun_when {n : Nat} {a0 : Bool} {a1 : Int} {r : Int} (h : F_sun_when n a0 a1 = some r) : Computes cx 36 [B a0, I a1] (I r) := by
  unfold F_sun_when at h
  by_cases h1 : a0 = true
  · replace h := ite_t h h1
    replace h := Option.some.inj h
    subst h
    exact run (n := 100) (f := 36) (args := [B a0, I a1]) (orc := [.br true]) (r := I a1) (ob := [a0 = true]) (by kernel_rfl) ⟨h1, trivial⟩
  · replace h := ite_f h h1
    replace h := Option.some.inj h
    subst h
    exact run (n := 100) (f := 36) (args := [B a0, I a1]) (orc := [.br false]) (r := I 0) (ob := [a0 = false]) (by kernel_rfl) ⟨(bfalse h1), trivial⟩
def F_sun_first_L1 (n : Nat) (a0 : List D) (sa : (Int)) : Option (((Int)) ⊕ ((Int) ⊕ (Unit))) :=
  if sa < ((a0).length : Int) then
    (el un_i a0 sa).bind fun ta2 =>
    if ta2 = 0 then
      if inI64 (sa + 1) then
      some (.inl (sa + 1))
      else none
    else
    some (.inr (.inl ta2))
  else
  some (.inr (.inr ()))
noncomputable def T_sun_first_L1 (a0 : List D) (sa : (Int)) : List (Nat × AV) := [(5, .d (.lst false 1 a0)), (6, .d (I ((a0).length : Int))), (7, .d (I sa))]
noncomputable def H_sun_first_L1 (a0 : List D) (sa : (Int)) : List (Nat × Blk) := []
noncomputable def X_sun_first_L1 (a0 : List D) (e : (Int) ⊕ (Unit)) : Ex := match e with
  | (.inl e) => .ret
  | (.inr e) => (.exit 0)
noncomputable def XT_sun_first_L1 (a0 : List D) (e : (Int) ⊕ (Unit)) : List (Nat × AV) := match e with
  | (.inl e) => [(2, .d (I e))]
  | (.inr e) => []
noncomputable def XH_sun_first_L1 (a0 : List D) (e : (Int) ⊕ (Unit)) : List (Nat × Blk) := match e with
  | (.inl e) => []
  | (.inr e) => []
theorem R_sun_first_L1 {n : Nat} {a0 : List D} (sa : (Int)) (r) (h : F_sun_first_L1 n a0 sa = some r) : Rd cx (loopAt cx.P 32 0) 15 0 false (T_sun_first_L1 a0) (H_sun_first_L1 a0) (X_sun_first_L1 a0) (XT_sun_first_L1 a0) (XH_sun_first_L1 a0) sa r := by
  unfold F_sun_first_L1 at h
  by_cases ha1 : sa < ((a0).length : Int)
  · replace h := ite_t h ha1
    obtain ⟨ta2, ha2, h⟩ := bnd_of h
    by_cases ha3 : ta2 = 0
    · replace h := ite_t h ha3
      obtain ⟨ha4, h⟩ := grd_of h
      replace h := Option.some.inj h
      subst h
      exact ⟨100, 4, [.br true, .el (I ta2), .br false], [], [5, 6, 7], [], round_of (ob := [inI64 (sa + 1), (ta2 != 0) = false, (0 : Int) ≤ sa, nth (a0) (Int.toNat sa) = some (I ta2), (decide (sa < ((a0).length : Int))) = true]) (by kernel_rfl) ⟨ha4, (nef ha3), (el_ok un_i_ok ha2).1, (el_ok un_i_ok ha2).2, (decide_eq_true ha1), trivial⟩⟩
    · replace h := ite_f h ha3
      replace h := Option.some.inj h
      subst h
      exact ⟨⟨100, 4, [.br true, .el (I ta2), .br true], [], [2], [], round_of (ob := [(ta2 != 0) = true, (0 : Int) ≤ sa, nth (a0) (Int.toNat sa) = some (I ta2), (decide (sa < ((a0).length : Int))) = true]) (by kernel_rfl) ⟨(net ha3), (el_ok un_i_ok ha2).1, (el_ok un_i_ok ha2).2, (decide_eq_true ha1), trivial⟩⟩, nofun⟩
  · replace h := ite_f h ha1
    replace h := Option.some.inj h
    subst h
    exact ⟨⟨100, 4, [.br false], [], [], [], round_of (ob := [(decide (sa < ((a0).length : Int))) = false]) (by kernel_rfl) ⟨(decide_eq_false ha1), trivial⟩⟩, nofun⟩
/- spillage/sun.first: .lst false 1 a0 -/
def F_sun_first (n : Nat) (a0 : List D) : Option (Int) :=
  (loopF (F_sun_first_L1 n a0) n 0).bind fun t1 => match t1 with
    | (.inl t1) => (
      some t1)
    | (.inr t1) => (
      some 0)
theorem c_sun_first {n : Nat} {a0 : List D} {r : Int} (h : F_sun_first n a0 = some r) : Computes cx 32 [.lst false 1 a0] (I r) := by
  unfold F_sun_first at h
  obtain ⟨t1, h1, h⟩ := bnd_of h
  rcases t1 with t1 | t1
  · replace h := Option.some.inj h
    subst h
    exact run (n := 100) (f := 32) (args := [.lst false 1 a0]) (orc := [.lp [] [5, 6, 7] [] .ret [(2, .d (I t1))] [] 23]) (r := I t1) (ob := [LoopN cx (loopAt cx.P 32 0) 15 0 false [(5, .d (.lst false 1 a0)), (6, .d (I ((a0).length : Int))), (7, .d (I 0))] [] .ret [(2, .d (I t1))] []]) (by kernel_rfl) ⟨(loopF_to R_sun_first_L1 h1), trivial⟩
  · replace h := Option.some.inj h
    subst h
    exact run (n := 100) (f := 32) (args := [.lst false 1 a0]) (orc := [.lp [] [5, 6, 7] [] (.exit 0) [] [] 23]) (r := I 0) (ob := [LoopN cx (loopAt cx.P 32 0) 15 0 false [(5, .d (.lst false 1 a0)), (6, .d (I ((a0).length : Int))), (7, .d (I 0))] [] (.exit 0) [] []]) (by kernel_rfl) ⟨(loopF_to R_sun_first_L1 h1), trivial⟩
def F_sun_root_L1 (n : Nat) (a0 : Int) (sa : (Int × Int)) : Option (((Int × Int)) ⊕ ((Int))) :=
  if sa.1 < sa.2 then
    if inI64 (sa.1 + sa.2) then
    if inI64 ((sa.1 + sa.2) + 1) then
    if inI64 (Int.tdiv ((sa.1 + sa.2) + 1) 2) then
    if inI64 ((Int.tdiv ((sa.1 + sa.2) + 1) 2) * (Int.tdiv ((sa.1 + sa.2) + 1) 2)) then
    if ((Int.tdiv ((sa.1 + sa.2) + 1) 2) * (Int.tdiv ((sa.1 + sa.2) + 1) 2)) > a0 then
      if inI64 ((Int.tdiv ((sa.1 + sa.2) + 1) 2) - 1) then
      some (.inl (sa.1, ((Int.tdiv ((sa.1 + sa.2) + 1) 2) - 1)))
      else none
    else
    some (.inl ((Int.tdiv ((sa.1 + sa.2) + 1) 2), sa.2))
    else none
    else none
    else none
    else none
  else
  some (.inr sa.1)
noncomputable def T_sun_root_L1 (a0 : Int) (sa : (Int × Int)) : List (Nat × AV) := [(0, .d (I a0)), (3, .d (I sa.1)), (4, .d (I sa.2))]
noncomputable def H_sun_root_L1 (a0 : Int) (sa : (Int × Int)) : List (Nat × Blk) := []
noncomputable def X_sun_root_L1 (a0 : Int) (e : (Int)) : Ex := (.exit 0)
noncomputable def XT_sun_root_L1 (a0 : Int) (e : (Int)) : List (Nat × AV) := [(3, .d (I e))]
noncomputable def XH_sun_root_L1 (a0 : Int) (e : (Int)) : List (Nat × Blk) := []
theorem R_sun_root_L1 {n : Nat} {a0 : Int} (sa : (Int × Int)) (r) (h : F_sun_root_L1 n a0 sa = some r) : Rd cx (loopAt cx.P 78 0) 23 0 false (T_sun_root_L1 a0) (H_sun_root_L1 a0) (X_sun_root_L1 a0) (XT_sun_root_L1 a0) (XH_sun_root_L1 a0) sa r := by
  unfold F_sun_root_L1 at h
  by_cases ha1 : sa.1 < sa.2
  · replace h := ite_t h ha1
    obtain ⟨ha2, h⟩ := grd_of h
    obtain ⟨ha3, h⟩ := grd_of h
    obtain ⟨ha4, h⟩ := grd_of h
    obtain ⟨ha5, h⟩ := grd_of h
    by_cases ha6 : ((Int.tdiv ((sa.1 + sa.2) + 1) 2) * (Int.tdiv ((sa.1 + sa.2) + 1) 2)) > a0
    · replace h := ite_t h ha6
      obtain ⟨ha7, h⟩ := grd_of h
      replace h := Option.some.inj h
      subst h
      exact ⟨100, 3, [.br true, .br true], [], [0, 3, 4], [], round_of (ob := [inI64 ((Int.tdiv ((sa.1 + sa.2) + 1) 2) - 1), (decide (((Int.tdiv ((sa.1 + sa.2) + 1) 2) * (Int.tdiv ((sa.1 + sa.2) + 1) 2)) > a0)) = true, inI64 ((Int.tdiv ((sa.1 + sa.2) + 1) 2) * (Int.tdiv ((sa.1 + sa.2) + 1) 2)), (2 : Int) ≠ 0, inI64 (Int.tdiv ((sa.1 + sa.2) + 1) 2), inI64 ((sa.1 + sa.2) + 1), inI64 (sa.1 + sa.2), (decide (sa.1 < sa.2)) = true]) (by kernel_rfl) ⟨ha7, (decide_eq_true ha6), ha5, (by decide), ha4, ha3, ha2, (decide_eq_true ha1), trivial⟩⟩
    · replace h := ite_f h ha6
      replace h := Option.some.inj h
      subst h
      exact ⟨100, 3, [.br true, .br false], [], [0, 3, 4], [], round_of (ob := [(decide (((Int.tdiv ((sa.1 + sa.2) + 1) 2) * (Int.tdiv ((sa.1 + sa.2) + 1) 2)) > a0)) = false, inI64 ((Int.tdiv ((sa.1 + sa.2) + 1) 2) * (Int.tdiv ((sa.1 + sa.2) + 1) 2)), (2 : Int) ≠ 0, inI64 (Int.tdiv ((sa.1 + sa.2) + 1) 2), inI64 ((sa.1 + sa.2) + 1), inI64 (sa.1 + sa.2), (decide (sa.1 < sa.2)) = true]) (by kernel_rfl) ⟨(decide_eq_false ha6), ha5, (by decide), ha4, ha3, ha2, (decide_eq_true ha1), trivial⟩⟩
  · replace h := ite_f h ha1
    replace h := Option.some.inj h
    subst h
    exact ⟨⟨100, 3, [.br false], [], [3], [], round_of (ob := [(decide (sa.1 < sa.2)) = false]) (by kernel_rfl) ⟨(decide_eq_false ha1), trivial⟩⟩, nofun⟩
/- spillage/sun.root: I a0 -/
def F_sun_root (n : Nat) (a0 : Int) : Option (Int) :=
  (loopF (F_sun_root_L1 n a0) n (0, 65536)).bind fun t1 =>
  some t1
theorem c_sun_root {n : Nat} {a0 : Int} {r : Int} (h : F_sun_root n a0 = some r) : Computes cx 78 [I a0] (I r) := by
  unfold F_sun_root at h
  obtain ⟨t1, h1, h⟩ := bnd_of h
  replace h := Option.some.inj h
  subst h
  exact run (n := 100) (f := 78) (args := [I a0]) (orc := [.lp [] [0, 3, 4] [] (.exit 0) [(3, .d (I t1))] [] 31]) (r := I t1) (ob := [LoopN cx (loopAt cx.P 78 0) 23 0 false [(0, .d (I a0)), (3, .d (I 0)), (4, .d (I 65536))] [] (.exit 0) [(3, .d (I t1))] []]) (by kernel_rfl) ⟨(loopF_to R_sun_root_L1 h1), trivial⟩
/- spillage/sun.parts: .agg [I a0, I a1, I a2] -/
def F_sun_parts_3 (n : Nat) (a0 : Int) (a1 : Int) (a2 : Int) : Option (Int × Int × Int) :=
  some (a0, a1, a2)
theorem c_sun_parts_3 {n : Nat} {a0 : Int} {a1 : Int} {a2 : Int} {r : Int × Int × Int} (h : F_sun_parts_3 n a0 a1 a2 = some r) : Computes cx 79 [.agg [I a0, I a1, I a2]] (.agg [I r.1, I r.2.1, I r.2.2]) := by
  unfold F_sun_parts_3 at h
  replace h := Option.some.inj h
  subst h
  exact run (n := 100) (f := 79) (args := [.agg [I a0, I a1, I a2]]) (orc := []) (r := .agg [I a0, I a1, I a2]) (ob := []) (by kernel_rfl) trivial
/- spillage/sun.cross: .agg [I a0, I a1, I a2], .agg [I a3, I a4, I a5] -/
def F_sun_cross_2 (n : Nat) (a0 : Int) (a1 : Int) (a2 : Int) (a3 : Int) (a4 : Int) (a5 : Int) : Option (Int × Int × Int) :=
  if inI64 (a1 * a5) then
  if inI64 (a2 * a4) then
  if inI64 ((a1 * a5) - (a2 * a4)) then
  if inI64 (a2 * a3) then
  if inI64 (a0 * a5) then
  if inI64 ((a2 * a3) - (a0 * a5)) then
  if inI64 (a0 * a4) then
  if inI64 (a1 * a3) then
  if inI64 ((a0 * a4) - (a1 * a3)) then
  some (((a1 * a5) - (a2 * a4)), ((a2 * a3) - (a0 * a5)), ((a0 * a4) - (a1 * a3)))
  else none
  else none
  else none
  else none
  else none
  else none
  else none
  else none
  else none
theorem c_sun_cross_2 {n : Nat} {a0 : Int} {a1 : Int} {a2 : Int} {a3 : Int} {a4 : Int} {a5 : Int} {r : Int × Int × Int} (h : F_sun_cross_2 n a0 a1 a2 a3 a4 a5 = some r) : Computes cx 49 [.agg [I a0, I a1, I a2], .agg [I a3, I a4, I a5]] (.agg [I r.1, I r.2.1, I r.2.2]) := by
  unfold F_sun_cross_2 at h
  obtain ⟨h1, h⟩ := grd_of h
  obtain ⟨h2, h⟩ := grd_of h
  obtain ⟨h3, h⟩ := grd_of h
  obtain ⟨h4, h⟩ := grd_of h
  obtain ⟨h5, h⟩ := grd_of h
  obtain ⟨h6, h⟩ := grd_of h
  obtain ⟨h7, h⟩ := grd_of h
  obtain ⟨h8, h⟩ := grd_of h
  obtain ⟨h9, h⟩ := grd_of h
  replace h := Option.some.inj h
  subst h
  exact run (n := 100) (f := 49) (args := [.agg [I a0, I a1, I a2], .agg [I a3, I a4, I a5]]) (orc := []) (r := .agg [I ((a1 * a5) - (a2 * a4)), I ((a2 * a3) - (a0 * a5)), I ((a0 * a4) - (a1 * a3))]) (ob := [inI64 ((a0 * a4) - (a1 * a3)), inI64 (a1 * a3), inI64 (a0 * a4), inI64 ((a2 * a3) - (a0 * a5)), inI64 (a0 * a5), inI64 (a2 * a3), inI64 ((a1 * a5) - (a2 * a4)), inI64 (a2 * a4), inI64 (a1 * a5)]) (by kernel_rfl) ⟨h9, h8, h7, h6, h5, h4, h3, h2, h1, trivial⟩
/- spillage/sun.dot: .agg [I a0, I a1, I a2], .agg [I a3, I a4, I a5] -/
def F_sun_dot_4 (n : Nat) (a0 : Int) (a1 : Int) (a2 : Int) (a3 : Int) (a4 : Int) (a5 : Int) : Option (Int) :=
  if inI64 (a0 * a3) then
  if inI64 (a1 * a4) then
  if inI64 ((a0 * a3) + (a1 * a4)) then
  if inI64 (a2 * a5) then
  if inI64 (((a0 * a3) + (a1 * a4)) + (a2 * a5)) then
  some (((a0 * a3) + (a1 * a4)) + (a2 * a5))
  else none
  else none
  else none
  else none
  else none
theorem c_sun_dot_4 {n : Nat} {a0 : Int} {a1 : Int} {a2 : Int} {a3 : Int} {a4 : Int} {a5 : Int} {r : Int} (h : F_sun_dot_4 n a0 a1 a2 a3 a4 a5 = some r) : Computes cx 53 [.agg [I a0, I a1, I a2], .agg [I a3, I a4, I a5]] (I r) := by
  unfold F_sun_dot_4 at h
  obtain ⟨h1, h⟩ := grd_of h
  obtain ⟨h2, h⟩ := grd_of h
  obtain ⟨h3, h⟩ := grd_of h
  obtain ⟨h4, h⟩ := grd_of h
  obtain ⟨h5, h⟩ := grd_of h
  replace h := Option.some.inj h
  subst h
  exact run (n := 100) (f := 53) (args := [.agg [I a0, I a1, I a2], .agg [I a3, I a4, I a5]]) (orc := []) (r := I (((a0 * a3) + (a1 * a4)) + (a2 * a5))) (ob := [inI64 (((a0 * a3) + (a1 * a4)) + (a2 * a5)), inI64 (a2 * a5), inI64 ((a0 * a3) + (a1 * a4)), inI64 (a1 * a4), inI64 (a0 * a3)]) (by kernel_rfl) ⟨h5, h4, h3, h2, h1, trivial⟩
/- spillage/sun.opposite: .agg [I a0, I a1, I a2], .agg [I a3, I a4, I a5] -/
def F_sun_opposite_2 (n : Nat) (a0 : Int) (a1 : Int) (a2 : Int) (a3 : Int) (a4 : Int) (a5 : Int) : Option (Bool) :=
  (F_sun_cross_2 n a0 a1 a2 a3 a4 a5).bind fun t1 =>
  (F_sun_parts_3 n t1.1 t1.2.1 t1.2.2).bind fun t2 =>
  if ((t2.1 == 0) && ((t2.2.1 == 0) && ((t2.2.2 == 0) && true))) = true then
    (F_sun_dot_4 n a0 a1 a2 a3 a4 a5).bind fun t4 =>
    some (decide (t4 < 0))
  else
  some false
theorem c_sun_opposite_2 {n : Nat} {a0 : Int} {a1 : Int} {a2 : Int} {a3 : Int} {a4 : Int} {a5 : Int} {r : Bool} (h : F_sun_opposite_2 n a0 a1 a2 a3 a4 a5 = some r) : Computes cx 44 [.agg [I a0, I a1, I a2], .agg [I a3, I a4, I a5]] (B r) := by
  unfold F_sun_opposite_2 at h
  obtain ⟨t1, h1, h⟩ := bnd_of h
  obtain ⟨t2, h2, h⟩ := bnd_of h
  by_cases h3 : ((t2.1 == 0) && ((t2.2.1 == 0) && ((t2.2.2 == 0) && true))) = true
  · replace h := ite_t h h3
    obtain ⟨t4, h4, h⟩ := bnd_of h
    replace h := Option.some.inj h
    subst h
    exact run (n := 100) (f := 44) (args := [.agg [I a0, I a1, I a2], .agg [I a3, I a4, I a5]]) (orc := [.ret (.agg [I t1.1, I t1.2.1, I t1.2.2]), .ret (.agg [I t2.1, I t2.2.1, I t2.2.2]), .br true, .ret (I t4)]) (r := B (decide (t4 < 0))) (ob := [Computes cx 53 [.agg [I a0, I a1, I a2], .agg [I a3, I a4, I a5]] (I t4), ((t2.1 == 0) && ((t2.2.1 == 0) && ((t2.2.2 == 0) && true))) = true, Computes cx 79 [.agg [I t1.1, I t1.2.1, I t1.2.2]] (.agg [I t2.1, I t2.2.1, I t2.2.2]), Computes cx 49 [.agg [I a0, I a1, I a2], .agg [I a3, I a4, I a5]] (.agg [I t1.1, I t1.2.1, I t1.2.2])]) (by kernel_rfl) ⟨(c_sun_dot_4 h4), h3, (c_sun_parts_3 h2), (c_sun_cross_2 h1), trivial⟩
  · replace h := ite_f h h3
    replace h := Option.some.inj h
    subst h
    exact run (n := 100) (f := 44) (args := [.agg [I a0, I a1, I a2], .agg [I a3, I a4, I a5]]) (orc := [.ret (.agg [I t1.1, I t1.2.1, I t1.2.2]), .ret (.agg [I t2.1, I t2.2.1, I t2.2.2]), .br false]) (r := B false) (ob := [((t2.1 == 0) && ((t2.2.1 == 0) && ((t2.2.2 == 0) && true))) = false, Computes cx 79 [.agg [I t1.1, I t1.2.1, I t1.2.2]] (.agg [I t2.1, I t2.2.1, I t2.2.2]), Computes cx 49 [.agg [I a0, I a1, I a2], .agg [I a3, I a4, I a5]] (.agg [I t1.1, I t1.2.1, I t1.2.2])]) (by kernel_rfl) ⟨(bfalse h3), (c_sun_parts_3 h2), (c_sun_cross_2 h1), trivial⟩
/- spillage/sun.sum: I a0, .agg [I a1, I a2, I a3], I a4, .agg [I a5, I a6, I a7] -/
def F_sun_sum (n : Nat) (a0 : Int) (a1 : Int) (a2 : Int) (a3 : Int) (a4 : Int) (a5 : Int) (a6 : Int) (a7 : Int) : Option (Int × Int × Int) :=
  if inI64 (a0 * a1) then
  if inI64 (a4 * a5) then
  if inI64 ((a0 * a1) + (a4 * a5)) then
  if inI64 (a0 * a2) then
  if inI64 (a4 * a6) then
  if inI64 ((a0 * a2) + (a4 * a6)) then
  if inI64 (a0 * a3) then
  if inI64 (a4 * a7) then
  if inI64 ((a0 * a3) + (a4 * a7)) then
  some (((a0 * a1) + (a4 * a5)), ((a0 * a2) + (a4 * a6)), ((a0 * a3) + (a4 * a7)))
  else none
  else none
  else none
  else none
  else none
  else none
  else none
  else none
  else none
theorem c_sun_sum {n : Nat} {a0 : Int} {a1 : Int} {a2 : Int} {a3 : Int} {a4 : Int} {a5 : Int} {a6 : Int} {a7 : Int} {r : Int × Int × Int} (h : F_sun_sum n a0 a1 a2 a3 a4 a5 a6 a7 = some r) : Computes cx 46 [I a0, .agg [I a1, I a2, I a3], I a4, .agg [I a5, I a6, I a7]] (.agg [I r.1, I r.2.1, I r.2.2]) := by
  unfold F_sun_sum at h
  obtain ⟨h1, h⟩ := grd_of h
  obtain ⟨h2, h⟩ := grd_of h
  obtain ⟨h3, h⟩ := grd_of h
  obtain ⟨h4, h⟩ := grd_of h
  obtain ⟨h5, h⟩ := grd_of h
  obtain ⟨h6, h⟩ := grd_of h
  obtain ⟨h7, h⟩ := grd_of h
  obtain ⟨h8, h⟩ := grd_of h
  obtain ⟨h9, h⟩ := grd_of h
  replace h := Option.some.inj h
  subst h
  exact run (n := 100) (f := 46) (args := [I a0, .agg [I a1, I a2, I a3], I a4, .agg [I a5, I a6, I a7]]) (orc := []) (r := .agg [I ((a0 * a1) + (a4 * a5)), I ((a0 * a2) + (a4 * a6)), I ((a0 * a3) + (a4 * a7))]) (ob := [inI64 ((a0 * a3) + (a4 * a7)), inI64 (a4 * a7), inI64 (a0 * a3), inI64 ((a0 * a2) + (a4 * a6)), inI64 (a4 * a6), inI64 (a0 * a2), inI64 ((a0 * a1) + (a4 * a5)), inI64 (a4 * a5), inI64 (a0 * a1)]) (by kernel_rfl) ⟨h9, h8, h7, h6, h5, h4, h3, h2, h1, trivial⟩
def F_sun_common_L1 (n : Nat)  (sa : (Int × Int)) : Option (((Int × Int)) ⊕ ((Int))) :=
  if sa.2 = 0 then
    some (.inr sa.1)
  else
  if sa.2 ≠ 0 then
  some (.inl (sa.2, (Int.tmod sa.1 sa.2)))
  else none
noncomputable def T_sun_common_L1  (sa : (Int × Int)) : List (Nat × AV) := [(0, .d (I sa.1)), (1, .d (I sa.2))]
noncomputable def H_sun_common_L1  (sa : (Int × Int)) : List (Nat × Blk) := []
noncomputable def X_sun_common_L1  (e : (Int)) : Ex := (.exit 0)
noncomputable def XT_sun_common_L1  (e : (Int)) : List (Nat × AV) := [(0, .d (I e))]
noncomputable def XH_sun_common_L1  (e : (Int)) : List (Nat × Blk) := []
theorem R_sun_common_L1 {n : Nat}  (sa : (Int × Int)) (r) (h : F_sun_common_L1 n  sa = some r) : Rd cx (loopAt cx.P 80 0) 15 0 false (T_sun_common_L1 ) (H_sun_common_L1 ) (X_sun_common_L1 ) (XT_sun_common_L1 ) (XH_sun_common_L1 ) sa r := by
  unfold F_sun_common_L1 at h
  by_cases ha1 : sa.2 = 0
  · replace h := ite_t h ha1
    replace h := Option.some.inj h
    subst h
    exact ⟨⟨100, 1, [.br false], [], [0], [], round_of (ob := [(sa.2 != 0) = false]) (by kernel_rfl) ⟨(nef ha1), trivial⟩⟩, nofun⟩
  · replace h := ite_f h ha1
    obtain ⟨ha2, h⟩ := grd_of h
    replace h := Option.some.inj h
    subst h
    exact ⟨100, 1, [.br true], [], [0, 1], [], round_of (ob := [sa.2 ≠ 0, (sa.2 != 0) = true]) (by kernel_rfl) ⟨ha2, (net ha1), trivial⟩⟩
/- spillage/sun.common: I a0, I a1 -/
def F_sun_common (n : Nat) (a0 : Int) (a1 : Int) : Option (Int) :=
  (loopF (F_sun_common_L1 n) n (a0, a1)).bind fun t1 =>
  some (maxI t1 (IntKind.wrap .i64 (0 - t1)))
theorem c_sun_common {n : Nat} {a0 : Int} {a1 : Int} {r : Int} (h : F_sun_common n a0 a1 = some r) : Computes cx 80 [I a0, I a1] (I r) := by
  unfold F_sun_common at h
  obtain ⟨t1, h1, h⟩ := bnd_of h
  replace h := Option.some.inj h
  subst h
  exact run (n := 100) (f := 80) (args := [I a0, I a1]) (orc := [.lp [] [0, 1] [] (.exit 0) [(0, .d (I t1))] [] 20]) (r := I (maxI t1 (IntKind.wrap .i64 (0 - t1)))) (ob := [LoopN cx (loopAt cx.P 80 0) 15 0 false [(0, .d (I a0)), (1, .d (I a1))] [] (.exit 0) [(0, .d (I t1))] []]) (by kernel_rfl) ⟨(loopF_to R_sun_common_L1 h1), trivial⟩
/- spillage/sun.vector: .agg [I a0, I a1, I a2] -/
def F_sun_vector (n : Nat) (a0 : Int) (a1 : Int) (a2 : Int) : Option (Int × Int × Int) :=
  some (a0, a1, a2)
theorem c_sun_vector {n : Nat} {a0 : Int} {a1 : Int} {a2 : Int} {r : Int × Int × Int} (h : F_sun_vector n a0 a1 a2 = some r) : Computes cx 81 [.agg [I a0, I a1, I a2]] (.agg [I r.1, I r.2.1, I r.2.2]) := by
  unfold F_sun_vector at h
  replace h := Option.some.inj h
  subst h
  exact run (n := 100) (f := 81) (args := [.agg [I a0, I a1, I a2]]) (orc := []) (r := .agg [I a0, I a1, I a2]) (ob := []) (by kernel_rfl) trivial
/- spillage/sun.reduced: .agg [I a0, I a1, I a2] -/
def F_sun_reduced (n : Nat) (a0 : Int) (a1 : Int) (a2 : Int) : Option (Int × Int × Int) :=
  (F_sun_parts_3 n a0 a1 a2).bind fun t1 =>
  (F_sun_common n 0 t1.1).bind fun t2 =>
  (F_sun_common n t2 t1.2.1).bind fun t3 =>
  (F_sun_common n t3 t1.2.2).bind fun t4 =>
  if t4 = 0 then
    some (a0, a1, a2)
  else
  if t4 ≠ 0 then
  if inI64 (Int.tdiv t1.1 t4) then
  if inI64 (Int.tdiv t1.2.1 t4) then
  if inI64 (Int.tdiv t1.2.2 t4) then
  (F_sun_vector n (Int.tdiv t1.1 t4) (Int.tdiv t1.2.1 t4) (Int.tdiv t1.2.2 t4)).bind fun t10 =>
  some (t10.1, t10.2.1, t10.2.2)
  else none
  else none
  else none
  else none
theorem c_sun_reduced {n : Nat} {a0 : Int} {a1 : Int} {a2 : Int} {r : Int × Int × Int} (h : F_sun_reduced n a0 a1 a2 = some r) : Computes cx 50 [.agg [I a0, I a1, I a2]] (.agg [I r.1, I r.2.1, I r.2.2]) := by
  unfold F_sun_reduced at h
  obtain ⟨t1, h1, h⟩ := bnd_of h
  obtain ⟨t2, h2, h⟩ := bnd_of h
  obtain ⟨t3, h3, h⟩ := bnd_of h
  obtain ⟨t4, h4, h⟩ := bnd_of h
  by_cases h5 : t4 = 0
  · replace h := ite_t h h5
    replace h := Option.some.inj h
    subst h
    exact run (n := 100) (f := 50) (args := [.agg [I a0, I a1, I a2]]) (orc := [.ret (.agg [I t1.1, I t1.2.1, I t1.2.2]), .no, .no, .ret (I t2), .no, .no, .ret (I t3), .no, .no, .ret (I t4), .no, .no, .br true]) (r := .agg [I a0, I a1, I a2]) (ob := [(t4 == 0) = true, inI64 3, Computes cx 80 [I t3, I t1.2.2] (I t4), inI64 2, Computes cx 80 [I t2, I t1.2.1] (I t3), inI64 1, Computes cx 80 [I 0, I t1.1] (I t2), Computes cx 79 [.agg [I a0, I a1, I a2]] (.agg [I t1.1, I t1.2.1, I t1.2.2])]) (by kernel_rfl) ⟨(eqt h5), (by unfold inI64; omega), (c_sun_common h4), (by unfold inI64; omega), (c_sun_common h3), (by unfold inI64; omega), (c_sun_common h2), (c_sun_parts_3 h1), trivial⟩
  · replace h := ite_f h h5
    obtain ⟨h6, h⟩ := grd_of h
    obtain ⟨h7, h⟩ := grd_of h
    obtain ⟨h8, h⟩ := grd_of h
    obtain ⟨h9, h⟩ := grd_of h
    obtain ⟨t10, h10, h⟩ := bnd_of h
    replace h := Option.some.inj h
    subst h
    exact run (n := 100) (f := 50) (args := [.agg [I a0, I a1, I a2]]) (orc := [.ret (.agg [I t1.1, I t1.2.1, I t1.2.2]), .no, .no, .ret (I t2), .no, .no, .ret (I t3), .no, .no, .ret (I t4), .no, .no, .br false, .no, .no, .no, .no, .no, .no, .no, .no, .ret (.agg [I t10.1, I t10.2.1, I t10.2.2])]) (r := .agg [I t10.1, I t10.2.1, I t10.2.2]) (ob := [Computes cx 81 [.agg [I (Int.tdiv t1.1 t4), I (Int.tdiv t1.2.1 t4), I (Int.tdiv t1.2.2 t4)]] (.agg [I t10.1, I t10.2.1, I t10.2.2]), inI64 3, t4 ≠ 0, inI64 (Int.tdiv t1.2.2 t4), inI64 2, t4 ≠ 0, inI64 (Int.tdiv t1.2.1 t4), inI64 1, t4 ≠ 0, inI64 (Int.tdiv t1.1 t4), (t4 == 0) = false, inI64 3, Computes cx 80 [I t3, I t1.2.2] (I t4), inI64 2, Computes cx 80 [I t2, I t1.2.1] (I t3), inI64 1, Computes cx 80 [I 0, I t1.1] (I t2), Computes cx 79 [.agg [I a0, I a1, I a2]] (.agg [I t1.1, I t1.2.1, I t1.2.2])]) (by kernel_rfl) ⟨(c_sun_vector h10), (by unfold inI64; omega), h6, h9, (by unfold inI64; omega), h6, h8, (by unfold inI64; omega), h6, h7, (eqf h5), (by unfold inI64; omega), (c_sun_common h4), (by unfold inI64; omega), (c_sun_common h3), (by unfold inI64; omega), (c_sun_common h2), (c_sun_parts_3 h1), trivial⟩
/- spillage/sun.far: .agg [I a0, I a1, I a2] -/
def F_sun_far_3 (n : Nat) (a0 : Int) (a1 : Int) (a2 : Int) : Option (Int) :=
  (F_sun_parts_3 n a0 a1 a2).bind fun t1 =>
  some (maxI (maxI (maxI (maxI (maxI (maxI 0 t1.1) (IntKind.wrap .i64 (0 - t1.1))) t1.2.1) (IntKind.wrap .i64 (0 - t1.2.1))) t1.2.2) (IntKind.wrap .i64 (0 - t1.2.2)))
theorem c_sun_far_3 {n : Nat} {a0 : Int} {a1 : Int} {a2 : Int} {r : Int} (h : F_sun_far_3 n a0 a1 a2 = some r) : Computes cx 77 [.agg [I a0, I a1, I a2]] (I r) := by
  unfold F_sun_far_3 at h
  obtain ⟨t1, h1, h⟩ := bnd_of h
  replace h := Option.some.inj h
  subst h
  exact run (n := 100) (f := 77) (args := [.agg [I a0, I a1, I a2]]) (orc := [.ret (.agg [I t1.1, I t1.2.1, I t1.2.2]), .no, .no, .no, .no, .no, .no, .no, .no]) (r := I (maxI (maxI (maxI (maxI (maxI (maxI 0 t1.1) (IntKind.wrap .i64 (0 - t1.1))) t1.2.1) (IntKind.wrap .i64 (0 - t1.2.1))) t1.2.2) (IntKind.wrap .i64 (0 - t1.2.2)))) (ob := [inI64 3, inI64 2, inI64 1, Computes cx 79 [.agg [I a0, I a1, I a2]] (.agg [I t1.1, I t1.2.1, I t1.2.2])]) (by kernel_rfl) ⟨(by unfold inI64; omega), (by unfold inI64; omega), (by unfold inI64; omega), (c_sun_parts_3 h1), trivial⟩
/- spillage/sun.small: .agg [I a0, I a1, I a2] -/
def F_sun_small (n : Nat) (a0 : Int) (a1 : Int) (a2 : Int) : Option (Int × Int × Int × Int) :=
  (F_sun_reduced n a0 a1 a2).bind fun t1 =>
  (F_sun_far_3 n t1.1 t1.2.1 t1.2.2).bind fun t2 =>
  if t2 > 4096 then
    some (0, 0, 0, 4)
  else
  some (t1.1, t1.2.1, t1.2.2, 0)
theorem c_sun_small {n : Nat} {a0 : Int} {a1 : Int} {a2 : Int} {r : Int × Int × Int × Int} (h : F_sun_small n a0 a1 a2 = some r) : Computes cx 45 [.agg [I a0, I a1, I a2]] (.tup [.agg [I r.1, I r.2.1, I r.2.2.1], I r.2.2.2]) := by
  unfold F_sun_small at h
  obtain ⟨t1, h1, h⟩ := bnd_of h
  obtain ⟨t2, h2, h⟩ := bnd_of h
  by_cases h3 : t2 > 4096
  · replace h := ite_t h h3
    replace h := Option.some.inj h
    subst h
    exact run (n := 100) (f := 45) (args := [.agg [I a0, I a1, I a2]]) (orc := [.ret (.agg [I t1.1, I t1.2.1, I t1.2.2]), .ret (I t2), .br true]) (r := .tup [.agg [I 0, I 0, I 0], I 4]) (ob := [(decide (t2 > 4096)) = true, Computes cx 77 [.agg [I t1.1, I t1.2.1, I t1.2.2]] (I t2), Computes cx 50 [.agg [I a0, I a1, I a2]] (.agg [I t1.1, I t1.2.1, I t1.2.2])]) (by kernel_rfl) ⟨(decide_eq_true h3), (c_sun_far_3 h2), (c_sun_reduced h1), trivial⟩
  · replace h := ite_f h h3
    replace h := Option.some.inj h
    subst h
    exact run (n := 100) (f := 45) (args := [.agg [I a0, I a1, I a2]]) (orc := [.ret (.agg [I t1.1, I t1.2.1, I t1.2.2]), .ret (I t2), .br false]) (r := .tup [.agg [I t1.1, I t1.2.1, I t1.2.2], I 0]) (ob := [(decide (t2 > 4096)) = false, Computes cx 77 [.agg [I t1.1, I t1.2.1, I t1.2.2]] (I t2), Computes cx 50 [.agg [I a0, I a1, I a2]] (.agg [I t1.1, I t1.2.1, I t1.2.2])]) (by kernel_rfl) ⟨(decide_eq_false h3), (c_sun_far_3 h2), (c_sun_reduced h1), trivial⟩
/- spillage/sun.when: B true, I 1 -/
def F_sun_when_2 (n : Nat)  : Option (Int) :=
  some 1
theorem c_sun_when_2 {n : Nat}  {r : Int} (h : F_sun_when_2 n  = some r) : Computes cx 36 [B true, I 1] (I r) := by
  unfold F_sun_when_2 at h
  replace h := Option.some.inj h
  subst h
  exact run (n := 100) (f := 36) (args := [B true, I 1]) (orc := [.no]) (r := I 1) (ob := []) (by kernel_rfl) trivial
/- spillage/light.when: B true, I 3 -/
def F_light_when_3 (n : Nat)  : Option (Int) :=
  some 3
theorem c_light_when_3 {n : Nat}  {r : Int} (h : F_light_when_3 n  = some r) : Computes cx 93 [B true, I 3] (I r) := by
  unfold F_light_when_3 at h
  replace h := Option.some.inj h
  subst h
  exact run (n := 100) (f := 93) (args := [B true, I 3]) (orc := [.no]) (r := I 3) (ob := []) (by kernel_rfl) trivial
/- spillage/light.when: B a0, I a1 -/
def F_light_when_4 (n : Nat) (a0 : Bool) (a1 : Int) : Option (Int) :=
  if a0 = true then
    some a1
  else
  some 0
theorem c_light_when_4 {n : Nat} {a0 : Bool} {a1 : Int} {r : Int} (h : F_light_when_4 n a0 a1 = some r) : Computes cx 93 [B a0, I a1] (I r) := by
  unfold F_light_when_4 at h
  by_cases h1 : a0 = true
  · replace h := ite_t h h1
    replace h := Option.some.inj h
    subst h
    exact run (n := 100) (f := 93) (args := [B a0, I a1]) (orc := [.br true]) (r := I a1) (ob := [a0 = true]) (by kernel_rfl) ⟨h1, trivial⟩
  · replace h := ite_f h h1
    replace h := Option.some.inj h
    subst h
    exact run (n := 100) (f := 93) (args := [B a0, I a1]) (orc := [.br false]) (r := I 0) (ob := [a0 = false]) (by kernel_rfl) ⟨(bfalse h1), trivial⟩
/- spillage/light.within: I a0, I a1, I a2 -/
def F_light_within_4 (n : Nat) (a0 : Int) (a1 : Int) (a2 : Int) : Option (Int) :=
  if a0 < a1 then
    (F_light_when_3 n).bind fun t2 =>
    some t2
  else
  (F_light_when_4 n (decide (a0 > a2)) 3).bind fun t2 =>
  some t2
theorem c_light_within_4 {n : Nat} {a0 : Int} {a1 : Int} {a2 : Int} {r : Int} (h : F_light_within_4 n a0 a1 a2 = some r) : Computes cx 102 [I a0, I a1, I a2] (I r) := by
  unfold F_light_within_4 at h
  by_cases h1 : a0 < a1
  · replace h := ite_t h h1
    obtain ⟨t2, h2, h⟩ := bnd_of h
    replace h := Option.some.inj h
    subst h
    exact run (n := 100) (f := 102) (args := [I a0, I a1, I a2]) (orc := [.br true, .ret (I t2)]) (r := I t2) (ob := [Computes cx 93 [B true, I 3] (I t2), (decide (a0 < a1)) = true]) (by kernel_rfl) ⟨(c_light_when_3 h2), (decide_eq_true h1), trivial⟩
  · replace h := ite_f h h1
    obtain ⟨t2, h2, h⟩ := bnd_of h
    replace h := Option.some.inj h
    subst h
    exact run (n := 100) (f := 102) (args := [I a0, I a1, I a2]) (orc := [.br false, .ret (I t2)]) (r := I t2) (ob := [Computes cx 93 [B (decide (a0 > a2)), I 3] (I t2), (decide (a0 < a1)) = false]) (by kernel_rfl) ⟨(c_light_when_4 h2), (decide_eq_false h1), trivial⟩
/- spillage/light.CheckVector: .agg [I a0, I a1, I a2] -/
def F_light_CheckVector_3 (n : Nat) (a0 : Int) (a1 : Int) (a2 : Int) : Option (Int) :=
  (F_light_within_4 n a0 (-1048576) 1048576).bind fun t1 =>
  (F_light_within_4 n a1 (-1048576) 1048576).bind fun t2 =>
  (F_light_within_4 n a2 (-1048576) 1048576).bind fun t3 =>
  (F_light_first n ([I t1, I t2, I t3])).bind fun t4 =>
  some t4
theorem c_light_CheckVector_3 {n : Nat} {a0 : Int} {a1 : Int} {a2 : Int} {r : Int} (h : F_light_CheckVector_3 n a0 a1 a2 = some r) : Computes cx 92 [.agg [I a0, I a1, I a2]] (I r) := by
  unfold F_light_CheckVector_3 at h
  obtain ⟨t1, h1, h⟩ := bnd_of h
  obtain ⟨t2, h2, h⟩ := bnd_of h
  obtain ⟨t3, h3, h⟩ := bnd_of h
  obtain ⟨t4, h4, h⟩ := bnd_of h
  replace h := Option.some.inj h
  subst h
  exact run (n := 100) (f := 92) (args := [.agg [I a0, I a1, I a2]]) (orc := [.ret (I t1), .ret (I t2), .ret (I t3), .ret (I t4)]) (r := I t4) (ob := [Computes cx 91 [.lst true 1 [I t1, I t2, I t3]] (I t4), Computes cx 102 [I a2, I (-1048576), I 1048576] (I t3), Computes cx 102 [I a1, I (-1048576), I 1048576] (I t2), Computes cx 102 [I a0, I (-1048576), I 1048576] (I t1)]) (by kernel_rfl) ⟨((c_light_first h4).le (.cons (.full _ _ _) (.nil)) (.refl _)), (c_light_within_4 h3), (c_light_within_4 h2), (c_light_within_4 h1), trivial⟩
/- spillage/light.CheckDirection: .agg [I a0, I a1, I a2] -/
def F_light_CheckDirection_3 (n : Nat) (a0 : Int) (a1 : Int) (a2 : Int) : Option (Int) :=
  (F_light_CheckVector_3 n a0 a1 a2).bind fun t1 =>
  (F_light_when_4 n ((a0 == 0) && ((a1 == 0) && ((a2 == 0) && true))) 6).bind fun t2 =>
  (F_light_first n ([I t1, I t2])).bind fun t3 =>
  some t3
theorem c_light_CheckDirection_3 {n : Nat} {a0 : Int} {a1 : Int} {a2 : Int} {r : Int} (h : F_light_CheckDirection_3 n a0 a1 a2 = some r) : Computes cx 76 [.agg [I a0, I a1, I a2]] (I r) := by
  unfold F_light_CheckDirection_3 at h
  obtain ⟨t1, h1, h⟩ := bnd_of h
  obtain ⟨t2, h2, h⟩ := bnd_of h
  obtain ⟨t3, h3, h⟩ := bnd_of h
  replace h := Option.some.inj h
  subst h
  exact run (n := 100) (f := 76) (args := [.agg [I a0, I a1, I a2]]) (orc := [.ret (I t1), .ret (I t2), .ret (I t3)]) (r := I t3) (ob := [Computes cx 91 [.lst true 1 [I t1, I t2]] (I t3), Computes cx 93 [B ((a0 == 0) && ((a1 == 0) && ((a2 == 0) && true))), I 6] (I t2), Computes cx 92 [.agg [I a0, I a1, I a2]] (I t1)]) (by kernel_rfl) ⟨((c_light_first h3).le (.cons (.full _ _ _) (.nil)) (.refl _)), (c_light_when_4 h2), (c_light_CheckVector_3 h1), trivial⟩
/- spillage/sun.CheckRay: .agg [I a0, I a1, I a2] -/
def F_sun_CheckRay_3 (n : Nat) (a0 : Int) (a1 : Int) (a2 : Int) : Option (Int) :=
  (F_light_CheckDirection_3 n a0 a1 a2).bind fun t1 =>
  (F_sun_far_3 n a0 a1 a2).bind fun t2 =>
  (F_sun_when n (decide (t2 > 4096)) 3).bind fun t3 =>
  (F_sun_first n ([I t1, I t3])).bind fun t4 =>
  some t4
theorem c_sun_CheckRay_3 {n : Nat} {a0 : Int} {a1 : Int} {a2 : Int} {r : Int} (h : F_sun_CheckRay_3 n a0 a1 a2 = some r) : Computes cx 42 [.agg [I a0, I a1, I a2]] (I r) := by
  unfold F_sun_CheckRay_3 at h
  obtain ⟨t1, h1, h⟩ := bnd_of h
  obtain ⟨t2, h2, h⟩ := bnd_of h
  obtain ⟨t3, h3, h⟩ := bnd_of h
  obtain ⟨t4, h4, h⟩ := bnd_of h
  replace h := Option.some.inj h
  subst h
  exact run (n := 100) (f := 42) (args := [.agg [I a0, I a1, I a2]]) (orc := [.ret (I t1), .ret (I t2), .ret (I t3), .ret (I t4)]) (r := I t4) (ob := [Computes cx 32 [.lst true 1 [I t1, I t3]] (I t4), Computes cx 36 [B (decide (t2 > 4096)), I 3] (I t3), Computes cx 77 [.agg [I a0, I a1, I a2]] (I t2), Computes cx 76 [.agg [I a0, I a1, I a2]] (I t1)]) (by kernel_rfl) ⟨((c_sun_first h4).le (.cons (.full _ _ _) (.nil)) (.refl _)), (c_sun_when h3), (c_sun_far_3 h2), (c_light_CheckDirection_3 h1), trivial⟩
/- spillage/sun.length: .agg [I a0, I a1, I a2] -/
def F_sun_length_3 (n : Nat) (a0 : Int) (a1 : Int) (a2 : Int) : Option (Int × Bool) :=
  (F_sun_dot_4 n a0 a1 a2 a0 a1 a2).bind fun t1 =>
  (F_sun_root n t1).bind fun t2 =>
  if inI64 (t2 * t2) then
  some (t2, ((t2 * t2) == t1))
  else none
theorem c_sun_length_3 {n : Nat} {a0 : Int} {a1 : Int} {a2 : Int} {r : Int × Bool} (h : F_sun_length_3 n a0 a1 a2 = some r) : Computes cx 43 [.agg [I a0, I a1, I a2]] (.tup [I r.1, B r.2]) := by
  unfold F_sun_length_3 at h
  obtain ⟨t1, h1, h⟩ := bnd_of h
  obtain ⟨t2, h2, h⟩ := bnd_of h
  obtain ⟨h3, h⟩ := grd_of h
  replace h := Option.some.inj h
  subst h
  exact run (n := 100) (f := 43) (args := [.agg [I a0, I a1, I a2]]) (orc := [.ret (I t1), .ret (I t2)]) (r := .tup [I t2, B ((t2 * t2) == t1)]) (ob := [inI64 (t2 * t2), Computes cx 78 [I t1] (I t2), Computes cx 53 [.agg [I a0, I a1, I a2], .agg [I a0, I a1, I a2]] (I t1)]) (by kernel_rfl) ⟨h3, (c_sun_root h2), (c_sun_dot_4 h1), trivial⟩
/- spillage/sun.Normal: .agg [I a0, I a1, I a2], .agg [I a3, I a4, I a5] -/
def F_sun_Normal_2 (n : Nat) (a0 : Int) (a1 : Int) (a2 : Int) (a3 : Int) (a4 : Int) (a5 : Int) : Option (Int × Int × Int × Int) :=
  (F_sun_CheckRay_3 n a0 a1 a2).bind fun t1 =>
  (F_sun_CheckRay_3 n a3 a4 a5).bind fun t2 =>
  (F_sun_first n ([I t1, I t2])).bind fun t3 =>
  if t3 = 0 then
    (F_sun_length_3 n a0 a1 a2).bind fun t5 =>
    (F_sun_length_3 n a3 a4 a5).bind fun t6 =>
    if t5.2 = true then
      (F_sun_when n (!t6.2) 1).bind fun t8 =>
      (F_sun_opposite_2 n a0 a1 a2 a3 a4 a5).bind fun t9 =>
      (F_sun_when n t9 6).bind fun t10 =>
      (F_sun_first n ([I t8, I t10])).bind fun t11 =>
      if t11 = 0 then
        (F_sun_sum n t6.1 a0 a1 a2 t5.1 a3 a4 a5).bind fun t13 =>
        (F_sun_small n t13.1 t13.2.1 t13.2.2).bind fun t14 =>
        some (t14.1, t14.2.1, t14.2.2.1, t14.2.2.2)
      else
      some (0, 0, 0, t11)
    else
    (F_sun_when_2 n).bind fun t8 =>
    (F_sun_opposite_2 n a0 a1 a2 a3 a4 a5).bind fun t9 =>
    (F_sun_when n t9 6).bind fun t10 =>
    (F_sun_first n ([I t8, I t10])).bind fun t11 =>
    if t11 = 0 then
      (F_sun_sum n t6.1 a0 a1 a2 t5.1 a3 a4 a5).bind fun t13 =>
      (F_sun_small n t13.1 t13.2.1 t13.2.2).bind fun t14 =>
      some (t14.1, t14.2.1, t14.2.2.1, t14.2.2.2)
    else
    some (0, 0, 0, t11)
  else
  some (0, 0, 0, t3)
theorem c_sun_Normal_2 {n : Nat} {a0 : Int} {a1 : Int} {a2 : Int} {a3 : Int} {a4 : Int} {a5 : Int} {r : Int × Int × Int × Int} (h : F_sun_Normal_2 n a0 a1 a2 a3 a4 a5 = some r) : Computes cx 9 [.agg [I a0, I a1, I a2], .agg [I a3, I a4, I a5]] (.tup [.agg [I r.1, I r.2.1, I r.2.2.1], I r.2.2.2]) := by
  unfold F_sun_Normal_2 at h
  obtain ⟨t1, h1, h⟩ := bnd_of h
  obtain ⟨t2, h2, h⟩ := bnd_of h
  obtain ⟨t3, h3, h⟩ := bnd_of h
  by_cases h4 : t3 = 0
  · replace h := ite_t h h4
    obtain ⟨t5, h5, h⟩ := bnd_of h
    obtain ⟨t6, h6, h⟩ := bnd_of h
    by_cases h7 : t5.2 = true
    · replace h := ite_t h h7
      obtain ⟨t8, h8, h⟩ := bnd_of h
      obtain ⟨t9, h9, h⟩ := bnd_of h
      obtain ⟨t10, h10, h⟩ := bnd_of h
      obtain ⟨t11, h11, h⟩ := bnd_of h
      by_cases h12 : t11 = 0
      · replace h := ite_t h h12
        obtain ⟨t13, h13, h⟩ := bnd_of h
        obtain ⟨t14, h14, h⟩ := bnd_of h
        replace h := Option.some.inj h
        subst h
        exact run (n := 100) (f := 9) (args := [.agg [I a0, I a1, I a2], .agg [I a3, I a4, I a5]]) (orc := [.ret (I t1), .ret (I t2), .ret (I t3), .br false, .ret (.tup [I t5.1, B t5.2]), .ret (.tup [I t6.1, B t6.2]), .br false, .ret (I t8), .ret (B t9), .ret (I t10), .ret (I t11), .br false, .ret (.agg [I t13.1, I t13.2.1, I t13.2.2]), .ret (.tup [.agg [I t14.1, I t14.2.1, I t14.2.2.1], I t14.2.2.2])]) (r := .tup [.agg [I t14.1, I t14.2.1, I t14.2.2.1], I t14.2.2.2]) (ob := [Computes cx 45 [.agg [I t13.1, I t13.2.1, I t13.2.2]] (.tup [.agg [I t14.1, I t14.2.1, I t14.2.2.1], I t14.2.2.2]), Computes cx 46 [I t6.1, .agg [I a0, I a1, I a2], I t5.1, .agg [I a3, I a4, I a5]] (.agg [I t13.1, I t13.2.1, I t13.2.2]), (t11 != 0) = false, Computes cx 32 [.lst true 1 [I t8, I t10]] (I t11), Computes cx 36 [B t9, I 6] (I t10), Computes cx 44 [.agg [I a0, I a1, I a2], .agg [I a3, I a4, I a5]] (B t9), Computes cx 36 [B (!t6.2), I 1] (I t8), (!t5.2) = false, Computes cx 43 [.agg [I a3, I a4, I a5]] (.tup [I t6.1, B t6.2]), Computes cx 43 [.agg [I a0, I a1, I a2]] (.tup [I t5.1, B t5.2]), (t3 != 0) = false, Computes cx 32 [.lst true 1 [I t1, I t2]] (I t3), Computes cx 42 [.agg [I a3, I a4, I a5]] (I t2), Computes cx 42 [.agg [I a0, I a1, I a2]] (I t1)]) (by kernel_rfl) ⟨(c_sun_small h14), (c_sun_sum h13), (nef h12), ((c_sun_first h11).le (.cons (.full _ _ _) (.nil)) (.refl _)), (c_sun_when h10), (c_sun_opposite_2 h9), (c_sun_when h8), (notf h7), (c_sun_length_3 h6), (c_sun_length_3 h5), (nef h4), ((c_sun_first h3).le (.cons (.full _ _ _) (.nil)) (.refl _)), (c_sun_CheckRay_3 h2), (c_sun_CheckRay_3 h1), trivial⟩
      · replace h := ite_f h h12
        replace h := Option.some.inj h
        subst h
        exact run (n := 100) (f := 9) (args := [.agg [I a0, I a1, I a2], .agg [I a3, I a4, I a5]]) (orc := [.ret (I t1), .ret (I t2), .ret (I t3), .br false, .ret (.tup [I t5.1, B t5.2]), .ret (.tup [I t6.1, B t6.2]), .br false, .ret (I t8), .ret (B t9), .ret (I t10), .ret (I t11), .br true]) (r := .tup [.agg [I 0, I 0, I 0], I t11]) (ob := [(t11 != 0) = true, Computes cx 32 [.lst true 1 [I t8, I t10]] (I t11), Computes cx 36 [B t9, I 6] (I t10), Computes cx 44 [.agg [I a0, I a1, I a2], .agg [I a3, I a4, I a5]] (B t9), Computes cx 36 [B (!t6.2), I 1] (I t8), (!t5.2) = false, Computes cx 43 [.agg [I a3, I a4, I a5]] (.tup [I t6.1, B t6.2]), Computes cx 43 [.agg [I a0, I a1, I a2]] (.tup [I t5.1, B t5.2]), (t3 != 0) = false, Computes cx 32 [.lst true 1 [I t1, I t2]] (I t3), Computes cx 42 [.agg [I a3, I a4, I a5]] (I t2), Computes cx 42 [.agg [I a0, I a1, I a2]] (I t1)]) (by kernel_rfl) ⟨(net h12), ((c_sun_first h11).le (.cons (.full _ _ _) (.nil)) (.refl _)), (c_sun_when h10), (c_sun_opposite_2 h9), (c_sun_when h8), (notf h7), (c_sun_length_3 h6), (c_sun_length_3 h5), (nef h4), ((c_sun_first h3).le (.cons (.full _ _ _) (.nil)) (.refl _)), (c_sun_CheckRay_3 h2), (c_sun_CheckRay_3 h1), trivial⟩
    · replace h := ite_f h h7
      obtain ⟨t8, h8, h⟩ := bnd_of h
      obtain ⟨t9, h9, h⟩ := bnd_of h
      obtain ⟨t10, h10, h⟩ := bnd_of h
      obtain ⟨t11, h11, h⟩ := bnd_of h
      by_cases h12 : t11 = 0
      · replace h := ite_t h h12
        obtain ⟨t13, h13, h⟩ := bnd_of h
        obtain ⟨t14, h14, h⟩ := bnd_of h
        replace h := Option.some.inj h
        subst h
        exact run (n := 100) (f := 9) (args := [.agg [I a0, I a1, I a2], .agg [I a3, I a4, I a5]]) (orc := [.ret (I t1), .ret (I t2), .ret (I t3), .br false, .ret (.tup [I t5.1, B t5.2]), .ret (.tup [I t6.1, B t6.2]), .br true, .ret (I t8), .ret (B t9), .ret (I t10), .ret (I t11), .br false, .ret (.agg [I t13.1, I t13.2.1, I t13.2.2]), .ret (.tup [.agg [I t14.1, I t14.2.1, I t14.2.2.1], I t14.2.2.2])]) (r := .tup [.agg [I t14.1, I t14.2.1, I t14.2.2.1], I t14.2.2.2]) (ob := [Computes cx 45 [.agg [I t13.1, I t13.2.1, I t13.2.2]] (.tup [.agg [I t14.1, I t14.2.1, I t14.2.2.1], I t14.2.2.2]), Computes cx 46 [I t6.1, .agg [I a0, I a1, I a2], I t5.1, .agg [I a3, I a4, I a5]] (.agg [I t13.1, I t13.2.1, I t13.2.2]), (t11 != 0) = false, Computes cx 32 [.lst true 1 [I t8, I t10]] (I t11), Computes cx 36 [B t9, I 6] (I t10), Computes cx 44 [.agg [I a0, I a1, I a2], .agg [I a3, I a4, I a5]] (B t9), Computes cx 36 [B true, I 1] (I t8), (!t5.2) = true, Computes cx 43 [.agg [I a3, I a4, I a5]] (.tup [I t6.1, B t6.2]), Computes cx 43 [.agg [I a0, I a1, I a2]] (.tup [I t5.1, B t5.2]), (t3 != 0) = false, Computes cx 32 [.lst true 1 [I t1, I t2]] (I t3), Computes cx 42 [.agg [I a3, I a4, I a5]] (I t2), Computes cx 42 [.agg [I a0, I a1, I a2]] (I t1)]) (by kernel_rfl) ⟨(c_sun_small h14), (c_sun_sum h13), (nef h12), ((c_sun_first h11).le (.cons (.full _ _ _) (.nil)) (.refl _)), (c_sun_when h10), (c_sun_opposite_2 h9), (c_sun_when_2 h8), (nott (bfalse h7)), (c_sun_length_3 h6), (c_sun_length_3 h5), (nef h4), ((c_sun_first h3).le (.cons (.full _ _ _) (.nil)) (.refl _)), (c_sun_CheckRay_3 h2), (c_sun_CheckRay_3 h1), trivial⟩
      · replace h := ite_f h h12
        replace h := Option.some.inj h
        subst h
        exact run (n := 100) (f := 9) (args := [.agg [I a0, I a1, I a2], .agg [I a3, I a4, I a5]]) (orc := [.ret (I t1), .ret (I t2), .ret (I t3), .br false, .ret (.tup [I t5.1, B t5.2]), .ret (.tup [I t6.1, B t6.2]), .br true, .ret (I t8), .ret (B t9), .ret (I t10), .ret (I t11), .br true]) (r := .tup [.agg [I 0, I 0, I 0], I t11]) (ob := [(t11 != 0) = true, Computes cx 32 [.lst true 1 [I t8, I t10]] (I t11), Computes cx 36 [B t9, I 6] (I t10), Computes cx 44 [.agg [I a0, I a1, I a2], .agg [I a3, I a4, I a5]] (B t9), Computes cx 36 [B true, I 1] (I t8), (!t5.2) = true, Computes cx 43 [.agg [I a3, I a4, I a5]] (.tup [I t6.1, B t6.2]), Computes cx 43 [.agg [I a0, I a1, I a2]] (.tup [I t5.1, B t5.2]), (t3 != 0) = false, Computes cx 32 [.lst true 1 [I t1, I t2]] (I t3), Computes cx 42 [.agg [I a3, I a4, I a5]] (I t2), Computes cx 42 [.agg [I a0, I a1, I a2]] (I t1)]) (by kernel_rfl) ⟨(net h12), ((c_sun_first h11).le (.cons (.full _ _ _) (.nil)) (.refl _)), (c_sun_when h10), (c_sun_opposite_2 h9), (c_sun_when_2 h8), (nott (bfalse h7)), (c_sun_length_3 h6), (c_sun_length_3 h5), (nef h4), ((c_sun_first h3).le (.cons (.full _ _ _) (.nil)) (.refl _)), (c_sun_CheckRay_3 h2), (c_sun_CheckRay_3 h1), trivial⟩
  · replace h := ite_f h h4
    replace h := Option.some.inj h
    subst h
    exact run (n := 100) (f := 9) (args := [.agg [I a0, I a1, I a2], .agg [I a3, I a4, I a5]]) (orc := [.ret (I t1), .ret (I t2), .ret (I t3), .br true]) (r := .tup [.agg [I 0, I 0, I 0], I t3]) (ob := [(t3 != 0) = true, Computes cx 32 [.lst true 1 [I t1, I t2]] (I t3), Computes cx 42 [.agg [I a3, I a4, I a5]] (I t2), Computes cx 42 [.agg [I a0, I a1, I a2]] (I t1)]) (by kernel_rfl) ⟨(net h4), ((c_sun_first h3).le (.cons (.full _ _ _) (.nil)) (.refl _)), (c_sun_CheckRay_3 h2), (c_sun_CheckRay_3 h1), trivial⟩
/- spillage/sun.Frame: .agg [I a0, I a1, I a2] -/
def F_sun_Frame (n : Nat) (a0 : Int) (a1 : Int) (a2 : Int) : Option (Int × Int × Int × Int × Int × Int × Int) :=
  (F_sun_CheckRay_3 n a0 a1 a2).bind fun t1 =>
  if t1 = 0 then
    (F_sun_cross_2 n 0 0 1 a0 a1 a2).bind fun t3 =>
    if ((t3.1 == 0) && ((t3.2.1 == 0) && ((t3.2.2 == 0) && true))) = true then
      (F_sun_cross_2 n a0 a1 a2 1 0 0).bind fun t5 =>
      (F_sun_reduced n t5.1 t5.2.1 t5.2.2).bind fun t6 =>
      some (1, 0, 0, t6.1, t6.2.1, t6.2.2, 0)
    else
    (F_sun_reduced n t3.1 t3.2.1 t3.2.2).bind fun t5 =>
    (F_sun_cross_2 n a0 a1 a2 t5.1 t5.2.1 t5.2.2).bind fun t6 =>
    (F_sun_reduced n t6.1 t6.2.1 t6.2.2).bind fun t7 =>
    some (t5.1, t5.2.1, t5.2.2, t7.1, t7.2.1, t7.2.2, 0)
  else
  some (0, 0, 0, 0, 0, 0, t1)
theorem c_sun_Frame {n : Nat} {a0 : Int} {a1 : Int} {a2 : Int} {r : Int × Int × Int × Int × Int × Int × Int} (h : F_sun_Frame n a0 a1 a2 = some r) : Computes cx 11 [.agg [I a0, I a1, I a2]] (.tup [.agg [I r.1, I r.2.1, I r.2.2.1, I r.2.2.2.1, I r.2.2.2.2.1, I r.2.2.2.2.2.1], I r.2.2.2.2.2.2]) := by
  unfold F_sun_Frame at h
  obtain ⟨t1, h1, h⟩ := bnd_of h
  by_cases h2 : t1 = 0
  · replace h := ite_t h h2
    obtain ⟨t3, h3, h⟩ := bnd_of h
    by_cases h4 : ((t3.1 == 0) && ((t3.2.1 == 0) && ((t3.2.2 == 0) && true))) = true
    · replace h := ite_t h h4
      obtain ⟨t5, h5, h⟩ := bnd_of h
      obtain ⟨t6, h6, h⟩ := bnd_of h
      replace h := Option.some.inj h
      subst h
      exact run (n := 100) (f := 11) (args := [.agg [I a0, I a1, I a2]]) (orc := [.ret (I t1), .br false, .ret (.agg [I t3.1, I t3.2.1, I t3.2.2]), .br false, .ret (.agg [I t5.1, I t5.2.1, I t5.2.2]), .ret (.agg [I t6.1, I t6.2.1, I t6.2.2])]) (r := .tup [.agg [I 1, I 0, I 0, I t6.1, I t6.2.1, I t6.2.2], I 0]) (ob := [Computes cx 50 [.agg [I t5.1, I t5.2.1, I t5.2.2]] (.agg [I t6.1, I t6.2.1, I t6.2.2]), Computes cx 49 [.agg [I a0, I a1, I a2], .agg [I 1, I 0, I 0]] (.agg [I t5.1, I t5.2.1, I t5.2.2]), (!((t3.1 == 0) && ((t3.2.1 == 0) && ((t3.2.2 == 0) && true)))) = false, Computes cx 49 [.agg [I 0, I 0, I 1], .agg [I a0, I a1, I a2]] (.agg [I t3.1, I t3.2.1, I t3.2.2]), (t1 != 0) = false, Computes cx 42 [.agg [I a0, I a1, I a2]] (I t1)]) (by kernel_rfl) ⟨(c_sun_reduced h6), (c_sun_cross_2 h5), (notf h4), (c_sun_cross_2 h3), (nef h2), (c_sun_CheckRay_3 h1), trivial⟩
    · replace h := ite_f h h4
      obtain ⟨t5, h5, h⟩ := bnd_of h
      obtain ⟨t6, h6, h⟩ := bnd_of h
      obtain ⟨t7, h7, h⟩ := bnd_of h
      replace h := Option.some.inj h
      subst h
      exact run (n := 100) (f := 11) (args := [.agg [I a0, I a1, I a2]]) (orc := [.ret (I t1), .br false, .ret (.agg [I t3.1, I t3.2.1, I t3.2.2]), .br true, .ret (.agg [I t5.1, I t5.2.1, I t5.2.2]), .ret (.agg [I t6.1, I t6.2.1, I t6.2.2]), .ret (.agg [I t7.1, I t7.2.1, I t7.2.2])]) (r := .tup [.agg [I t5.1, I t5.2.1, I t5.2.2, I t7.1, I t7.2.1, I t7.2.2], I 0]) (ob := [Computes cx 50 [.agg [I t6.1, I t6.2.1, I t6.2.2]] (.agg [I t7.1, I t7.2.1, I t7.2.2]), Computes cx 49 [.agg [I a0, I a1, I a2], .agg [I t5.1, I t5.2.1, I t5.2.2]] (.agg [I t6.1, I t6.2.1, I t6.2.2]), Computes cx 50 [.agg [I t3.1, I t3.2.1, I t3.2.2]] (.agg [I t5.1, I t5.2.1, I t5.2.2]), (!((t3.1 == 0) && ((t3.2.1 == 0) && ((t3.2.2 == 0) && true)))) = true, Computes cx 49 [.agg [I 0, I 0, I 1], .agg [I a0, I a1, I a2]] (.agg [I t3.1, I t3.2.1, I t3.2.2]), (t1 != 0) = false, Computes cx 42 [.agg [I a0, I a1, I a2]] (I t1)]) (by kernel_rfl) ⟨(c_sun_reduced h7), (c_sun_cross_2 h6), (c_sun_reduced h5), (nott (bfalse h4)), (c_sun_cross_2 h3), (nef h2), (c_sun_CheckRay_3 h1), trivial⟩
  · replace h := ite_f h h2
    replace h := Option.some.inj h
    subst h
    exact run (n := 100) (f := 11) (args := [.agg [I a0, I a1, I a2]]) (orc := [.ret (I t1), .br true]) (r := .tup [.agg [I 0, I 0, I 0, I 0, I 0, I 0], I t1]) (ob := [(t1 != 0) = true, Computes cx 42 [.agg [I a0, I a1, I a2]] (I t1)]) (by kernel_rfl) ⟨(net h2), (c_sun_CheckRay_3 h1), trivial⟩
end Go.Proofs.YtiogobiijlaalaaDoor
