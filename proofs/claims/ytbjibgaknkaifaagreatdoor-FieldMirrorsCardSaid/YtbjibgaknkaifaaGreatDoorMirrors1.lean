/-
  Printed by gsx.py: functions of the program as Lean functions, and that the code computes them.
-/
import Derived.Test.YtbjibgaknkaifaaGreatDoorWake
set_option linter.unusedVariables false
set_option linter.unusedSimpArgs false
set_option linter.unnecessarySimpa false
set_option maxRecDepth 10000
namespace Go.Proofs.YtbjibgaknkaifaaGreatDoor
open Go.SX
/- spillage/field.Corners: .agg [.v (.string a0), I a1, I a2, I a3, I a4, I a5, I a6, I a7, I a8, I a9] -/
def F_field_Corners (n : Nat) (a0 : ByteArray) (a1 : Int) (a2 : Int) (a3 : Int) (a4 : Int) (a5 : Int) (a6 : Int) (a7 : Int) (a8 : Int) (a9 : Int) : Option (Int × Int × Int × Int × Int × Int × Int × Int × Int × Int × Int × Int × Int) :=
  (F_field_Mirror_check n a0 a1 a2 a3 a4 a5 a6 a7 a8 a9).bind fun t1 =>
  if t1 = 0 then
    (F_field_times n (-1) a4 a5 a6).bind fun t3 =>
    (F_field_times n (-1) a7 a8 a9).bind fun t4 =>
    (F_field_plus n t3.1 t3.2.1 t3.2.2 t4.1 t4.2.1 t4.2.2).bind fun t5 =>
    (F_field_plus n a1 a2 a3 t5.1 t5.2.1 t5.2.2).bind fun t6 =>
    (F_field_times n 1 a4 a5 a6).bind fun t7 =>
    (F_field_plus n t7.1 t7.2.1 t7.2.2 t4.1 t4.2.1 t4.2.2).bind fun t8 =>
    (F_field_plus n a1 a2 a3 t8.1 t8.2.1 t8.2.2).bind fun t9 =>
    (F_field_times n 1 a7 a8 a9).bind fun t10 =>
    (F_field_plus n t7.1 t7.2.1 t7.2.2 t10.1 t10.2.1 t10.2.2).bind fun t11 =>
    (F_field_plus n a1 a2 a3 t11.1 t11.2.1 t11.2.2).bind fun t12 =>
    (F_field_plus n t3.1 t3.2.1 t3.2.2 t10.1 t10.2.1 t10.2.2).bind fun t13 =>
    (F_field_plus n a1 a2 a3 t13.1 t13.2.1 t13.2.2).bind fun t14 =>
    some (t6.1, t6.2.1, t6.2.2, t9.1, t9.2.1, t9.2.2, t12.1, t12.2.1, t12.2.2, t14.1, t14.2.1, t14.2.2, 0)
  else
  some (0, 0, 0, 0, 0, 0, 0, 0, 0, 0, 0, 0, t1)
theorem c_field_Corners {n : Nat} {a0 : ByteArray} {a1 : Int} {a2 : Int} {a3 : Int} {a4 : Int} {a5 : Int} {a6 : Int} {a7 : Int} {a8 : Int} {a9 : Int} {r : Int × Int × Int × Int × Int × Int × Int × Int × Int × Int × Int × Int × Int} (h : F_field_Corners n a0 a1 a2 a3 a4 a5 a6 a7 a8 a9 = some r) : Computes cx 31 [.agg [.v (.string a0), I a1, I a2, I a3, I a4, I a5, I a6, I a7, I a8, I a9]] (.tup [.agg [I r.1, I r.2.1, I r.2.2.1, I r.2.2.2.1, I r.2.2.2.2.1, I r.2.2.2.2.2.1, I r.2.2.2.2.2.2.1, I r.2.2.2.2.2.2.2.1, I r.2.2.2.2.2.2.2.2.1, I r.2.2.2.2.2.2.2.2.2.1, I r.2.2.2.2.2.2.2.2.2.2.1, I r.2.2.2.2.2.2.2.2.2.2.2.1], I r.2.2.2.2.2.2.2.2.2.2.2.2]) := by
  unfold F_field_Corners at h
  obtain ⟨t1, h1, h⟩ := bnd_of h
  by_cases h2 : t1 = 0
  · replace h := ite_t h h2
    obtain ⟨t3, h3, h⟩ := bnd_of h
    obtain ⟨t4, h4, h⟩ := bnd_of h
    obtain ⟨t5, h5, h⟩ := bnd_of h
    obtain ⟨t6, h6, h⟩ := bnd_of h
    obtain ⟨t7, h7, h⟩ := bnd_of h
    obtain ⟨t8, h8, h⟩ := bnd_of h
    obtain ⟨t9, h9, h⟩ := bnd_of h
    obtain ⟨t10, h10, h⟩ := bnd_of h
    obtain ⟨t11, h11, h⟩ := bnd_of h
    obtain ⟨t12, h12, h⟩ := bnd_of h
    obtain ⟨t13, h13, h⟩ := bnd_of h
    obtain ⟨t14, h14, h⟩ := bnd_of h
    replace h := Option.some.inj h
    subst h
    exact run (n := 100) (f := 31) (args := [.agg [.v (.string a0), I a1, I a2, I a3, I a4, I a5, I a6, I a7, I a8, I a9]]) (orc := [.ret (I t1), .br false, .br true, .no, .no, .ret (.agg [I t3.1, I t3.2.1, I t3.2.2]), .ret (.agg [I t4.1, I t4.2.1, I t4.2.2]), .ret (.agg [I t5.1, I t5.2.1, I t5.2.2]), .ret (.agg [I t6.1, I t6.2.1, I t6.2.2]), .no, .no, .ret (.agg [I t7.1, I t7.2.1, I t7.2.2]), .ret (.agg [I t4.1, I t4.2.1, I t4.2.2]), .ret (.agg [I t8.1, I t8.2.1, I t8.2.2]), .ret (.agg [I t9.1, I t9.2.1, I t9.2.2]), .no, .no, .ret (.agg [I t7.1, I t7.2.1, I t7.2.2]), .ret (.agg [I t10.1, I t10.2.1, I t10.2.2]), .ret (.agg [I t11.1, I t11.2.1, I t11.2.2]), .ret (.agg [I t12.1, I t12.2.1, I t12.2.2]), .no, .no, .ret (.agg [I t3.1, I t3.2.1, I t3.2.2]), .ret (.agg [I t10.1, I t10.2.1, I t10.2.2]), .ret (.agg [I t13.1, I t13.2.1, I t13.2.2]), .ret (.agg [I t14.1, I t14.2.1, I t14.2.2]), .no, .no]) (r := .tup [.agg [I t6.1, I t6.2.1, I t6.2.2, I t9.1, I t9.2.1, I t9.2.2, I t12.1, I t12.2.1, I t12.2.2, I t14.1, I t14.2.1, I t14.2.2], I 0]) (ob := [inI64 4, Computes cx 112 [.agg [I a1, I a2, I a3], .agg [I t13.1, I t13.2.1, I t13.2.2]] (.agg [I t14.1, I t14.2.1, I t14.2.2]), Computes cx 112 [.agg [I t3.1, I t3.2.1, I t3.2.2], .agg [I t10.1, I t10.2.1, I t10.2.2]] (.agg [I t13.1, I t13.2.1, I t13.2.2]), Computes cx 113 [I 1, .agg [I a7, I a8, I a9]] (.agg [I t10.1, I t10.2.1, I t10.2.2]), Computes cx 113 [I (-1), .agg [I a4, I a5, I a6]] (.agg [I t3.1, I t3.2.1, I t3.2.2]), inI64 3, Computes cx 112 [.agg [I a1, I a2, I a3], .agg [I t11.1, I t11.2.1, I t11.2.2]] (.agg [I t12.1, I t12.2.1, I t12.2.2]), Computes cx 112 [.agg [I t7.1, I t7.2.1, I t7.2.2], .agg [I t10.1, I t10.2.1, I t10.2.2]] (.agg [I t11.1, I t11.2.1, I t11.2.2]), Computes cx 113 [I 1, .agg [I a7, I a8, I a9]] (.agg [I t10.1, I t10.2.1, I t10.2.2]), Computes cx 113 [I 1, .agg [I a4, I a5, I a6]] (.agg [I t7.1, I t7.2.1, I t7.2.2]), inI64 2, Computes cx 112 [.agg [I a1, I a2, I a3], .agg [I t8.1, I t8.2.1, I t8.2.2]] (.agg [I t9.1, I t9.2.1, I t9.2.2]), Computes cx 112 [.agg [I t7.1, I t7.2.1, I t7.2.2], .agg [I t4.1, I t4.2.1, I t4.2.2]] (.agg [I t8.1, I t8.2.1, I t8.2.2]), Computes cx 113 [I (-1), .agg [I a7, I a8, I a9]] (.agg [I t4.1, I t4.2.1, I t4.2.2]), Computes cx 113 [I 1, .agg [I a4, I a5, I a6]] (.agg [I t7.1, I t7.2.1, I t7.2.2]), inI64 1, Computes cx 112 [.agg [I a1, I a2, I a3], .agg [I t5.1, I t5.2.1, I t5.2.2]] (.agg [I t6.1, I t6.2.1, I t6.2.2]), Computes cx 112 [.agg [I t3.1, I t3.2.1, I t3.2.2], .agg [I t4.1, I t4.2.1, I t4.2.2]] (.agg [I t5.1, I t5.2.1, I t5.2.2]), Computes cx 113 [I (-1), .agg [I a7, I a8, I a9]] (.agg [I t4.1, I t4.2.1, I t4.2.2]), Computes cx 113 [I (-1), .agg [I a4, I a5, I a6]] (.agg [I t3.1, I t3.2.1, I t3.2.2]), (t1 != 0) = false, Computes cx 63 [.agg [.v (.string a0), I a1, I a2, I a3, I a4, I a5, I a6, I a7, I a8, I a9]] (I t1)]) (by kernel_rfl) ⟨(by unfold inI64; omega), (c_field_plus h14), (c_field_plus h13), (c_field_times h10), (c_field_times h3), (by unfold inI64; omega), (c_field_plus h12), (c_field_plus h11), (c_field_times h10), (c_field_times h7), (by unfold inI64; omega), (c_field_plus h9), (c_field_plus h8), (c_field_times h4), (c_field_times h7), (by unfold inI64; omega), (c_field_plus h6), (c_field_plus h5), (c_field_times h4), (c_field_times h3), (nef h2), (c_field_Mirror_check h1), trivial⟩
  · replace h := ite_f h h2
    replace h := Option.some.inj h
    subst h
    exact run (n := 100) (f := 31) (args := [.agg [.v (.string a0), I a1, I a2, I a3, I a4, I a5, I a6, I a7, I a8, I a9]]) (orc := [.ret (I t1), .br true]) (r := .tup [.agg [I 0, I 0, I 0, I 0, I 0, I 0, I 0, I 0, I 0, I 0, I 0, I 0], I t1]) (ob := [(t1 != 0) = true, Computes cx 63 [.agg [.v (.string a0), I a1, I a2, I a3, I a4, I a5, I a6, I a7, I a8, I a9]] (I t1)]) (by kernel_rfl) ⟨(net h2), (c_field_Mirror_check h1), trivial⟩
/- spillage/field.Normal: .agg [.v (.string a0), I a1, I a2, I a3, I a4, I a5, I a6, I a7, I a8, I a9] -/
def F_field_Normal (n : Nat) (a0 : ByteArray) (a1 : Int) (a2 : Int) (a3 : Int) (a4 : Int) (a5 : Int) (a6 : Int) (a7 : Int) (a8 : Int) (a9 : Int) : Option (Int × Int × Int × Int) :=
  (F_field_Mirror_check n a0 a1 a2 a3 a4 a5 a6 a7 a8 a9).bind fun t1 =>
  if t1 = 0 then
    (F_field_Mirror_normal n a0 a1 a2 a3 a4 a5 a6 a7 a8 a9).bind fun t3 =>
    some (t3.1, t3.2.1, t3.2.2, 0)
  else
  some (0, 0, 0, t1)
theorem c_field_Normal {n : Nat} {a0 : ByteArray} {a1 : Int} {a2 : Int} {a3 : Int} {a4 : Int} {a5 : Int} {a6 : Int} {a7 : Int} {a8 : Int} {a9 : Int} {r : Int × Int × Int × Int} (h : F_field_Normal n a0 a1 a2 a3 a4 a5 a6 a7 a8 a9 = some r) : Computes cx 32 [.agg [.v (.string a0), I a1, I a2, I a3, I a4, I a5, I a6, I a7, I a8, I a9]] (.tup [.agg [I r.1, I r.2.1, I r.2.2.1], I r.2.2.2]) := by
  unfold F_field_Normal at h
  obtain ⟨t1, h1, h⟩ := bnd_of h
  by_cases h2 : t1 = 0
  · replace h := ite_t h h2
    obtain ⟨t3, h3, h⟩ := bnd_of h
    replace h := Option.some.inj h
    subst h
    exact run (n := 100) (f := 32) (args := [.agg [.v (.string a0), I a1, I a2, I a3, I a4, I a5, I a6, I a7, I a8, I a9]]) (orc := [.ret (I t1), .br false, .ret (.agg [I t3.1, I t3.2.1, I t3.2.2])]) (r := .tup [.agg [I t3.1, I t3.2.1, I t3.2.2], I 0]) (ob := [Computes cx 66 [.agg [.v (.string a0), I a1, I a2, I a3, I a4, I a5, I a6, I a7, I a8, I a9]] (.agg [I t3.1, I t3.2.1, I t3.2.2]), (t1 != 0) = false, Computes cx 63 [.agg [.v (.string a0), I a1, I a2, I a3, I a4, I a5, I a6, I a7, I a8, I a9]] (I t1)]) (by kernel_rfl) ⟨(c_field_Mirror_normal h3), (nef h2), (c_field_Mirror_check h1), trivial⟩
  · replace h := ite_f h h2
    replace h := Option.some.inj h
    subst h
    exact run (n := 100) (f := 32) (args := [.agg [.v (.string a0), I a1, I a2, I a3, I a4, I a5, I a6, I a7, I a8, I a9]]) (orc := [.ret (I t1), .br true]) (r := .tup [.agg [I 0, I 0, I 0], I t1]) (ob := [(t1 != 0) = true, Computes cx 63 [.agg [.v (.string a0), I a1, I a2, I a3, I a4, I a5, I a6, I a7, I a8, I a9]] (I t1)]) (by kernel_rfl) ⟨(net h2), (c_field_Mirror_check h1), trivial⟩
/- spillage/field.Facets$1: .agg [I a0, I a1, I a2, I a3] -/
def F_field_Facets_c1 (n : Nat) (a0 : Int) (a1 : Int) (a2 : Int) (a3 : Int) : Option (Int × Int × Int) :=
  some (a1, a2, a3)
theorem c_field_Facets_c1 {n : Nat} {a0 : Int} {a1 : Int} {a2 : Int} {a3 : Int} {r : Int × Int × Int} (h : F_field_Facets_c1 n a0 a1 a2 a3 = some r) : Computes cx 94 [.agg [I a0, I a1, I a2, I a3]] (.agg [I r.1, I r.2.1, I r.2.2]) := by
  unfold F_field_Facets_c1 at h
  replace h := Option.some.inj h
  subst h
  exact run (n := 100) (f := 94) (args := [.agg [I a0, I a1, I a2, I a3]]) (orc := []) (r := .agg [I a1, I a2, I a3]) (ob := []) (by kernel_rfl) trivial
def F_field_Facets_L2 (n : Nat) (a0 : ByteArray) (a1 : Int) (a2 : Int) (a3 : Int) (a4 : Int) (a5 : Int) (a6 : Int) (a7 : Int) (a8 : Int) (a9 : Int) (a10 : Int) (sa : Int) (sb : (Unit) ⊕ (Int × List D)) : Option (((Unit) ⊕ (Int × List D)) ⊕ ((Unit) ⊕ (List D))) := match sb with
  | (.inl sb) => (
    if 0 < a10 then
      (F_field_times n a10 a1 a2 a3).bind fun tb2 =>
      if inI64 (1 - a10) then
      (F_field_times n (1 - a10) a4 a5 a6).bind fun tb4 =>
      if inI64 (2 * sa) then
      if inI64 ((2 * sa) + 1) then
      if inI64 (((2 * sa) + 1) - a10) then
      (F_field_times n (((2 * sa) + 1) - a10) a7 a8 a9).bind fun tb8 =>
      (F_field_plus n tb4.1 tb4.2.1 tb4.2.2 tb8.1 tb8.2.1 tb8.2.2).bind fun tb9 =>
      (F_field_plus n tb2.1 tb2.2.1 tb2.2.2 tb9.1 tb9.2.1 tb9.2.2).bind fun tb10 =>
      if inI64 (sa * a10) then
      if inI64 ((sa * a10) + 0) then
      some (.inl (.inr (1, [.agg [I ((sa * a10) + 0), I tb10.1, I tb10.2.1, I tb10.2.2]])))
      else none
      else none
      else none
      else none
      else none
      else none
    else
    some (.inr (.inl ())))
  | (.inr sb) => (
    if sb.1 < a10 then
      (F_field_times n a10 a1 a2 a3).bind fun tb2 =>
      if inI64 (2 * sb.1) then
      if inI64 ((2 * sb.1) + 1) then
      if inI64 (((2 * sb.1) + 1) - a10) then
      (F_field_times n (((2 * sb.1) + 1) - a10) a4 a5 a6).bind fun tb6 =>
      if inI64 (2 * sa) then
      if inI64 ((2 * sa) + 1) then
      if inI64 (((2 * sa) + 1) - a10) then
      (F_field_times n (((2 * sa) + 1) - a10) a7 a8 a9).bind fun tb10 =>
      (F_field_plus n tb6.1 tb6.2.1 tb6.2.2 tb10.1 tb10.2.1 tb10.2.2).bind fun tb11 =>
      (F_field_plus n tb2.1 tb2.2.1 tb2.2.2 tb11.1 tb11.2.1 tb11.2.2).bind fun tb12 =>
      if inI64 (sa * a10) then
      if inI64 ((sa * a10) + sb.1) then
      if roomP 32 ((sb.2).length + 1) then
      if inI64 (sb.1 + 1) then
      some (.inl (.inr ((sb.1 + 1), (sb.2 ++ ([.agg [I ((sa * a10) + sb.1), I tb12.1, I tb12.2.1, I tb12.2.2]] : List D)))))
      else none
      else none
      else none
      else none
      else none
      else none
      else none
      else none
      else none
      else none
    else
    some (.inr (.inr sb.2)))
noncomputable def T_field_Facets_L2 (a0 : ByteArray) (a1 : Int) (a2 : Int) (a3 : Int) (a4 : Int) (a5 : Int) (a6 : Int) (a7 : Int) (a8 : Int) (a9 : Int) (a10 : Int) (sa : Int) (sb : (Unit) ⊕ (Int × List D)) : List (Nat × AV) := match sb with
  | (.inl sb) => [(0, .own 31 0), (1, .ptr 20 0 0 0 0), (2, .ptr 19 0 0 0 0), (4, .d (I sa)), (7, .d (I a10)), (8, .d (I sa)), (11, .d (I a10)), (12, .d (I 0))]
  | (.inr sb) => [(0, .own 31 0), (1, .ptr 20 0 0 0 0), (2, .ptr 19 0 0 0 0), (4, .d (I sa)), (7, .d (I a10)), (8, .d (I sa)), (11, .d (I a10)), (12, .d (I sb.1))]
noncomputable def H_field_Facets_L2 (a0 : ByteArray) (a1 : Int) (a2 : Int) (a3 : Int) (a4 : Int) (a5 : Int) (a6 : Int) (a7 : Int) (a8 : Int) (a9 : Int) (a10 : Int) (sa : Int) (sb : (Unit) ⊕ (Int × List D)) : List (Nat × Blk) := match sb with
  | (.inl sb) => [(0, .box (.d (.agg [.v (.string a0), I a1, I a2, I a3, I a4, I a5, I a6, I a7, I a8, I a9]))), (19, .box (.d (.agg [.v (.string a0), I a1, I a2, I a3, I a4, I a5, I a6, I a7, I a8, I a9]))), (20, .box (.d (I a10))), (28, .box (.d (.lst true 0 []))), (31, .loop true [(6, .fn (.func 128) [] [.ptr 20 0 0 0 0, .ptr 19 0 0 0 0]), (4, .d (.lst true 0 [])), (2, .ptr 28 0 0 0 0), (1, .fn (.func 128) [] [.ptr 20 0 0 0 0, .ptr 19 0 0 0 0]), (0, .d (.lst true 0 []))] [7] (rangeAt cx.P 127 0).1 (rangeAt cx.P 127 0).2 13)]
  | (.inr sb) => [(0, .box (.d (.agg [.v (.string a0), I a1, I a2, I a3, I a4, I a5, I a6, I a7, I a8, I a9]))), (19, .box (.d (.agg [.v (.string a0), I a1, I a2, I a3, I a4, I a5, I a6, I a7, I a8, I a9]))), (20, .box (.d (I a10))), (28, .box (.own 81 0)), (31, .loop true [(6, .fn (.func 128) [] [.ptr 20 0 0 0 0, .ptr 19 0 0 0 0]), (4, .d (.lst true 0 [])), (2, .ptr 28 0 0 0 0), (1, .fn (.func 128) [] [.ptr 20 0 0 0 0, .ptr 19 0 0 0 0]), (0, .d (.lst true 0 []))] [7] (rangeAt cx.P 127 0).1 (rangeAt cx.P 127 0).2 13), (81, .row 0 4 sb.2)]
noncomputable def X_field_Facets_L2 (a0 : ByteArray) (a1 : Int) (a2 : Int) (a3 : Int) (a4 : Int) (a5 : Int) (a6 : Int) (a7 : Int) (a8 : Int) (a9 : Int) (a10 : Int) (sa : Int) (e : (Unit) ⊕ (List D)) : Ex := match e with
  | (.inl e) => (.exit 2)
  | (.inr e) => (.exit 2)
noncomputable def XT_field_Facets_L2 (a0 : ByteArray) (a1 : Int) (a2 : Int) (a3 : Int) (a4 : Int) (a5 : Int) (a6 : Int) (a7 : Int) (a8 : Int) (a9 : Int) (a10 : Int) (sa : Int) (e : (Unit) ⊕ (List D)) : List (Nat × AV) := match e with
  | (.inl e) => [(0, .own 31 0), (1, .ptr 20 0 0 0 0), (2, .ptr 19 0 0 0 0), (7, .d (I a10)), (8, .d (I sa))]
  | (.inr e) => [(0, .own 31 0), (1, .ptr 20 0 0 0 0), (2, .ptr 19 0 0 0 0), (7, .d (I a10)), (8, .d (I sa))]
noncomputable def XH_field_Facets_L2 (a0 : ByteArray) (a1 : Int) (a2 : Int) (a3 : Int) (a4 : Int) (a5 : Int) (a6 : Int) (a7 : Int) (a8 : Int) (a9 : Int) (a10 : Int) (sa : Int) (e : (Unit) ⊕ (List D)) : List (Nat × Blk) := match e with
  | (.inl e) => [(0, .box (.d (.agg [.v (.string a0), I a1, I a2, I a3, I a4, I a5, I a6, I a7, I a8, I a9]))), (19, .box (.d (.agg [.v (.string a0), I a1, I a2, I a3, I a4, I a5, I a6, I a7, I a8, I a9]))), (20, .box (.d (I a10))), (28, .box (.d (.lst true 0 []))), (31, .loop true [(6, .fn (.func 128) [] [.ptr 20 0 0 0 0, .ptr 19 0 0 0 0]), (4, .d (.lst true 0 [])), (2, .ptr 28 0 0 0 0), (1, .fn (.func 128) [] [.ptr 20 0 0 0 0, .ptr 19 0 0 0 0]), (0, .d (.lst true 0 []))] [7] (rangeAt cx.P 127 0).1 (rangeAt cx.P 127 0).2 13)]
  | (.inr e) => [(0, .box (.d (.agg [.v (.string a0), I a1, I a2, I a3, I a4, I a5, I a6, I a7, I a8, I a9]))), (19, .box (.d (.agg [.v (.string a0), I a1, I a2, I a3, I a4, I a5, I a6, I a7, I a8, I a9]))), (20, .box (.d (I a10))), (28, .box (.own 81 0)), (31, .loop true [(6, .fn (.func 128) [] [.ptr 20 0 0 0 0, .ptr 19 0 0 0 0]), (4, .d (.lst true 0 [])), (2, .ptr 28 0 0 0 0), (1, .fn (.func 128) [] [.ptr 20 0 0 0 0, .ptr 19 0 0 0 0]), (0, .d (.lst true 0 []))] [7] (rangeAt cx.P 127 0).1 (rangeAt cx.P 127 0).2 13), (81, .row 0 4 e)]
theorem R_field_Facets_L2 {n : Nat} {a0 : ByteArray} {a1 : Int} {a2 : Int} {a3 : Int} {a4 : Int} {a5 : Int} {a6 : Int} {a7 : Int} {a8 : Int} {a9 : Int} {a10 : Int} {sa : Int} (sb : (Unit) ⊕ (Int × List D)) (r) (h : F_field_Facets_L2 n a0 a1 a2 a3 a4 a5 a6 a7 a8 a9 a10 sa sb = some r) : Rd cx (loopAt cx.P 128 1) 49 32 false (T_field_Facets_L2 a0 a1 a2 a3 a4 a5 a6 a7 a8 a9 a10 sa) (H_field_Facets_L2 a0 a1 a2 a3 a4 a5 a6 a7 a8 a9 a10 sa) (X_field_Facets_L2 a0 a1 a2 a3 a4 a5 a6 a7 a8 a9 a10 sa) (XT_field_Facets_L2 a0 a1 a2 a3 a4 a5 a6 a7 a8 a9 a10 sa) (XH_field_Facets_L2 a0 a1 a2 a3 a4 a5 a6 a7 a8 a9 a10 sa) sb r := by
  unfold F_field_Facets_L2 at h
  rcases sb with sb | sb
  · by_cases hb1 : 0 < a10
    · replace h := ite_t h hb1
      obtain ⟨tb2, hb2, h⟩ := bnd_of h
      obtain ⟨hb3, h⟩ := grd_of h
      obtain ⟨tb4, hb4, h⟩ := bnd_of h
      obtain ⟨hb5, h⟩ := grd_of h
      obtain ⟨hb6, h⟩ := grd_of h
      obtain ⟨hb7, h⟩ := grd_of h
      obtain ⟨tb8, hb8, h⟩ := bnd_of h
      obtain ⟨tb9, hb9, h⟩ := bnd_of h
      obtain ⟨tb10, hb10, h⟩ := bnd_of h
      obtain ⟨hb11, h⟩ := grd_of h
      obtain ⟨hb12, h⟩ := grd_of h
      replace h := Option.some.inj h
      subst h
      exact ⟨100, 39, [.br true, .ret (.agg [I tb2.1, I tb2.2.1, I tb2.2.2]), .ret (.agg [I tb4.1, I tb4.2.1, I tb4.2.2]), .ret (.agg [I tb8.1, I tb8.2.1, I tb8.2.2]), .ret (.agg [I tb9.1, I tb9.2.1, I tb9.2.2]), .ret (.agg [I tb10.1, I tb10.2.1, I tb10.2.2]), .no, .no, .no], [], [0, 1, 2, 4, 7, 8, 11, 12], [0, 19, 20, 28, 31, 81], round_of (ob := [inI64 1, inI64 ((sa * a10) + 0), inI64 (sa * a10), Computes cx 112 [.agg [I tb2.1, I tb2.2.1, I tb2.2.2], .agg [I tb9.1, I tb9.2.1, I tb9.2.2]] (.agg [I tb10.1, I tb10.2.1, I tb10.2.2]), Computes cx 112 [.agg [I tb4.1, I tb4.2.1, I tb4.2.2], .agg [I tb8.1, I tb8.2.1, I tb8.2.2]] (.agg [I tb9.1, I tb9.2.1, I tb9.2.2]), Computes cx 113 [I (((2 * sa) + 1) - a10), .agg [I a7, I a8, I a9]] (.agg [I tb8.1, I tb8.2.1, I tb8.2.2]), inI64 (((2 * sa) + 1) - a10), inI64 ((2 * sa) + 1), inI64 (2 * sa), Computes cx 113 [I (1 - a10), .agg [I a4, I a5, I a6]] (.agg [I tb4.1, I tb4.2.1, I tb4.2.2]), inI64 (1 - a10), inI64 1, inI64 0, Computes cx 113 [I a10, .agg [I a1, I a2, I a3]] (.agg [I tb2.1, I tb2.2.1, I tb2.2.2]), (decide (0 < a10)) = true]) (by kernel_rfl) ⟨(by unfold inI64; omega), hb12, hb11, (c_field_plus hb10), (c_field_plus hb9), (c_field_times hb8), hb7, hb6, hb5, (c_field_times hb4), hb3, (by unfold inI64; omega), (by unfold inI64; omega), (c_field_times hb2), (decide_eq_true hb1), trivial⟩⟩
    · replace h := ite_f h hb1
      replace h := Option.some.inj h
      subst h
      exact ⟨⟨100, 39, [.br false], [], [0, 1, 2, 7, 8], [0, 19, 20, 28, 31], round_of (ob := [(decide (0 < a10)) = false]) (by kernel_rfl) ⟨(decide_eq_false hb1), trivial⟩⟩, nofun⟩
  · by_cases hb1 : sb.1 < a10
    · replace h := ite_t h hb1
      obtain ⟨tb2, hb2, h⟩ := bnd_of h
      obtain ⟨hb3, h⟩ := grd_of h
      obtain ⟨hb4, h⟩ := grd_of h
      obtain ⟨hb5, h⟩ := grd_of h
      obtain ⟨tb6, hb6, h⟩ := bnd_of h
      obtain ⟨hb7, h⟩ := grd_of h
      obtain ⟨hb8, h⟩ := grd_of h
      obtain ⟨hb9, h⟩ := grd_of h
      obtain ⟨tb10, hb10, h⟩ := bnd_of h
      obtain ⟨tb11, hb11, h⟩ := bnd_of h
      obtain ⟨tb12, hb12, h⟩ := bnd_of h
      obtain ⟨hb13, h⟩ := grd_of h
      obtain ⟨hb14, h⟩ := grd_of h
      obtain ⟨hb15, h⟩ := grd_of h
      obtain ⟨hb16, h⟩ := grd_of h
      replace h := Option.some.inj h
      subst h
      exact ⟨100, 82, [.br true, .ret (.agg [I tb2.1, I tb2.2.1, I tb2.2.2]), .ret (.agg [I tb6.1, I tb6.2.1, I tb6.2.2]), .ret (.agg [I tb10.1, I tb10.2.1, I tb10.2.2]), .ret (.agg [I tb11.1, I tb11.2.1, I tb11.2.2]), .ret (.agg [I tb12.1, I tb12.2.1, I tb12.2.2]), .br true, .no], [], [0, 1, 2, 4, 7, 8, 11, 12], [0, 19, 20, 28, 31, 81], round_of (ob := [inI64 (sb.1 + 1), room cx 149 ((sb.2).length + 1), inI64 ((sa * a10) + sb.1), inI64 (sa * a10), Computes cx 112 [.agg [I tb2.1, I tb2.2.1, I tb2.2.2], .agg [I tb11.1, I tb11.2.1, I tb11.2.2]] (.agg [I tb12.1, I tb12.2.1, I tb12.2.2]), Computes cx 112 [.agg [I tb6.1, I tb6.2.1, I tb6.2.2], .agg [I tb10.1, I tb10.2.1, I tb10.2.2]] (.agg [I tb11.1, I tb11.2.1, I tb11.2.2]), Computes cx 113 [I (((2 * sa) + 1) - a10), .agg [I a7, I a8, I a9]] (.agg [I tb10.1, I tb10.2.1, I tb10.2.2]), inI64 (((2 * sa) + 1) - a10), inI64 ((2 * sa) + 1), inI64 (2 * sa), Computes cx 113 [I (((2 * sb.1) + 1) - a10), .agg [I a4, I a5, I a6]] (.agg [I tb6.1, I tb6.2.1, I tb6.2.2]), inI64 (((2 * sb.1) + 1) - a10), inI64 ((2 * sb.1) + 1), inI64 (2 * sb.1), Computes cx 113 [I a10, .agg [I a1, I a2, I a3]] (.agg [I tb2.1, I tb2.2.1, I tb2.2.2]), (decide (sb.1 < a10)) = true]) (by kernel_rfl) ⟨hb16, (room_of (b := 32) (by kernel_rfl) (by decide) hb15), hb14, hb13, (c_field_plus hb12), (c_field_plus hb11), (c_field_times hb10), hb9, hb8, hb7, (c_field_times hb6), hb5, hb4, hb3, (c_field_times hb2), (decide_eq_true hb1), trivial⟩⟩
    · replace h := ite_f h hb1
      replace h := Option.some.inj h
      subst h
      exact ⟨⟨100, 82, [.br false], [], [0, 1, 2, 7, 8], [0, 19, 20, 28, 31, 81], round_of (ob := [(decide (sb.1 < a10)) = false]) (by kernel_rfl) ⟨(decide_eq_false hb1), trivial⟩⟩, nofun⟩
def F_field_Facets_L3 (n : Nat) (a0 : ByteArray) (a1 : Int) (a2 : Int) (a3 : Int) (a4 : Int) (a5 : Int) (a6 : Int) (a7 : Int) (a8 : Int) (a9 : Int) (a10 : Int) (sa : Int × List D) (sb : (Int × List D)) : Option (((Int × List D)) ⊕ ((List D))) :=
  if sb.1 < a10 then
    (F_field_times n a10 a1 a2 a3).bind fun tb2 =>
    if inI64 (2 * sb.1) then
    if inI64 ((2 * sb.1) + 1) then
    if inI64 (((2 * sb.1) + 1) - a10) then
    (F_field_times n (((2 * sb.1) + 1) - a10) a4 a5 a6).bind fun tb6 =>
    if inI64 (2 * sa.1) then
    if inI64 ((2 * sa.1) + 1) then
    if inI64 (((2 * sa.1) + 1) - a10) then
    (F_field_times n (((2 * sa.1) + 1) - a10) a7 a8 a9).bind fun tb10 =>
    (F_field_plus n tb6.1 tb6.2.1 tb6.2.2 tb10.1 tb10.2.1 tb10.2.2).bind fun tb11 =>
    (F_field_plus n tb2.1 tb2.2.1 tb2.2.2 tb11.1 tb11.2.1 tb11.2.2).bind fun tb12 =>
    if inI64 (sa.1 * a10) then
    if inI64 ((sa.1 * a10) + sb.1) then
    if roomP 32 ((sb.2).length + 1) then
    if inI64 (sb.1 + 1) then
    some (.inl ((sb.1 + 1), (sb.2 ++ ([.agg [I ((sa.1 * a10) + sb.1), I tb12.1, I tb12.2.1, I tb12.2.2]] : List D))))
    else none
    else none
    else none
    else none
    else none
    else none
    else none
    else none
    else none
    else none
  else
  some (.inr sb.2)
noncomputable def T_field_Facets_L3 (a0 : ByteArray) (a1 : Int) (a2 : Int) (a3 : Int) (a4 : Int) (a5 : Int) (a6 : Int) (a7 : Int) (a8 : Int) (a9 : Int) (a10 : Int) (sa : Int × List D) (sb : (Int × List D)) : List (Nat × AV) := [(0, .own 31 0), (1, .ptr 20 0 0 0 0), (2, .ptr 19 0 0 0 0), (4, .d (I sa.1)), (7, .d (I a10)), (8, .d (I sa.1)), (11, .d (I a10)), (12, .d (I sb.1))]
noncomputable def H_field_Facets_L3 (a0 : ByteArray) (a1 : Int) (a2 : Int) (a3 : Int) (a4 : Int) (a5 : Int) (a6 : Int) (a7 : Int) (a8 : Int) (a9 : Int) (a10 : Int) (sa : Int × List D) (sb : (Int × List D)) : List (Nat × Blk) := [(0, .box (.d (.agg [.v (.string a0), I a1, I a2, I a3, I a4, I a5, I a6, I a7, I a8, I a9]))), (19, .box (.d (.agg [.v (.string a0), I a1, I a2, I a3, I a4, I a5, I a6, I a7, I a8, I a9]))), (20, .box (.d (I a10))), (28, .box (.own 81 0)), (31, .loop true [(6, .fn (.func 128) [] [.ptr 20 0 0 0 0, .ptr 19 0 0 0 0]), (4, .d (.lst true 0 [])), (2, .ptr 28 0 0 0 0), (1, .fn (.func 128) [] [.ptr 20 0 0 0 0, .ptr 19 0 0 0 0]), (0, .d (.lst true 0 []))] [7] (rangeAt cx.P 127 0).1 (rangeAt cx.P 127 0).2 13), (81, .row 0 4 sb.2)]
noncomputable def X_field_Facets_L3 (a0 : ByteArray) (a1 : Int) (a2 : Int) (a3 : Int) (a4 : Int) (a5 : Int) (a6 : Int) (a7 : Int) (a8 : Int) (a9 : Int) (a10 : Int) (sa : Int × List D) (e : (List D)) : Ex := (.exit 2)
noncomputable def XT_field_Facets_L3 (a0 : ByteArray) (a1 : Int) (a2 : Int) (a3 : Int) (a4 : Int) (a5 : Int) (a6 : Int) (a7 : Int) (a8 : Int) (a9 : Int) (a10 : Int) (sa : Int × List D) (e : (List D)) : List (Nat × AV) := [(0, .own 31 0), (1, .ptr 20 0 0 0 0), (2, .ptr 19 0 0 0 0), (7, .d (I a10)), (8, .d (I sa.1))]
noncomputable def XH_field_Facets_L3 (a0 : ByteArray) (a1 : Int) (a2 : Int) (a3 : Int) (a4 : Int) (a5 : Int) (a6 : Int) (a7 : Int) (a8 : Int) (a9 : Int) (a10 : Int) (sa : Int × List D) (e : (List D)) : List (Nat × Blk) := [(0, .box (.d (.agg [.v (.string a0), I a1, I a2, I a3, I a4, I a5, I a6, I a7, I a8, I a9]))), (19, .box (.d (.agg [.v (.string a0), I a1, I a2, I a3, I a4, I a5, I a6, I a7, I a8, I a9]))), (20, .box (.d (I a10))), (28, .box (.own 81 0)), (31, .loop true [(6, .fn (.func 128) [] [.ptr 20 0 0 0 0, .ptr 19 0 0 0 0]), (4, .d (.lst true 0 [])), (2, .ptr 28 0 0 0 0), (1, .fn (.func 128) [] [.ptr 20 0 0 0 0, .ptr 19 0 0 0 0]), (0, .d (.lst true 0 []))] [7] (rangeAt cx.P 127 0).1 (rangeAt cx.P 127 0).2 13), (81, .row 0 4 e)]
theorem R_field_Facets_L3 {n : Nat} {a0 : ByteArray} {a1 : Int} {a2 : Int} {a3 : Int} {a4 : Int} {a5 : Int} {a6 : Int} {a7 : Int} {a8 : Int} {a9 : Int} {a10 : Int} {sa : Int × List D} (sb : (Int × List D)) (r) (h : F_field_Facets_L3 n a0 a1 a2 a3 a4 a5 a6 a7 a8 a9 a10 sa sb = some r) : Rd cx (loopAt cx.P 128 1) 49 32 false (T_field_Facets_L3 a0 a1 a2 a3 a4 a5 a6 a7 a8 a9 a10 sa) (H_field_Facets_L3 a0 a1 a2 a3 a4 a5 a6 a7 a8 a9 a10 sa) (X_field_Facets_L3 a0 a1 a2 a3 a4 a5 a6 a7 a8 a9 a10 sa) (XT_field_Facets_L3 a0 a1 a2 a3 a4 a5 a6 a7 a8 a9 a10 sa) (XH_field_Facets_L3 a0 a1 a2 a3 a4 a5 a6 a7 a8 a9 a10 sa) sb r := by
  unfold F_field_Facets_L3 at h
  by_cases hb1 : sb.1 < a10
  · replace h := ite_t h hb1
    obtain ⟨tb2, hb2, h⟩ := bnd_of h
    obtain ⟨hb3, h⟩ := grd_of h
    obtain ⟨hb4, h⟩ := grd_of h
    obtain ⟨hb5, h⟩ := grd_of h
    obtain ⟨tb6, hb6, h⟩ := bnd_of h
    obtain ⟨hb7, h⟩ := grd_of h
    obtain ⟨hb8, h⟩ := grd_of h
    obtain ⟨hb9, h⟩ := grd_of h
    obtain ⟨tb10, hb10, h⟩ := bnd_of h
    obtain ⟨tb11, hb11, h⟩ := bnd_of h
    obtain ⟨tb12, hb12, h⟩ := bnd_of h
    obtain ⟨hb13, h⟩ := grd_of h
    obtain ⟨hb14, h⟩ := grd_of h
    obtain ⟨hb15, h⟩ := grd_of h
    obtain ⟨hb16, h⟩ := grd_of h
    replace h := Option.some.inj h
    subst h
    exact ⟨100, 87, [.br true, .ret (.agg [I tb2.1, I tb2.2.1, I tb2.2.2]), .ret (.agg [I tb6.1, I tb6.2.1, I tb6.2.2]), .ret (.agg [I tb10.1, I tb10.2.1, I tb10.2.2]), .ret (.agg [I tb11.1, I tb11.2.1, I tb11.2.2]), .ret (.agg [I tb12.1, I tb12.2.1, I tb12.2.2]), .br true, .no], [], [0, 1, 2, 4, 7, 8, 11, 12], [0, 19, 20, 28, 31, 81], round_of (ob := [inI64 (sb.1 + 1), room cx 149 ((sb.2).length + 1), inI64 ((sa.1 * a10) + sb.1), inI64 (sa.1 * a10), Computes cx 112 [.agg [I tb2.1, I tb2.2.1, I tb2.2.2], .agg [I tb11.1, I tb11.2.1, I tb11.2.2]] (.agg [I tb12.1, I tb12.2.1, I tb12.2.2]), Computes cx 112 [.agg [I tb6.1, I tb6.2.1, I tb6.2.2], .agg [I tb10.1, I tb10.2.1, I tb10.2.2]] (.agg [I tb11.1, I tb11.2.1, I tb11.2.2]), Computes cx 113 [I (((2 * sa.1) + 1) - a10), .agg [I a7, I a8, I a9]] (.agg [I tb10.1, I tb10.2.1, I tb10.2.2]), inI64 (((2 * sa.1) + 1) - a10), inI64 ((2 * sa.1) + 1), inI64 (2 * sa.1), Computes cx 113 [I (((2 * sb.1) + 1) - a10), .agg [I a4, I a5, I a6]] (.agg [I tb6.1, I tb6.2.1, I tb6.2.2]), inI64 (((2 * sb.1) + 1) - a10), inI64 ((2 * sb.1) + 1), inI64 (2 * sb.1), Computes cx 113 [I a10, .agg [I a1, I a2, I a3]] (.agg [I tb2.1, I tb2.2.1, I tb2.2.2]), (decide (sb.1 < a10)) = true]) (by kernel_rfl) ⟨hb16, (room_of (b := 32) (by kernel_rfl) (by decide) hb15), hb14, hb13, (c_field_plus hb12), (c_field_plus hb11), (c_field_times hb10), hb9, hb8, hb7, (c_field_times hb6), hb5, hb4, hb3, (c_field_times hb2), (decide_eq_true hb1), trivial⟩⟩
  · replace h := ite_f h hb1
    replace h := Option.some.inj h
    subst h
    exact ⟨⟨100, 87, [.br false], [], [0, 1, 2, 7, 8], [0, 19, 20, 28, 31, 81], round_of (ob := [(decide (sb.1 < a10)) = false]) (by kernel_rfl) ⟨(decide_eq_false hb1), trivial⟩⟩, nofun⟩
def F_field_Facets_L4 (n : Nat) (a0 : ByteArray) (a1 : Int) (a2 : Int) (a3 : Int) (a4 : Int) (a5 : Int) (a6 : Int) (a7 : Int) (a8 : Int) (a9 : Int) (a10 : Int) (sa : (Int) ⊕ (Int × List D)) : Option (((Int) ⊕ (Int × List D)) ⊕ ((Unit) ⊕ (List D))) := match sa with
  | (.inl sa) => (
    if sa < a10 then
      (loopF (F_field_Facets_L2 n a0 a1 a2 a3 a4 a5 a6 a7 a8 a9 a10 sa) n (.inl ())).bind fun ta2 => match ta2 with
        | (.inl ta2) => (
          if inI64 (sa + 1) then
          some (.inl (.inl (sa + 1)))
          else none)
        | (.inr ta2) => (
          if inI64 (sa + 1) then
          some (.inl (.inr ((sa + 1), ta2)))
          else none)
    else
    some (.inr (.inl ())))
  | (.inr sa) => (
    if sa.1 < a10 then
      (loopF (F_field_Facets_L3 n a0 a1 a2 a3 a4 a5 a6 a7 a8 a9 a10 sa) n (0, sa.2)).bind fun ta2 =>
      if inI64 (sa.1 + 1) then
      some (.inl (.inr ((sa.1 + 1), ta2)))
      else none
    else
    some (.inr (.inr sa.2)))
noncomputable def T_field_Facets_L4 (a0 : ByteArray) (a1 : Int) (a2 : Int) (a3 : Int) (a4 : Int) (a5 : Int) (a6 : Int) (a7 : Int) (a8 : Int) (a9 : Int) (a10 : Int) (sa : (Int) ⊕ (Int × List D)) : List (Nat × AV) := match sa with
  | (.inl sa) => [(0, .own 31 0), (1, .ptr 20 0 0 0 0), (2, .ptr 19 0 0 0 0), (7, .d (I a10)), (8, .d (I sa))]
  | (.inr sa) => [(0, .own 31 0), (1, .ptr 20 0 0 0 0), (2, .ptr 19 0 0 0 0), (7, .d (I a10)), (8, .d (I sa.1))]
noncomputable def H_field_Facets_L4 (a0 : ByteArray) (a1 : Int) (a2 : Int) (a3 : Int) (a4 : Int) (a5 : Int) (a6 : Int) (a7 : Int) (a8 : Int) (a9 : Int) (a10 : Int) (sa : (Int) ⊕ (Int × List D)) : List (Nat × Blk) := match sa with
  | (.inl sa) => [(0, .box (.d (.agg [.v (.string a0), I a1, I a2, I a3, I a4, I a5, I a6, I a7, I a8, I a9]))), (19, .box (.d (.agg [.v (.string a0), I a1, I a2, I a3, I a4, I a5, I a6, I a7, I a8, I a9]))), (20, .box (.d (I a10))), (28, .box (.d (.lst true 0 []))), (31, .loop true [(6, .fn (.func 128) [] [.ptr 20 0 0 0 0, .ptr 19 0 0 0 0]), (4, .d (.lst true 0 [])), (2, .ptr 28 0 0 0 0), (1, .fn (.func 128) [] [.ptr 20 0 0 0 0, .ptr 19 0 0 0 0]), (0, .d (.lst true 0 []))] [7] (rangeAt cx.P 127 0).1 (rangeAt cx.P 127 0).2 13)]
  | (.inr sa) => [(0, .box (.d (.agg [.v (.string a0), I a1, I a2, I a3, I a4, I a5, I a6, I a7, I a8, I a9]))), (19, .box (.d (.agg [.v (.string a0), I a1, I a2, I a3, I a4, I a5, I a6, I a7, I a8, I a9]))), (20, .box (.d (I a10))), (28, .box (.own 81 0)), (31, .loop true [(6, .fn (.func 128) [] [.ptr 20 0 0 0 0, .ptr 19 0 0 0 0]), (4, .d (.lst true 0 [])), (2, .ptr 28 0 0 0 0), (1, .fn (.func 128) [] [.ptr 20 0 0 0 0, .ptr 19 0 0 0 0]), (0, .d (.lst true 0 []))] [7] (rangeAt cx.P 127 0).1 (rangeAt cx.P 127 0).2 13), (81, .row 0 4 sa.2)]
noncomputable def X_field_Facets_L4 (a0 : ByteArray) (a1 : Int) (a2 : Int) (a3 : Int) (a4 : Int) (a5 : Int) (a6 : Int) (a7 : Int) (a8 : Int) (a9 : Int) (a10 : Int) (e : (Unit) ⊕ (List D)) : Ex := match e with
  | (.inl e) => (.exit 0)
  | (.inr e) => (.exit 0)
noncomputable def XT_field_Facets_L4 (a0 : ByteArray) (a1 : Int) (a2 : Int) (a3 : Int) (a4 : Int) (a5 : Int) (a6 : Int) (a7 : Int) (a8 : Int) (a9 : Int) (a10 : Int) (e : (Unit) ⊕ (List D)) : List (Nat × AV) := match e with
  | (.inl e) => []
  | (.inr e) => []
noncomputable def XH_field_Facets_L4 (a0 : ByteArray) (a1 : Int) (a2 : Int) (a3 : Int) (a4 : Int) (a5 : Int) (a6 : Int) (a7 : Int) (a8 : Int) (a9 : Int) (a10 : Int) (e : (Unit) ⊕ (List D)) : List (Nat × Blk) := match e with
  | (.inl e) => [(0, .box (.d (.agg [.v (.string a0), I a1, I a2, I a3, I a4, I a5, I a6, I a7, I a8, I a9]))), (19, .box (.d (.agg [.v (.string a0), I a1, I a2, I a3, I a4, I a5, I a6, I a7, I a8, I a9]))), (20, .box (.d (I a10))), (28, .box (.d (.lst true 0 []))), (31, .loop true [(6, .fn (.func 128) [] [.ptr 20 0 0 0 0, .ptr 19 0 0 0 0]), (4, .d (.lst true 0 [])), (2, .ptr 28 0 0 0 0), (1, .fn (.func 128) [] [.ptr 20 0 0 0 0, .ptr 19 0 0 0 0]), (0, .d (.lst true 0 []))] [7] (rangeAt cx.P 127 0).1 (rangeAt cx.P 127 0).2 13)]
  | (.inr e) => [(0, .box (.d (.agg [.v (.string a0), I a1, I a2, I a3, I a4, I a5, I a6, I a7, I a8, I a9]))), (19, .box (.d (.agg [.v (.string a0), I a1, I a2, I a3, I a4, I a5, I a6, I a7, I a8, I a9]))), (20, .box (.d (I a10))), (28, .box (.own 81 0)), (31, .loop true [(6, .fn (.func 128) [] [.ptr 20 0 0 0 0, .ptr 19 0 0 0 0]), (4, .d (.lst true 0 [])), (2, .ptr 28 0 0 0 0), (1, .fn (.func 128) [] [.ptr 20 0 0 0 0, .ptr 19 0 0 0 0]), (0, .d (.lst true 0 []))] [7] (rangeAt cx.P 127 0).1 (rangeAt cx.P 127 0).2 13), (81, .row 0 4 e)]
theorem R_field_Facets_L4 {n : Nat} {a0 : ByteArray} {a1 : Int} {a2 : Int} {a3 : Int} {a4 : Int} {a5 : Int} {a6 : Int} {a7 : Int} {a8 : Int} {a9 : Int} {a10 : Int} (sa : (Int) ⊕ (Int × List D)) (r) (h : F_field_Facets_L4 n a0 a1 a2 a3 a4 a5 a6 a7 a8 a9 a10 sa = some r) : Rd cx (loopAt cx.P 128 0) 49 32 false (T_field_Facets_L4 a0 a1 a2 a3 a4 a5 a6 a7 a8 a9 a10) (H_field_Facets_L4 a0 a1 a2 a3 a4 a5 a6 a7 a8 a9 a10) (X_field_Facets_L4 a0 a1 a2 a3 a4 a5 a6 a7 a8 a9 a10) (XT_field_Facets_L4 a0 a1 a2 a3 a4 a5 a6 a7 a8 a9 a10) (XH_field_Facets_L4 a0 a1 a2 a3 a4 a5 a6 a7 a8 a9 a10) sa r := by
  unfold F_field_Facets_L4 at h
  rcases sa with sa | sa
  · by_cases ha1 : sa < a10
    · replace h := ite_t h ha1
      obtain ⟨ta2, ha2, h⟩ := bnd_of h
      rcases ta2 with ta2 | ta2
      · obtain ⟨ha3, h⟩ := grd_of h
        replace h := Option.some.inj h
        subst h
        exact ⟨100, 34, [.br true, .lp [] [0, 1, 2, 4, 7, 8, 11, 12] [0, 19, 20, 28, 31] (.exit 2) [(0, .own 31 0), (1, .ptr 20 0 0 0 0), (2, .ptr 19 0 0 0 0), (7, .d (I a10)), (8, .d (I sa))] [(0, .box (.d (.agg [.v (.string a0), I a1, I a2, I a3, I a4, I a5, I a6, I a7, I a8, I a9]))), (19, .box (.d (.agg [.v (.string a0), I a1, I a2, I a3, I a4, I a5, I a6, I a7, I a8, I a9]))), (20, .box (.d (I a10))), (28, .box (.d (.lst true 0 []))), (31, .loop true [(6, .fn (.func 128) [] [.ptr 20 0 0 0 0, .ptr 19 0 0 0 0]), (4, .d (.lst true 0 [])), (2, .ptr 28 0 0 0 0), (1, .fn (.func 128) [] [.ptr 20 0 0 0 0, .ptr 19 0 0 0 0]), (0, .d (.lst true 0 []))] [7] (rangeAt cx.P 127 0).1 (rangeAt cx.P 127 0).2 13)] 139], [], [0, 1, 2, 7, 8], [0, 19, 20, 28, 31], round_of (ob := [inI64 (sa + 1), LoopN cx (loopAt cx.P 128 1) 49 32 false [(0, .own 31 0), (1, .ptr 20 0 0 0 0), (2, .ptr 19 0 0 0 0), (4, .d (I sa)), (7, .d (I a10)), (8, .d (I sa)), (11, .d (I a10)), (12, .d (I 0))] [(0, .box (.d (.agg [.v (.string a0), I a1, I a2, I a3, I a4, I a5, I a6, I a7, I a8, I a9]))), (19, .box (.d (.agg [.v (.string a0), I a1, I a2, I a3, I a4, I a5, I a6, I a7, I a8, I a9]))), (20, .box (.d (I a10))), (28, .box (.d (.lst true 0 []))), (31, .loop true [(6, .fn (.func 128) [] [.ptr 20 0 0 0 0, .ptr 19 0 0 0 0]), (4, .d (.lst true 0 [])), (2, .ptr 28 0 0 0 0), (1, .fn (.func 128) [] [.ptr 20 0 0 0 0, .ptr 19 0 0 0 0]), (0, .d (.lst true 0 []))] [7] (rangeAt cx.P 127 0).1 (rangeAt cx.P 127 0).2 13)] (.exit 2) [(0, .own 31 0), (1, .ptr 20 0 0 0 0), (2, .ptr 19 0 0 0 0), (7, .d (I a10)), (8, .d (I sa))] [(0, .box (.d (.agg [.v (.string a0), I a1, I a2, I a3, I a4, I a5, I a6, I a7, I a8, I a9]))), (19, .box (.d (.agg [.v (.string a0), I a1, I a2, I a3, I a4, I a5, I a6, I a7, I a8, I a9]))), (20, .box (.d (I a10))), (28, .box (.d (.lst true 0 []))), (31, .loop true [(6, .fn (.func 128) [] [.ptr 20 0 0 0 0, .ptr 19 0 0 0 0]), (4, .d (.lst true 0 [])), (2, .ptr 28 0 0 0 0), (1, .fn (.func 128) [] [.ptr 20 0 0 0 0, .ptr 19 0 0 0 0]), (0, .d (.lst true 0 []))] [7] (rangeAt cx.P 127 0).1 (rangeAt cx.P 127 0).2 13)], (decide (sa < a10)) = true]) (by kernel_rfl) ⟨ha3, (loopF_to R_field_Facets_L2 ha2), (decide_eq_true ha1), trivial⟩⟩
      · obtain ⟨ha3, h⟩ := grd_of h
        replace h := Option.some.inj h
        subst h
        exact ⟨100, 34, [.br true, .lp [] [0, 1, 2, 4, 7, 8, 11, 12] [0, 19, 20, 28, 31] (.exit 2) [(0, .own 31 0), (1, .ptr 20 0 0 0 0), (2, .ptr 19 0 0 0 0), (7, .d (I a10)), (8, .d (I sa))] [(0, .box (.d (.agg [.v (.string a0), I a1, I a2, I a3, I a4, I a5, I a6, I a7, I a8, I a9]))), (19, .box (.d (.agg [.v (.string a0), I a1, I a2, I a3, I a4, I a5, I a6, I a7, I a8, I a9]))), (20, .box (.d (I a10))), (28, .box (.own 81 0)), (31, .loop true [(6, .fn (.func 128) [] [.ptr 20 0 0 0 0, .ptr 19 0 0 0 0]), (4, .d (.lst true 0 [])), (2, .ptr 28 0 0 0 0), (1, .fn (.func 128) [] [.ptr 20 0 0 0 0, .ptr 19 0 0 0 0]), (0, .d (.lst true 0 []))] [7] (rangeAt cx.P 127 0).1 (rangeAt cx.P 127 0).2 13), (81, .row 0 4 ta2)] 139], [], [0, 1, 2, 7, 8], [0, 19, 20, 28, 31, 81], round_of (ob := [inI64 (sa + 1), LoopN cx (loopAt cx.P 128 1) 49 32 false [(0, .own 31 0), (1, .ptr 20 0 0 0 0), (2, .ptr 19 0 0 0 0), (4, .d (I sa)), (7, .d (I a10)), (8, .d (I sa)), (11, .d (I a10)), (12, .d (I 0))] [(0, .box (.d (.agg [.v (.string a0), I a1, I a2, I a3, I a4, I a5, I a6, I a7, I a8, I a9]))), (19, .box (.d (.agg [.v (.string a0), I a1, I a2, I a3, I a4, I a5, I a6, I a7, I a8, I a9]))), (20, .box (.d (I a10))), (28, .box (.d (.lst true 0 []))), (31, .loop true [(6, .fn (.func 128) [] [.ptr 20 0 0 0 0, .ptr 19 0 0 0 0]), (4, .d (.lst true 0 [])), (2, .ptr 28 0 0 0 0), (1, .fn (.func 128) [] [.ptr 20 0 0 0 0, .ptr 19 0 0 0 0]), (0, .d (.lst true 0 []))] [7] (rangeAt cx.P 127 0).1 (rangeAt cx.P 127 0).2 13)] (.exit 2) [(0, .own 31 0), (1, .ptr 20 0 0 0 0), (2, .ptr 19 0 0 0 0), (7, .d (I a10)), (8, .d (I sa))] [(0, .box (.d (.agg [.v (.string a0), I a1, I a2, I a3, I a4, I a5, I a6, I a7, I a8, I a9]))), (19, .box (.d (.agg [.v (.string a0), I a1, I a2, I a3, I a4, I a5, I a6, I a7, I a8, I a9]))), (20, .box (.d (I a10))), (28, .box (.own 81 0)), (31, .loop true [(6, .fn (.func 128) [] [.ptr 20 0 0 0 0, .ptr 19 0 0 0 0]), (4, .d (.lst true 0 [])), (2, .ptr 28 0 0 0 0), (1, .fn (.func 128) [] [.ptr 20 0 0 0 0, .ptr 19 0 0 0 0]), (0, .d (.lst true 0 []))] [7] (rangeAt cx.P 127 0).1 (rangeAt cx.P 127 0).2 13), (81, .row 0 4 ta2)], (decide (sa < a10)) = true]) (by kernel_rfl) ⟨ha3, (loopF_to R_field_Facets_L2 ha2), (decide_eq_true ha1), trivial⟩⟩
    · replace h := ite_f h ha1
      replace h := Option.some.inj h
      subst h
      exact ⟨⟨100, 34, [.br false], [], [], [0, 19, 20, 28, 31], round_of (ob := [(decide (sa < a10)) = false]) (by kernel_rfl) ⟨(decide_eq_false ha1), trivial⟩⟩, nofun⟩
  · by_cases ha1 : sa.1 < a10
    · replace h := ite_t h ha1
      obtain ⟨ta2, ha2, h⟩ := bnd_of h
      obtain ⟨ha3, h⟩ := grd_of h
      replace h := Option.some.inj h
      subst h
      exact ⟨100, 82, [.br true, .lp [] [0, 1, 2, 4, 7, 8, 11, 12] [0, 19, 20, 28, 31, 81] (.exit 2) [(0, .own 31 0), (1, .ptr 20 0 0 0 0), (2, .ptr 19 0 0 0 0), (7, .d (I a10)), (8, .d (I sa.1))] [(0, .box (.d (.agg [.v (.string a0), I a1, I a2, I a3, I a4, I a5, I a6, I a7, I a8, I a9]))), (19, .box (.d (.agg [.v (.string a0), I a1, I a2, I a3, I a4, I a5, I a6, I a7, I a8, I a9]))), (20, .box (.d (I a10))), (28, .box (.own 81 0)), (31, .loop true [(6, .fn (.func 128) [] [.ptr 20 0 0 0 0, .ptr 19 0 0 0 0]), (4, .d (.lst true 0 [])), (2, .ptr 28 0 0 0 0), (1, .fn (.func 128) [] [.ptr 20 0 0 0 0, .ptr 19 0 0 0 0]), (0, .d (.lst true 0 []))] [7] (rangeAt cx.P 127 0).1 (rangeAt cx.P 127 0).2 13), (81, .row 0 4 ta2)] 144], [], [0, 1, 2, 7, 8], [0, 19, 20, 28, 31, 81], round_of (ob := [inI64 (sa.1 + 1), LoopN cx (loopAt cx.P 128 1) 49 32 false [(0, .own 31 0), (1, .ptr 20 0 0 0 0), (2, .ptr 19 0 0 0 0), (4, .d (I sa.1)), (7, .d (I a10)), (8, .d (I sa.1)), (11, .d (I a10)), (12, .d (I 0))] [(0, .box (.d (.agg [.v (.string a0), I a1, I a2, I a3, I a4, I a5, I a6, I a7, I a8, I a9]))), (19, .box (.d (.agg [.v (.string a0), I a1, I a2, I a3, I a4, I a5, I a6, I a7, I a8, I a9]))), (20, .box (.d (I a10))), (28, .box (.own 81 0)), (31, .loop true [(6, .fn (.func 128) [] [.ptr 20 0 0 0 0, .ptr 19 0 0 0 0]), (4, .d (.lst true 0 [])), (2, .ptr 28 0 0 0 0), (1, .fn (.func 128) [] [.ptr 20 0 0 0 0, .ptr 19 0 0 0 0]), (0, .d (.lst true 0 []))] [7] (rangeAt cx.P 127 0).1 (rangeAt cx.P 127 0).2 13), (81, .row 0 4 sa.2)] (.exit 2) [(0, .own 31 0), (1, .ptr 20 0 0 0 0), (2, .ptr 19 0 0 0 0), (7, .d (I a10)), (8, .d (I sa.1))] [(0, .box (.d (.agg [.v (.string a0), I a1, I a2, I a3, I a4, I a5, I a6, I a7, I a8, I a9]))), (19, .box (.d (.agg [.v (.string a0), I a1, I a2, I a3, I a4, I a5, I a6, I a7, I a8, I a9]))), (20, .box (.d (I a10))), (28, .box (.own 81 0)), (31, .loop true [(6, .fn (.func 128) [] [.ptr 20 0 0 0 0, .ptr 19 0 0 0 0]), (4, .d (.lst true 0 [])), (2, .ptr 28 0 0 0 0), (1, .fn (.func 128) [] [.ptr 20 0 0 0 0, .ptr 19 0 0 0 0]), (0, .d (.lst true 0 []))] [7] (rangeAt cx.P 127 0).1 (rangeAt cx.P 127 0).2 13), (81, .row 0 4 ta2)], (decide (sa.1 < a10)) = true]) (by kernel_rfl) ⟨ha3, (loopF_to R_field_Facets_L3 ha2), (decide_eq_true ha1), trivial⟩⟩
    · replace h := ite_f h ha1
      replace h := Option.some.inj h
      subst h
      exact ⟨⟨100, 82, [.br false], [], [], [0, 19, 20, 28, 31, 81], round_of (ob := [(decide (sa.1 < a10)) = false]) (by kernel_rfl) ⟨(decide_eq_false ha1), trivial⟩⟩, nofun⟩
def F_field_Facets_L5 (n : Nat) (a0 : ByteArray) (a1 : Int) (a2 : Int) (a3 : Int) (a4 : Int) (a5 : Int) (a6 : Int) (a7 : Int) (a8 : Int) (a9 : Int) (a10 : Int) (t5 : List D) (sa : (Int × List D)) : Option (((Int × List D)) ⊕ ((List D))) :=
  if sa.1 < ((t5).length : Int) then
    if 0 ≤ sa.1 ∧ sa.1 < ((t5).length : Int) then
    ((nth (t5) (Int.toNat sa.1)).bind un_Ai4Z).bind fun ta3 =>
    (F_field_Facets_c1 n ta3.1 ta3.2.1 ta3.2.2.1 ta3.2.2.2).bind fun ta4 =>
    if roomP 24 ((sa.2).length + 1) then
    if inI64 (sa.1 + 1) then
    some (.inl ((sa.1 + 1), (sa.2 ++ ([.agg [I ta4.1, I ta4.2.1, I ta4.2.2]] : List D))))
    else none
    else none
    else none
  else
  some (.inr sa.2)
noncomputable def T_field_Facets_L5 (a0 : ByteArray) (a1 : Int) (a2 : Int) (a3 : Int) (a4 : Int) (a5 : Int) (a6 : Int) (a7 : Int) (a8 : Int) (a9 : Int) (a10 : Int) (t5 : List D) (sa : (Int × List D)) : List (Nat × AV) := [(1, .d (.fn (.func 94) [] [])), (5, .own 164 0), (8, .own 81 0), (9, .d (I ((t5).length : Int))), (10, .d (I sa.1))]
noncomputable def H_field_Facets_L5 (a0 : ByteArray) (a1 : Int) (a2 : Int) (a3 : Int) (a4 : Int) (a5 : Int) (a6 : Int) (a7 : Int) (a8 : Int) (a9 : Int) (a10 : Int) (t5 : List D) (sa : (Int × List D)) : List (Nat × Blk) := [(0, .box (.d (.agg [.v (.string a0), I a1, I a2, I a3, I a4, I a5, I a6, I a7, I a8, I a9]))), (19, .box (.d (.agg [.v (.string a0), I a1, I a2, I a3, I a4, I a5, I a6, I a7, I a8, I a9]))), (20, .box (.d (I a10))), (28, .box (.own 81 0)), (31, .dead), (81, .row 0 4 t5), (164, .row 0 3 sa.2)]
noncomputable def X_field_Facets_L5 (a0 : ByteArray) (a1 : Int) (a2 : Int) (a3 : Int) (a4 : Int) (a5 : Int) (a6 : Int) (a7 : Int) (a8 : Int) (a9 : Int) (a10 : Int) (t5 : List D) (e : (List D)) : Ex := (.exit 0)
noncomputable def XT_field_Facets_L5 (a0 : ByteArray) (a1 : Int) (a2 : Int) (a3 : Int) (a4 : Int) (a5 : Int) (a6 : Int) (a7 : Int) (a8 : Int) (a9 : Int) (a10 : Int) (t5 : List D) (e : (List D)) : List (Nat × AV) := [(5, .own 164 0)]
noncomputable def XH_field_Facets_L5 (a0 : ByteArray) (a1 : Int) (a2 : Int) (a3 : Int) (a4 : Int) (a5 : Int) (a6 : Int) (a7 : Int) (a8 : Int) (a9 : Int) (a10 : Int) (t5 : List D) (e : (List D)) : List (Nat × Blk) := [(0, .box (.d (.agg [.v (.string a0), I a1, I a2, I a3, I a4, I a5, I a6, I a7, I a8, I a9]))), (19, .box (.d (.agg [.v (.string a0), I a1, I a2, I a3, I a4, I a5, I a6, I a7, I a8, I a9]))), (20, .box (.d (I a10))), (28, .box (.own 81 0)), (31, .dead), (81, .row 0 4 t5), (164, .row 0 3 e)]
theorem R_field_Facets_L5 {n : Nat} {a0 : ByteArray} {a1 : Int} {a2 : Int} {a3 : Int} {a4 : Int} {a5 : Int} {a6 : Int} {a7 : Int} {a8 : Int} {a9 : Int} {a10 : Int} {t5 : List D} (sa : (Int × List D)) (r) (h : F_field_Facets_L5 n a0 a1 a2 a3 a4 a5 a6 a7 a8 a9 a10 t5 sa = some r) : Rd cx (loopAt cx.P 91 0) 22 159 false (T_field_Facets_L5 a0 a1 a2 a3 a4 a5 a6 a7 a8 a9 a10 t5) (H_field_Facets_L5 a0 a1 a2 a3 a4 a5 a6 a7 a8 a9 a10 t5) (X_field_Facets_L5 a0 a1 a2 a3 a4 a5 a6 a7 a8 a9 a10 t5) (XT_field_Facets_L5 a0 a1 a2 a3 a4 a5 a6 a7 a8 a9 a10 t5) (XH_field_Facets_L5 a0 a1 a2 a3 a4 a5 a6 a7 a8 a9 a10 t5) sa r := by
  unfold F_field_Facets_L5 at h
  by_cases ha1 : sa.1 < ((t5).length : Int)
  · replace h := ite_t h ha1
    obtain ⟨ha2, h⟩ := grd_of h
    obtain ⟨ta3, ha3, h⟩ := bnd_of h
    obtain ⟨ta4, ha4, h⟩ := bnd_of h
    obtain ⟨ha5, h⟩ := grd_of h
    obtain ⟨ha6, h⟩ := grd_of h
    replace h := Option.some.inj h
    subst h
    exact ⟨100, 165, [.br true, .br true, .el (.agg [I ta3.1, I ta3.2.1, I ta3.2.2.1, I ta3.2.2.2]), .ret (.agg [I ta4.1, I ta4.2.1, I ta4.2.2]), .br true], [], [1, 5, 8, 9, 10], [0, 19, 20, 28, 31, 81, 164], round_of (ob := [inI64 (sa.1 + 1), room cx 23 ((sa.2).length + 1), Computes cx 94 [.agg [I ta3.1, I ta3.2.1, I ta3.2.2.1, I ta3.2.2.2]] (.agg [I ta4.1, I ta4.2.1, I ta4.2.2]), nth (t5) (Int.toNat sa.1) = some (.agg [I ta3.1, I ta3.2.1, I ta3.2.2.1, I ta3.2.2.2]), 0 ≤ sa.1 ∧ sa.1 < ((t5).length : Int), (decide (sa.1 < ((t5).length : Int))) = true]) (by kernel_rfl) ⟨ha6, (room_of (b := 24) (by kernel_rfl) (by decide) ha5), (c_field_Facets_c1 ha4), nel_ok un_Ai4Z_ok ha3, ha2, (decide_eq_true ha1), trivial⟩⟩
  · replace h := ite_f h ha1
    replace h := Option.some.inj h
    subst h
    exact ⟨⟨100, 165, [.br false], [], [5], [0, 19, 20, 28, 31, 81, 164], round_of (ob := [(decide (sa.1 < ((t5).length : Int))) = false]) (by kernel_rfl) ⟨(decide_eq_false ha1), trivial⟩⟩, nofun⟩
/- spillage/field.Facets: .agg [.v (.string a0), I a1, I a2, I a3, I a4, I a5, I a6, I a7, I a8, I a9], I a10 -/
def F_field_Facets (n : Nat) (a0 : ByteArray) (a1 : Int) (a2 : Int) (a3 : Int) (a4 : Int) (a5 : Int) (a6 : Int) (a7 : Int) (a8 : Int) (a9 : Int) (a10 : Int) : Option (List D × Int) :=
  (F_field_Mirror_check n a0 a1 a2 a3 a4 a5 a6 a7 a8 a9).bind fun t1 =>
  (F_field_checkK n a10).bind fun t2 =>
  (F_field_first n ([I t1, I t2])).bind fun t3 =>
  if t3 = 0 then
    (loopF (F_field_Facets_L4 n a0 a1 a2 a3 a4 a5 a6 a7 a8 a9 a10) n (.inl 0)).bind fun t5 => match t5 with
      | (.inl t5) => (
        some ([], 0))
      | (.inr t5) => (
        (loopF (F_field_Facets_L5 n a0 a1 a2 a3 a4 a5 a6 a7 a8 a9 a10 t5) n (0, [])).bind fun t6 =>
        some (t6, 0))
  else
  some ([], t3)
theorem c_field_Facets {n : Nat} {a0 : ByteArray} {a1 : Int} {a2 : Int} {a3 : Int} {a4 : Int} {a5 : Int} {a6 : Int} {a7 : Int} {a8 : Int} {a9 : Int} {a10 : Int} {r : List D × Int} (h : F_field_Facets n a0 a1 a2 a3 a4 a5 a6 a7 a8 a9 a10 = some r) : Computes cx 33 [.agg [.v (.string a0), I a1, I a2, I a3, I a4, I a5, I a6, I a7, I a8, I a9], I a10] (.tup [.lst false 3 r.1, I r.2]) := by
  unfold F_field_Facets at h
  obtain ⟨t1, h1, h⟩ := bnd_of h
  obtain ⟨t2, h2, h⟩ := bnd_of h
  obtain ⟨t3, h3, h⟩ := bnd_of h
  by_cases h4 : t3 = 0
  · replace h := ite_t h h4
    obtain ⟨t5, h5, h⟩ := bnd_of h
    rcases t5 with t5 | t5
    · replace h := Option.some.inj h
      subst h
      exact (run (n := 100) (f := 33) (args := [.agg [.v (.string a0), I a1, I a2, I a3, I a4, I a5, I a6, I a7, I a8, I a9], I a10]) (orc := [.ret (I t1), .ret (I t2), .ret (I t3), .br false, .br true, .br true, .br true, .lp [] [0, 1, 2, 7, 8] [0, 19, 20, 28, 31] (.exit 0) [] [(0, .box (.d (.agg [.v (.string a0), I a1, I a2, I a3, I a4, I a5, I a6, I a7, I a8, I a9]))), (19, .box (.d (.agg [.v (.string a0), I a1, I a2, I a3, I a4, I a5, I a6, I a7, I a8, I a9]))), (20, .box (.d (I a10))), (28, .box (.d (.lst true 0 []))), (31, .loop true [(6, .fn (.func 128) [] [.ptr 20 0 0 0 0, .ptr 19 0 0 0 0]), (4, .d (.lst true 0 [])), (2, .ptr 28 0 0 0 0), (1, .fn (.func 128) [] [.ptr 20 0 0 0 0, .ptr 19 0 0 0 0]), (0, .d (.lst true 0 []))] [7] (rangeAt cx.P 127 0).1 (rangeAt cx.P 127 0).2 13)] 157, .br true, .no, .no]) (r := .tup [.lst true 0 [], I 0]) (ob := [LoopN cx (loopAt cx.P 128 0) 49 32 false [(0, .own 31 0), (1, .ptr 20 0 0 0 0), (2, .ptr 19 0 0 0 0), (7, .d (I a10)), (8, .d (I 0))] [(0, .box (.d (.agg [.v (.string a0), I a1, I a2, I a3, I a4, I a5, I a6, I a7, I a8, I a9]))), (19, .box (.d (.agg [.v (.string a0), I a1, I a2, I a3, I a4, I a5, I a6, I a7, I a8, I a9]))), (20, .box (.d (I a10))), (28, .box (.d (.lst true 0 []))), (31, .loop true [(6, .fn (.func 128) [] [.ptr 20 0 0 0 0, .ptr 19 0 0 0 0]), (4, .d (.lst true 0 [])), (2, .ptr 28 0 0 0 0), (1, .fn (.func 128) [] [.ptr 20 0 0 0 0, .ptr 19 0 0 0 0]), (0, .d (.lst true 0 []))] [7] (rangeAt cx.P 127 0).1 (rangeAt cx.P 127 0).2 13)] (.exit 0) [] [(0, .box (.d (.agg [.v (.string a0), I a1, I a2, I a3, I a4, I a5, I a6, I a7, I a8, I a9]))), (19, .box (.d (.agg [.v (.string a0), I a1, I a2, I a3, I a4, I a5, I a6, I a7, I a8, I a9]))), (20, .box (.d (I a10))), (28, .box (.d (.lst true 0 []))), (31, .loop true [(6, .fn (.func 128) [] [.ptr 20 0 0 0 0, .ptr 19 0 0 0 0]), (4, .d (.lst true 0 [])), (2, .ptr 28 0 0 0 0), (1, .fn (.func 128) [] [.ptr 20 0 0 0 0, .ptr 19 0 0 0 0]), (0, .d (.lst true 0 []))] [7] (rangeAt cx.P 127 0).1 (rangeAt cx.P 127 0).2 13)], (t3 != 0) = false, Computes cx 62 [.lst true 1 [I t1, I t2]] (I t3), Computes cx 81 [I a10] (I t2), Computes cx 63 [.agg [.v (.string a0), I a1, I a2, I a3, I a4, I a5, I a6, I a7, I a8, I a9]] (I t1)]) (by kernel_rfl) ⟨(loopF_to R_field_Facets_L4 h5), (nef h4), ((c_field_first h3).le (.cons (.full _ _ _) (.nil)) (.refl _)), (c_field_checkK h2), (c_field_Mirror_check h1), trivial⟩).le (LEs.refl _) (.tups (.cons (.lst _ _ _ _ _ nofun (.inl rfl)) (.cons (.refl _) (.nil))))
    · obtain ⟨t6, h6, h⟩ := bnd_of h
      replace h := Option.some.inj h
      subst h
      exact run (n := 100) (f := 33) (args := [.agg [.v (.string a0), I a1, I a2, I a3, I a4, I a5, I a6, I a7, I a8, I a9], I a10]) (orc := [.ret (I t1), .ret (I t2), .ret (I t3), .br false, .br true, .br true, .br true, .lp [] [0, 1, 2, 7, 8] [0, 19, 20, 28, 31] (.exit 0) [] [(0, .box (.d (.agg [.v (.string a0), I a1, I a2, I a3, I a4, I a5, I a6, I a7, I a8, I a9]))), (19, .box (.d (.agg [.v (.string a0), I a1, I a2, I a3, I a4, I a5, I a6, I a7, I a8, I a9]))), (20, .box (.d (I a10))), (28, .box (.own 81 0)), (31, .loop true [(6, .fn (.func 128) [] [.ptr 20 0 0 0 0, .ptr 19 0 0 0 0]), (4, .d (.lst true 0 [])), (2, .ptr 28 0 0 0 0), (1, .fn (.func 128) [] [.ptr 20 0 0 0 0, .ptr 19 0 0 0 0]), (0, .d (.lst true 0 []))] [7] (rangeAt cx.P 127 0).1 (rangeAt cx.P 127 0).2 13), (81, .row 0 4 t5)] 157, .br true, .lp [5, 3] [1, 5, 8, 9, 10] [0, 19, 20, 28, 31, 81, 164] (.exit 0) [(5, .own 164 0)] [(0, .box (.d (.agg [.v (.string a0), I a1, I a2, I a3, I a4, I a5, I a6, I a7, I a8, I a9]))), (19, .box (.d (.agg [.v (.string a0), I a1, I a2, I a3, I a4, I a5, I a6, I a7, I a8, I a9]))), (20, .box (.d (I a10))), (28, .box (.own 81 0)), (31, .dead), (81, .row 0 4 t5), (164, .row 0 3 t6)] 190]) (r := .tup [.lst false 3 t6, I 0]) (ob := [LoopN cx (loopAt cx.P 91 0) 22 159 false [(1, .d (.fn (.func 94) [] [])), (5, .own 164 0), (8, .own 81 0), (9, .d (I ((t5).length : Int))), (10, .d (I 0))] [(0, .box (.d (.agg [.v (.string a0), I a1, I a2, I a3, I a4, I a5, I a6, I a7, I a8, I a9]))), (19, .box (.d (.agg [.v (.string a0), I a1, I a2, I a3, I a4, I a5, I a6, I a7, I a8, I a9]))), (20, .box (.d (I a10))), (28, .box (.own 81 0)), (31, .dead), (81, .row 0 4 t5), (164, .row 0 3 [])] (.exit 0) [(5, .own 164 0)] [(0, .box (.d (.agg [.v (.string a0), I a1, I a2, I a3, I a4, I a5, I a6, I a7, I a8, I a9]))), (19, .box (.d (.agg [.v (.string a0), I a1, I a2, I a3, I a4, I a5, I a6, I a7, I a8, I a9]))), (20, .box (.d (I a10))), (28, .box (.own 81 0)), (31, .dead), (81, .row 0 4 t5), (164, .row 0 3 t6)], LoopN cx (loopAt cx.P 128 0) 49 32 false [(0, .own 31 0), (1, .ptr 20 0 0 0 0), (2, .ptr 19 0 0 0 0), (7, .d (I a10)), (8, .d (I 0))] [(0, .box (.d (.agg [.v (.string a0), I a1, I a2, I a3, I a4, I a5, I a6, I a7, I a8, I a9]))), (19, .box (.d (.agg [.v (.string a0), I a1, I a2, I a3, I a4, I a5, I a6, I a7, I a8, I a9]))), (20, .box (.d (I a10))), (28, .box (.d (.lst true 0 []))), (31, .loop true [(6, .fn (.func 128) [] [.ptr 20 0 0 0 0, .ptr 19 0 0 0 0]), (4, .d (.lst true 0 [])), (2, .ptr 28 0 0 0 0), (1, .fn (.func 128) [] [.ptr 20 0 0 0 0, .ptr 19 0 0 0 0]), (0, .d (.lst true 0 []))] [7] (rangeAt cx.P 127 0).1 (rangeAt cx.P 127 0).2 13)] (.exit 0) [] [(0, .box (.d (.agg [.v (.string a0), I a1, I a2, I a3, I a4, I a5, I a6, I a7, I a8, I a9]))), (19, .box (.d (.agg [.v (.string a0), I a1, I a2, I a3, I a4, I a5, I a6, I a7, I a8, I a9]))), (20, .box (.d (I a10))), (28, .box (.own 81 0)), (31, .loop true [(6, .fn (.func 128) [] [.ptr 20 0 0 0 0, .ptr 19 0 0 0 0]), (4, .d (.lst true 0 [])), (2, .ptr 28 0 0 0 0), (1, .fn (.func 128) [] [.ptr 20 0 0 0 0, .ptr 19 0 0 0 0]), (0, .d (.lst true 0 []))] [7] (rangeAt cx.P 127 0).1 (rangeAt cx.P 127 0).2 13), (81, .row 0 4 t5)], (t3 != 0) = false, Computes cx 62 [.lst true 1 [I t1, I t2]] (I t3), Computes cx 81 [I a10] (I t2), Computes cx 63 [.agg [.v (.string a0), I a1, I a2, I a3, I a4, I a5, I a6, I a7, I a8, I a9]] (I t1)]) (by kernel_rfl) ⟨(loopF_to R_field_Facets_L5 h6), (loopF_to R_field_Facets_L4 h5), (nef h4), ((c_field_first h3).le (.cons (.full _ _ _) (.nil)) (.refl _)), (c_field_checkK h2), (c_field_Mirror_check h1), trivial⟩
  · replace h := ite_f h h4
    replace h := Option.some.inj h
    subst h
    exact (run (n := 100) (f := 33) (args := [.agg [.v (.string a0), I a1, I a2, I a3, I a4, I a5, I a6, I a7, I a8, I a9], I a10]) (orc := [.ret (I t1), .ret (I t2), .ret (I t3), .br true]) (r := .tup [.lst true 0 [], I t3]) (ob := [(t3 != 0) = true, Computes cx 62 [.lst true 1 [I t1, I t2]] (I t3), Computes cx 81 [I a10] (I t2), Computes cx 63 [.agg [.v (.string a0), I a1, I a2, I a3, I a4, I a5, I a6, I a7, I a8, I a9]] (I t1)]) (by kernel_rfl) ⟨(net h4), ((c_field_first h3).le (.cons (.full _ _ _) (.nil)) (.refl _)), (c_field_checkK h2), (c_field_Mirror_check h1), trivial⟩).le (LEs.refl _) (.tups (.cons (.lst _ _ _ _ _ nofun (.inl rfl)) (.cons (.refl _) (.nil))))
/- spillage/spillageref04.Corners: .agg [.v (.string a0), I a1, I a2, I a3, I a4, I a5, I a6, I a7, I a8, I a9] -/
def F_ref04_Corners (n : Nat) (a0 : ByteArray) (a1 : Int) (a2 : Int) (a3 : Int) (a4 : Int) (a5 : Int) (a6 : Int) (a7 : Int) (a8 : Int) (a9 : Int) : Option (Int × Int × Int × Int × Int × Int × Int × Int × Int × Int × Int × Int) :=
  (F_ref04_times n (-1) a4 a5 a6).bind fun t1 =>
  (F_ref04_times n (-1) a7 a8 a9).bind fun t2 =>
  (F_ref04_plus n t1.1 t1.2.1 t1.2.2 t2.1 t2.2.1 t2.2.2).bind fun t3 =>
  (F_ref04_plus n a1 a2 a3 t3.1 t3.2.1 t3.2.2).bind fun t4 =>
  (F_ref04_plus n a4 a5 a6 t2.1 t2.2.1 t2.2.2).bind fun t5 =>
  (F_ref04_plus n a1 a2 a3 t5.1 t5.2.1 t5.2.2).bind fun t6 =>
  (F_ref04_plus n a4 a5 a6 a7 a8 a9).bind fun t7 =>
  (F_ref04_plus n a1 a2 a3 t7.1 t7.2.1 t7.2.2).bind fun t8 =>
  (F_ref04_plus n t1.1 t1.2.1 t1.2.2 a7 a8 a9).bind fun t9 =>
  (F_ref04_plus n a1 a2 a3 t9.1 t9.2.1 t9.2.2).bind fun t10 =>
  some (t4.1, t4.2.1, t4.2.2, t6.1, t6.2.1, t6.2.2, t8.1, t8.2.1, t8.2.2, t10.1, t10.2.1, t10.2.2)
theorem c_ref04_Corners {n : Nat} {a0 : ByteArray} {a1 : Int} {a2 : Int} {a3 : Int} {a4 : Int} {a5 : Int} {a6 : Int} {a7 : Int} {a8 : Int} {a9 : Int} {r : Int × Int × Int × Int × Int × Int × Int × Int × Int × Int × Int × Int} (h : F_ref04_Corners n a0 a1 a2 a3 a4 a5 a6 a7 a8 a9 = some r) : Computes cx 34 [.agg [.v (.string a0), I a1, I a2, I a3, I a4, I a5, I a6, I a7, I a8, I a9]] (.agg [I r.1, I r.2.1, I r.2.2.1, I r.2.2.2.1, I r.2.2.2.2.1, I r.2.2.2.2.2.1, I r.2.2.2.2.2.2.1, I r.2.2.2.2.2.2.2.1, I r.2.2.2.2.2.2.2.2.1, I r.2.2.2.2.2.2.2.2.2.1, I r.2.2.2.2.2.2.2.2.2.2.1, I r.2.2.2.2.2.2.2.2.2.2.2]) := by
  unfold F_ref04_Corners at h
  obtain ⟨t1, h1, h⟩ := bnd_of h
  obtain ⟨t2, h2, h⟩ := bnd_of h
  obtain ⟨t3, h3, h⟩ := bnd_of h
  obtain ⟨t4, h4, h⟩ := bnd_of h
  obtain ⟨t5, h5, h⟩ := bnd_of h
  obtain ⟨t6, h6, h⟩ := bnd_of h
  obtain ⟨t7, h7, h⟩ := bnd_of h
  obtain ⟨t8, h8, h⟩ := bnd_of h
  obtain ⟨t9, h9, h⟩ := bnd_of h
  obtain ⟨t10, h10, h⟩ := bnd_of h
  replace h := Option.some.inj h
  subst h
  exact run (n := 100) (f := 34) (args := [.agg [.v (.string a0), I a1, I a2, I a3, I a4, I a5, I a6, I a7, I a8, I a9]]) (orc := [.ret (.agg [I t1.1, I t1.2.1, I t1.2.2]), .ret (.agg [I t2.1, I t2.2.1, I t2.2.2]), .ret (.agg [I t3.1, I t3.2.1, I t3.2.2]), .ret (.agg [I t4.1, I t4.2.1, I t4.2.2]), .ret (.agg [I t2.1, I t2.2.1, I t2.2.2]), .ret (.agg [I t5.1, I t5.2.1, I t5.2.2]), .ret (.agg [I t6.1, I t6.2.1, I t6.2.2]), .ret (.agg [I t7.1, I t7.2.1, I t7.2.2]), .ret (.agg [I t8.1, I t8.2.1, I t8.2.2]), .ret (.agg [I t1.1, I t1.2.1, I t1.2.2]), .ret (.agg [I t9.1, I t9.2.1, I t9.2.2]), .ret (.agg [I t10.1, I t10.2.1, I t10.2.2])]) (r := .agg [I t4.1, I t4.2.1, I t4.2.2, I t6.1, I t6.2.1, I t6.2.2, I t8.1, I t8.2.1, I t8.2.2, I t10.1, I t10.2.1, I t10.2.2]) (ob := [Computes cx 85 [.agg [I a1, I a2, I a3], .agg [I t9.1, I t9.2.1, I t9.2.2]] (.agg [I t10.1, I t10.2.1, I t10.2.2]), Computes cx 85 [.agg [I t1.1, I t1.2.1, I t1.2.2], .agg [I a7, I a8, I a9]] (.agg [I t9.1, I t9.2.1, I t9.2.2]), Computes cx 86 [I (-1), .agg [I a4, I a5, I a6]] (.agg [I t1.1, I t1.2.1, I t1.2.2]), Computes cx 85 [.agg [I a1, I a2, I a3], .agg [I t7.1, I t7.2.1, I t7.2.2]] (.agg [I t8.1, I t8.2.1, I t8.2.2]), Computes cx 85 [.agg [I a4, I a5, I a6], .agg [I a7, I a8, I a9]] (.agg [I t7.1, I t7.2.1, I t7.2.2]), Computes cx 85 [.agg [I a1, I a2, I a3], .agg [I t5.1, I t5.2.1, I t5.2.2]] (.agg [I t6.1, I t6.2.1, I t6.2.2]), Computes cx 85 [.agg [I a4, I a5, I a6], .agg [I t2.1, I t2.2.1, I t2.2.2]] (.agg [I t5.1, I t5.2.1, I t5.2.2]), Computes cx 86 [I (-1), .agg [I a7, I a8, I a9]] (.agg [I t2.1, I t2.2.1, I t2.2.2]), Computes cx 85 [.agg [I a1, I a2, I a3], .agg [I t3.1, I t3.2.1, I t3.2.2]] (.agg [I t4.1, I t4.2.1, I t4.2.2]), Computes cx 85 [.agg [I t1.1, I t1.2.1, I t1.2.2], .agg [I t2.1, I t2.2.1, I t2.2.2]] (.agg [I t3.1, I t3.2.1, I t3.2.2]), Computes cx 86 [I (-1), .agg [I a7, I a8, I a9]] (.agg [I t2.1, I t2.2.1, I t2.2.2]), Computes cx 86 [I (-1), .agg [I a4, I a5, I a6]] (.agg [I t1.1, I t1.2.1, I t1.2.2])]) (by kernel_rfl) ⟨(c_ref04_plus h10), (c_ref04_plus h9), (c_ref04_times h1), (c_ref04_plus h8), (c_ref04_plus h7), (c_ref04_plus h6), (c_ref04_plus h5), (c_ref04_times h2), (c_ref04_plus h4), (c_ref04_plus h3), (c_ref04_times h2), (c_ref04_times h1), trivial⟩
/- spillage/field.CheckMirror: .agg [.v (.string a0), I a1, I a2, I a3, I a4, I a5, I a6, I a7, I a8, I a9] -/
def F_field_CheckMirror (n : Nat) (a0 : ByteArray) (a1 : Int) (a2 : Int) (a3 : Int) (a4 : Int) (a5 : Int) (a6 : Int) (a7 : Int) (a8 : Int) (a9 : Int) : Option (Int) :=
  (F_field_Mirror_check n a0 a1 a2 a3 a4 a5 a6 a7 a8 a9).bind fun t1 =>
  some t1
theorem c_field_CheckMirror {n : Nat} {a0 : ByteArray} {a1 : Int} {a2 : Int} {a3 : Int} {a4 : Int} {a5 : Int} {a6 : Int} {a7 : Int} {a8 : Int} {a9 : Int} {r : Int} (h : F_field_CheckMirror n a0 a1 a2 a3 a4 a5 a6 a7 a8 a9 = some r) : Computes cx 37 [.agg [.v (.string a0), I a1, I a2, I a3, I a4, I a5, I a6, I a7, I a8, I a9]] (I r) := by
  unfold F_field_CheckMirror at h
  obtain ⟨t1, h1, h⟩ := bnd_of h
  replace h := Option.some.inj h
  subst h
  exact run (n := 100) (f := 37) (args := [.agg [.v (.string a0), I a1, I a2, I a3, I a4, I a5, I a6, I a7, I a8, I a9]]) (orc := [.ret (I t1)]) (r := I t1) (ob := [Computes cx 63 [.agg [.v (.string a0), I a1, I a2, I a3, I a4, I a5, I a6, I a7, I a8, I a9]] (I t1)]) (by kernel_rfl) ⟨(c_field_Mirror_check h1), trivial⟩
def F_ref04_SameVectors_L1 (n : Nat) (a0 : List D) (a1 : List D) (sa : (Int)) : Option (((Int)) ⊕ ((Unit) ⊕ (Unit))) :=
  if sa < ((a0).length : Int) then
    (el un_Ai3Z a0 sa).bind fun ta2 =>
    (el un_Ai3Z a1 sa).bind fun ta3 =>
    if ((ta2.1 == ta3.1) && ((ta2.2.1 == ta3.2.1) && ((ta2.2.2 == ta3.2.2) && true))) = true then
      if inI64 (sa + 1) then
      some (.inl (sa + 1))
      else none
    else
    some (.inr (.inl ()))
  else
  some (.inr (.inr ()))
noncomputable def T_ref04_SameVectors_L1 (a0 : List D) (a1 : List D) (sa : (Int)) : List (Nat × AV) := [(0, .d (.lst false 3 a0)), (1, .d (.lst false 3 a1)), (5, .d (I sa))]
noncomputable def H_ref04_SameVectors_L1 (a0 : List D) (a1 : List D) (sa : (Int)) : List (Nat × Blk) := []
noncomputable def X_ref04_SameVectors_L1 (a0 : List D) (a1 : List D) (e : (Unit) ⊕ (Unit)) : Ex := match e with
  | (.inl e) => .ret
  | (.inr e) => (.exit 0)
noncomputable def XT_ref04_SameVectors_L1 (a0 : List D) (a1 : List D) (e : (Unit) ⊕ (Unit)) : List (Nat × AV) := match e with
  | (.inl e) => [(4, .d (B false))]
  | (.inr e) => []
noncomputable def XH_ref04_SameVectors_L1 (a0 : List D) (a1 : List D) (e : (Unit) ⊕ (Unit)) : List (Nat × Blk) := match e with
  | (.inl e) => []
  | (.inr e) => []
theorem R_ref04_SameVectors_L1 {n : Nat} {a0 : List D} {a1 : List D} (sa : (Int)) (r) (h : F_ref04_SameVectors_L1 n a0 a1 sa = some r) : Rd cx (loopAt cx.P 41 0) 26 0 false (T_ref04_SameVectors_L1 a0 a1) (H_ref04_SameVectors_L1 a0 a1) (X_ref04_SameVectors_L1 a0 a1) (XT_ref04_SameVectors_L1 a0 a1) (XH_ref04_SameVectors_L1 a0 a1) sa r := by
  unfold F_ref04_SameVectors_L1 at h
  by_cases ha1 : sa < ((a0).length : Int)
  · replace h := ite_t h ha1
    obtain ⟨ta2, ha2, h⟩ := bnd_of h
    obtain ⟨ta3, ha3, h⟩ := bnd_of h
    by_cases ha4 : ((ta2.1 == ta3.1) && ((ta2.2.1 == ta3.2.1) && ((ta2.2.2 == ta3.2.2) && true))) = true
    · replace h := ite_t h ha4
      obtain ⟨ha5, h⟩ := grd_of h
      replace h := Option.some.inj h
      subst h
      exact ⟨100, 7, [.br true, .el (.agg [I ta2.1, I ta2.2.1, I ta2.2.2]), .el (.agg [I ta3.1, I ta3.2.1, I ta3.2.2]), .br false], [], [0, 1, 5], [], round_of (ob := [inI64 (sa + 1), (!((ta2.1 == ta3.1) && ((ta2.2.1 == ta3.2.1) && ((ta2.2.2 == ta3.2.2) && true)))) = false, (0 : Int) ≤ sa, nth (a1) (Int.toNat sa) = some (.agg [I ta3.1, I ta3.2.1, I ta3.2.2]), (0 : Int) ≤ sa, nth (a0) (Int.toNat sa) = some (.agg [I ta2.1, I ta2.2.1, I ta2.2.2]), (decide (sa < ((a0).length : Int))) = true]) (by kernel_rfl) ⟨ha5, (notf ha4), (el_ok un_Ai3Z_ok ha3).1, (el_ok un_Ai3Z_ok ha3).2, (el_ok un_Ai3Z_ok ha2).1, (el_ok un_Ai3Z_ok ha2).2, (decide_eq_true ha1), trivial⟩⟩
    · replace h := ite_f h ha4
      replace h := Option.some.inj h
      subst h
      exact ⟨⟨100, 7, [.br true, .el (.agg [I ta2.1, I ta2.2.1, I ta2.2.2]), .el (.agg [I ta3.1, I ta3.2.1, I ta3.2.2]), .br true], [], [4], [], round_of (ob := [(!((ta2.1 == ta3.1) && ((ta2.2.1 == ta3.2.1) && ((ta2.2.2 == ta3.2.2) && true)))) = true, (0 : Int) ≤ sa, nth (a1) (Int.toNat sa) = some (.agg [I ta3.1, I ta3.2.1, I ta3.2.2]), (0 : Int) ≤ sa, nth (a0) (Int.toNat sa) = some (.agg [I ta2.1, I ta2.2.1, I ta2.2.2]), (decide (sa < ((a0).length : Int))) = true]) (by kernel_rfl) ⟨(nott (bfalse ha4)), (el_ok un_Ai3Z_ok ha3).1, (el_ok un_Ai3Z_ok ha3).2, (el_ok un_Ai3Z_ok ha2).1, (el_ok un_Ai3Z_ok ha2).2, (decide_eq_true ha1), trivial⟩⟩, nofun⟩
  · replace h := ite_f h ha1
    replace h := Option.some.inj h
    subst h
    exact ⟨⟨100, 7, [.br false], [], [], [], round_of (ob := [(decide (sa < ((a0).length : Int))) = false]) (by kernel_rfl) ⟨(decide_eq_false ha1), trivial⟩⟩, nofun⟩
/- spillage/spillageref04.SameVectors: .lst false 3 a0, .lst false 3 a1 -/
def F_ref04_SameVectors (n : Nat) (a0 : List D) (a1 : List D) : Option (Bool) :=
  if ((a0).length : Int) = ((a1).length : Int) then
    (loopF (F_ref04_SameVectors_L1 n a0 a1) n 0).bind fun t2 => match t2 with
      | (.inl t2) => (
        some false)
      | (.inr t2) => (
        some true)
  else
  some false
theorem c_ref04_SameVectors {n : Nat} {a0 : List D} {a1 : List D} {r : Bool} (h : F_ref04_SameVectors n a0 a1 = some r) : Computes cx 41 [.lst false 3 a0, .lst false 3 a1] (B r) := by
  unfold F_ref04_SameVectors at h
  by_cases h1 : ((a0).length : Int) = ((a1).length : Int)
  · replace h := ite_t h h1
    obtain ⟨t2, h2, h⟩ := bnd_of h
    rcases t2 with t2 | t2
    · replace h := Option.some.inj h
      subst h
      exact run (n := 100) (f := 41) (args := [.lst false 3 a0, .lst false 3 a1]) (orc := [.br false, .lp [] [0, 1, 5] [] .ret [(4, .d (B false))] [] 34]) (r := B false) (ob := [LoopN cx (loopAt cx.P 41 0) 26 0 false [(0, .d (.lst false 3 a0)), (1, .d (.lst false 3 a1)), (5, .d (I 0))] [] .ret [(4, .d (B false))] [], (((a0).length : Int) != ((a1).length : Int)) = false]) (by kernel_rfl) ⟨(loopF_to R_ref04_SameVectors_L1 h2), (nef h1), trivial⟩
    · replace h := Option.some.inj h
      subst h
      exact run (n := 100) (f := 41) (args := [.lst false 3 a0, .lst false 3 a1]) (orc := [.br false, .lp [] [0, 1, 5] [] (.exit 0) [] [] 34]) (r := B true) (ob := [LoopN cx (loopAt cx.P 41 0) 26 0 false [(0, .d (.lst false 3 a0)), (1, .d (.lst false 3 a1)), (5, .d (I 0))] [] (.exit 0) [] [], (((a0).length : Int) != ((a1).length : Int)) = false]) (by kernel_rfl) ⟨(loopF_to R_ref04_SameVectors_L1 h2), (nef h1), trivial⟩
  · replace h := ite_f h h1
    replace h := Option.some.inj h
    subst h
    exact run (n := 100) (f := 41) (args := [.lst false 3 a0, .lst false 3 a1]) (orc := [.br true]) (r := B false) (ob := [(((a0).length : Int) != ((a1).length : Int)) = true]) (by kernel_rfl) ⟨(net h1), trivial⟩
/- spillage/spillagelaw04.FieldMirrors: .agg [.v (.string a0), I a1, I a2, I a3, I a4, I a5, I a6, I a7, I a8, I a9], .lst false 10 a10, I a11 -/
def F_law04_FieldMirrors (n : Nat) (a0 : ByteArray) (a1 : Int) (a2 : Int) (a3 : Int) (a4 : Int) (a5 : Int) (a6 : Int) (a7 : Int) (a8 : Int) (a9 : Int) (a10 : List D) (a11 : Int) : Option (Bool) :=
  (F_law04_awake n).bind fun t1 =>
  if t1 = true then
    (F_ref04_ShortMirror n a0 a1 a2 a3 a4 a5 a6 a7 a8 a9).bind fun t3 =>
    if t3 = true then
      (F_ref04_Short n a10).bind fun t5 =>
      if t5 = true then
        (F_field_Corners n a0 a1 a2 a3 a4 a5 a6 a7 a8 a9).bind fun t7 =>
        (F_field_Normal n a0 a1 a2 a3 a4 a5 a6 a7 a8 a9).bind fun t8 =>
        (F_field_Facets n a0 a1 a2 a3 a4 a5 a6 a7 a8 a9 a11).bind fun t9 =>
        (F_ref04_CheckMirror n a0 a1 a2 a3 a4 a5 a6 a7 a8 a9).bind fun t10 =>
        (F_ref04_CheckFacets n a11).bind fun t11 =>
        (F_ref01_First n ([I t10, I t11])).bind fun t12 =>
        if t10 = 0 then
          (F_ref04_Corners n a0 a1 a2 a3 a4 a5 a6 a7 a8 a9).bind fun t14 =>
          (F_ref04_Normal n a0 a1 a2 a3 a4 a5 a6 a7 a8 a9).bind fun t15 =>
          if t12 = 0 then
            (F_ref04_Facets n a0 a1 a2 a3 a4 a5 a6 a7 a8 a9 a11).bind fun t17 =>
            (F_field_CheckMirror n a0 a1 a2 a3 a4 a5 a6 a7 a8 a9).bind fun t18 =>
            if t18 = t10 then
              (F_law04_own n a10).bind fun t20 =>
              (F_field_CheckMirrors n t20).bind fun t21 =>
              (F_ref04_CheckMirrors n a10).bind fun t22 =>
              if t21 = t22 then
                if (((t7.1 == t14.1) && ((t7.2.1 == t14.2.1) && ((t7.2.2.1 == t14.2.2.1) && true))) && (((t7.2.2.2.1 == t14.2.2.2.1) && ((t7.2.2.2.2.1 == t14.2.2.2.2.1) && ((t7.2.2.2.2.2.1 == t14.2.2.2.2.2.1) && true))) && (((t7.2.2.2.2.2.2.1 == t14.2.2.2.2.2.2.1) && ((t7.2.2.2.2.2.2.2.1 == t14.2.2.2.2.2.2.2.1) && ((t7.2.2.2.2.2.2.2.2.1 == t14.2.2.2.2.2.2.2.2.1) && true))) && (((t7.2.2.2.2.2.2.2.2.2.1 == t14.2.2.2.2.2.2.2.2.2.1) && ((t7.2.2.2.2.2.2.2.2.2.2.1 == t14.2.2.2.2.2.2.2.2.2.2.1) && ((t7.2.2.2.2.2.2.2.2.2.2.2.1 == t14.2.2.2.2.2.2.2.2.2.2.2) && true))) && true)))) = true then
                  if t7.2.2.2.2.2.2.2.2.2.2.2.2 = t10 then
                    if ((t8.1 == t15.1) && ((t8.2.1 == t15.2.1) && ((t8.2.2.1 == t15.2.2) && true))) = true then
                      if t8.2.2.2 = t10 then
                        (F_ref04_SameVectors n t9.1 t17).bind fun t28 =>
                        if t28 = true then
                          some (t9.2 == t12)
                        else
                        none /- false -/
                      else
                      none /- false -/
                    else
                    none /- false -/
                  else
                  none /- false -/
                else
                none /- false -/
              else
              none /- false -/
            else
            none /- false -/
          else
          (F_field_CheckMirror n a0 a1 a2 a3 a4 a5 a6 a7 a8 a9).bind fun t17 =>
          if t17 = t10 then
            (F_law04_own n a10).bind fun t19 =>
            (F_field_CheckMirrors n t19).bind fun t20 =>
            (F_ref04_CheckMirrors n a10).bind fun t21 =>
            if t20 = t21 then
              if (((t7.1 == t14.1) && ((t7.2.1 == t14.2.1) && ((t7.2.2.1 == t14.2.2.1) && true))) && (((t7.2.2.2.1 == t14.2.2.2.1) && ((t7.2.2.2.2.1 == t14.2.2.2.2.1) && ((t7.2.2.2.2.2.1 == t14.2.2.2.2.2.1) && true))) && (((t7.2.2.2.2.2.2.1 == t14.2.2.2.2.2.2.1) && ((t7.2.2.2.2.2.2.2.1 == t14.2.2.2.2.2.2.2.1) && ((t7.2.2.2.2.2.2.2.2.1 == t14.2.2.2.2.2.2.2.2.1) && true))) && (((t7.2.2.2.2.2.2.2.2.2.1 == t14.2.2.2.2.2.2.2.2.2.1) && ((t7.2.2.2.2.2.2.2.2.2.2.1 == t14.2.2.2.2.2.2.2.2.2.2.1) && ((t7.2.2.2.2.2.2.2.2.2.2.2.1 == t14.2.2.2.2.2.2.2.2.2.2.2) && true))) && true)))) = true then
                if t7.2.2.2.2.2.2.2.2.2.2.2.2 = t10 then
                  if ((t8.1 == t15.1) && ((t8.2.1 == t15.2.1) && ((t8.2.2.1 == t15.2.2) && true))) = true then
                    if t8.2.2.2 = t10 then
                      (F_ref04_SameVectors n t9.1 ([])).bind fun t27 =>
                      if t27 = true then
                        some (t9.2 == t12)
                      else
                      none /- false -/
                    else
                    none /- false -/
                  else
                  none /- false -/
                else
                none /- false -/
              else
              none /- false -/
            else
            none /- false -/
          else
          none /- false -/
        else
        if t12 = 0 then
          (F_ref04_Facets n a0 a1 a2 a3 a4 a5 a6 a7 a8 a9 a11).bind fun t15 =>
          (F_field_CheckMirror n a0 a1 a2 a3 a4 a5 a6 a7 a8 a9).bind fun t16 =>
          if t16 = t10 then
            (F_law04_own n a10).bind fun t18 =>
            (F_field_CheckMirrors n t18).bind fun t19 =>
            (F_ref04_CheckMirrors n a10).bind fun t20 =>
            if t19 = t20 then
              if (((t7.1 == 0) && ((t7.2.1 == 0) && ((t7.2.2.1 == 0) && true))) && (((t7.2.2.2.1 == 0) && ((t7.2.2.2.2.1 == 0) && ((t7.2.2.2.2.2.1 == 0) && true))) && (((t7.2.2.2.2.2.2.1 == 0) && ((t7.2.2.2.2.2.2.2.1 == 0) && ((t7.2.2.2.2.2.2.2.2.1 == 0) && true))) && (((t7.2.2.2.2.2.2.2.2.2.1 == 0) && ((t7.2.2.2.2.2.2.2.2.2.2.1 == 0) && ((t7.2.2.2.2.2.2.2.2.2.2.2.1 == 0) && true))) && true)))) = true then
                if t7.2.2.2.2.2.2.2.2.2.2.2.2 = t10 then
                  if ((t8.1 == 0) && ((t8.2.1 == 0) && ((t8.2.2.1 == 0) && true))) = true then
                    if t8.2.2.2 = t10 then
                      (F_ref04_SameVectors n t9.1 t15).bind fun t26 =>
                      if t26 = true then
                        some (t9.2 == t12)
                      else
                      none /- false -/
                    else
                    none /- false -/
                  else
                  none /- false -/
                else
                none /- false -/
              else
              none /- false -/
            else
            none /- false -/
          else
          none /- false -/
        else
        (F_field_CheckMirror n a0 a1 a2 a3 a4 a5 a6 a7 a8 a9).bind fun t15 =>
        if t15 = t10 then
          (F_law04_own n a10).bind fun t17 =>
          (F_field_CheckMirrors n t17).bind fun t18 =>
          (F_ref04_CheckMirrors n a10).bind fun t19 =>
          if t18 = t19 then
            if (((t7.1 == 0) && ((t7.2.1 == 0) && ((t7.2.2.1 == 0) && true))) && (((t7.2.2.2.1 == 0) && ((t7.2.2.2.2.1 == 0) && ((t7.2.2.2.2.2.1 == 0) && true))) && (((t7.2.2.2.2.2.2.1 == 0) && ((t7.2.2.2.2.2.2.2.1 == 0) && ((t7.2.2.2.2.2.2.2.2.1 == 0) && true))) && (((t7.2.2.2.2.2.2.2.2.2.1 == 0) && ((t7.2.2.2.2.2.2.2.2.2.2.1 == 0) && ((t7.2.2.2.2.2.2.2.2.2.2.2.1 == 0) && true))) && true)))) = true then
              if t7.2.2.2.2.2.2.2.2.2.2.2.2 = t10 then
                if ((t8.1 == 0) && ((t8.2.1 == 0) && ((t8.2.2.1 == 0) && true))) = true then
                  if t8.2.2.2 = t10 then
                    (F_ref04_SameVectors n t9.1 ([])).bind fun t25 =>
                    if t25 = true then
                      some (t9.2 == t12)
                    else
                    none /- false -/
                  else
                  none /- false -/
                else
                none /- false -/
              else
              none /- false -/
            else
            none /- false -/
          else
          none /- false -/
        else
        none /- false -/
      else
      some t1
    else
    some t1
  else
  some t1
theorem c_law04_FieldMirrors {n : Nat} {a0 : ByteArray} {a1 : Int} {a2 : Int} {a3 : Int} {a4 : Int} {a5 : Int} {a6 : Int} {a7 : Int} {a8 : Int} {a9 : Int} {a10 : List D} {a11 : Int} {r : Bool} (h : F_law04_FieldMirrors n a0 a1 a2 a3 a4 a5 a6 a7 a8 a9 a10 a11 = some r) : Computes cx 6 [.agg [.v (.string a0), I a1, I a2, I a3, I a4, I a5, I a6, I a7, I a8, I a9], .lst false 10 a10, I a11] (B r) := by
  unfold F_law04_FieldMirrors at h
  obtain ⟨t1, h1, h⟩ := bnd_of h
  by_cases h2 : t1 = true
  · replace h := ite_t h h2
    obtain ⟨t3, h3, h⟩ := bnd_of h
    by_cases h4 : t3 = true
    · replace h := ite_t h h4
      obtain ⟨t5, h5, h⟩ := bnd_of h
      by_cases h6 : t5 = true
      · replace h := ite_t h h6
        obtain ⟨t7, h7, h⟩ := bnd_of h
        obtain ⟨t8, h8, h⟩ := bnd_of h
        obtain ⟨t9, h9, h⟩ := bnd_of h
        obtain ⟨t10, h10, h⟩ := bnd_of h
        obtain ⟨t11, h11, h⟩ := bnd_of h
        obtain ⟨t12, h12, h⟩ := bnd_of h
        by_cases h13 : t10 = 0
        · replace h := ite_t h h13
          obtain ⟨t14, h14, h⟩ := bnd_of h
          obtain ⟨t15, h15, h⟩ := bnd_of h
          by_cases h16 : t12 = 0
          · replace h := ite_t h h16
            obtain ⟨t17, h17, h⟩ := bnd_of h
            obtain ⟨t18, h18, h⟩ := bnd_of h
            by_cases h19 : t18 = t10
            · replace h := ite_t h h19
              obtain ⟨t20, h20, h⟩ := bnd_of h
              obtain ⟨t21, h21, h⟩ := bnd_of h
              obtain ⟨t22, h22, h⟩ := bnd_of h
              by_cases h23 : t21 = t22
              · replace h := ite_t h h23
                by_cases h24 : (((t7.1 == t14.1) && ((t7.2.1 == t14.2.1) && ((t7.2.2.1 == t14.2.2.1) && true))) && (((t7.2.2.2.1 == t14.2.2.2.1) && ((t7.2.2.2.2.1 == t14.2.2.2.2.1) && ((t7.2.2.2.2.2.1 == t14.2.2.2.2.2.1) && true))) && (((t7.2.2.2.2.2.2.1 == t14.2.2.2.2.2.2.1) && ((t7.2.2.2.2.2.2.2.1 == t14.2.2.2.2.2.2.2.1) && ((t7.2.2.2.2.2.2.2.2.1 == t14.2.2.2.2.2.2.2.2.1) && true))) && (((t7.2.2.2.2.2.2.2.2.2.1 == t14.2.2.2.2.2.2.2.2.2.1) && ((t7.2.2.2.2.2.2.2.2.2.2.1 == t14.2.2.2.2.2.2.2.2.2.2.1) && ((t7.2.2.2.2.2.2.2.2.2.2.2.1 == t14.2.2.2.2.2.2.2.2.2.2.2) && true))) && true)))) = true
                · replace h := ite_t h h24
                  by_cases h25 : t7.2.2.2.2.2.2.2.2.2.2.2.2 = t10
                  · replace h := ite_t h h25
                    by_cases h26 : ((t8.1 == t15.1) && ((t8.2.1 == t15.2.1) && ((t8.2.2.1 == t15.2.2) && true))) = true
                    · replace h := ite_t h h26
                      by_cases h27 : t8.2.2.2 = t10
                      · replace h := ite_t h h27
                        obtain ⟨t28, h28, h⟩ := bnd_of h
                        by_cases h29 : t28 = true
                        · replace h := ite_t h h29
                          replace h := Option.some.inj h
                          subst h
                          exact run (n := 100) (f := 6) (args := [.agg [.v (.string a0), I a1, I a2, I a3, I a4, I a5, I a6, I a7, I a8, I a9], .lst false 10 a10, I a11]) (orc := [.ret (B t1), .br false, .ret (B t3), .br false, .ret (B t5), .br false, .ret (.tup [.agg [I t7.1, I t7.2.1, I t7.2.2.1, I t7.2.2.2.1, I t7.2.2.2.2.1, I t7.2.2.2.2.2.1, I t7.2.2.2.2.2.2.1, I t7.2.2.2.2.2.2.2.1, I t7.2.2.2.2.2.2.2.2.1, I t7.2.2.2.2.2.2.2.2.2.1, I t7.2.2.2.2.2.2.2.2.2.2.1, I t7.2.2.2.2.2.2.2.2.2.2.2.1], I t7.2.2.2.2.2.2.2.2.2.2.2.2]), .ret (.tup [.agg [I t8.1, I t8.2.1, I t8.2.2.1], I t8.2.2.2]), .ret (.tup [.lst false 3 t9.1, I t9.2]), .ret (I t10), .ret (I t11), .ret (I t12), .br true, .ret (.agg [I t14.1, I t14.2.1, I t14.2.2.1, I t14.2.2.2.1, I t14.2.2.2.2.1, I t14.2.2.2.2.2.1, I t14.2.2.2.2.2.2.1, I t14.2.2.2.2.2.2.2.1, I t14.2.2.2.2.2.2.2.2.1, I t14.2.2.2.2.2.2.2.2.2.1, I t14.2.2.2.2.2.2.2.2.2.2.1, I t14.2.2.2.2.2.2.2.2.2.2.2]), .ret (.agg [I t15.1, I t15.2.1, I t15.2.2]), .br true, .ret (.lst false 3 t17), .ret (I t18), .br true, .ret (.lst false 10 t20), .ret (I t21), .ret (I t22), .br true, .br true, .br true, .br true, .br true, .ret (B t28), .br true]) (r := B (t9.2 == t12)) (ob := [t28 = true, Computes cx 41 [.lst false 3 t9.1, .lst false 3 t17] (B t28), (t8.2.2.2 == t10) = true, ((t8.1 == t15.1) && ((t8.2.1 == t15.2.1) && ((t8.2.2.1 == t15.2.2) && true))) = true, (t7.2.2.2.2.2.2.2.2.2.2.2.2 == t10) = true, (((t7.1 == t14.1) && ((t7.2.1 == t14.2.1) && ((t7.2.2.1 == t14.2.2.1) && true))) && (((t7.2.2.2.1 == t14.2.2.2.1) && ((t7.2.2.2.2.1 == t14.2.2.2.2.1) && ((t7.2.2.2.2.2.1 == t14.2.2.2.2.2.1) && true))) && (((t7.2.2.2.2.2.2.1 == t14.2.2.2.2.2.2.1) && ((t7.2.2.2.2.2.2.2.1 == t14.2.2.2.2.2.2.2.1) && ((t7.2.2.2.2.2.2.2.2.1 == t14.2.2.2.2.2.2.2.2.1) && true))) && (((t7.2.2.2.2.2.2.2.2.2.1 == t14.2.2.2.2.2.2.2.2.2.1) && ((t7.2.2.2.2.2.2.2.2.2.2.1 == t14.2.2.2.2.2.2.2.2.2.2.1) && ((t7.2.2.2.2.2.2.2.2.2.2.2.1 == t14.2.2.2.2.2.2.2.2.2.2.2) && true))) && true)))) = true, (t21 == t22) = true, Computes cx 40 [.lst false 10 a10] (I t22), Computes cx 38 [.lst false 10 t20] (I t21), Computes cx 39 [.lst false 10 a10] (.lst false 10 t20), (t18 == t10) = true, Computes cx 37 [.agg [.v (.string a0), I a1, I a2, I a3, I a4, I a5, I a6, I a7, I a8, I a9]] (I t18), Computes cx 36 [.agg [.v (.string a0), I a1, I a2, I a3, I a4, I a5, I a6, I a7, I a8, I a9], I a11] (.lst false 3 t17), (t12 == 0) = true, Computes cx 35 [.agg [.v (.string a0), I a1, I a2, I a3, I a4, I a5, I a6, I a7, I a8, I a9]] (.agg [I t15.1, I t15.2.1, I t15.2.2]), Computes cx 34 [.agg [.v (.string a0), I a1, I a2, I a3, I a4, I a5, I a6, I a7, I a8, I a9]] (.agg [I t14.1, I t14.2.1, I t14.2.2.1, I t14.2.2.2.1, I t14.2.2.2.2.1, I t14.2.2.2.2.2.1, I t14.2.2.2.2.2.2.1, I t14.2.2.2.2.2.2.2.1, I t14.2.2.2.2.2.2.2.2.1, I t14.2.2.2.2.2.2.2.2.2.1, I t14.2.2.2.2.2.2.2.2.2.2.1, I t14.2.2.2.2.2.2.2.2.2.2.2]), (t10 == 0) = true, Computes cx 12 [.lst true 1 [I t10, I t11]] (I t12), Computes cx 20 [I a11] (I t11), Computes cx 13 [.agg [.v (.string a0), I a1, I a2, I a3, I a4, I a5, I a6, I a7, I a8, I a9]] (I t10), Computes cx 33 [.agg [.v (.string a0), I a1, I a2, I a3, I a4, I a5, I a6, I a7, I a8, I a9], I a11] (.tup [.lst false 3 t9.1, I t9.2]), Computes cx 32 [.agg [.v (.string a0), I a1, I a2, I a3, I a4, I a5, I a6, I a7, I a8, I a9]] (.tup [.agg [I t8.1, I t8.2.1, I t8.2.2.1], I t8.2.2.2]), Computes cx 31 [.agg [.v (.string a0), I a1, I a2, I a3, I a4, I a5, I a6, I a7, I a8, I a9]] (.tup [.agg [I t7.1, I t7.2.1, I t7.2.2.1, I t7.2.2.2.1, I t7.2.2.2.2.1, I t7.2.2.2.2.2.1, I t7.2.2.2.2.2.2.1, I t7.2.2.2.2.2.2.2.1, I t7.2.2.2.2.2.2.2.2.1, I t7.2.2.2.2.2.2.2.2.2.1, I t7.2.2.2.2.2.2.2.2.2.2.1, I t7.2.2.2.2.2.2.2.2.2.2.2.1], I t7.2.2.2.2.2.2.2.2.2.2.2.2]), (!t5) = false, Computes cx 30 [.lst false 10 a10] (B t5), (!t3) = false, Computes cx 9 [.agg [.v (.string a0), I a1, I a2, I a3, I a4, I a5, I a6, I a7, I a8, I a9]] (B t3), (!t1) = false, Computes cx 8 [] (B t1)]) (by kernel_rfl) ⟨h29, (c_ref04_SameVectors h28), (eqt h27), h26, (eqt h25), h24, (eqt h23), (c_ref04_CheckMirrors h22), (c_field_CheckMirrors h21), (c_law04_own h20), (eqt h19), (c_field_CheckMirror h18), (c_ref04_Facets h17), (eqt h16), (c_ref04_Normal h15), (c_ref04_Corners h14), (eqt h13), ((c_ref01_First h12).le (.cons (.full _ _ _) (.nil)) (.refl _)), (c_ref04_CheckFacets h11), (c_ref04_CheckMirror h10), (c_field_Facets h9), (c_field_Normal h8), (c_field_Corners h7), (notf h6), (c_ref04_Short h5), (notf h4), (c_ref04_ShortMirror h3), (notf h2), (c_law04_awake h1), trivial⟩
                        · replace h := ite_f h h29
                          cases h
                      · replace h := ite_f h h27
                        cases h
                    · replace h := ite_f h h26
                      cases h
                  · replace h := ite_f h h25
                    cases h
                · replace h := ite_f h h24
                  cases h
              · replace h := ite_f h h23
                cases h
            · replace h := ite_f h h19
              cases h
          · replace h := ite_f h h16
            obtain ⟨t17, h17, h⟩ := bnd_of h
            by_cases h18 : t17 = t10
            · replace h := ite_t h h18
              obtain ⟨t19, h19, h⟩ := bnd_of h
              obtain ⟨t20, h20, h⟩ := bnd_of h
              obtain ⟨t21, h21, h⟩ := bnd_of h
              by_cases h22 : t20 = t21
              · replace h := ite_t h h22
                by_cases h23 : (((t7.1 == t14.1) && ((t7.2.1 == t14.2.1) && ((t7.2.2.1 == t14.2.2.1) && true))) && (((t7.2.2.2.1 == t14.2.2.2.1) && ((t7.2.2.2.2.1 == t14.2.2.2.2.1) && ((t7.2.2.2.2.2.1 == t14.2.2.2.2.2.1) && true))) && (((t7.2.2.2.2.2.2.1 == t14.2.2.2.2.2.2.1) && ((t7.2.2.2.2.2.2.2.1 == t14.2.2.2.2.2.2.2.1) && ((t7.2.2.2.2.2.2.2.2.1 == t14.2.2.2.2.2.2.2.2.1) && true))) && (((t7.2.2.2.2.2.2.2.2.2.1 == t14.2.2.2.2.2.2.2.2.2.1) && ((t7.2.2.2.2.2.2.2.2.2.2.1 == t14.2.2.2.2.2.2.2.2.2.2.1) && ((t7.2.2.2.2.2.2.2.2.2.2.2.1 == t14.2.2.2.2.2.2.2.2.2.2.2) && true))) && true)))) = true
                · replace h := ite_t h h23
                  by_cases h24 : t7.2.2.2.2.2.2.2.2.2.2.2.2 = t10
                  · replace h := ite_t h h24
                    by_cases h25 : ((t8.1 == t15.1) && ((t8.2.1 == t15.2.1) && ((t8.2.2.1 == t15.2.2) && true))) = true
                    · replace h := ite_t h h25
                      by_cases h26 : t8.2.2.2 = t10
                      · replace h := ite_t h h26
                        obtain ⟨t27, h27, h⟩ := bnd_of h
                        by_cases h28 : t27 = true
                        · replace h := ite_t h h28
                          replace h := Option.some.inj h
                          subst h
                          exact run (n := 100) (f := 6) (args := [.agg [.v (.string a0), I a1, I a2, I a3, I a4, I a5, I a6, I a7, I a8, I a9], .lst false 10 a10, I a11]) (orc := [.ret (B t1), .br false, .ret (B t3), .br false, .ret (B t5), .br false, .ret (.tup [.agg [I t7.1, I t7.2.1, I t7.2.2.1, I t7.2.2.2.1, I t7.2.2.2.2.1, I t7.2.2.2.2.2.1, I t7.2.2.2.2.2.2.1, I t7.2.2.2.2.2.2.2.1, I t7.2.2.2.2.2.2.2.2.1, I t7.2.2.2.2.2.2.2.2.2.1, I t7.2.2.2.2.2.2.2.2.2.2.1, I t7.2.2.2.2.2.2.2.2.2.2.2.1], I t7.2.2.2.2.2.2.2.2.2.2.2.2]), .ret (.tup [.agg [I t8.1, I t8.2.1, I t8.2.2.1], I t8.2.2.2]), .ret (.tup [.lst false 3 t9.1, I t9.2]), .ret (I t10), .ret (I t11), .ret (I t12), .br true, .ret (.agg [I t14.1, I t14.2.1, I t14.2.2.1, I t14.2.2.2.1, I t14.2.2.2.2.1, I t14.2.2.2.2.2.1, I t14.2.2.2.2.2.2.1, I t14.2.2.2.2.2.2.2.1, I t14.2.2.2.2.2.2.2.2.1, I t14.2.2.2.2.2.2.2.2.2.1, I t14.2.2.2.2.2.2.2.2.2.2.1, I t14.2.2.2.2.2.2.2.2.2.2.2]), .ret (.agg [I t15.1, I t15.2.1, I t15.2.2]), .br false, .ret (I t17), .br true, .ret (.lst false 10 t19), .ret (I t20), .ret (I t21), .br true, .br true, .br true, .br true, .br true, .ret (B t27), .br true]) (r := B (t9.2 == t12)) (ob := [t27 = true, Computes cx 41 [.lst false 3 t9.1, .lst true 0 []] (B t27), (t8.2.2.2 == t10) = true, ((t8.1 == t15.1) && ((t8.2.1 == t15.2.1) && ((t8.2.2.1 == t15.2.2) && true))) = true, (t7.2.2.2.2.2.2.2.2.2.2.2.2 == t10) = true, (((t7.1 == t14.1) && ((t7.2.1 == t14.2.1) && ((t7.2.2.1 == t14.2.2.1) && true))) && (((t7.2.2.2.1 == t14.2.2.2.1) && ((t7.2.2.2.2.1 == t14.2.2.2.2.1) && ((t7.2.2.2.2.2.1 == t14.2.2.2.2.2.1) && true))) && (((t7.2.2.2.2.2.2.1 == t14.2.2.2.2.2.2.1) && ((t7.2.2.2.2.2.2.2.1 == t14.2.2.2.2.2.2.2.1) && ((t7.2.2.2.2.2.2.2.2.1 == t14.2.2.2.2.2.2.2.2.1) && true))) && (((t7.2.2.2.2.2.2.2.2.2.1 == t14.2.2.2.2.2.2.2.2.2.1) && ((t7.2.2.2.2.2.2.2.2.2.2.1 == t14.2.2.2.2.2.2.2.2.2.2.1) && ((t7.2.2.2.2.2.2.2.2.2.2.2.1 == t14.2.2.2.2.2.2.2.2.2.2.2) && true))) && true)))) = true, (t20 == t21) = true, Computes cx 40 [.lst false 10 a10] (I t21), Computes cx 38 [.lst false 10 t19] (I t20), Computes cx 39 [.lst false 10 a10] (.lst false 10 t19), (t17 == t10) = true, Computes cx 37 [.agg [.v (.string a0), I a1, I a2, I a3, I a4, I a5, I a6, I a7, I a8, I a9]] (I t17), (t12 == 0) = false, Computes cx 35 [.agg [.v (.string a0), I a1, I a2, I a3, I a4, I a5, I a6, I a7, I a8, I a9]] (.agg [I t15.1, I t15.2.1, I t15.2.2]), Computes cx 34 [.agg [.v (.string a0), I a1, I a2, I a3, I a4, I a5, I a6, I a7, I a8, I a9]] (.agg [I t14.1, I t14.2.1, I t14.2.2.1, I t14.2.2.2.1, I t14.2.2.2.2.1, I t14.2.2.2.2.2.1, I t14.2.2.2.2.2.2.1, I t14.2.2.2.2.2.2.2.1, I t14.2.2.2.2.2.2.2.2.1, I t14.2.2.2.2.2.2.2.2.2.1, I t14.2.2.2.2.2.2.2.2.2.2.1, I t14.2.2.2.2.2.2.2.2.2.2.2]), (t10 == 0) = true, Computes cx 12 [.lst true 1 [I t10, I t11]] (I t12), Computes cx 20 [I a11] (I t11), Computes cx 13 [.agg [.v (.string a0), I a1, I a2, I a3, I a4, I a5, I a6, I a7, I a8, I a9]] (I t10), Computes cx 33 [.agg [.v (.string a0), I a1, I a2, I a3, I a4, I a5, I a6, I a7, I a8, I a9], I a11] (.tup [.lst false 3 t9.1, I t9.2]), Computes cx 32 [.agg [.v (.string a0), I a1, I a2, I a3, I a4, I a5, I a6, I a7, I a8, I a9]] (.tup [.agg [I t8.1, I t8.2.1, I t8.2.2.1], I t8.2.2.2]), Computes cx 31 [.agg [.v (.string a0), I a1, I a2, I a3, I a4, I a5, I a6, I a7, I a8, I a9]] (.tup [.agg [I t7.1, I t7.2.1, I t7.2.2.1, I t7.2.2.2.1, I t7.2.2.2.2.1, I t7.2.2.2.2.2.1, I t7.2.2.2.2.2.2.1, I t7.2.2.2.2.2.2.2.1, I t7.2.2.2.2.2.2.2.2.1, I t7.2.2.2.2.2.2.2.2.2.1, I t7.2.2.2.2.2.2.2.2.2.2.1, I t7.2.2.2.2.2.2.2.2.2.2.2.1], I t7.2.2.2.2.2.2.2.2.2.2.2.2]), (!t5) = false, Computes cx 30 [.lst false 10 a10] (B t5), (!t3) = false, Computes cx 9 [.agg [.v (.string a0), I a1, I a2, I a3, I a4, I a5, I a6, I a7, I a8, I a9]] (B t3), (!t1) = false, Computes cx 8 [] (B t1)]) (by kernel_rfl) ⟨h28, ((c_ref04_SameVectors h27).le (.cons (.refl _) (.cons (.lst _ _ _ _ _ nofun (.inl rfl)) (.nil))) (.refl _)), (eqt h26), h25, (eqt h24), h23, (eqt h22), (c_ref04_CheckMirrors h21), (c_field_CheckMirrors h20), (c_law04_own h19), (eqt h18), (c_field_CheckMirror h17), (eqf h16), (c_ref04_Normal h15), (c_ref04_Corners h14), (eqt h13), ((c_ref01_First h12).le (.cons (.full _ _ _) (.nil)) (.refl _)), (c_ref04_CheckFacets h11), (c_ref04_CheckMirror h10), (c_field_Facets h9), (c_field_Normal h8), (c_field_Corners h7), (notf h6), (c_ref04_Short h5), (notf h4), (c_ref04_ShortMirror h3), (notf h2), (c_law04_awake h1), trivial⟩
                        · replace h := ite_f h h28
                          cases h
                      · replace h := ite_f h h26
                        cases h
                    · replace h := ite_f h h25
                      cases h
                  · replace h := ite_f h h24
                    cases h
                · replace h := ite_f h h23
                  cases h
              · replace h := ite_f h h22
                cases h
            · replace h := ite_f h h18
              cases h
        · replace h := ite_f h h13
          by_cases h14 : t12 = 0
          · replace h := ite_t h h14
            obtain ⟨t15, h15, h⟩ := bnd_of h
            obtain ⟨t16, h16, h⟩ := bnd_of h
            by_cases h17 : t16 = t10
            · replace h := ite_t h h17
              obtain ⟨t18, h18, h⟩ := bnd_of h
              obtain ⟨t19, h19, h⟩ := bnd_of h
              obtain ⟨t20, h20, h⟩ := bnd_of h
              by_cases h21 : t19 = t20
              · replace h := ite_t h h21
                by_cases h22 : (((t7.1 == 0) && ((t7.2.1 == 0) && ((t7.2.2.1 == 0) && true))) && (((t7.2.2.2.1 == 0) && ((t7.2.2.2.2.1 == 0) && ((t7.2.2.2.2.2.1 == 0) && true))) && (((t7.2.2.2.2.2.2.1 == 0) && ((t7.2.2.2.2.2.2.2.1 == 0) && ((t7.2.2.2.2.2.2.2.2.1 == 0) && true))) && (((t7.2.2.2.2.2.2.2.2.2.1 == 0) && ((t7.2.2.2.2.2.2.2.2.2.2.1 == 0) && ((t7.2.2.2.2.2.2.2.2.2.2.2.1 == 0) && true))) && true)))) = true
                · replace h := ite_t h h22
                  by_cases h23 : t7.2.2.2.2.2.2.2.2.2.2.2.2 = t10
                  · replace h := ite_t h h23
                    by_cases h24 : ((t8.1 == 0) && ((t8.2.1 == 0) && ((t8.2.2.1 == 0) && true))) = true
                    · replace h := ite_t h h24
                      by_cases h25 : t8.2.2.2 = t10
                      · replace h := ite_t h h25
                        obtain ⟨t26, h26, h⟩ := bnd_of h
                        by_cases h27 : t26 = true
                        · replace h := ite_t h h27
                          replace h := Option.some.inj h
                          subst h
                          exact run (n := 100) (f := 6) (args := [.agg [.v (.string a0), I a1, I a2, I a3, I a4, I a5, I a6, I a7, I a8, I a9], .lst false 10 a10, I a11]) (orc := [.ret (B t1), .br false, .ret (B t3), .br false, .ret (B t5), .br false, .ret (.tup [.agg [I t7.1, I t7.2.1, I t7.2.2.1, I t7.2.2.2.1, I t7.2.2.2.2.1, I t7.2.2.2.2.2.1, I t7.2.2.2.2.2.2.1, I t7.2.2.2.2.2.2.2.1, I t7.2.2.2.2.2.2.2.2.1, I t7.2.2.2.2.2.2.2.2.2.1, I t7.2.2.2.2.2.2.2.2.2.2.1, I t7.2.2.2.2.2.2.2.2.2.2.2.1], I t7.2.2.2.2.2.2.2.2.2.2.2.2]), .ret (.tup [.agg [I t8.1, I t8.2.1, I t8.2.2.1], I t8.2.2.2]), .ret (.tup [.lst false 3 t9.1, I t9.2]), .ret (I t10), .ret (I t11), .ret (I t12), .br false, .br true, .ret (.lst false 3 t15), .ret (I t16), .br true, .ret (.lst false 10 t18), .ret (I t19), .ret (I t20), .br true, .br true, .br true, .br true, .br true, .ret (B t26), .br true]) (r := B (t9.2 == t12)) (ob := [t26 = true, Computes cx 41 [.lst false 3 t9.1, .lst false 3 t15] (B t26), (t8.2.2.2 == t10) = true, ((t8.1 == 0) && ((t8.2.1 == 0) && ((t8.2.2.1 == 0) && true))) = true, (t7.2.2.2.2.2.2.2.2.2.2.2.2 == t10) = true, (((t7.1 == 0) && ((t7.2.1 == 0) && ((t7.2.2.1 == 0) && true))) && (((t7.2.2.2.1 == 0) && ((t7.2.2.2.2.1 == 0) && ((t7.2.2.2.2.2.1 == 0) && true))) && (((t7.2.2.2.2.2.2.1 == 0) && ((t7.2.2.2.2.2.2.2.1 == 0) && ((t7.2.2.2.2.2.2.2.2.1 == 0) && true))) && (((t7.2.2.2.2.2.2.2.2.2.1 == 0) && ((t7.2.2.2.2.2.2.2.2.2.2.1 == 0) && ((t7.2.2.2.2.2.2.2.2.2.2.2.1 == 0) && true))) && true)))) = true, (t19 == t20) = true, Computes cx 40 [.lst false 10 a10] (I t20), Computes cx 38 [.lst false 10 t18] (I t19), Computes cx 39 [.lst false 10 a10] (.lst false 10 t18), (t16 == t10) = true, Computes cx 37 [.agg [.v (.string a0), I a1, I a2, I a3, I a4, I a5, I a6, I a7, I a8, I a9]] (I t16), Computes cx 36 [.agg [.v (.string a0), I a1, I a2, I a3, I a4, I a5, I a6, I a7, I a8, I a9], I a11] (.lst false 3 t15), (t12 == 0) = true, (t10 == 0) = false, Computes cx 12 [.lst true 1 [I t10, I t11]] (I t12), Computes cx 20 [I a11] (I t11), Computes cx 13 [.agg [.v (.string a0), I a1, I a2, I a3, I a4, I a5, I a6, I a7, I a8, I a9]] (I t10), Computes cx 33 [.agg [.v (.string a0), I a1, I a2, I a3, I a4, I a5, I a6, I a7, I a8, I a9], I a11] (.tup [.lst false 3 t9.1, I t9.2]), Computes cx 32 [.agg [.v (.string a0), I a1, I a2, I a3, I a4, I a5, I a6, I a7, I a8, I a9]] (.tup [.agg [I t8.1, I t8.2.1, I t8.2.2.1], I t8.2.2.2]), Computes cx 31 [.agg [.v (.string a0), I a1, I a2, I a3, I a4, I a5, I a6, I a7, I a8, I a9]] (.tup [.agg [I t7.1, I t7.2.1, I t7.2.2.1, I t7.2.2.2.1, I t7.2.2.2.2.1, I t7.2.2.2.2.2.1, I t7.2.2.2.2.2.2.1, I t7.2.2.2.2.2.2.2.1, I t7.2.2.2.2.2.2.2.2.1, I t7.2.2.2.2.2.2.2.2.2.1, I t7.2.2.2.2.2.2.2.2.2.2.1, I t7.2.2.2.2.2.2.2.2.2.2.2.1], I t7.2.2.2.2.2.2.2.2.2.2.2.2]), (!t5) = false, Computes cx 30 [.lst false 10 a10] (B t5), (!t3) = false, Computes cx 9 [.agg [.v (.string a0), I a1, I a2, I a3, I a4, I a5, I a6, I a7, I a8, I a9]] (B t3), (!t1) = false, Computes cx 8 [] (B t1)]) (by kernel_rfl) ⟨h27, (c_ref04_SameVectors h26), (eqt h25), h24, (eqt h23), h22, (eqt h21), (c_ref04_CheckMirrors h20), (c_field_CheckMirrors h19), (c_law04_own h18), (eqt h17), (c_field_CheckMirror h16), (c_ref04_Facets h15), (eqt h14), (eqf h13), ((c_ref01_First h12).le (.cons (.full _ _ _) (.nil)) (.refl _)), (c_ref04_CheckFacets h11), (c_ref04_CheckMirror h10), (c_field_Facets h9), (c_field_Normal h8), (c_field_Corners h7), (notf h6), (c_ref04_Short h5), (notf h4), (c_ref04_ShortMirror h3), (notf h2), (c_law04_awake h1), trivial⟩
                        · replace h := ite_f h h27
                          cases h
                      · replace h := ite_f h h25
                        cases h
                    · replace h := ite_f h h24
                      cases h
                  · replace h := ite_f h h23
                    cases h
                · replace h := ite_f h h22
                  cases h
              · replace h := ite_f h h21
                cases h
            · replace h := ite_f h h17
              cases h
          · replace h := ite_f h h14
            obtain ⟨t15, h15, h⟩ := bnd_of h
            by_cases h16 : t15 = t10
            · replace h := ite_t h h16
              obtain ⟨t17, h17, h⟩ := bnd_of h
              obtain ⟨t18, h18, h⟩ := bnd_of h
              obtain ⟨t19, h19, h⟩ := bnd_of h
              by_cases h20 : t18 = t19
              · replace h := ite_t h h20
                by_cases h21 : (((t7.1 == 0) && ((t7.2.1 == 0) && ((t7.2.2.1 == 0) && true))) && (((t7.2.2.2.1 == 0) && ((t7.2.2.2.2.1 == 0) && ((t7.2.2.2.2.2.1 == 0) && true))) && (((t7.2.2.2.2.2.2.1 == 0) && ((t7.2.2.2.2.2.2.2.1 == 0) && ((t7.2.2.2.2.2.2.2.2.1 == 0) && true))) && (((t7.2.2.2.2.2.2.2.2.2.1 == 0) && ((t7.2.2.2.2.2.2.2.2.2.2.1 == 0) && ((t7.2.2.2.2.2.2.2.2.2.2.2.1 == 0) && true))) && true)))) = true
                · replace h := ite_t h h21
                  by_cases h22 : t7.2.2.2.2.2.2.2.2.2.2.2.2 = t10
                  · replace h := ite_t h h22
                    by_cases h23 : ((t8.1 == 0) && ((t8.2.1 == 0) && ((t8.2.2.1 == 0) && true))) = true
                    · replace h := ite_t h h23
                      by_cases h24 : t8.2.2.2 = t10
                      · replace h := ite_t h h24
                        obtain ⟨t25, h25, h⟩ := bnd_of h
                        by_cases h26 : t25 = true
                        · replace h := ite_t h h26
                          replace h := Option.some.inj h
                          subst h
                          exact run (n := 100) (f := 6) (args := [.agg [.v (.string a0), I a1, I a2, I a3, I a4, I a5, I a6, I a7, I a8, I a9], .lst false 10 a10, I a11]) (orc := [.ret (B t1), .br false, .ret (B t3), .br false, .ret (B t5), .br false, .ret (.tup [.agg [I t7.1, I t7.2.1, I t7.2.2.1, I t7.2.2.2.1, I t7.2.2.2.2.1, I t7.2.2.2.2.2.1, I t7.2.2.2.2.2.2.1, I t7.2.2.2.2.2.2.2.1, I t7.2.2.2.2.2.2.2.2.1, I t7.2.2.2.2.2.2.2.2.2.1, I t7.2.2.2.2.2.2.2.2.2.2.1, I t7.2.2.2.2.2.2.2.2.2.2.2.1], I t7.2.2.2.2.2.2.2.2.2.2.2.2]), .ret (.tup [.agg [I t8.1, I t8.2.1, I t8.2.2.1], I t8.2.2.2]), .ret (.tup [.lst false 3 t9.1, I t9.2]), .ret (I t10), .ret (I t11), .ret (I t12), .br false, .br false, .ret (I t15), .br true, .ret (.lst false 10 t17), .ret (I t18), .ret (I t19), .br true, .br true, .br true, .br true, .br true, .ret (B t25), .br true]) (r := B (t9.2 == t12)) (ob := [t25 = true, Computes cx 41 [.lst false 3 t9.1, .lst true 0 []] (B t25), (t8.2.2.2 == t10) = true, ((t8.1 == 0) && ((t8.2.1 == 0) && ((t8.2.2.1 == 0) && true))) = true, (t7.2.2.2.2.2.2.2.2.2.2.2.2 == t10) = true, (((t7.1 == 0) && ((t7.2.1 == 0) && ((t7.2.2.1 == 0) && true))) && (((t7.2.2.2.1 == 0) && ((t7.2.2.2.2.1 == 0) && ((t7.2.2.2.2.2.1 == 0) && true))) && (((t7.2.2.2.2.2.2.1 == 0) && ((t7.2.2.2.2.2.2.2.1 == 0) && ((t7.2.2.2.2.2.2.2.2.1 == 0) && true))) && (((t7.2.2.2.2.2.2.2.2.2.1 == 0) && ((t7.2.2.2.2.2.2.2.2.2.2.1 == 0) && ((t7.2.2.2.2.2.2.2.2.2.2.2.1 == 0) && true))) && true)))) = true, (t18 == t19) = true, Computes cx 40 [.lst false 10 a10] (I t19), Computes cx 38 [.lst false 10 t17] (I t18), Computes cx 39 [.lst false 10 a10] (.lst false 10 t17), (t15 == t10) = true, Computes cx 37 [.agg [.v (.string a0), I a1, I a2, I a3, I a4, I a5, I a6, I a7, I a8, I a9]] (I t15), (t12 == 0) = false, (t10 == 0) = false, Computes cx 12 [.lst true 1 [I t10, I t11]] (I t12), Computes cx 20 [I a11] (I t11), Computes cx 13 [.agg [.v (.string a0), I a1, I a2, I a3, I a4, I a5, I a6, I a7, I a8, I a9]] (I t10), Computes cx 33 [.agg [.v (.string a0), I a1, I a2, I a3, I a4, I a5, I a6, I a7, I a8, I a9], I a11] (.tup [.lst false 3 t9.1, I t9.2]), Computes cx 32 [.agg [.v (.string a0), I a1, I a2, I a3, I a4, I a5, I a6, I a7, I a8, I a9]] (.tup [.agg [I t8.1, I t8.2.1, I t8.2.2.1], I t8.2.2.2]), Computes cx 31 [.agg [.v (.string a0), I a1, I a2, I a3, I a4, I a5, I a6, I a7, I a8, I a9]] (.tup [.agg [I t7.1, I t7.2.1, I t7.2.2.1, I t7.2.2.2.1, I t7.2.2.2.2.1, I t7.2.2.2.2.2.1, I t7.2.2.2.2.2.2.1, I t7.2.2.2.2.2.2.2.1, I t7.2.2.2.2.2.2.2.2.1, I t7.2.2.2.2.2.2.2.2.2.1, I t7.2.2.2.2.2.2.2.2.2.2.1, I t7.2.2.2.2.2.2.2.2.2.2.2.1], I t7.2.2.2.2.2.2.2.2.2.2.2.2]), (!t5) = false, Computes cx 30 [.lst false 10 a10] (B t5), (!t3) = false, Computes cx 9 [.agg [.v (.string a0), I a1, I a2, I a3, I a4, I a5, I a6, I a7, I a8, I a9]] (B t3), (!t1) = false, Computes cx 8 [] (B t1)]) (by kernel_rfl) ⟨h26, ((c_ref04_SameVectors h25).le (.cons (.refl _) (.cons (.lst _ _ _ _ _ nofun (.inl rfl)) (.nil))) (.refl _)), (eqt h24), h23, (eqt h22), h21, (eqt h20), (c_ref04_CheckMirrors h19), (c_field_CheckMirrors h18), (c_law04_own h17), (eqt h16), (c_field_CheckMirror h15), (eqf h14), (eqf h13), ((c_ref01_First h12).le (.cons (.full _ _ _) (.nil)) (.refl _)), (c_ref04_CheckFacets h11), (c_ref04_CheckMirror h10), (c_field_Facets h9), (c_field_Normal h8), (c_field_Corners h7), (notf h6), (c_ref04_Short h5), (notf h4), (c_ref04_ShortMirror h3), (notf h2), (c_law04_awake h1), trivial⟩
                        · replace h := ite_f h h26
                          cases h
                      · replace h := ite_f h h24
                        cases h
                    · replace h := ite_f h h23
                      cases h
                  · replace h := ite_f h h22
                    cases h
                · replace h := ite_f h h21
                  cases h
              · replace h := ite_f h h20
                cases h
            · replace h := ite_f h h16
              cases h
      · replace h := ite_f h h6
        replace h := Option.some.inj h
        subst h
        exact run (n := 100) (f := 6) (args := [.agg [.v (.string a0), I a1, I a2, I a3, I a4, I a5, I a6, I a7, I a8, I a9], .lst false 10 a10, I a11]) (orc := [.ret (B t1), .br false, .ret (B t3), .br false, .ret (B t5), .br true, .ret (B t1)]) (r := B t1) (ob := [Computes cx 8 [] (B t1), (!t5) = true, Computes cx 30 [.lst false 10 a10] (B t5), (!t3) = false, Computes cx 9 [.agg [.v (.string a0), I a1, I a2, I a3, I a4, I a5, I a6, I a7, I a8, I a9]] (B t3), (!t1) = false, Computes cx 8 [] (B t1)]) (by kernel_rfl) ⟨(c_law04_awake h1), (nott (bfalse h6)), (c_ref04_Short h5), (notf h4), (c_ref04_ShortMirror h3), (notf h2), (c_law04_awake h1), trivial⟩
    · replace h := ite_f h h4
      replace h := Option.some.inj h
      subst h
      exact run (n := 100) (f := 6) (args := [.agg [.v (.string a0), I a1, I a2, I a3, I a4, I a5, I a6, I a7, I a8, I a9], .lst false 10 a10, I a11]) (orc := [.ret (B t1), .br false, .ret (B t3), .br true, .no, .ret (B t1)]) (r := B t1) (ob := [Computes cx 8 [] (B t1), (!t3) = true, Computes cx 9 [.agg [.v (.string a0), I a1, I a2, I a3, I a4, I a5, I a6, I a7, I a8, I a9]] (B t3), (!t1) = false, Computes cx 8 [] (B t1)]) (by kernel_rfl) ⟨(c_law04_awake h1), (nott (bfalse h4)), (c_ref04_ShortMirror h3), (notf h2), (c_law04_awake h1), trivial⟩
  · replace h := ite_f h h2
    replace h := Option.some.inj h
    subst h
    exact run (n := 100) (f := 6) (args := [.agg [.v (.string a0), I a1, I a2, I a3, I a4, I a5, I a6, I a7, I a8, I a9], .lst false 10 a10, I a11]) (orc := [.ret (B t1), .br true, .no, .no, .ret (B t1)]) (r := B t1) (ob := [Computes cx 8 [] (B t1), (!t1) = true, Computes cx 8 [] (B t1)]) (by kernel_rfl) ⟨(c_law04_awake h1), (nott (bfalse h2)), (c_law04_awake h1), trivial⟩
end Go.Proofs.YtbjibgaknkaifaaGreatDoor
