/-
  Printed by gsx.py: functions of the program as Lean functions, and that the code computes them.
-/
import Derived.Test.YtojmcpnpojdnmaaGreatDoorWake
set_option linter.unusedVariables false
set_option linter.unusedSimpArgs false
set_option linter.unnecessarySimpa false
set_option maxRecDepth 10000
namespace Go.Proofs.YtojmcpnpojdnmaaGreatDoor
open Go.SX
/- spillage/field.Cosine: .agg [.v (.string a0), I a1, I a2, I a3, I a4, I a5, I a6, I a7, I a8, I a9], .agg [I a10, I a11, I a12] -/
def F_field_Cosine (n : Nat) (a0 : ByteArray) (a1 : Int) (a2 : Int) (a3 : Int) (a4 : Int) (a5 : Int) (a6 : Int) (a7 : Int) (a8 : Int) (a9 : Int) (a10 : Int) (a11 : Int) (a12 : Int) : Option (Int × Int × Int × Int) :=
  (F_field_Mirror_check n a0 a1 a2 a3 a4 a5 a6 a7 a8 a9).bind fun t1 =>
  (F_field_checkDirection n a10 a11 a12 1024).bind fun t2 =>
  (F_field_first n ([I t1, I t2])).bind fun t3 =>
  if t3 = 0 then
    (F_field_Mirror_normal n a0 a1 a2 a3 a4 a5 a6 a7 a8 a9).bind fun t5 =>
    (F_field_dot n t5.1 t5.2.1 t5.2.2 a10 a11 a12).bind fun t6 =>
    (F_cmp_Compare_g n t6 0).bind fun t7 =>
    if inI64 (t6 * t6) then
    (F_field_dot n t5.1 t5.2.1 t5.2.2 t5.1 t5.2.1 t5.2.2).bind fun t9 =>
    (F_field_dot n a10 a11 a12 a10 a11 a12).bind fun t10 =>
    if inI64 (t9 * t10) then
    (F_field_lowest n (t6 * t6) (t9 * t10)).bind fun t12 =>
    some (t7, t12.1, t12.2, 0)
    else none
    else none
  else
  some (0, 0, 0, t3)
theorem c_field_Cosine {n : Nat} {a0 : ByteArray} {a1 : Int} {a2 : Int} {a3 : Int} {a4 : Int} {a5 : Int} {a6 : Int} {a7 : Int} {a8 : Int} {a9 : Int} {a10 : Int} {a11 : Int} {a12 : Int} {r : Int × Int × Int × Int} (h : F_field_Cosine n a0 a1 a2 a3 a4 a5 a6 a7 a8 a9 a10 a11 a12 = some r) : Computes cx 11 [.agg [.v (.string a0), I a1, I a2, I a3, I a4, I a5, I a6, I a7, I a8, I a9], .agg [I a10, I a11, I a12]] (.tup [I r.1, .agg [I r.2.1, I r.2.2.1], I r.2.2.2]) := by
  unfold F_field_Cosine at h
  obtain ⟨t1, h1, h⟩ := bnd_of h
  obtain ⟨t2, h2, h⟩ := bnd_of h
  obtain ⟨t3, h3, h⟩ := bnd_of h
  by_cases h4 : t3 = 0
  · replace h := ite_t h h4
    obtain ⟨t5, h5, h⟩ := bnd_of h
    obtain ⟨t6, h6, h⟩ := bnd_of h
    obtain ⟨t7, h7, h⟩ := bnd_of h
    obtain ⟨h8, h⟩ := grd_of h
    obtain ⟨t9, h9, h⟩ := bnd_of h
    obtain ⟨t10, h10, h⟩ := bnd_of h
    obtain ⟨h11, h⟩ := grd_of h
    obtain ⟨t12, h12, h⟩ := bnd_of h
    replace h := Option.some.inj h
    subst h
    exact run (n := 100) (f := 11) (args := [.agg [.v (.string a0), I a1, I a2, I a3, I a4, I a5, I a6, I a7, I a8, I a9], .agg [I a10, I a11, I a12]]) (orc := [.ret (I t1), .ret (I t2), .ret (I t3), .br false, .ret (.agg [I t5.1, I t5.2.1, I t5.2.2]), .ret (I t6), .ret (I t7), .ret (.agg [I t5.1, I t5.2.1, I t5.2.2]), .ret (.agg [I t5.1, I t5.2.1, I t5.2.2]), .ret (I t9), .ret (I t10), .ret (.agg [I t12.1, I t12.2])]) (r := .tup [I t7, .agg [I t12.1, I t12.2], I 0]) (ob := [Computes cx 65 [I (t6 * t6), I (t9 * t10)] (.agg [I t12.1, I t12.2]), inI64 (t9 * t10), Computes cx 62 [.agg [I a10, I a11, I a12], .agg [I a10, I a11, I a12]] (I t10), Computes cx 62 [.agg [I t5.1, I t5.2.1, I t5.2.2], .agg [I t5.1, I t5.2.1, I t5.2.2]] (I t9), Computes cx 63 [.agg [.v (.string a0), I a1, I a2, I a3, I a4, I a5, I a6, I a7, I a8, I a9]] (.agg [I t5.1, I t5.2.1, I t5.2.2]), Computes cx 63 [.agg [.v (.string a0), I a1, I a2, I a3, I a4, I a5, I a6, I a7, I a8, I a9]] (.agg [I t5.1, I t5.2.1, I t5.2.2]), inI64 (t6 * t6), Computes cx 64 [I t6, I 0] (I t7), Computes cx 62 [.agg [I t5.1, I t5.2.1, I t5.2.2], .agg [I a10, I a11, I a12]] (I t6), Computes cx 63 [.agg [.v (.string a0), I a1, I a2, I a3, I a4, I a5, I a6, I a7, I a8, I a9]] (.agg [I t5.1, I t5.2.1, I t5.2.2]), (t3 != 0) = false, Computes cx 59 [.lst true 1 [I t1, I t2]] (I t3), Computes cx 61 [.agg [I a10, I a11, I a12], I 1024] (I t2), Computes cx 60 [.agg [.v (.string a0), I a1, I a2, I a3, I a4, I a5, I a6, I a7, I a8, I a9]] (I t1)]) (by kernel_rfl) ⟨(c_field_lowest h12), h11, (c_field_dot h10), (c_field_dot h9), (c_field_Mirror_normal h5), (c_field_Mirror_normal h5), h8, (c_cmp_Compare_g h7), (c_field_dot h6), (c_field_Mirror_normal h5), (nef h4), ((c_field_first h3).le (.cons (.full _ _ _) (.nil)) (.refl _)), (c_field_checkDirection h2), (c_field_Mirror_check h1), trivial⟩
  · replace h := ite_f h h4
    replace h := Option.some.inj h
    subst h
    exact run (n := 100) (f := 11) (args := [.agg [.v (.string a0), I a1, I a2, I a3, I a4, I a5, I a6, I a7, I a8, I a9], .agg [I a10, I a11, I a12]]) (orc := [.ret (I t1), .ret (I t2), .ret (I t3), .br true]) (r := .tup [I 0, .agg [I 0, I 0], I t3]) (ob := [(t3 != 0) = true, Computes cx 59 [.lst true 1 [I t1, I t2]] (I t3), Computes cx 61 [.agg [I a10, I a11, I a12], I 1024] (I t2), Computes cx 60 [.agg [.v (.string a0), I a1, I a2, I a3, I a4, I a5, I a6, I a7, I a8, I a9]] (I t1)]) (by kernel_rfl) ⟨(net h4), ((c_field_first h3).le (.cons (.full _ _ _) (.nil)) (.refl _)), (c_field_checkDirection h2), (c_field_Mirror_check h1), trivial⟩
/- spillage/field.Shadow: .agg [.v (.string a0), I a1, I a2, I a3, I a4, I a5, I a6, I a7, I a8, I a9], .agg [I a10, I a11, I a12] -/
def F_field_Shadow (n : Nat) (a0 : ByteArray) (a1 : Int) (a2 : Int) (a3 : Int) (a4 : Int) (a5 : Int) (a6 : Int) (a7 : Int) (a8 : Int) (a9 : Int) (a10 : Int) (a11 : Int) (a12 : Int) : Option (List D × Int) :=
  (F_field_Mirror_check n a0 a1 a2 a3 a4 a5 a6 a7 a8 a9).bind fun t1 =>
  (F_field_checkDirection n a10 a11 a12 1024).bind fun t2 =>
  (F_field_when n (decide (a12 < 1)) 21).bind fun t3 =>
  (F_field_first n ([I t1, I t2, I t3])).bind fun t4 =>
  if t4 = 0 then
    (F_field_times n (-1) a4 a5 a6).bind fun t6 =>
    (F_field_times n (-1) a7 a8 a9).bind fun t7 =>
    (F_field_plus n t6.1 t6.2.1 t6.2.2 t7.1 t7.2.1 t7.2.2).bind fun t8 =>
    (F_field_plus n a1 a2 a3 t8.1 t8.2.1 t8.2.2).bind fun t9 =>
    (F_field_times n 1 a4 a5 a6).bind fun t10 =>
    (F_field_plus n t10.1 t10.2.1 t10.2.2 t7.1 t7.2.1 t7.2.2).bind fun t11 =>
    (F_field_plus n a1 a2 a3 t11.1 t11.2.1 t11.2.2).bind fun t12 =>
    (F_field_times n 1 a7 a8 a9).bind fun t13 =>
    (F_field_plus n t10.1 t10.2.1 t10.2.2 t13.1 t13.2.1 t13.2.2).bind fun t14 =>
    (F_field_plus n a1 a2 a3 t14.1 t14.2.1 t14.2.2).bind fun t15 =>
    (F_field_plus n t6.1 t6.2.1 t6.2.2 t13.1 t13.2.1 t13.2.2).bind fun t16 =>
    (F_field_plus n a1 a2 a3 t16.1 t16.2.1 t16.2.2).bind fun t17 =>
    if (((t9.1 == 0) && ((t9.2.1 == 0) && ((t9.2.2 == 0) && true))) && (((t12.1 == 0) && ((t12.2.1 == 0) && ((t12.2.2 == 0) && true))) && (((t15.1 == 0) && ((t15.2.1 == 0) && ((t15.2.2 == 0) && true))) && (((t17.1 == 0) && ((t17.2.1 == 0) && ((t17.2.2 == 0) && true))) && true)))) = true then
      some ([], 17)
    else
    if inI64 (t9.1 * a12) then
    if inI64 (t9.2.2 * a10) then
    if inI64 ((t9.1 * a12) - (t9.2.2 * a10)) then
    if inI64 (t9.2.1 * a12) then
    if inI64 (t9.2.2 * a11) then
    if inI64 ((t9.2.1 * a12) - (t9.2.2 * a11)) then
    if inI64 (t12.1 * a12) then
    if inI64 (t12.2.2 * a10) then
    if inI64 ((t12.1 * a12) - (t12.2.2 * a10)) then
    if inI64 (t12.2.1 * a12) then
    if inI64 (t12.2.2 * a11) then
    if inI64 ((t12.2.1 * a12) - (t12.2.2 * a11)) then
    if inI64 (t15.1 * a12) then
    if inI64 (t15.2.2 * a10) then
    if inI64 ((t15.1 * a12) - (t15.2.2 * a10)) then
    if inI64 (t15.2.1 * a12) then
    if inI64 (t15.2.2 * a11) then
    if inI64 ((t15.2.1 * a12) - (t15.2.2 * a11)) then
    if inI64 (t17.1 * a12) then
    if inI64 (t17.2.2 * a10) then
    if inI64 ((t17.1 * a12) - (t17.2.2 * a10)) then
    if inI64 (t17.2.1 * a12) then
    if inI64 (t17.2.2 * a11) then
    if inI64 ((t17.2.1 * a12) - (t17.2.2 * a11)) then
    (F_field_left n ((t9.1 * a12) - (t9.2.2 * a10)) ((t9.2.1 * a12) - (t9.2.2 * a11)) ((t12.1 * a12) - (t12.2.2 * a10)) ((t12.2.1 * a12) - (t12.2.2 * a11)) ((t15.1 * a12) - (t15.2.2 * a10)) ((t15.2.1 * a12) - (t15.2.2 * a11))).bind fun t43 =>
    if t43 = 0 then
      some ([], 17)
    else
    if t43 < 0 then
      some ([.agg [I ((t9.1 * a12) - (t9.2.2 * a10)), I ((t9.2.1 * a12) - (t9.2.2 * a11))], .agg [I ((t17.1 * a12) - (t17.2.2 * a10)), I ((t17.2.1 * a12) - (t17.2.2 * a11))], .agg [I ((t15.1 * a12) - (t15.2.2 * a10)), I ((t15.2.1 * a12) - (t15.2.2 * a11))], .agg [I ((t12.1 * a12) - (t12.2.2 * a10)), I ((t12.2.1 * a12) - (t12.2.2 * a11))]], 0)
    else
    some ([.agg [I ((t9.1 * a12) - (t9.2.2 * a10)), I ((t9.2.1 * a12) - (t9.2.2 * a11))], .agg [I ((t12.1 * a12) - (t12.2.2 * a10)), I ((t12.2.1 * a12) - (t12.2.2 * a11))], .agg [I ((t15.1 * a12) - (t15.2.2 * a10)), I ((t15.2.1 * a12) - (t15.2.2 * a11))], .agg [I ((t17.1 * a12) - (t17.2.2 * a10)), I ((t17.2.1 * a12) - (t17.2.2 * a11))]], 0)
    else none
    else none
    else none
    else none
    else none
    else none
    else none
    else none
    else none
    else none
    else none
    else none
    else none
    else none
    else none
    else none
    else none
    else none
    else none
    else none
    else none
    else none
    else none
    else none
  else
  some ([], t4)
theorem c_field_Shadow {n : Nat} {a0 : ByteArray} {a1 : Int} {a2 : Int} {a3 : Int} {a4 : Int} {a5 : Int} {a6 : Int} {a7 : Int} {a8 : Int} {a9 : Int} {a10 : Int} {a11 : Int} {a12 : Int} {r : List D × Int} (h : F_field_Shadow n a0 a1 a2 a3 a4 a5 a6 a7 a8 a9 a10 a11 a12 = some r) : Computes cx 12 [.agg [.v (.string a0), I a1, I a2, I a3, I a4, I a5, I a6, I a7, I a8, I a9], .agg [I a10, I a11, I a12]] (.tup [.lst false 2 r.1, I r.2]) := by
  unfold F_field_Shadow at h
  obtain ⟨t1, h1, h⟩ := bnd_of h
  obtain ⟨t2, h2, h⟩ := bnd_of h
  obtain ⟨t3, h3, h⟩ := bnd_of h
  obtain ⟨t4, h4, h⟩ := bnd_of h
  by_cases h5 : t4 = 0
  · replace h := ite_t h h5
    obtain ⟨t6, h6, h⟩ := bnd_of h
    obtain ⟨t7, h7, h⟩ := bnd_of h
    obtain ⟨t8, h8, h⟩ := bnd_of h
    obtain ⟨t9, h9, h⟩ := bnd_of h
    obtain ⟨t10, h10, h⟩ := bnd_of h
    obtain ⟨t11, h11, h⟩ := bnd_of h
    obtain ⟨t12, h12, h⟩ := bnd_of h
    obtain ⟨t13, h13, h⟩ := bnd_of h
    obtain ⟨t14, h14, h⟩ := bnd_of h
    obtain ⟨t15, h15, h⟩ := bnd_of h
    obtain ⟨t16, h16, h⟩ := bnd_of h
    obtain ⟨t17, h17, h⟩ := bnd_of h
    by_cases h18 : (((t9.1 == 0) && ((t9.2.1 == 0) && ((t9.2.2 == 0) && true))) && (((t12.1 == 0) && ((t12.2.1 == 0) && ((t12.2.2 == 0) && true))) && (((t15.1 == 0) && ((t15.2.1 == 0) && ((t15.2.2 == 0) && true))) && (((t17.1 == 0) && ((t17.2.1 == 0) && ((t17.2.2 == 0) && true))) && true)))) = true
    · replace h := ite_t h h18
      replace h := Option.some.inj h
      subst h
      exact (run (n := 100) (f := 12) (args := [.agg [.v (.string a0), I a1, I a2, I a3, I a4, I a5, I a6, I a7, I a8, I a9], .agg [I a10, I a11, I a12]]) (orc := [.ret (I t1), .ret (I t2), .ret (I t3), .ret (I t4), .br false, .br true, .no, .no, .ret (.agg [I t6.1, I t6.2.1, I t6.2.2]), .ret (.agg [I t7.1, I t7.2.1, I t7.2.2]), .ret (.agg [I t8.1, I t8.2.1, I t8.2.2]), .ret (.agg [I t9.1, I t9.2.1, I t9.2.2]), .no, .no, .ret (.agg [I t10.1, I t10.2.1, I t10.2.2]), .ret (.agg [I t7.1, I t7.2.1, I t7.2.2]), .ret (.agg [I t11.1, I t11.2.1, I t11.2.2]), .ret (.agg [I t12.1, I t12.2.1, I t12.2.2]), .no, .no, .ret (.agg [I t10.1, I t10.2.1, I t10.2.2]), .ret (.agg [I t13.1, I t13.2.1, I t13.2.2]), .ret (.agg [I t14.1, I t14.2.1, I t14.2.2]), .ret (.agg [I t15.1, I t15.2.1, I t15.2.2]), .no, .no, .ret (.agg [I t6.1, I t6.2.1, I t6.2.2]), .ret (.agg [I t13.1, I t13.2.1, I t13.2.2]), .ret (.agg [I t16.1, I t16.2.1, I t16.2.2]), .ret (.agg [I t17.1, I t17.2.1, I t17.2.2]), .no, .no, .br true]) (r := .tup [.lst true 0 [], I 17]) (ob := [(((t9.1 == 0) && ((t9.2.1 == 0) && ((t9.2.2 == 0) && true))) && (((t12.1 == 0) && ((t12.2.1 == 0) && ((t12.2.2 == 0) && true))) && (((t15.1 == 0) && ((t15.2.1 == 0) && ((t15.2.2 == 0) && true))) && (((t17.1 == 0) && ((t17.2.1 == 0) && ((t17.2.2 == 0) && true))) && true)))) = true, inI64 4, Computes cx 89 [.agg [I a1, I a2, I a3], .agg [I t16.1, I t16.2.1, I t16.2.2]] (.agg [I t17.1, I t17.2.1, I t17.2.2]), Computes cx 89 [.agg [I t6.1, I t6.2.1, I t6.2.2], .agg [I t13.1, I t13.2.1, I t13.2.2]] (.agg [I t16.1, I t16.2.1, I t16.2.2]), Computes cx 90 [I 1, .agg [I a7, I a8, I a9]] (.agg [I t13.1, I t13.2.1, I t13.2.2]), Computes cx 90 [I (-1), .agg [I a4, I a5, I a6]] (.agg [I t6.1, I t6.2.1, I t6.2.2]), inI64 3, Computes cx 89 [.agg [I a1, I a2, I a3], .agg [I t14.1, I t14.2.1, I t14.2.2]] (.agg [I t15.1, I t15.2.1, I t15.2.2]), Computes cx 89 [.agg [I t10.1, I t10.2.1, I t10.2.2], .agg [I t13.1, I t13.2.1, I t13.2.2]] (.agg [I t14.1, I t14.2.1, I t14.2.2]), Computes cx 90 [I 1, .agg [I a7, I a8, I a9]] (.agg [I t13.1, I t13.2.1, I t13.2.2]), Computes cx 90 [I 1, .agg [I a4, I a5, I a6]] (.agg [I t10.1, I t10.2.1, I t10.2.2]), inI64 2, Computes cx 89 [.agg [I a1, I a2, I a3], .agg [I t11.1, I t11.2.1, I t11.2.2]] (.agg [I t12.1, I t12.2.1, I t12.2.2]), Computes cx 89 [.agg [I t10.1, I t10.2.1, I t10.2.2], .agg [I t7.1, I t7.2.1, I t7.2.2]] (.agg [I t11.1, I t11.2.1, I t11.2.2]), Computes cx 90 [I (-1), .agg [I a7, I a8, I a9]] (.agg [I t7.1, I t7.2.1, I t7.2.2]), Computes cx 90 [I 1, .agg [I a4, I a5, I a6]] (.agg [I t10.1, I t10.2.1, I t10.2.2]), inI64 1, Computes cx 89 [.agg [I a1, I a2, I a3], .agg [I t8.1, I t8.2.1, I t8.2.2]] (.agg [I t9.1, I t9.2.1, I t9.2.2]), Computes cx 89 [.agg [I t6.1, I t6.2.1, I t6.2.2], .agg [I t7.1, I t7.2.1, I t7.2.2]] (.agg [I t8.1, I t8.2.1, I t8.2.2]), Computes cx 90 [I (-1), .agg [I a7, I a8, I a9]] (.agg [I t7.1, I t7.2.1, I t7.2.2]), Computes cx 90 [I (-1), .agg [I a4, I a5, I a6]] (.agg [I t6.1, I t6.2.1, I t6.2.2]), (t4 != 0) = false, Computes cx 59 [.lst true 1 [I t1, I t2, I t3]] (I t4), Computes cx 66 [B (decide (a12 < 1)), I 21] (I t3), Computes cx 61 [.agg [I a10, I a11, I a12], I 1024] (I t2), Computes cx 60 [.agg [.v (.string a0), I a1, I a2, I a3, I a4, I a5, I a6, I a7, I a8, I a9]] (I t1)]) (by kernel_rfl) ⟨h18, (by unfold inI64; omega), (c_field_plus h17), (c_field_plus h16), (c_field_times h13), (c_field_times h6), (by unfold inI64; omega), (c_field_plus h15), (c_field_plus h14), (c_field_times h13), (c_field_times h10), (by unfold inI64; omega), (c_field_plus h12), (c_field_plus h11), (c_field_times h7), (c_field_times h10), (by unfold inI64; omega), (c_field_plus h9), (c_field_plus h8), (c_field_times h7), (c_field_times h6), (nef h5), ((c_field_first h4).le (.cons (.full _ _ _) (.nil)) (.refl _)), (c_field_when h3), (c_field_checkDirection h2), (c_field_Mirror_check h1), trivial⟩).le (LEs.refl _) (.tups (.cons (.lst _ _ _ _ _ nofun (.inl rfl)) (.cons (.refl _) (.nil))))
    · replace h := ite_f h h18
      obtain ⟨h19, h⟩ := grd_of h
      obtain ⟨h20, h⟩ := grd_of h
      obtain ⟨h21, h⟩ := grd_of h
      obtain ⟨h22, h⟩ := grd_of h
      obtain ⟨h23, h⟩ := grd_of h
      obtain ⟨h24, h⟩ := grd_of h
      obtain ⟨h25, h⟩ := grd_of h
      obtain ⟨h26, h⟩ := grd_of h
      obtain ⟨h27, h⟩ := grd_of h
      obtain ⟨h28, h⟩ := grd_of h
      obtain ⟨h29, h⟩ := grd_of h
      obtain ⟨h30, h⟩ := grd_of h
      obtain ⟨h31, h⟩ := grd_of h
      obtain ⟨h32, h⟩ := grd_of h
      obtain ⟨h33, h⟩ := grd_of h
      obtain ⟨h34, h⟩ := grd_of h
      obtain ⟨h35, h⟩ := grd_of h
      obtain ⟨h36, h⟩ := grd_of h
      obtain ⟨h37, h⟩ := grd_of h
      obtain ⟨h38, h⟩ := grd_of h
      obtain ⟨h39, h⟩ := grd_of h
      obtain ⟨h40, h⟩ := grd_of h
      obtain ⟨h41, h⟩ := grd_of h
      obtain ⟨h42, h⟩ := grd_of h
      obtain ⟨t43, h43, h⟩ := bnd_of h
      by_cases h44 : t43 = 0
      · replace h := ite_t h h44
        replace h := Option.some.inj h
        subst h
        exact (run (n := 100) (f := 12) (args := [.agg [.v (.string a0), I a1, I a2, I a3, I a4, I a5, I a6, I a7, I a8, I a9], .agg [I a10, I a11, I a12]]) (orc := [.ret (I t1), .ret (I t2), .ret (I t3), .ret (I t4), .br false, .br true, .no, .no, .ret (.agg [I t6.1, I t6.2.1, I t6.2.2]), .ret (.agg [I t7.1, I t7.2.1, I t7.2.2]), .ret (.agg [I t8.1, I t8.2.1, I t8.2.2]), .ret (.agg [I t9.1, I t9.2.1, I t9.2.2]), .no, .no, .ret (.agg [I t10.1, I t10.2.1, I t10.2.2]), .ret (.agg [I t7.1, I t7.2.1, I t7.2.2]), .ret (.agg [I t11.1, I t11.2.1, I t11.2.2]), .ret (.agg [I t12.1, I t12.2.1, I t12.2.2]), .no, .no, .ret (.agg [I t10.1, I t10.2.1, I t10.2.2]), .ret (.agg [I t13.1, I t13.2.1, I t13.2.2]), .ret (.agg [I t14.1, I t14.2.1, I t14.2.2]), .ret (.agg [I t15.1, I t15.2.1, I t15.2.2]), .no, .no, .ret (.agg [I t6.1, I t6.2.1, I t6.2.2]), .ret (.agg [I t13.1, I t13.2.1, I t13.2.2]), .ret (.agg [I t16.1, I t16.2.1, I t16.2.2]), .ret (.agg [I t17.1, I t17.2.1, I t17.2.2]), .no, .no, .br false, .br true, .no, .no, .no, .br true, .no, .no, .no, .no, .no, .br true, .no, .no, .no, .no, .br true, .no, .no, .no, .no, .br true, .no, .no, .no, .no, .no, .no, .no, .no, .no, .ret (I t43), .br true]) (r := .tup [.lst true 0 [], I 17]) (ob := [(t43 == 0) = true, Computes cx 70 [.agg [I ((t9.1 * a12) - (t9.2.2 * a10)), I ((t9.2.1 * a12) - (t9.2.2 * a11))], .agg [I ((t12.1 * a12) - (t12.2.2 * a10)), I ((t12.2.1 * a12) - (t12.2.2 * a11))], .agg [I ((t15.1 * a12) - (t15.2.2 * a10)), I ((t15.2.1 * a12) - (t15.2.2 * a11))]] (I t43), inI64 4, inI64 ((t17.2.1 * a12) - (t17.2.2 * a11)), inI64 (t17.2.2 * a11), inI64 (t17.2.1 * a12), inI64 ((t17.1 * a12) - (t17.2.2 * a10)), inI64 (t17.2.2 * a10), inI64 (t17.1 * a12), inI64 3, inI64 ((t15.2.1 * a12) - (t15.2.2 * a11)), inI64 (t15.2.2 * a11), inI64 (t15.2.1 * a12), inI64 ((t15.1 * a12) - (t15.2.2 * a10)), inI64 (t15.2.2 * a10), inI64 (t15.1 * a12), inI64 2, inI64 ((t12.2.1 * a12) - (t12.2.2 * a11)), inI64 (t12.2.2 * a11), inI64 (t12.2.1 * a12), inI64 ((t12.1 * a12) - (t12.2.2 * a10)), inI64 (t12.2.2 * a10), inI64 (t12.1 * a12), inI64 1, inI64 ((t9.2.1 * a12) - (t9.2.2 * a11)), inI64 (t9.2.2 * a11), inI64 (t9.2.1 * a12), inI64 ((t9.1 * a12) - (t9.2.2 * a10)), inI64 (t9.2.2 * a10), inI64 (t9.1 * a12), (((t9.1 == 0) && ((t9.2.1 == 0) && ((t9.2.2 == 0) && true))) && (((t12.1 == 0) && ((t12.2.1 == 0) && ((t12.2.2 == 0) && true))) && (((t15.1 == 0) && ((t15.2.1 == 0) && ((t15.2.2 == 0) && true))) && (((t17.1 == 0) && ((t17.2.1 == 0) && ((t17.2.2 == 0) && true))) && true)))) = false, inI64 4, Computes cx 89 [.agg [I a1, I a2, I a3], .agg [I t16.1, I t16.2.1, I t16.2.2]] (.agg [I t17.1, I t17.2.1, I t17.2.2]), Computes cx 89 [.agg [I t6.1, I t6.2.1, I t6.2.2], .agg [I t13.1, I t13.2.1, I t13.2.2]] (.agg [I t16.1, I t16.2.1, I t16.2.2]), Computes cx 90 [I 1, .agg [I a7, I a8, I a9]] (.agg [I t13.1, I t13.2.1, I t13.2.2]), Computes cx 90 [I (-1), .agg [I a4, I a5, I a6]] (.agg [I t6.1, I t6.2.1, I t6.2.2]), inI64 3, Computes cx 89 [.agg [I a1, I a2, I a3], .agg [I t14.1, I t14.2.1, I t14.2.2]] (.agg [I t15.1, I t15.2.1, I t15.2.2]), Computes cx 89 [.agg [I t10.1, I t10.2.1, I t10.2.2], .agg [I t13.1, I t13.2.1, I t13.2.2]] (.agg [I t14.1, I t14.2.1, I t14.2.2]), Computes cx 90 [I 1, .agg [I a7, I a8, I a9]] (.agg [I t13.1, I t13.2.1, I t13.2.2]), Computes cx 90 [I 1, .agg [I a4, I a5, I a6]] (.agg [I t10.1, I t10.2.1, I t10.2.2]), inI64 2, Computes cx 89 [.agg [I a1, I a2, I a3], .agg [I t11.1, I t11.2.1, I t11.2.2]] (.agg [I t12.1, I t12.2.1, I t12.2.2]), Computes cx 89 [.agg [I t10.1, I t10.2.1, I t10.2.2], .agg [I t7.1, I t7.2.1, I t7.2.2]] (.agg [I t11.1, I t11.2.1, I t11.2.2]), Computes cx 90 [I (-1), .agg [I a7, I a8, I a9]] (.agg [I t7.1, I t7.2.1, I t7.2.2]), Computes cx 90 [I 1, .agg [I a4, I a5, I a6]] (.agg [I t10.1, I t10.2.1, I t10.2.2]), inI64 1, Computes cx 89 [.agg [I a1, I a2, I a3], .agg [I t8.1, I t8.2.1, I t8.2.2]] (.agg [I t9.1, I t9.2.1, I t9.2.2]), Computes cx 89 [.agg [I t6.1, I t6.2.1, I t6.2.2], .agg [I t7.1, I t7.2.1, I t7.2.2]] (.agg [I t8.1, I t8.2.1, I t8.2.2]), Computes cx 90 [I (-1), .agg [I a7, I a8, I a9]] (.agg [I t7.1, I t7.2.1, I t7.2.2]), Computes cx 90 [I (-1), .agg [I a4, I a5, I a6]] (.agg [I t6.1, I t6.2.1, I t6.2.2]), (t4 != 0) = false, Computes cx 59 [.lst true 1 [I t1, I t2, I t3]] (I t4), Computes cx 66 [B (decide (a12 < 1)), I 21] (I t3), Computes cx 61 [.agg [I a10, I a11, I a12], I 1024] (I t2), Computes cx 60 [.agg [.v (.string a0), I a1, I a2, I a3, I a4, I a5, I a6, I a7, I a8, I a9]] (I t1)]) (by kernel_rfl) ⟨(eqt h44), (c_field_left h43), (by unfold inI64; omega), h42, h41, h40, h39, h38, h37, (by unfold inI64; omega), h36, h35, h34, h33, h32, h31, (by unfold inI64; omega), h30, h29, h28, h27, h26, h25, (by unfold inI64; omega), h24, h23, h22, h21, h20, h19, (bfalse h18), (by unfold inI64; omega), (c_field_plus h17), (c_field_plus h16), (c_field_times h13), (c_field_times h6), (by unfold inI64; omega), (c_field_plus h15), (c_field_plus h14), (c_field_times h13), (c_field_times h10), (by unfold inI64; omega), (c_field_plus h12), (c_field_plus h11), (c_field_times h7), (c_field_times h10), (by unfold inI64; omega), (c_field_plus h9), (c_field_plus h8), (c_field_times h7), (c_field_times h6), (nef h5), ((c_field_first h4).le (.cons (.full _ _ _) (.nil)) (.refl _)), (c_field_when h3), (c_field_checkDirection h2), (c_field_Mirror_check h1), trivial⟩).le (LEs.refl _) (.tups (.cons (.lst _ _ _ _ _ nofun (.inl rfl)) (.cons (.refl _) (.nil))))
      · replace h := ite_f h h44
        by_cases h45 : t43 < 0
        · replace h := ite_t h h45
          replace h := Option.some.inj h
          subst h
          exact run (n := 100) (f := 12) (args := [.agg [.v (.string a0), I a1, I a2, I a3, I a4, I a5, I a6, I a7, I a8, I a9], .agg [I a10, I a11, I a12]]) (orc := [.ret (I t1), .ret (I t2), .ret (I t3), .ret (I t4), .br false, .br true, .no, .no, .ret (.agg [I t6.1, I t6.2.1, I t6.2.2]), .ret (.agg [I t7.1, I t7.2.1, I t7.2.2]), .ret (.agg [I t8.1, I t8.2.1, I t8.2.2]), .ret (.agg [I t9.1, I t9.2.1, I t9.2.2]), .no, .no, .ret (.agg [I t10.1, I t10.2.1, I t10.2.2]), .ret (.agg [I t7.1, I t7.2.1, I t7.2.2]), .ret (.agg [I t11.1, I t11.2.1, I t11.2.2]), .ret (.agg [I t12.1, I t12.2.1, I t12.2.2]), .no, .no, .ret (.agg [I t10.1, I t10.2.1, I t10.2.2]), .ret (.agg [I t13.1, I t13.2.1, I t13.2.2]), .ret (.agg [I t14.1, I t14.2.1, I t14.2.2]), .ret (.agg [I t15.1, I t15.2.1, I t15.2.2]), .no, .no, .ret (.agg [I t6.1, I t6.2.1, I t6.2.2]), .ret (.agg [I t13.1, I t13.2.1, I t13.2.2]), .ret (.agg [I t16.1, I t16.2.1, I t16.2.2]), .ret (.agg [I t17.1, I t17.2.1, I t17.2.2]), .no, .no, .br false, .br true, .no, .no, .no, .br true, .no, .no, .no, .no, .no, .br true, .no, .no, .no, .no, .br true, .no, .no, .no, .no, .br true, .no, .no, .no, .no, .no, .no, .no, .no, .no, .ret (I t43), .br false, .br true, .ix 0, .br true, .no, .no, .no, .no, .no, .no, .no, .no]) (r := .tup [.lst false 2 [.agg [I ((t9.1 * a12) - (t9.2.2 * a10)), I ((t9.2.1 * a12) - (t9.2.2 * a11))], .agg [I ((t17.1 * a12) - (t17.2.2 * a10)), I ((t17.2.1 * a12) - (t17.2.2 * a11))], .agg [I ((t15.1 * a12) - (t15.2.2 * a10)), I ((t15.2.1 * a12) - (t15.2.2 * a11))], .agg [I ((t12.1 * a12) - (t12.2.2 * a10)), I ((t12.2.1 * a12) - (t12.2.2 * a11))]], I 0]) (ob := [inI64 1, inI64 1, inI64 2, (decide (t43 < 0)) = true, (t43 == 0) = false, Computes cx 70 [.agg [I ((t9.1 * a12) - (t9.2.2 * a10)), I ((t9.2.1 * a12) - (t9.2.2 * a11))], .agg [I ((t12.1 * a12) - (t12.2.2 * a10)), I ((t12.2.1 * a12) - (t12.2.2 * a11))], .agg [I ((t15.1 * a12) - (t15.2.2 * a10)), I ((t15.2.1 * a12) - (t15.2.2 * a11))]] (I t43), inI64 4, inI64 ((t17.2.1 * a12) - (t17.2.2 * a11)), inI64 (t17.2.2 * a11), inI64 (t17.2.1 * a12), inI64 ((t17.1 * a12) - (t17.2.2 * a10)), inI64 (t17.2.2 * a10), inI64 (t17.1 * a12), inI64 3, inI64 ((t15.2.1 * a12) - (t15.2.2 * a11)), inI64 (t15.2.2 * a11), inI64 (t15.2.1 * a12), inI64 ((t15.1 * a12) - (t15.2.2 * a10)), inI64 (t15.2.2 * a10), inI64 (t15.1 * a12), inI64 2, inI64 ((t12.2.1 * a12) - (t12.2.2 * a11)), inI64 (t12.2.2 * a11), inI64 (t12.2.1 * a12), inI64 ((t12.1 * a12) - (t12.2.2 * a10)), inI64 (t12.2.2 * a10), inI64 (t12.1 * a12), inI64 1, inI64 ((t9.2.1 * a12) - (t9.2.2 * a11)), inI64 (t9.2.2 * a11), inI64 (t9.2.1 * a12), inI64 ((t9.1 * a12) - (t9.2.2 * a10)), inI64 (t9.2.2 * a10), inI64 (t9.1 * a12), (((t9.1 == 0) && ((t9.2.1 == 0) && ((t9.2.2 == 0) && true))) && (((t12.1 == 0) && ((t12.2.1 == 0) && ((t12.2.2 == 0) && true))) && (((t15.1 == 0) && ((t15.2.1 == 0) && ((t15.2.2 == 0) && true))) && (((t17.1 == 0) && ((t17.2.1 == 0) && ((t17.2.2 == 0) && true))) && true)))) = false, inI64 4, Computes cx 89 [.agg [I a1, I a2, I a3], .agg [I t16.1, I t16.2.1, I t16.2.2]] (.agg [I t17.1, I t17.2.1, I t17.2.2]), Computes cx 89 [.agg [I t6.1, I t6.2.1, I t6.2.2], .agg [I t13.1, I t13.2.1, I t13.2.2]] (.agg [I t16.1, I t16.2.1, I t16.2.2]), Computes cx 90 [I 1, .agg [I a7, I a8, I a9]] (.agg [I t13.1, I t13.2.1, I t13.2.2]), Computes cx 90 [I (-1), .agg [I a4, I a5, I a6]] (.agg [I t6.1, I t6.2.1, I t6.2.2]), inI64 3, Computes cx 89 [.agg [I a1, I a2, I a3], .agg [I t14.1, I t14.2.1, I t14.2.2]] (.agg [I t15.1, I t15.2.1, I t15.2.2]), Computes cx 89 [.agg [I t10.1, I t10.2.1, I t10.2.2], .agg [I t13.1, I t13.2.1, I t13.2.2]] (.agg [I t14.1, I t14.2.1, I t14.2.2]), Computes cx 90 [I 1, .agg [I a7, I a8, I a9]] (.agg [I t13.1, I t13.2.1, I t13.2.2]), Computes cx 90 [I 1, .agg [I a4, I a5, I a6]] (.agg [I t10.1, I t10.2.1, I t10.2.2]), inI64 2, Computes cx 89 [.agg [I a1, I a2, I a3], .agg [I t11.1, I t11.2.1, I t11.2.2]] (.agg [I t12.1, I t12.2.1, I t12.2.2]), Computes cx 89 [.agg [I t10.1, I t10.2.1, I t10.2.2], .agg [I t7.1, I t7.2.1, I t7.2.2]] (.agg [I t11.1, I t11.2.1, I t11.2.2]), Computes cx 90 [I (-1), .agg [I a7, I a8, I a9]] (.agg [I t7.1, I t7.2.1, I t7.2.2]), Computes cx 90 [I 1, .agg [I a4, I a5, I a6]] (.agg [I t10.1, I t10.2.1, I t10.2.2]), inI64 1, Computes cx 89 [.agg [I a1, I a2, I a3], .agg [I t8.1, I t8.2.1, I t8.2.2]] (.agg [I t9.1, I t9.2.1, I t9.2.2]), Computes cx 89 [.agg [I t6.1, I t6.2.1, I t6.2.2], .agg [I t7.1, I t7.2.1, I t7.2.2]] (.agg [I t8.1, I t8.2.1, I t8.2.2]), Computes cx 90 [I (-1), .agg [I a7, I a8, I a9]] (.agg [I t7.1, I t7.2.1, I t7.2.2]), Computes cx 90 [I (-1), .agg [I a4, I a5, I a6]] (.agg [I t6.1, I t6.2.1, I t6.2.2]), (t4 != 0) = false, Computes cx 59 [.lst true 1 [I t1, I t2, I t3]] (I t4), Computes cx 66 [B (decide (a12 < 1)), I 21] (I t3), Computes cx 61 [.agg [I a10, I a11, I a12], I 1024] (I t2), Computes cx 60 [.agg [.v (.string a0), I a1, I a2, I a3, I a4, I a5, I a6, I a7, I a8, I a9]] (I t1)]) (by kernel_rfl) ⟨(by unfold inI64; omega), (by unfold inI64; omega), (by unfold inI64; omega), (decide_eq_true h45), (eqf h44), (c_field_left h43), (by unfold inI64; omega), h42, h41, h40, h39, h38, h37, (by unfold inI64; omega), h36, h35, h34, h33, h32, h31, (by unfold inI64; omega), h30, h29, h28, h27, h26, h25, (by unfold inI64; omega), h24, h23, h22, h21, h20, h19, (bfalse h18), (by unfold inI64; omega), (c_field_plus h17), (c_field_plus h16), (c_field_times h13), (c_field_times h6), (by unfold inI64; omega), (c_field_plus h15), (c_field_plus h14), (c_field_times h13), (c_field_times h10), (by unfold inI64; omega), (c_field_plus h12), (c_field_plus h11), (c_field_times h7), (c_field_times h10), (by unfold inI64; omega), (c_field_plus h9), (c_field_plus h8), (c_field_times h7), (c_field_times h6), (nef h5), ((c_field_first h4).le (.cons (.full _ _ _) (.nil)) (.refl _)), (c_field_when h3), (c_field_checkDirection h2), (c_field_Mirror_check h1), trivial⟩
        · replace h := ite_f h h45
          replace h := Option.some.inj h
          subst h
          exact run (n := 100) (f := 12) (args := [.agg [.v (.string a0), I a1, I a2, I a3, I a4, I a5, I a6, I a7, I a8, I a9], .agg [I a10, I a11, I a12]]) (orc := [.ret (I t1), .ret (I t2), .ret (I t3), .ret (I t4), .br false, .br true, .no, .no, .ret (.agg [I t6.1, I t6.2.1, I t6.2.2]), .ret (.agg [I t7.1, I t7.2.1, I t7.2.2]), .ret (.agg [I t8.1, I t8.2.1, I t8.2.2]), .ret (.agg [I t9.1, I t9.2.1, I t9.2.2]), .no, .no, .ret (.agg [I t10.1, I t10.2.1, I t10.2.2]), .ret (.agg [I t7.1, I t7.2.1, I t7.2.2]), .ret (.agg [I t11.1, I t11.2.1, I t11.2.2]), .ret (.agg [I t12.1, I t12.2.1, I t12.2.2]), .no, .no, .ret (.agg [I t10.1, I t10.2.1, I t10.2.2]), .ret (.agg [I t13.1, I t13.2.1, I t13.2.2]), .ret (.agg [I t14.1, I t14.2.1, I t14.2.2]), .ret (.agg [I t15.1, I t15.2.1, I t15.2.2]), .no, .no, .ret (.agg [I t6.1, I t6.2.1, I t6.2.2]), .ret (.agg [I t13.1, I t13.2.1, I t13.2.2]), .ret (.agg [I t16.1, I t16.2.1, I t16.2.2]), .ret (.agg [I t17.1, I t17.2.1, I t17.2.2]), .no, .no, .br false, .br true, .no, .no, .no, .br true, .no, .no, .no, .no, .no, .br true, .no, .no, .no, .no, .br true, .no, .no, .no, .no, .br true, .no, .no, .no, .no, .no, .no, .no, .no, .no, .ret (I t43), .br false, .br false]) (r := .tup [.lst false 2 [.agg [I ((t9.1 * a12) - (t9.2.2 * a10)), I ((t9.2.1 * a12) - (t9.2.2 * a11))], .agg [I ((t12.1 * a12) - (t12.2.2 * a10)), I ((t12.2.1 * a12) - (t12.2.2 * a11))], .agg [I ((t15.1 * a12) - (t15.2.2 * a10)), I ((t15.2.1 * a12) - (t15.2.2 * a11))], .agg [I ((t17.1 * a12) - (t17.2.2 * a10)), I ((t17.2.1 * a12) - (t17.2.2 * a11))]], I 0]) (ob := [(decide (t43 < 0)) = false, (t43 == 0) = false, Computes cx 70 [.agg [I ((t9.1 * a12) - (t9.2.2 * a10)), I ((t9.2.1 * a12) - (t9.2.2 * a11))], .agg [I ((t12.1 * a12) - (t12.2.2 * a10)), I ((t12.2.1 * a12) - (t12.2.2 * a11))], .agg [I ((t15.1 * a12) - (t15.2.2 * a10)), I ((t15.2.1 * a12) - (t15.2.2 * a11))]] (I t43), inI64 4, inI64 ((t17.2.1 * a12) - (t17.2.2 * a11)), inI64 (t17.2.2 * a11), inI64 (t17.2.1 * a12), inI64 ((t17.1 * a12) - (t17.2.2 * a10)), inI64 (t17.2.2 * a10), inI64 (t17.1 * a12), inI64 3, inI64 ((t15.2.1 * a12) - (t15.2.2 * a11)), inI64 (t15.2.2 * a11), inI64 (t15.2.1 * a12), inI64 ((t15.1 * a12) - (t15.2.2 * a10)), inI64 (t15.2.2 * a10), inI64 (t15.1 * a12), inI64 2, inI64 ((t12.2.1 * a12) - (t12.2.2 * a11)), inI64 (t12.2.2 * a11), inI64 (t12.2.1 * a12), inI64 ((t12.1 * a12) - (t12.2.2 * a10)), inI64 (t12.2.2 * a10), inI64 (t12.1 * a12), inI64 1, inI64 ((t9.2.1 * a12) - (t9.2.2 * a11)), inI64 (t9.2.2 * a11), inI64 (t9.2.1 * a12), inI64 ((t9.1 * a12) - (t9.2.2 * a10)), inI64 (t9.2.2 * a10), inI64 (t9.1 * a12), (((t9.1 == 0) && ((t9.2.1 == 0) && ((t9.2.2 == 0) && true))) && (((t12.1 == 0) && ((t12.2.1 == 0) && ((t12.2.2 == 0) && true))) && (((t15.1 == 0) && ((t15.2.1 == 0) && ((t15.2.2 == 0) && true))) && (((t17.1 == 0) && ((t17.2.1 == 0) && ((t17.2.2 == 0) && true))) && true)))) = false, inI64 4, Computes cx 89 [.agg [I a1, I a2, I a3], .agg [I t16.1, I t16.2.1, I t16.2.2]] (.agg [I t17.1, I t17.2.1, I t17.2.2]), Computes cx 89 [.agg [I t6.1, I t6.2.1, I t6.2.2], .agg [I t13.1, I t13.2.1, I t13.2.2]] (.agg [I t16.1, I t16.2.1, I t16.2.2]), Computes cx 90 [I 1, .agg [I a7, I a8, I a9]] (.agg [I t13.1, I t13.2.1, I t13.2.2]), Computes cx 90 [I (-1), .agg [I a4, I a5, I a6]] (.agg [I t6.1, I t6.2.1, I t6.2.2]), inI64 3, Computes cx 89 [.agg [I a1, I a2, I a3], .agg [I t14.1, I t14.2.1, I t14.2.2]] (.agg [I t15.1, I t15.2.1, I t15.2.2]), Computes cx 89 [.agg [I t10.1, I t10.2.1, I t10.2.2], .agg [I t13.1, I t13.2.1, I t13.2.2]] (.agg [I t14.1, I t14.2.1, I t14.2.2]), Computes cx 90 [I 1, .agg [I a7, I a8, I a9]] (.agg [I t13.1, I t13.2.1, I t13.2.2]), Computes cx 90 [I 1, .agg [I a4, I a5, I a6]] (.agg [I t10.1, I t10.2.1, I t10.2.2]), inI64 2, Computes cx 89 [.agg [I a1, I a2, I a3], .agg [I t11.1, I t11.2.1, I t11.2.2]] (.agg [I t12.1, I t12.2.1, I t12.2.2]), Computes cx 89 [.agg [I t10.1, I t10.2.1, I t10.2.2], .agg [I t7.1, I t7.2.1, I t7.2.2]] (.agg [I t11.1, I t11.2.1, I t11.2.2]), Computes cx 90 [I (-1), .agg [I a7, I a8, I a9]] (.agg [I t7.1, I t7.2.1, I t7.2.2]), Computes cx 90 [I 1, .agg [I a4, I a5, I a6]] (.agg [I t10.1, I t10.2.1, I t10.2.2]), inI64 1, Computes cx 89 [.agg [I a1, I a2, I a3], .agg [I t8.1, I t8.2.1, I t8.2.2]] (.agg [I t9.1, I t9.2.1, I t9.2.2]), Computes cx 89 [.agg [I t6.1, I t6.2.1, I t6.2.2], .agg [I t7.1, I t7.2.1, I t7.2.2]] (.agg [I t8.1, I t8.2.1, I t8.2.2]), Computes cx 90 [I (-1), .agg [I a7, I a8, I a9]] (.agg [I t7.1, I t7.2.1, I t7.2.2]), Computes cx 90 [I (-1), .agg [I a4, I a5, I a6]] (.agg [I t6.1, I t6.2.1, I t6.2.2]), (t4 != 0) = false, Computes cx 59 [.lst true 1 [I t1, I t2, I t3]] (I t4), Computes cx 66 [B (decide (a12 < 1)), I 21] (I t3), Computes cx 61 [.agg [I a10, I a11, I a12], I 1024] (I t2), Computes cx 60 [.agg [.v (.string a0), I a1, I a2, I a3, I a4, I a5, I a6, I a7, I a8, I a9]] (I t1)]) (by kernel_rfl) ⟨(decide_eq_false h45), (eqf h44), (c_field_left h43), (by unfold inI64; omega), h42, h41, h40, h39, h38, h37, (by unfold inI64; omega), h36, h35, h34, h33, h32, h31, (by unfold inI64; omega), h30, h29, h28, h27, h26, h25, (by unfold inI64; omega), h24, h23, h22, h21, h20, h19, (bfalse h18), (by unfold inI64; omega), (c_field_plus h17), (c_field_plus h16), (c_field_times h13), (c_field_times h6), (by unfold inI64; omega), (c_field_plus h15), (c_field_plus h14), (c_field_times h13), (c_field_times h10), (by unfold inI64; omega), (c_field_plus h12), (c_field_plus h11), (c_field_times h7), (c_field_times h10), (by unfold inI64; omega), (c_field_plus h9), (c_field_plus h8), (c_field_times h7), (c_field_times h6), (nef h5), ((c_field_first h4).le (.cons (.full _ _ _) (.nil)) (.refl _)), (c_field_when h3), (c_field_checkDirection h2), (c_field_Mirror_check h1), trivial⟩
  · replace h := ite_f h h5
    replace h := Option.some.inj h
    subst h
    exact (run (n := 100) (f := 12) (args := [.agg [.v (.string a0), I a1, I a2, I a3, I a4, I a5, I a6, I a7, I a8, I a9], .agg [I a10, I a11, I a12]]) (orc := [.ret (I t1), .ret (I t2), .ret (I t3), .ret (I t4), .br true]) (r := .tup [.lst true 0 [], I t4]) (ob := [(t4 != 0) = true, Computes cx 59 [.lst true 1 [I t1, I t2, I t3]] (I t4), Computes cx 66 [B (decide (a12 < 1)), I 21] (I t3), Computes cx 61 [.agg [I a10, I a11, I a12], I 1024] (I t2), Computes cx 60 [.agg [.v (.string a0), I a1, I a2, I a3, I a4, I a5, I a6, I a7, I a8, I a9]] (I t1)]) (by kernel_rfl) ⟨(net h5), ((c_field_first h4).le (.cons (.full _ _ _) (.nil)) (.refl _)), (c_field_when h3), (c_field_checkDirection h2), (c_field_Mirror_check h1), trivial⟩).le (LEs.refl _) (.tups (.cons (.lst _ _ _ _ _ nofun (.inl rfl)) (.cons (.refl _) (.nil))))
def F_ref01_Divisor_L1 (n : Nat)  (sa : (Int × Int)) : Option (((Int × Int)) ⊕ ((Int))) :=
  if sa.2 = 0 then
    some (.inr sa.1)
  else
  if sa.2 ≠ 0 then
  some (.inl (sa.2, (Int.tmod sa.1 sa.2)))
  else none
noncomputable def T_ref01_Divisor_L1  (sa : (Int × Int)) : List (Nat × AV) := [(0, .d (I sa.1)), (1, .d (I sa.2))]
noncomputable def H_ref01_Divisor_L1  (sa : (Int × Int)) : List (Nat × Blk) := []
noncomputable def X_ref01_Divisor_L1  (e : (Int)) : Ex := (.exit 0)
noncomputable def XT_ref01_Divisor_L1  (e : (Int)) : List (Nat × AV) := [(0, .d (I e))]
noncomputable def XH_ref01_Divisor_L1  (e : (Int)) : List (Nat × Blk) := []
theorem R_ref01_Divisor_L1 {n : Nat}  (sa : (Int × Int)) (r) (h : F_ref01_Divisor_L1 n  sa = some r) : Rd cx (loopAt cx.P 125 0) 24 0 false (T_ref01_Divisor_L1 ) (H_ref01_Divisor_L1 ) (X_ref01_Divisor_L1 ) (XT_ref01_Divisor_L1 ) (XH_ref01_Divisor_L1 ) sa r := by
  unfold F_ref01_Divisor_L1 at h
  by_cases ha1 : sa.2 = 0
  · replace h := ite_t h ha1
    replace h := Option.some.inj h
    subst h
    exact ⟨⟨100, 11, [.br false], [], [0], [], round_of (ob := [(sa.2 != 0) = false]) (by kernel_rfl) ⟨(nef ha1), trivial⟩⟩, nofun⟩
  · replace h := ite_f h ha1
    obtain ⟨ha2, h⟩ := grd_of h
    replace h := Option.some.inj h
    subst h
    exact ⟨100, 11, [.br true], [], [0, 1], [], round_of (ob := [sa.2 ≠ 0, (sa.2 != 0) = true]) (by kernel_rfl) ⟨ha2, (net ha1), trivial⟩⟩
def F_ref01_Divisor_L2 (n : Nat)  (sa : (Int × Int)) : Option (((Int × Int)) ⊕ ((Int))) :=
  if sa.2 = 0 then
    some (.inr sa.1)
  else
  if sa.2 ≠ 0 then
  some (.inl (sa.2, (Int.tmod sa.1 sa.2)))
  else none
noncomputable def T_ref01_Divisor_L2  (sa : (Int × Int)) : List (Nat × AV) := [(0, .d (I sa.1)), (1, .d (I sa.2))]
noncomputable def H_ref01_Divisor_L2  (sa : (Int × Int)) : List (Nat × Blk) := []
noncomputable def X_ref01_Divisor_L2  (e : (Int)) : Ex := (.exit 0)
noncomputable def XT_ref01_Divisor_L2  (e : (Int)) : List (Nat × AV) := [(0, .d (I e))]
noncomputable def XH_ref01_Divisor_L2  (e : (Int)) : List (Nat × Blk) := []
theorem R_ref01_Divisor_L2 {n : Nat}  (sa : (Int × Int)) (r) (h : F_ref01_Divisor_L2 n  sa = some r) : Rd cx (loopAt cx.P 125 0) 24 0 false (T_ref01_Divisor_L2 ) (H_ref01_Divisor_L2 ) (X_ref01_Divisor_L2 ) (XT_ref01_Divisor_L2 ) (XH_ref01_Divisor_L2 ) sa r := by
  unfold F_ref01_Divisor_L2 at h
  by_cases ha1 : sa.2 = 0
  · replace h := ite_t h ha1
    replace h := Option.some.inj h
    subst h
    exact ⟨⟨100, 8, [.br false], [], [0], [], round_of (ob := [(sa.2 != 0) = false]) (by kernel_rfl) ⟨(nef ha1), trivial⟩⟩, nofun⟩
  · replace h := ite_f h ha1
    obtain ⟨ha2, h⟩ := grd_of h
    replace h := Option.some.inj h
    subst h
    exact ⟨100, 8, [.br true], [], [0, 1], [], round_of (ob := [sa.2 ≠ 0, (sa.2 != 0) = true]) (by kernel_rfl) ⟨ha2, (net ha1), trivial⟩⟩
def F_ref01_Divisor_L3 (n : Nat)  (sa : (Int × Int)) : Option (((Int × Int)) ⊕ ((Int))) :=
  if sa.2 = 0 then
    some (.inr sa.1)
  else
  if sa.2 ≠ 0 then
  some (.inl (sa.2, (Int.tmod sa.1 sa.2)))
  else none
noncomputable def T_ref01_Divisor_L3  (sa : (Int × Int)) : List (Nat × AV) := [(0, .d (I sa.1)), (1, .d (I sa.2))]
noncomputable def H_ref01_Divisor_L3  (sa : (Int × Int)) : List (Nat × Blk) := []
noncomputable def X_ref01_Divisor_L3  (e : (Int)) : Ex := (.exit 0)
noncomputable def XT_ref01_Divisor_L3  (e : (Int)) : List (Nat × AV) := [(0, .d (I e))]
noncomputable def XH_ref01_Divisor_L3  (e : (Int)) : List (Nat × Blk) := []
theorem R_ref01_Divisor_L3 {n : Nat}  (sa : (Int × Int)) (r) (h : F_ref01_Divisor_L3 n  sa = some r) : Rd cx (loopAt cx.P 125 0) 24 0 false (T_ref01_Divisor_L3 ) (H_ref01_Divisor_L3 ) (X_ref01_Divisor_L3 ) (XT_ref01_Divisor_L3 ) (XH_ref01_Divisor_L3 ) sa r := by
  unfold F_ref01_Divisor_L3 at h
  by_cases ha1 : sa.2 = 0
  · replace h := ite_t h ha1
    replace h := Option.some.inj h
    subst h
    exact ⟨⟨100, 8, [.br false], [], [0], [], round_of (ob := [(sa.2 != 0) = false]) (by kernel_rfl) ⟨(nef ha1), trivial⟩⟩, nofun⟩
  · replace h := ite_f h ha1
    obtain ⟨ha2, h⟩ := grd_of h
    replace h := Option.some.inj h
    subst h
    exact ⟨100, 8, [.br true], [], [0, 1], [], round_of (ob := [sa.2 ≠ 0, (sa.2 != 0) = true]) (by kernel_rfl) ⟨ha2, (net ha1), trivial⟩⟩
def F_ref01_Divisor_L4 (n : Nat)  (sa : (Int × Int)) : Option (((Int × Int)) ⊕ ((Int))) :=
  if sa.2 = 0 then
    some (.inr sa.1)
  else
  if sa.2 ≠ 0 then
  some (.inl (sa.2, (Int.tmod sa.1 sa.2)))
  else none
noncomputable def T_ref01_Divisor_L4  (sa : (Int × Int)) : List (Nat × AV) := [(0, .d (I sa.1)), (1, .d (I sa.2))]
noncomputable def H_ref01_Divisor_L4  (sa : (Int × Int)) : List (Nat × Blk) := []
noncomputable def X_ref01_Divisor_L4  (e : (Int)) : Ex := (.exit 0)
noncomputable def XT_ref01_Divisor_L4  (e : (Int)) : List (Nat × AV) := [(0, .d (I e))]
noncomputable def XH_ref01_Divisor_L4  (e : (Int)) : List (Nat × Blk) := []
theorem R_ref01_Divisor_L4 {n : Nat}  (sa : (Int × Int)) (r) (h : F_ref01_Divisor_L4 n  sa = some r) : Rd cx (loopAt cx.P 125 0) 24 0 false (T_ref01_Divisor_L4 ) (H_ref01_Divisor_L4 ) (X_ref01_Divisor_L4 ) (XT_ref01_Divisor_L4 ) (XH_ref01_Divisor_L4 ) sa r := by
  unfold F_ref01_Divisor_L4 at h
  by_cases ha1 : sa.2 = 0
  · replace h := ite_t h ha1
    replace h := Option.some.inj h
    subst h
    exact ⟨⟨100, 5, [.br false], [], [0], [], round_of (ob := [(sa.2 != 0) = false]) (by kernel_rfl) ⟨(nef ha1), trivial⟩⟩, nofun⟩
  · replace h := ite_f h ha1
    obtain ⟨ha2, h⟩ := grd_of h
    replace h := Option.some.inj h
    subst h
    exact ⟨100, 5, [.br true], [], [0, 1], [], round_of (ob := [sa.2 ≠ 0, (sa.2 != 0) = true]) (by kernel_rfl) ⟨ha2, (net ha1), trivial⟩⟩
/- spillage/spillageref01.Divisor: I a0, I a1 -/
def F_ref01_Divisor (n : Nat) (a0 : Int) (a1 : Int) : Option (Int) :=
  if a0 < 0 then
    if inI64 (0 - a0) then
    if a1 < 0 then
      if inI64 (0 - a1) then
      (loopF (F_ref01_Divisor_L1 n) n ((0 - a0), (0 - a1))).bind fun t5 =>
      if t5 = 0 then
        some 1
      else
      some t5
      else none
    else
    (loopF (F_ref01_Divisor_L2 n) n ((0 - a0), a1)).bind fun t4 =>
    if t4 = 0 then
      some 1
    else
    some t4
    else none
  else
  if a1 < 0 then
    if inI64 (0 - a1) then
    (loopF (F_ref01_Divisor_L3 n) n (a0, (0 - a1))).bind fun t4 =>
    if t4 = 0 then
      some 1
    else
    some t4
    else none
  else
  (loopF (F_ref01_Divisor_L4 n) n (a0, a1)).bind fun t3 =>
  if t3 = 0 then
    some 1
  else
  some t3
theorem c_ref01_Divisor {n : Nat} {a0 : Int} {a1 : Int} {r : Int} (h : F_ref01_Divisor n a0 a1 = some r) : Computes cx 125 [I a0, I a1] (I r) := by
  unfold F_ref01_Divisor at h
  by_cases h1 : a0 < 0
  · replace h := ite_t h h1
    obtain ⟨h2, h⟩ := grd_of h
    by_cases h3 : a1 < 0
    · replace h := ite_t h h3
      obtain ⟨h4, h⟩ := grd_of h
      obtain ⟨t5, h5, h⟩ := bnd_of h
      by_cases h6 : t5 = 0
      · replace h := ite_t h h6
        replace h := Option.some.inj h
        subst h
        exact run (n := 100) (f := 125) (args := [I a0, I a1]) (orc := [.br true, .br true, .lp [] [0, 1] [] (.exit 0) [(0, .d (I t5))] [] 32, .br true]) (r := I 1) (ob := [(t5 == 0) = true, LoopN cx (loopAt cx.P 125 0) 24 0 false [(0, .d (I (0 - a0))), (1, .d (I (0 - a1)))] [] (.exit 0) [(0, .d (I t5))] [], inI64 (0 - a1), (decide (a1 < 0)) = true, inI64 (0 - a0), (decide (a0 < 0)) = true]) (by kernel_rfl) ⟨(eqt h6), (loopF_to R_ref01_Divisor_L1 h5), h4, (decide_eq_true h3), h2, (decide_eq_true h1), trivial⟩
      · replace h := ite_f h h6
        replace h := Option.some.inj h
        subst h
        exact run (n := 100) (f := 125) (args := [I a0, I a1]) (orc := [.br true, .br true, .lp [] [0, 1] [] (.exit 0) [(0, .d (I t5))] [] 32, .br false]) (r := I t5) (ob := [(t5 == 0) = false, LoopN cx (loopAt cx.P 125 0) 24 0 false [(0, .d (I (0 - a0))), (1, .d (I (0 - a1)))] [] (.exit 0) [(0, .d (I t5))] [], inI64 (0 - a1), (decide (a1 < 0)) = true, inI64 (0 - a0), (decide (a0 < 0)) = true]) (by kernel_rfl) ⟨(eqf h6), (loopF_to R_ref01_Divisor_L1 h5), h4, (decide_eq_true h3), h2, (decide_eq_true h1), trivial⟩
    · replace h := ite_f h h3
      obtain ⟨t4, h4, h⟩ := bnd_of h
      by_cases h5 : t4 = 0
      · replace h := ite_t h h5
        replace h := Option.some.inj h
        subst h
        exact run (n := 100) (f := 125) (args := [I a0, I a1]) (orc := [.br true, .br false, .lp [] [0, 1] [] (.exit 0) [(0, .d (I t4))] [] 29, .br true]) (r := I 1) (ob := [(t4 == 0) = true, LoopN cx (loopAt cx.P 125 0) 24 0 false [(0, .d (I (0 - a0))), (1, .d (I a1))] [] (.exit 0) [(0, .d (I t4))] [], (decide (a1 < 0)) = false, inI64 (0 - a0), (decide (a0 < 0)) = true]) (by kernel_rfl) ⟨(eqt h5), (loopF_to R_ref01_Divisor_L2 h4), (decide_eq_false h3), h2, (decide_eq_true h1), trivial⟩
      · replace h := ite_f h h5
        replace h := Option.some.inj h
        subst h
        exact run (n := 100) (f := 125) (args := [I a0, I a1]) (orc := [.br true, .br false, .lp [] [0, 1] [] (.exit 0) [(0, .d (I t4))] [] 29, .br false]) (r := I t4) (ob := [(t4 == 0) = false, LoopN cx (loopAt cx.P 125 0) 24 0 false [(0, .d (I (0 - a0))), (1, .d (I a1))] [] (.exit 0) [(0, .d (I t4))] [], (decide (a1 < 0)) = false, inI64 (0 - a0), (decide (a0 < 0)) = true]) (by kernel_rfl) ⟨(eqf h5), (loopF_to R_ref01_Divisor_L2 h4), (decide_eq_false h3), h2, (decide_eq_true h1), trivial⟩
  · replace h := ite_f h h1
    by_cases h2 : a1 < 0
    · replace h := ite_t h h2
      obtain ⟨h3, h⟩ := grd_of h
      obtain ⟨t4, h4, h⟩ := bnd_of h
      by_cases h5 : t4 = 0
      · replace h := ite_t h h5
        replace h := Option.some.inj h
        subst h
        exact run (n := 100) (f := 125) (args := [I a0, I a1]) (orc := [.br false, .br true, .lp [] [0, 1] [] (.exit 0) [(0, .d (I t4))] [] 29, .br true]) (r := I 1) (ob := [(t4 == 0) = true, LoopN cx (loopAt cx.P 125 0) 24 0 false [(0, .d (I a0)), (1, .d (I (0 - a1)))] [] (.exit 0) [(0, .d (I t4))] [], inI64 (0 - a1), (decide (a1 < 0)) = true, (decide (a0 < 0)) = false]) (by kernel_rfl) ⟨(eqt h5), (loopF_to R_ref01_Divisor_L3 h4), h3, (decide_eq_true h2), (decide_eq_false h1), trivial⟩
      · replace h := ite_f h h5
        replace h := Option.some.inj h
        subst h
        exact run (n := 100) (f := 125) (args := [I a0, I a1]) (orc := [.br false, .br true, .lp [] [0, 1] [] (.exit 0) [(0, .d (I t4))] [] 29, .br false]) (r := I t4) (ob := [(t4 == 0) = false, LoopN cx (loopAt cx.P 125 0) 24 0 false [(0, .d (I a0)), (1, .d (I (0 - a1)))] [] (.exit 0) [(0, .d (I t4))] [], inI64 (0 - a1), (decide (a1 < 0)) = true, (decide (a0 < 0)) = false]) (by kernel_rfl) ⟨(eqf h5), (loopF_to R_ref01_Divisor_L3 h4), h3, (decide_eq_true h2), (decide_eq_false h1), trivial⟩
    · replace h := ite_f h h2
      obtain ⟨t3, h3, h⟩ := bnd_of h
      by_cases h4 : t3 = 0
      · replace h := ite_t h h4
        replace h := Option.some.inj h
        subst h
        exact run (n := 100) (f := 125) (args := [I a0, I a1]) (orc := [.br false, .br false, .lp [] [0, 1] [] (.exit 0) [(0, .d (I t3))] [] 26, .br true]) (r := I 1) (ob := [(t3 == 0) = true, LoopN cx (loopAt cx.P 125 0) 24 0 false [(0, .d (I a0)), (1, .d (I a1))] [] (.exit 0) [(0, .d (I t3))] [], (decide (a1 < 0)) = false, (decide (a0 < 0)) = false]) (by kernel_rfl) ⟨(eqt h4), (loopF_to R_ref01_Divisor_L4 h3), (decide_eq_false h2), (decide_eq_false h1), trivial⟩
      · replace h := ite_f h h4
        replace h := Option.some.inj h
        subst h
        exact run (n := 100) (f := 125) (args := [I a0, I a1]) (orc := [.br false, .br false, .lp [] [0, 1] [] (.exit 0) [(0, .d (I t3))] [] 26, .br false]) (r := I t3) (ob := [(t3 == 0) = false, LoopN cx (loopAt cx.P 125 0) 24 0 false [(0, .d (I a0)), (1, .d (I a1))] [] (.exit 0) [(0, .d (I t3))] [], (decide (a1 < 0)) = false, (decide (a0 < 0)) = false]) (by kernel_rfl) ⟨(eqf h4), (loopF_to R_ref01_Divisor_L4 h3), (decide_eq_false h2), (decide_eq_false h1), trivial⟩
/- spillage/spillageref01.Lowest: I a0, I a1 -/
def F_ref01_Lowest (n : Nat) (a0 : Int) (a1 : Int) : Option (Int × Int) :=
  if a1 < 0 then
    if inI64 (0 - a0) then
    if inI64 (0 - a1) then
    (F_ref01_Divisor n (0 - a0) (0 - a1)).bind fun t4 =>
    if t4 ≠ 0 then
    if inI64 (Int.tdiv (0 - a0) t4) then
    if inI64 (Int.tdiv (0 - a1) t4) then
    some ((Int.tdiv (0 - a0) t4), (Int.tdiv (0 - a1) t4))
    else none
    else none
    else none
    else none
    else none
  else
  (F_ref01_Divisor n a0 a1).bind fun t2 =>
  if t2 ≠ 0 then
  if inI64 (Int.tdiv a0 t2) then
  if inI64 (Int.tdiv a1 t2) then
  some ((Int.tdiv a0 t2), (Int.tdiv a1 t2))
  else none
  else none
  else none
theorem c_ref01_Lowest {n : Nat} {a0 : Int} {a1 : Int} {r : Int × Int} (h : F_ref01_Lowest n a0 a1 = some r) : Computes cx 77 [I a0, I a1] (.agg [I r.1, I r.2]) := by
  unfold F_ref01_Lowest at h
  by_cases h1 : a1 < 0
  · replace h := ite_t h h1
    obtain ⟨h2, h⟩ := grd_of h
    obtain ⟨h3, h⟩ := grd_of h
    obtain ⟨t4, h4, h⟩ := bnd_of h
    obtain ⟨h5, h⟩ := grd_of h
    obtain ⟨h6, h⟩ := grd_of h
    obtain ⟨h7, h⟩ := grd_of h
    replace h := Option.some.inj h
    subst h
    exact run (n := 100) (f := 77) (args := [I a0, I a1]) (orc := [.br true, .ret (I t4)]) (r := .agg [I (Int.tdiv (0 - a0) t4), I (Int.tdiv (0 - a1) t4)]) (ob := [t4 ≠ 0, inI64 (Int.tdiv (0 - a1) t4), t4 ≠ 0, inI64 (Int.tdiv (0 - a0) t4), Computes cx 125 [I (0 - a0), I (0 - a1)] (I t4), inI64 (0 - a1), inI64 (0 - a0), (decide (a1 < 0)) = true]) (by kernel_rfl) ⟨h5, h7, h5, h6, (c_ref01_Divisor h4), h3, h2, (decide_eq_true h1), trivial⟩
  · replace h := ite_f h h1
    obtain ⟨t2, h2, h⟩ := bnd_of h
    obtain ⟨h3, h⟩ := grd_of h
    obtain ⟨h4, h⟩ := grd_of h
    obtain ⟨h5, h⟩ := grd_of h
    replace h := Option.some.inj h
    subst h
    exact run (n := 100) (f := 77) (args := [I a0, I a1]) (orc := [.br false, .ret (I t2)]) (r := .agg [I (Int.tdiv a0 t2), I (Int.tdiv a1 t2)]) (ob := [t2 ≠ 0, inI64 (Int.tdiv a1 t2), t2 ≠ 0, inI64 (Int.tdiv a0 t2), Computes cx 125 [I a0, I a1] (I t2), (decide (a1 < 0)) = false]) (by kernel_rfl) ⟨h3, h5, h3, h4, (c_ref01_Divisor h2), (decide_eq_false h1), trivial⟩
/- spillage/spillageref04.Cosine: .agg [.v (.string a0), I a1, I a2, I a3, I a4, I a5, I a6, I a7, I a8, I a9], .agg [I a10, I a11, I a12] -/
def F_ref04_Cosine (n : Nat) (a0 : ByteArray) (a1 : Int) (a2 : Int) (a3 : Int) (a4 : Int) (a5 : Int) (a6 : Int) (a7 : Int) (a8 : Int) (a9 : Int) (a10 : Int) (a11 : Int) (a12 : Int) : Option (Int × Int × Int) :=
  (F_ref04_Normal n a0 a1 a2 a3 a4 a5 a6 a7 a8 a9).bind fun t1 =>
  (F_ref04_Dot n t1.1 t1.2.1 t1.2.2 a10 a11 a12).bind fun t2 =>
  if t2 > 0 then
    if t2 < 0 then
      if inI64 (t2 * t2) then
      (F_ref04_Dot n t1.1 t1.2.1 t1.2.2 t1.1 t1.2.1 t1.2.2).bind fun t6 =>
      (F_ref04_Dot n a10 a11 a12 a10 a11 a12).bind fun t7 =>
      if inI64 (t6 * t7) then
      (F_ref01_Lowest n (t2 * t2) (t6 * t7)).bind fun t9 =>
      some ((-1), t9.1, t9.2)
      else none
      else none
    else
    if inI64 (t2 * t2) then
    (F_ref04_Dot n t1.1 t1.2.1 t1.2.2 t1.1 t1.2.1 t1.2.2).bind fun t6 =>
    (F_ref04_Dot n a10 a11 a12 a10 a11 a12).bind fun t7 =>
    if inI64 (t6 * t7) then
    (F_ref01_Lowest n (t2 * t2) (t6 * t7)).bind fun t9 =>
    some (1, t9.1, t9.2)
    else none
    else none
  else
  if t2 < 0 then
    if inI64 (t2 * t2) then
    (F_ref04_Dot n t1.1 t1.2.1 t1.2.2 t1.1 t1.2.1 t1.2.2).bind fun t6 =>
    (F_ref04_Dot n a10 a11 a12 a10 a11 a12).bind fun t7 =>
    if inI64 (t6 * t7) then
    (F_ref01_Lowest n (t2 * t2) (t6 * t7)).bind fun t9 =>
    some ((-1), t9.1, t9.2)
    else none
    else none
  else
  if inI64 (t2 * t2) then
  (F_ref04_Dot n t1.1 t1.2.1 t1.2.2 t1.1 t1.2.1 t1.2.2).bind fun t6 =>
  (F_ref04_Dot n a10 a11 a12 a10 a11 a12).bind fun t7 =>
  if inI64 (t6 * t7) then
  (F_ref01_Lowest n (t2 * t2) (t6 * t7)).bind fun t9 =>
  some (0, t9.1, t9.2)
  else none
  else none
theorem c_ref04_Cosine {n : Nat} {a0 : ByteArray} {a1 : Int} {a2 : Int} {a3 : Int} {a4 : Int} {a5 : Int} {a6 : Int} {a7 : Int} {a8 : Int} {a9 : Int} {a10 : Int} {a11 : Int} {a12 : Int} {r : Int × Int × Int} (h : F_ref04_Cosine n a0 a1 a2 a3 a4 a5 a6 a7 a8 a9 a10 a11 a12 = some r) : Computes cx 17 [.agg [.v (.string a0), I a1, I a2, I a3, I a4, I a5, I a6, I a7, I a8, I a9], .agg [I a10, I a11, I a12]] (.tup [I r.1, .agg [I r.2.1, I r.2.2]]) := by
  unfold F_ref04_Cosine at h
  obtain ⟨t1, h1, h⟩ := bnd_of h
  obtain ⟨t2, h2, h⟩ := bnd_of h
  by_cases h3 : t2 > 0
  · replace h := ite_t h h3
    by_cases h4 : t2 < 0
    · replace h := ite_t h h4
      obtain ⟨h5, h⟩ := grd_of h
      obtain ⟨t6, h6, h⟩ := bnd_of h
      obtain ⟨t7, h7, h⟩ := bnd_of h
      obtain ⟨h8, h⟩ := grd_of h
      obtain ⟨t9, h9, h⟩ := bnd_of h
      replace h := Option.some.inj h
      subst h
      exact run (n := 100) (f := 17) (args := [.agg [.v (.string a0), I a1, I a2, I a3, I a4, I a5, I a6, I a7, I a8, I a9], .agg [I a10, I a11, I a12]]) (orc := [.ret (.agg [I t1.1, I t1.2.1, I t1.2.2]), .ret (I t2), .br true, .br true, .ret (I t6), .ret (I t7), .ret (.agg [I t9.1, I t9.2])]) (r := .tup [I (-1), .agg [I t9.1, I t9.2]]) (ob := [Computes cx 77 [I (t2 * t2), I (t6 * t7)] (.agg [I t9.1, I t9.2]), inI64 (t6 * t7), Computes cx 76 [.agg [I a10, I a11, I a12], .agg [I a10, I a11, I a12]] (I t7), Computes cx 76 [.agg [I t1.1, I t1.2.1, I t1.2.2], .agg [I t1.1, I t1.2.1, I t1.2.2]] (I t6), inI64 (t2 * t2), (decide (t2 < 0)) = true, (decide (t2 > 0)) = true, Computes cx 76 [.agg [I t1.1, I t1.2.1, I t1.2.2], .agg [I a10, I a11, I a12]] (I t2), Computes cx 75 [.agg [.v (.string a0), I a1, I a2, I a3, I a4, I a5, I a6, I a7, I a8, I a9]] (.agg [I t1.1, I t1.2.1, I t1.2.2])]) (by kernel_rfl) ⟨(c_ref01_Lowest h9), h8, (c_ref04_Dot h7), (c_ref04_Dot h6), h5, (decide_eq_true h4), (decide_eq_true h3), (c_ref04_Dot h2), (c_ref04_Normal h1), trivial⟩
    · replace h := ite_f h h4
      obtain ⟨h5, h⟩ := grd_of h
      obtain ⟨t6, h6, h⟩ := bnd_of h
      obtain ⟨t7, h7, h⟩ := bnd_of h
      obtain ⟨h8, h⟩ := grd_of h
      obtain ⟨t9, h9, h⟩ := bnd_of h
      replace h := Option.some.inj h
      subst h
      exact run (n := 100) (f := 17) (args := [.agg [.v (.string a0), I a1, I a2, I a3, I a4, I a5, I a6, I a7, I a8, I a9], .agg [I a10, I a11, I a12]]) (orc := [.ret (.agg [I t1.1, I t1.2.1, I t1.2.2]), .ret (I t2), .br true, .br false, .ret (I t6), .ret (I t7), .ret (.agg [I t9.1, I t9.2])]) (r := .tup [I 1, .agg [I t9.1, I t9.2]]) (ob := [Computes cx 77 [I (t2 * t2), I (t6 * t7)] (.agg [I t9.1, I t9.2]), inI64 (t6 * t7), Computes cx 76 [.agg [I a10, I a11, I a12], .agg [I a10, I a11, I a12]] (I t7), Computes cx 76 [.agg [I t1.1, I t1.2.1, I t1.2.2], .agg [I t1.1, I t1.2.1, I t1.2.2]] (I t6), inI64 (t2 * t2), (decide (t2 < 0)) = false, (decide (t2 > 0)) = true, Computes cx 76 [.agg [I t1.1, I t1.2.1, I t1.2.2], .agg [I a10, I a11, I a12]] (I t2), Computes cx 75 [.agg [.v (.string a0), I a1, I a2, I a3, I a4, I a5, I a6, I a7, I a8, I a9]] (.agg [I t1.1, I t1.2.1, I t1.2.2])]) (by kernel_rfl) ⟨(c_ref01_Lowest h9), h8, (c_ref04_Dot h7), (c_ref04_Dot h6), h5, (decide_eq_false h4), (decide_eq_true h3), (c_ref04_Dot h2), (c_ref04_Normal h1), trivial⟩
  · replace h := ite_f h h3
    by_cases h4 : t2 < 0
    · replace h := ite_t h h4
      obtain ⟨h5, h⟩ := grd_of h
      obtain ⟨t6, h6, h⟩ := bnd_of h
      obtain ⟨t7, h7, h⟩ := bnd_of h
      obtain ⟨h8, h⟩ := grd_of h
      obtain ⟨t9, h9, h⟩ := bnd_of h
      replace h := Option.some.inj h
      subst h
      exact run (n := 100) (f := 17) (args := [.agg [.v (.string a0), I a1, I a2, I a3, I a4, I a5, I a6, I a7, I a8, I a9], .agg [I a10, I a11, I a12]]) (orc := [.ret (.agg [I t1.1, I t1.2.1, I t1.2.2]), .ret (I t2), .br false, .br true, .ret (I t6), .ret (I t7), .ret (.agg [I t9.1, I t9.2])]) (r := .tup [I (-1), .agg [I t9.1, I t9.2]]) (ob := [Computes cx 77 [I (t2 * t2), I (t6 * t7)] (.agg [I t9.1, I t9.2]), inI64 (t6 * t7), Computes cx 76 [.agg [I a10, I a11, I a12], .agg [I a10, I a11, I a12]] (I t7), Computes cx 76 [.agg [I t1.1, I t1.2.1, I t1.2.2], .agg [I t1.1, I t1.2.1, I t1.2.2]] (I t6), inI64 (t2 * t2), (decide (t2 < 0)) = true, (decide (t2 > 0)) = false, Computes cx 76 [.agg [I t1.1, I t1.2.1, I t1.2.2], .agg [I a10, I a11, I a12]] (I t2), Computes cx 75 [.agg [.v (.string a0), I a1, I a2, I a3, I a4, I a5, I a6, I a7, I a8, I a9]] (.agg [I t1.1, I t1.2.1, I t1.2.2])]) (by kernel_rfl) ⟨(c_ref01_Lowest h9), h8, (c_ref04_Dot h7), (c_ref04_Dot h6), h5, (decide_eq_true h4), (decide_eq_false h3), (c_ref04_Dot h2), (c_ref04_Normal h1), trivial⟩
    · replace h := ite_f h h4
      obtain ⟨h5, h⟩ := grd_of h
      obtain ⟨t6, h6, h⟩ := bnd_of h
      obtain ⟨t7, h7, h⟩ := bnd_of h
      obtain ⟨h8, h⟩ := grd_of h
      obtain ⟨t9, h9, h⟩ := bnd_of h
      replace h := Option.some.inj h
      subst h
      exact run (n := 100) (f := 17) (args := [.agg [.v (.string a0), I a1, I a2, I a3, I a4, I a5, I a6, I a7, I a8, I a9], .agg [I a10, I a11, I a12]]) (orc := [.ret (.agg [I t1.1, I t1.2.1, I t1.2.2]), .ret (I t2), .br false, .br false, .ret (I t6), .ret (I t7), .ret (.agg [I t9.1, I t9.2])]) (r := .tup [I 0, .agg [I t9.1, I t9.2]]) (ob := [Computes cx 77 [I (t2 * t2), I (t6 * t7)] (.agg [I t9.1, I t9.2]), inI64 (t6 * t7), Computes cx 76 [.agg [I a10, I a11, I a12], .agg [I a10, I a11, I a12]] (I t7), Computes cx 76 [.agg [I t1.1, I t1.2.1, I t1.2.2], .agg [I t1.1, I t1.2.1, I t1.2.2]] (I t6), inI64 (t2 * t2), (decide (t2 < 0)) = false, (decide (t2 > 0)) = false, Computes cx 76 [.agg [I t1.1, I t1.2.1, I t1.2.2], .agg [I a10, I a11, I a12]] (I t2), Computes cx 75 [.agg [.v (.string a0), I a1, I a2, I a3, I a4, I a5, I a6, I a7, I a8, I a9]] (.agg [I t1.1, I t1.2.1, I t1.2.2])]) (by kernel_rfl) ⟨(c_ref01_Lowest h9), h8, (c_ref04_Dot h7), (c_ref04_Dot h6), h5, (decide_eq_false h4), (decide_eq_false h3), (c_ref04_Dot h2), (c_ref04_Normal h1), trivial⟩
/- spillage/spillageref04.Corners: .agg [.v (.string a0), I a1, I a2, I a3, I a4, I a5, I a6, I a7, I a8, I a9] -/
def F_ref04_Corners (n : Nat) (a0 : ByteArray) (a1 : Int) (a2 : Int) (a3 : Int) (a4 : Int) (a5 : Int) (a6 : Int) (a7 : Int) (a8 : Int) (a9 : Int) : Option (Int × Int × Int × Int × Int × Int × Int × Int × Int × Int × Int × Int) :=
  (F_ref04_times n (-1) a4 a5 a6).bind fun t1 =>
  (F_ref04_times n (-1) a7 a8 a9).bind fun t2 =>
  (F_ref04_plus n t1.1 t1.2.1 t1.2.2 t2.1 t2.2.1 t2.2.2).bind fun t3 =>
  (F_ref04_plus n a1 a2 a3 t3.1 t3.2.1 t3.2.2).bind fun t4 =>
  (F_ref04_plus n a4 a5 a6 t2.1 t2.2.1 t2.2.2).bind fun t5 =>
  (F_ref04_plus n a1 a2 a3 t5.1 t5.2.1 t5.2.2).bind fun t6 =>
  (F_ref04_plus n a4 a5 a6 a7 a8 a9).bind fun t7 =>
  (F_ref04_plus n a1 a2 a3 t7.1 t7.2.1 t7.2.2).bind fun t8 =>
  (F_ref04_plus n t1.1 t1.2.1 t1.2.2 a7 a8 a9).bind fun t9 =>
  (F_ref04_plus n a1 a2 a3 t9.1 t9.2.1 t9.2.2).bind fun t10 =>
  some (t4.1, t4.2.1, t4.2.2, t6.1, t6.2.1, t6.2.2, t8.1, t8.2.1, t8.2.2, t10.1, t10.2.1, t10.2.2)
theorem c_ref04_Corners {n : Nat} {a0 : ByteArray} {a1 : Int} {a2 : Int} {a3 : Int} {a4 : Int} {a5 : Int} {a6 : Int} {a7 : Int} {a8 : Int} {a9 : Int} {r : Int × Int × Int × Int × Int × Int × Int × Int × Int × Int × Int × Int} (h : F_ref04_Corners n a0 a1 a2 a3 a4 a5 a6 a7 a8 a9 = some r) : Computes cx 78 [.agg [.v (.string a0), I a1, I a2, I a3, I a4, I a5, I a6, I a7, I a8, I a9]] (.agg [I r.1, I r.2.1, I r.2.2.1, I r.2.2.2.1, I r.2.2.2.2.1, I r.2.2.2.2.2.1, I r.2.2.2.2.2.2.1, I r.2.2.2.2.2.2.2.1, I r.2.2.2.2.2.2.2.2.1, I r.2.2.2.2.2.2.2.2.2.1, I r.2.2.2.2.2.2.2.2.2.2.1, I r.2.2.2.2.2.2.2.2.2.2.2]) := by
  unfold F_ref04_Corners at h
  obtain ⟨t1, h1, h⟩ := bnd_of h
  obtain ⟨t2, h2, h⟩ := bnd_of h
  obtain ⟨t3, h3, h⟩ := bnd_of h
  obtain ⟨t4, h4, h⟩ := bnd_of h
  obtain ⟨t5, h5, h⟩ := bnd_of h
  obtain ⟨t6, h6, h⟩ := bnd_of h
  obtain ⟨t7, h7, h⟩ := bnd_of h
  obtain ⟨t8, h8, h⟩ := bnd_of h
  obtain ⟨t9, h9, h⟩ := bnd_of h
  obtain ⟨t10, h10, h⟩ := bnd_of h
  replace h := Option.some.inj h
  subst h
  exact run (n := 100) (f := 78) (args := [.agg [.v (.string a0), I a1, I a2, I a3, I a4, I a5, I a6, I a7, I a8, I a9]]) (orc := [.ret (.agg [I t1.1, I t1.2.1, I t1.2.2]), .ret (.agg [I t2.1, I t2.2.1, I t2.2.2]), .ret (.agg [I t3.1, I t3.2.1, I t3.2.2]), .ret (.agg [I t4.1, I t4.2.1, I t4.2.2]), .ret (.agg [I t2.1, I t2.2.1, I t2.2.2]), .ret (.agg [I t5.1, I t5.2.1, I t5.2.2]), .ret (.agg [I t6.1, I t6.2.1, I t6.2.2]), .ret (.agg [I t7.1, I t7.2.1, I t7.2.2]), .ret (.agg [I t8.1, I t8.2.1, I t8.2.2]), .ret (.agg [I t1.1, I t1.2.1, I t1.2.2]), .ret (.agg [I t9.1, I t9.2.1, I t9.2.2]), .ret (.agg [I t10.1, I t10.2.1, I t10.2.2])]) (r := .agg [I t4.1, I t4.2.1, I t4.2.2, I t6.1, I t6.2.1, I t6.2.2, I t8.1, I t8.2.1, I t8.2.2, I t10.1, I t10.2.1, I t10.2.2]) (ob := [Computes cx 126 [.agg [I a1, I a2, I a3], .agg [I t9.1, I t9.2.1, I t9.2.2]] (.agg [I t10.1, I t10.2.1, I t10.2.2]), Computes cx 126 [.agg [I t1.1, I t1.2.1, I t1.2.2], .agg [I a7, I a8, I a9]] (.agg [I t9.1, I t9.2.1, I t9.2.2]), Computes cx 127 [I (-1), .agg [I a4, I a5, I a6]] (.agg [I t1.1, I t1.2.1, I t1.2.2]), Computes cx 126 [.agg [I a1, I a2, I a3], .agg [I t7.1, I t7.2.1, I t7.2.2]] (.agg [I t8.1, I t8.2.1, I t8.2.2]), Computes cx 126 [.agg [I a4, I a5, I a6], .agg [I a7, I a8, I a9]] (.agg [I t7.1, I t7.2.1, I t7.2.2]), Computes cx 126 [.agg [I a1, I a2, I a3], .agg [I t5.1, I t5.2.1, I t5.2.2]] (.agg [I t6.1, I t6.2.1, I t6.2.2]), Computes cx 126 [.agg [I a4, I a5, I a6], .agg [I t2.1, I t2.2.1, I t2.2.2]] (.agg [I t5.1, I t5.2.1, I t5.2.2]), Computes cx 127 [I (-1), .agg [I a7, I a8, I a9]] (.agg [I t2.1, I t2.2.1, I t2.2.2]), Computes cx 126 [.agg [I a1, I a2, I a3], .agg [I t3.1, I t3.2.1, I t3.2.2]] (.agg [I t4.1, I t4.2.1, I t4.2.2]), Computes cx 126 [.agg [I t1.1, I t1.2.1, I t1.2.2], .agg [I t2.1, I t2.2.1, I t2.2.2]] (.agg [I t3.1, I t3.2.1, I t3.2.2]), Computes cx 127 [I (-1), .agg [I a7, I a8, I a9]] (.agg [I t2.1, I t2.2.1, I t2.2.2]), Computes cx 127 [I (-1), .agg [I a4, I a5, I a6]] (.agg [I t1.1, I t1.2.1, I t1.2.2])]) (by kernel_rfl) ⟨(c_ref04_plus h10), (c_ref04_plus h9), (c_ref04_times h1), (c_ref04_plus h8), (c_ref04_plus h7), (c_ref04_plus h6), (c_ref04_plus h5), (c_ref04_times h2), (c_ref04_plus h4), (c_ref04_plus h3), (c_ref04_times h2), (c_ref04_times h1), trivial⟩
def enc_Ai2Z (x : Int × Int) : D := .agg [I x.1, I x.2]
def un_Ai2Z : D → Option (Int × Int)
  | .agg [c0, c1] => (un_int .i64 c0).bind fun y0 => (un_int .i64 c1).bind fun y1 => some (y0, y1)
  | _ => none
theorem un_Ai2Z_ok {d : D} {x : Int × Int} (h : un_Ai2Z d = some x) : d = enc_Ai2Z x := by
  unfold un_Ai2Z at h
  split at h
  case h_2 => cases h
  obtain ⟨y0, h0, h⟩ := bnd_of h
  obtain ⟨y1, h1, h⟩ := bnd_of h
  cases h
  have e0 := un_int_ok h0
  have e1 := un_int_ok h1
  rw [e0, e1]; rfl
/- spillage/spillageref04.next: .lst false 2 a0, I a1 -/
def F_ref04_next (n : Nat) (a0 : List D) (a1 : Int) : Option (Int × Int) :=
  if inI64 (a1 + 1) then
  if ((a0).length : Int) ≠ 0 then
  (el un_Ai2Z a0 (Int.tmod (a1 + 1) ((a0).length : Int))).bind fun t3 =>
  some (t3.1, t3.2)
  else none
  else none
theorem c_ref04_next {n : Nat} {a0 : List D} {a1 : Int} {r : Int × Int} (h : F_ref04_next n a0 a1 = some r) : Computes cx 128 [.lst false 2 a0, I a1] (.agg [I r.1, I r.2]) := by
  unfold F_ref04_next at h
  obtain ⟨h1, h⟩ := grd_of h
  obtain ⟨h2, h⟩ := grd_of h
  obtain ⟨t3, h3, h⟩ := bnd_of h
  replace h := Option.some.inj h
  subst h
  exact run (n := 100) (f := 128) (args := [.lst false 2 a0, I a1]) (orc := [.el (.agg [I t3.1, I t3.2])]) (r := .agg [I t3.1, I t3.2]) (ob := [(0 : Int) ≤ (Int.tmod (a1 + 1) ((a0).length : Int)), nth (a0) (Int.toNat (Int.tmod (a1 + 1) ((a0).length : Int))) = some (.agg [I t3.1, I t3.2]), ((a0).length : Int) ≠ 0, inI64 (a1 + 1)]) (by kernel_rfl) ⟨(el_ok un_Ai2Z_ok h3).1, (el_ok un_Ai2Z_ok h3).2, h2, h1, trivial⟩
def F_ref04_Area_L1 (n : Nat) (a0 : List D) (sa : (Int × Int)) : Option (((Int × Int)) ⊕ ((Int))) :=
  if sa.2 < ((a0).length : Int) then
    (F_ref04_next n a0 sa.2).bind fun ta2 =>
    (el un_Ai2Z a0 sa.2).bind fun ta3 =>
    if inI64 (ta3.1 * ta2.2) then
    if inI64 (sa.1 + (ta3.1 * ta2.2)) then
    if inI64 (ta3.2 * ta2.1) then
    if inI64 ((sa.1 + (ta3.1 * ta2.2)) - (ta3.2 * ta2.1)) then
    if inI64 (sa.2 + 1) then
    some (.inl (((sa.1 + (ta3.1 * ta2.2)) - (ta3.2 * ta2.1)), (sa.2 + 1)))
    else none
    else none
    else none
    else none
    else none
  else
  some (.inr sa.1)
noncomputable def T_ref04_Area_L1 (a0 : List D) (sa : (Int × Int)) : List (Nat × AV) := [(0, .d (.lst false 2 a0)), (3, .d (I sa.1)), (4, .d (I sa.2))]
noncomputable def H_ref04_Area_L1 (a0 : List D) (sa : (Int × Int)) : List (Nat × Blk) := []
noncomputable def X_ref04_Area_L1 (a0 : List D) (e : (Int)) : Ex := (.exit 0)
noncomputable def XT_ref04_Area_L1 (a0 : List D) (e : (Int)) : List (Nat × AV) := [(3, .d (I e))]
noncomputable def XH_ref04_Area_L1 (a0 : List D) (e : (Int)) : List (Nat × Blk) := []
theorem R_ref04_Area_L1 {n : Nat} {a0 : List D} (sa : (Int × Int)) (r) (h : F_ref04_Area_L1 n a0 sa = some r) : Rd cx (loopAt cx.P 79 0) 35 0 false (T_ref04_Area_L1 a0) (H_ref04_Area_L1 a0) (X_ref04_Area_L1 a0) (XT_ref04_Area_L1 a0) (XH_ref04_Area_L1 a0) sa r := by
  unfold F_ref04_Area_L1 at h
  by_cases ha1 : sa.2 < ((a0).length : Int)
  · replace h := ite_t h ha1
    obtain ⟨ta2, ha2, h⟩ := bnd_of h
    obtain ⟨ta3, ha3, h⟩ := bnd_of h
    obtain ⟨ha4, h⟩ := grd_of h
    obtain ⟨ha5, h⟩ := grd_of h
    obtain ⟨ha6, h⟩ := grd_of h
    obtain ⟨ha7, h⟩ := grd_of h
    obtain ⟨ha8, h⟩ := grd_of h
    replace h := Option.some.inj h
    subst h
    exact ⟨100, 3, [.br true, .ret (.agg [I ta2.1, I ta2.2]), .el (.agg [I ta3.1, I ta3.2]), .el (.agg [I ta3.1, I ta3.2])], [], [0, 3, 4], [], round_of (ob := [inI64 (sa.2 + 1), inI64 ((sa.1 + (ta3.1 * ta2.2)) - (ta3.2 * ta2.1)), inI64 (ta3.2 * ta2.1), (0 : Int) ≤ sa.2, nth (a0) (Int.toNat sa.2) = some (.agg [I ta3.1, I ta3.2]), inI64 (sa.1 + (ta3.1 * ta2.2)), inI64 (ta3.1 * ta2.2), (0 : Int) ≤ sa.2, nth (a0) (Int.toNat sa.2) = some (.agg [I ta3.1, I ta3.2]), Computes cx 128 [.lst false 2 a0, I sa.2] (.agg [I ta2.1, I ta2.2]), (decide (sa.2 < ((a0).length : Int))) = true]) (by kernel_rfl) ⟨ha8, ha7, ha6, (el_ok un_Ai2Z_ok ha3).1, (el_ok un_Ai2Z_ok ha3).2, ha5, ha4, (el_ok un_Ai2Z_ok ha3).1, (el_ok un_Ai2Z_ok ha3).2, (c_ref04_next ha2), (decide_eq_true ha1), trivial⟩⟩
  · replace h := ite_f h ha1
    replace h := Option.some.inj h
    subst h
    exact ⟨⟨100, 3, [.br false], [], [3], [], round_of (ob := [(decide (sa.2 < ((a0).length : Int))) = false]) (by kernel_rfl) ⟨(decide_eq_false ha1), trivial⟩⟩, nofun⟩
/- spillage/spillageref04.Area: .lst false 2 a0 -/
def F_ref04_Area (n : Nat) (a0 : List D) : Option (Int) :=
  (loopF (F_ref04_Area_L1 n a0) n (0, 0)).bind fun t1 =>
  some t1
theorem c_ref04_Area {n : Nat} {a0 : List D} {r : Int} (h : F_ref04_Area n a0 = some r) : Computes cx 79 [.lst false 2 a0] (I r) := by
  unfold F_ref04_Area at h
  obtain ⟨t1, h1, h⟩ := bnd_of h
  replace h := Option.some.inj h
  subst h
  exact run (n := 100) (f := 79) (args := [.lst false 2 a0]) (orc := [.lp [] [0, 3, 4] [] (.exit 0) [(3, .d (I t1))] [] 46]) (r := I t1) (ob := [LoopN cx (loopAt cx.P 79 0) 35 0 false [(0, .d (.lst false 2 a0)), (3, .d (I 0)), (4, .d (I 0))] [] (.exit 0) [(3, .d (I t1))] []]) (by kernel_rfl) ⟨(loopF_to R_ref04_Area_L1 h1), trivial⟩
/- spillage/spillageref04.Shadow: .agg [.v (.string a0), I a1, I a2, I a3, I a4, I a5, I a6, I a7, I a8, I a9], .agg [I a10, I a11, I a12] -/
def F_ref04_Shadow (n : Nat) (a0 : ByteArray) (a1 : Int) (a2 : Int) (a3 : Int) (a4 : Int) (a5 : Int) (a6 : Int) (a7 : Int) (a8 : Int) (a9 : Int) (a10 : Int) (a11 : Int) (a12 : Int) : Option (List D × Int) :=
  (F_ref04_Corners n a0 a1 a2 a3 a4 a5 a6 a7 a8 a9).bind fun t1 =>
  if inI64 (t1.1 * a12) then
  if inI64 (t1.2.2.1 * a10) then
  if inI64 ((t1.1 * a12) - (t1.2.2.1 * a10)) then
  if inI64 (t1.2.1 * a12) then
  if inI64 (t1.2.2.1 * a11) then
  if inI64 ((t1.2.1 * a12) - (t1.2.2.1 * a11)) then
  if inI64 (t1.2.2.2.1 * a12) then
  if inI64 (t1.2.2.2.2.2.1 * a10) then
  if inI64 ((t1.2.2.2.1 * a12) - (t1.2.2.2.2.2.1 * a10)) then
  if inI64 (t1.2.2.2.2.1 * a12) then
  if inI64 (t1.2.2.2.2.2.1 * a11) then
  if inI64 ((t1.2.2.2.2.1 * a12) - (t1.2.2.2.2.2.1 * a11)) then
  if inI64 (t1.2.2.2.2.2.2.1 * a12) then
  if inI64 (t1.2.2.2.2.2.2.2.2.1 * a10) then
  if inI64 ((t1.2.2.2.2.2.2.1 * a12) - (t1.2.2.2.2.2.2.2.2.1 * a10)) then
  if inI64 (t1.2.2.2.2.2.2.2.1 * a12) then
  if inI64 (t1.2.2.2.2.2.2.2.2.1 * a11) then
  if inI64 ((t1.2.2.2.2.2.2.2.1 * a12) - (t1.2.2.2.2.2.2.2.2.1 * a11)) then
  if inI64 (t1.2.2.2.2.2.2.2.2.2.1 * a12) then
  if inI64 (t1.2.2.2.2.2.2.2.2.2.2.2 * a10) then
  if inI64 ((t1.2.2.2.2.2.2.2.2.2.1 * a12) - (t1.2.2.2.2.2.2.2.2.2.2.2 * a10)) then
  if inI64 (t1.2.2.2.2.2.2.2.2.2.2.1 * a12) then
  if inI64 (t1.2.2.2.2.2.2.2.2.2.2.2 * a11) then
  if inI64 ((t1.2.2.2.2.2.2.2.2.2.2.1 * a12) - (t1.2.2.2.2.2.2.2.2.2.2.2 * a11)) then
  (F_ref04_Area n ([.agg [I ((t1.1 * a12) - (t1.2.2.1 * a10)), I ((t1.2.1 * a12) - (t1.2.2.1 * a11))], .agg [I ((t1.2.2.2.1 * a12) - (t1.2.2.2.2.2.1 * a10)), I ((t1.2.2.2.2.1 * a12) - (t1.2.2.2.2.2.1 * a11))], .agg [I ((t1.2.2.2.2.2.2.1 * a12) - (t1.2.2.2.2.2.2.2.2.1 * a10)), I ((t1.2.2.2.2.2.2.2.1 * a12) - (t1.2.2.2.2.2.2.2.2.1 * a11))], .agg [I ((t1.2.2.2.2.2.2.2.2.2.1 * a12) - (t1.2.2.2.2.2.2.2.2.2.2.2 * a10)), I ((t1.2.2.2.2.2.2.2.2.2.2.1 * a12) - (t1.2.2.2.2.2.2.2.2.2.2.2 * a11))]])).bind fun t26 =>
  if t26 < 0 then
    (F_ref04_Area n ([.agg [I ((t1.1 * a12) - (t1.2.2.1 * a10)), I ((t1.2.1 * a12) - (t1.2.2.1 * a11))], .agg [I ((t1.2.2.2.2.2.2.2.2.2.1 * a12) - (t1.2.2.2.2.2.2.2.2.2.2.2 * a10)), I ((t1.2.2.2.2.2.2.2.2.2.2.1 * a12) - (t1.2.2.2.2.2.2.2.2.2.2.2 * a11))], .agg [I ((t1.2.2.2.2.2.2.1 * a12) - (t1.2.2.2.2.2.2.2.2.1 * a10)), I ((t1.2.2.2.2.2.2.2.1 * a12) - (t1.2.2.2.2.2.2.2.2.1 * a11))], .agg [I ((t1.2.2.2.1 * a12) - (t1.2.2.2.2.2.1 * a10)), I ((t1.2.2.2.2.1 * a12) - (t1.2.2.2.2.2.1 * a11))]])).bind fun t28 =>
    if t28 = 0 then
      some ([], 17)
    else
    some ([.agg [I ((t1.1 * a12) - (t1.2.2.1 * a10)), I ((t1.2.1 * a12) - (t1.2.2.1 * a11))], .agg [I ((t1.2.2.2.2.2.2.2.2.2.1 * a12) - (t1.2.2.2.2.2.2.2.2.2.2.2 * a10)), I ((t1.2.2.2.2.2.2.2.2.2.2.1 * a12) - (t1.2.2.2.2.2.2.2.2.2.2.2 * a11))], .agg [I ((t1.2.2.2.2.2.2.1 * a12) - (t1.2.2.2.2.2.2.2.2.1 * a10)), I ((t1.2.2.2.2.2.2.2.1 * a12) - (t1.2.2.2.2.2.2.2.2.1 * a11))], .agg [I ((t1.2.2.2.1 * a12) - (t1.2.2.2.2.2.1 * a10)), I ((t1.2.2.2.2.1 * a12) - (t1.2.2.2.2.2.1 * a11))]], 0)
  else
  if t26 = 0 then
    some ([], 17)
  else
  some ([.agg [I ((t1.1 * a12) - (t1.2.2.1 * a10)), I ((t1.2.1 * a12) - (t1.2.2.1 * a11))], .agg [I ((t1.2.2.2.1 * a12) - (t1.2.2.2.2.2.1 * a10)), I ((t1.2.2.2.2.1 * a12) - (t1.2.2.2.2.2.1 * a11))], .agg [I ((t1.2.2.2.2.2.2.1 * a12) - (t1.2.2.2.2.2.2.2.2.1 * a10)), I ((t1.2.2.2.2.2.2.2.1 * a12) - (t1.2.2.2.2.2.2.2.2.1 * a11))], .agg [I ((t1.2.2.2.2.2.2.2.2.2.1 * a12) - (t1.2.2.2.2.2.2.2.2.2.2.2 * a10)), I ((t1.2.2.2.2.2.2.2.2.2.2.1 * a12) - (t1.2.2.2.2.2.2.2.2.2.2.2 * a11))]], 0)
  else none
  else none
  else none
  else none
  else none
  else none
  else none
  else none
  else none
  else none
  else none
  else none
  else none
  else none
  else none
  else none
  else none
  else none
  else none
  else none
  else none
  else none
  else none
  else none
theorem c_ref04_Shadow {n : Nat} {a0 : ByteArray} {a1 : Int} {a2 : Int} {a3 : Int} {a4 : Int} {a5 : Int} {a6 : Int} {a7 : Int} {a8 : Int} {a9 : Int} {a10 : Int} {a11 : Int} {a12 : Int} {r : List D × Int} (h : F_ref04_Shadow n a0 a1 a2 a3 a4 a5 a6 a7 a8 a9 a10 a11 a12 = some r) : Computes cx 18 [.agg [.v (.string a0), I a1, I a2, I a3, I a4, I a5, I a6, I a7, I a8, I a9], .agg [I a10, I a11, I a12]] (.tup [.lst false 2 r.1, I r.2]) := by
  unfold F_ref04_Shadow at h
  obtain ⟨t1, h1, h⟩ := bnd_of h
  obtain ⟨h2, h⟩ := grd_of h
  obtain ⟨h3, h⟩ := grd_of h
  obtain ⟨h4, h⟩ := grd_of h
  obtain ⟨h5, h⟩ := grd_of h
  obtain ⟨h6, h⟩ := grd_of h
  obtain ⟨h7, h⟩ := grd_of h
  obtain ⟨h8, h⟩ := grd_of h
  obtain ⟨h9, h⟩ := grd_of h
  obtain ⟨h10, h⟩ := grd_of h
  obtain ⟨h11, h⟩ := grd_of h
  obtain ⟨h12, h⟩ := grd_of h
  obtain ⟨h13, h⟩ := grd_of h
  obtain ⟨h14, h⟩ := grd_of h
  obtain ⟨h15, h⟩ := grd_of h
  obtain ⟨h16, h⟩ := grd_of h
  obtain ⟨h17, h⟩ := grd_of h
  obtain ⟨h18, h⟩ := grd_of h
  obtain ⟨h19, h⟩ := grd_of h
  obtain ⟨h20, h⟩ := grd_of h
  obtain ⟨h21, h⟩ := grd_of h
  obtain ⟨h22, h⟩ := grd_of h
  obtain ⟨h23, h⟩ := grd_of h
  obtain ⟨h24, h⟩ := grd_of h
  obtain ⟨h25, h⟩ := grd_of h
  obtain ⟨t26, h26, h⟩ := bnd_of h
  by_cases h27 : t26 < 0
  · replace h := ite_t h h27
    obtain ⟨t28, h28, h⟩ := bnd_of h
    by_cases h29 : t28 = 0
    · replace h := ite_t h h29
      replace h := Option.some.inj h
      subst h
      exact (run (n := 100) (f := 18) (args := [.agg [.v (.string a0), I a1, I a2, I a3, I a4, I a5, I a6, I a7, I a8, I a9], .agg [I a10, I a11, I a12]]) (orc := [.ret (.agg [I t1.1, I t1.2.1, I t1.2.2.1, I t1.2.2.2.1, I t1.2.2.2.2.1, I t1.2.2.2.2.2.1, I t1.2.2.2.2.2.2.1, I t1.2.2.2.2.2.2.2.1, I t1.2.2.2.2.2.2.2.2.1, I t1.2.2.2.2.2.2.2.2.2.1, I t1.2.2.2.2.2.2.2.2.2.2.1, I t1.2.2.2.2.2.2.2.2.2.2.2]), .no, .no, .no, .no, .no, .no, .no, .no, .no, .no, .no, .no, .no, .no, .no, .ret (I t26), .br true, .no, .no, .no, .no, .ret (I t28), .br true]) (r := .tup [.lst true 0 [], I 17]) (ob := [(t28 == 0) = true, Computes cx 79 [.lst true 2 [.agg [I ((t1.1 * a12) - (t1.2.2.1 * a10)), I ((t1.2.1 * a12) - (t1.2.2.1 * a11))], .agg [I ((t1.2.2.2.2.2.2.2.2.2.1 * a12) - (t1.2.2.2.2.2.2.2.2.2.2.2 * a10)), I ((t1.2.2.2.2.2.2.2.2.2.2.1 * a12) - (t1.2.2.2.2.2.2.2.2.2.2.2 * a11))], .agg [I ((t1.2.2.2.2.2.2.1 * a12) - (t1.2.2.2.2.2.2.2.2.1 * a10)), I ((t1.2.2.2.2.2.2.2.1 * a12) - (t1.2.2.2.2.2.2.2.2.1 * a11))], .agg [I ((t1.2.2.2.1 * a12) - (t1.2.2.2.2.2.1 * a10)), I ((t1.2.2.2.2.1 * a12) - (t1.2.2.2.2.2.1 * a11))]]] (I t28), (decide (t26 < 0)) = true, Computes cx 79 [.lst false 2 [.agg [I ((t1.1 * a12) - (t1.2.2.1 * a10)), I ((t1.2.1 * a12) - (t1.2.2.1 * a11))], .agg [I ((t1.2.2.2.1 * a12) - (t1.2.2.2.2.2.1 * a10)), I ((t1.2.2.2.2.1 * a12) - (t1.2.2.2.2.2.1 * a11))], .agg [I ((t1.2.2.2.2.2.2.1 * a12) - (t1.2.2.2.2.2.2.2.2.1 * a10)), I ((t1.2.2.2.2.2.2.2.1 * a12) - (t1.2.2.2.2.2.2.2.2.1 * a11))], .agg [I ((t1.2.2.2.2.2.2.2.2.2.1 * a12) - (t1.2.2.2.2.2.2.2.2.2.2.2 * a10)), I ((t1.2.2.2.2.2.2.2.2.2.2.1 * a12) - (t1.2.2.2.2.2.2.2.2.2.2.2 * a11))]]] (I t26), inI64 4, inI64 ((t1.2.2.2.2.2.2.2.2.2.2.1 * a12) - (t1.2.2.2.2.2.2.2.2.2.2.2 * a11)), inI64 (t1.2.2.2.2.2.2.2.2.2.2.2 * a11), inI64 (t1.2.2.2.2.2.2.2.2.2.2.1 * a12), inI64 ((t1.2.2.2.2.2.2.2.2.2.1 * a12) - (t1.2.2.2.2.2.2.2.2.2.2.2 * a10)), inI64 (t1.2.2.2.2.2.2.2.2.2.2.2 * a10), inI64 (t1.2.2.2.2.2.2.2.2.2.1 * a12), inI64 3, inI64 ((t1.2.2.2.2.2.2.2.1 * a12) - (t1.2.2.2.2.2.2.2.2.1 * a11)), inI64 (t1.2.2.2.2.2.2.2.2.1 * a11), inI64 (t1.2.2.2.2.2.2.2.1 * a12), inI64 ((t1.2.2.2.2.2.2.1 * a12) - (t1.2.2.2.2.2.2.2.2.1 * a10)), inI64 (t1.2.2.2.2.2.2.2.2.1 * a10), inI64 (t1.2.2.2.2.2.2.1 * a12), inI64 2, inI64 ((t1.2.2.2.2.1 * a12) - (t1.2.2.2.2.2.1 * a11)), inI64 (t1.2.2.2.2.2.1 * a11), inI64 (t1.2.2.2.2.1 * a12), inI64 ((t1.2.2.2.1 * a12) - (t1.2.2.2.2.2.1 * a10)), inI64 (t1.2.2.2.2.2.1 * a10), inI64 (t1.2.2.2.1 * a12), inI64 1, inI64 ((t1.2.1 * a12) - (t1.2.2.1 * a11)), inI64 (t1.2.2.1 * a11), inI64 (t1.2.1 * a12), inI64 ((t1.1 * a12) - (t1.2.2.1 * a10)), inI64 (t1.2.2.1 * a10), inI64 (t1.1 * a12), Computes cx 78 [.agg [.v (.string a0), I a1, I a2, I a3, I a4, I a5, I a6, I a7, I a8, I a9]] (.agg [I t1.1, I t1.2.1, I t1.2.2.1, I t1.2.2.2.1, I t1.2.2.2.2.1, I t1.2.2.2.2.2.1, I t1.2.2.2.2.2.2.1, I t1.2.2.2.2.2.2.2.1, I t1.2.2.2.2.2.2.2.2.1, I t1.2.2.2.2.2.2.2.2.2.1, I t1.2.2.2.2.2.2.2.2.2.2.1, I t1.2.2.2.2.2.2.2.2.2.2.2])]) (by kernel_rfl) ⟨(eqt h29), ((c_ref04_Area h28).le (.cons (.full _ _ _) (.nil)) (.refl _)), (decide_eq_true h27), (c_ref04_Area h26), (by unfold inI64; omega), h25, h24, h23, h22, h21, h20, (by unfold inI64; omega), h19, h18, h17, h16, h15, h14, (by unfold inI64; omega), h13, h12, h11, h10, h9, h8, (by unfold inI64; omega), h7, h6, h5, h4, h3, h2, (c_ref04_Corners h1), trivial⟩).le (LEs.refl _) (.tups (.cons (.lst _ _ _ _ _ nofun (.inl rfl)) (.cons (.refl _) (.nil))))
    · replace h := ite_f h h29
      replace h := Option.some.inj h
      subst h
      exact (run (n := 100) (f := 18) (args := [.agg [.v (.string a0), I a1, I a2, I a3, I a4, I a5, I a6, I a7, I a8, I a9], .agg [I a10, I a11, I a12]]) (orc := [.ret (.agg [I t1.1, I t1.2.1, I t1.2.2.1, I t1.2.2.2.1, I t1.2.2.2.2.1, I t1.2.2.2.2.2.1, I t1.2.2.2.2.2.2.1, I t1.2.2.2.2.2.2.2.1, I t1.2.2.2.2.2.2.2.2.1, I t1.2.2.2.2.2.2.2.2.2.1, I t1.2.2.2.2.2.2.2.2.2.2.1, I t1.2.2.2.2.2.2.2.2.2.2.2]), .no, .no, .no, .no, .no, .no, .no, .no, .no, .no, .no, .no, .no, .no, .no, .ret (I t26), .br true, .no, .no, .no, .no, .ret (I t28), .br false]) (r := .tup [.lst true 2 [.agg [I ((t1.1 * a12) - (t1.2.2.1 * a10)), I ((t1.2.1 * a12) - (t1.2.2.1 * a11))], .agg [I ((t1.2.2.2.2.2.2.2.2.2.1 * a12) - (t1.2.2.2.2.2.2.2.2.2.2.2 * a10)), I ((t1.2.2.2.2.2.2.2.2.2.2.1 * a12) - (t1.2.2.2.2.2.2.2.2.2.2.2 * a11))], .agg [I ((t1.2.2.2.2.2.2.1 * a12) - (t1.2.2.2.2.2.2.2.2.1 * a10)), I ((t1.2.2.2.2.2.2.2.1 * a12) - (t1.2.2.2.2.2.2.2.2.1 * a11))], .agg [I ((t1.2.2.2.1 * a12) - (t1.2.2.2.2.2.1 * a10)), I ((t1.2.2.2.2.1 * a12) - (t1.2.2.2.2.2.1 * a11))]], I 0]) (ob := [(t28 == 0) = false, Computes cx 79 [.lst true 2 [.agg [I ((t1.1 * a12) - (t1.2.2.1 * a10)), I ((t1.2.1 * a12) - (t1.2.2.1 * a11))], .agg [I ((t1.2.2.2.2.2.2.2.2.2.1 * a12) - (t1.2.2.2.2.2.2.2.2.2.2.2 * a10)), I ((t1.2.2.2.2.2.2.2.2.2.2.1 * a12) - (t1.2.2.2.2.2.2.2.2.2.2.2 * a11))], .agg [I ((t1.2.2.2.2.2.2.1 * a12) - (t1.2.2.2.2.2.2.2.2.1 * a10)), I ((t1.2.2.2.2.2.2.2.1 * a12) - (t1.2.2.2.2.2.2.2.2.1 * a11))], .agg [I ((t1.2.2.2.1 * a12) - (t1.2.2.2.2.2.1 * a10)), I ((t1.2.2.2.2.1 * a12) - (t1.2.2.2.2.2.1 * a11))]]] (I t28), (decide (t26 < 0)) = true, Computes cx 79 [.lst false 2 [.agg [I ((t1.1 * a12) - (t1.2.2.1 * a10)), I ((t1.2.1 * a12) - (t1.2.2.1 * a11))], .agg [I ((t1.2.2.2.1 * a12) - (t1.2.2.2.2.2.1 * a10)), I ((t1.2.2.2.2.1 * a12) - (t1.2.2.2.2.2.1 * a11))], .agg [I ((t1.2.2.2.2.2.2.1 * a12) - (t1.2.2.2.2.2.2.2.2.1 * a10)), I ((t1.2.2.2.2.2.2.2.1 * a12) - (t1.2.2.2.2.2.2.2.2.1 * a11))], .agg [I ((t1.2.2.2.2.2.2.2.2.2.1 * a12) - (t1.2.2.2.2.2.2.2.2.2.2.2 * a10)), I ((t1.2.2.2.2.2.2.2.2.2.2.1 * a12) - (t1.2.2.2.2.2.2.2.2.2.2.2 * a11))]]] (I t26), inI64 4, inI64 ((t1.2.2.2.2.2.2.2.2.2.2.1 * a12) - (t1.2.2.2.2.2.2.2.2.2.2.2 * a11)), inI64 (t1.2.2.2.2.2.2.2.2.2.2.2 * a11), inI64 (t1.2.2.2.2.2.2.2.2.2.2.1 * a12), inI64 ((t1.2.2.2.2.2.2.2.2.2.1 * a12) - (t1.2.2.2.2.2.2.2.2.2.2.2 * a10)), inI64 (t1.2.2.2.2.2.2.2.2.2.2.2 * a10), inI64 (t1.2.2.2.2.2.2.2.2.2.1 * a12), inI64 3, inI64 ((t1.2.2.2.2.2.2.2.1 * a12) - (t1.2.2.2.2.2.2.2.2.1 * a11)), inI64 (t1.2.2.2.2.2.2.2.2.1 * a11), inI64 (t1.2.2.2.2.2.2.2.1 * a12), inI64 ((t1.2.2.2.2.2.2.1 * a12) - (t1.2.2.2.2.2.2.2.2.1 * a10)), inI64 (t1.2.2.2.2.2.2.2.2.1 * a10), inI64 (t1.2.2.2.2.2.2.1 * a12), inI64 2, inI64 ((t1.2.2.2.2.1 * a12) - (t1.2.2.2.2.2.1 * a11)), inI64 (t1.2.2.2.2.2.1 * a11), inI64 (t1.2.2.2.2.1 * a12), inI64 ((t1.2.2.2.1 * a12) - (t1.2.2.2.2.2.1 * a10)), inI64 (t1.2.2.2.2.2.1 * a10), inI64 (t1.2.2.2.1 * a12), inI64 1, inI64 ((t1.2.1 * a12) - (t1.2.2.1 * a11)), inI64 (t1.2.2.1 * a11), inI64 (t1.2.1 * a12), inI64 ((t1.1 * a12) - (t1.2.2.1 * a10)), inI64 (t1.2.2.1 * a10), inI64 (t1.1 * a12), Computes cx 78 [.agg [.v (.string a0), I a1, I a2, I a3, I a4, I a5, I a6, I a7, I a8, I a9]] (.agg [I t1.1, I t1.2.1, I t1.2.2.1, I t1.2.2.2.1, I t1.2.2.2.2.1, I t1.2.2.2.2.2.1, I t1.2.2.2.2.2.2.1, I t1.2.2.2.2.2.2.2.1, I t1.2.2.2.2.2.2.2.2.1, I t1.2.2.2.2.2.2.2.2.2.1, I t1.2.2.2.2.2.2.2.2.2.2.1, I t1.2.2.2.2.2.2.2.2.2.2.2])]) (by kernel_rfl) ⟨(eqf h29), ((c_ref04_Area h28).le (.cons (.full _ _ _) (.nil)) (.refl _)), (decide_eq_true h27), (c_ref04_Area h26), (by unfold inI64; omega), h25, h24, h23, h22, h21, h20, (by unfold inI64; omega), h19, h18, h17, h16, h15, h14, (by unfold inI64; omega), h13, h12, h11, h10, h9, h8, (by unfold inI64; omega), h7, h6, h5, h4, h3, h2, (c_ref04_Corners h1), trivial⟩).le (LEs.refl _) (.tups (.cons (.full _ _ _) (.cons (.refl _) (.nil))))
  · replace h := ite_f h h27
    by_cases h28 : t26 = 0
    · replace h := ite_t h h28
      replace h := Option.some.inj h
      subst h
      exact (run (n := 100) (f := 18) (args := [.agg [.v (.string a0), I a1, I a2, I a3, I a4, I a5, I a6, I a7, I a8, I a9], .agg [I a10, I a11, I a12]]) (orc := [.ret (.agg [I t1.1, I t1.2.1, I t1.2.2.1, I t1.2.2.2.1, I t1.2.2.2.2.1, I t1.2.2.2.2.2.1, I t1.2.2.2.2.2.2.1, I t1.2.2.2.2.2.2.2.1, I t1.2.2.2.2.2.2.2.2.1, I t1.2.2.2.2.2.2.2.2.2.1, I t1.2.2.2.2.2.2.2.2.2.2.1, I t1.2.2.2.2.2.2.2.2.2.2.2]), .no, .no, .no, .no, .no, .no, .no, .no, .no, .no, .no, .no, .no, .no, .no, .ret (I t26), .br false, .ret (I t26), .br true]) (r := .tup [.lst true 0 [], I 17]) (ob := [(t26 == 0) = true, Computes cx 79 [.lst false 2 [.agg [I ((t1.1 * a12) - (t1.2.2.1 * a10)), I ((t1.2.1 * a12) - (t1.2.2.1 * a11))], .agg [I ((t1.2.2.2.1 * a12) - (t1.2.2.2.2.2.1 * a10)), I ((t1.2.2.2.2.1 * a12) - (t1.2.2.2.2.2.1 * a11))], .agg [I ((t1.2.2.2.2.2.2.1 * a12) - (t1.2.2.2.2.2.2.2.2.1 * a10)), I ((t1.2.2.2.2.2.2.2.1 * a12) - (t1.2.2.2.2.2.2.2.2.1 * a11))], .agg [I ((t1.2.2.2.2.2.2.2.2.2.1 * a12) - (t1.2.2.2.2.2.2.2.2.2.2.2 * a10)), I ((t1.2.2.2.2.2.2.2.2.2.2.1 * a12) - (t1.2.2.2.2.2.2.2.2.2.2.2 * a11))]]] (I t26), (decide (t26 < 0)) = false, Computes cx 79 [.lst false 2 [.agg [I ((t1.1 * a12) - (t1.2.2.1 * a10)), I ((t1.2.1 * a12) - (t1.2.2.1 * a11))], .agg [I ((t1.2.2.2.1 * a12) - (t1.2.2.2.2.2.1 * a10)), I ((t1.2.2.2.2.1 * a12) - (t1.2.2.2.2.2.1 * a11))], .agg [I ((t1.2.2.2.2.2.2.1 * a12) - (t1.2.2.2.2.2.2.2.2.1 * a10)), I ((t1.2.2.2.2.2.2.2.1 * a12) - (t1.2.2.2.2.2.2.2.2.1 * a11))], .agg [I ((t1.2.2.2.2.2.2.2.2.2.1 * a12) - (t1.2.2.2.2.2.2.2.2.2.2.2 * a10)), I ((t1.2.2.2.2.2.2.2.2.2.2.1 * a12) - (t1.2.2.2.2.2.2.2.2.2.2.2 * a11))]]] (I t26), inI64 4, inI64 ((t1.2.2.2.2.2.2.2.2.2.2.1 * a12) - (t1.2.2.2.2.2.2.2.2.2.2.2 * a11)), inI64 (t1.2.2.2.2.2.2.2.2.2.2.2 * a11), inI64 (t1.2.2.2.2.2.2.2.2.2.2.1 * a12), inI64 ((t1.2.2.2.2.2.2.2.2.2.1 * a12) - (t1.2.2.2.2.2.2.2.2.2.2.2 * a10)), inI64 (t1.2.2.2.2.2.2.2.2.2.2.2 * a10), inI64 (t1.2.2.2.2.2.2.2.2.2.1 * a12), inI64 3, inI64 ((t1.2.2.2.2.2.2.2.1 * a12) - (t1.2.2.2.2.2.2.2.2.1 * a11)), inI64 (t1.2.2.2.2.2.2.2.2.1 * a11), inI64 (t1.2.2.2.2.2.2.2.1 * a12), inI64 ((t1.2.2.2.2.2.2.1 * a12) - (t1.2.2.2.2.2.2.2.2.1 * a10)), inI64 (t1.2.2.2.2.2.2.2.2.1 * a10), inI64 (t1.2.2.2.2.2.2.1 * a12), inI64 2, inI64 ((t1.2.2.2.2.1 * a12) - (t1.2.2.2.2.2.1 * a11)), inI64 (t1.2.2.2.2.2.1 * a11), inI64 (t1.2.2.2.2.1 * a12), inI64 ((t1.2.2.2.1 * a12) - (t1.2.2.2.2.2.1 * a10)), inI64 (t1.2.2.2.2.2.1 * a10), inI64 (t1.2.2.2.1 * a12), inI64 1, inI64 ((t1.2.1 * a12) - (t1.2.2.1 * a11)), inI64 (t1.2.2.1 * a11), inI64 (t1.2.1 * a12), inI64 ((t1.1 * a12) - (t1.2.2.1 * a10)), inI64 (t1.2.2.1 * a10), inI64 (t1.1 * a12), Computes cx 78 [.agg [.v (.string a0), I a1, I a2, I a3, I a4, I a5, I a6, I a7, I a8, I a9]] (.agg [I t1.1, I t1.2.1, I t1.2.2.1, I t1.2.2.2.1, I t1.2.2.2.2.1, I t1.2.2.2.2.2.1, I t1.2.2.2.2.2.2.1, I t1.2.2.2.2.2.2.2.1, I t1.2.2.2.2.2.2.2.2.1, I t1.2.2.2.2.2.2.2.2.2.1, I t1.2.2.2.2.2.2.2.2.2.2.1, I t1.2.2.2.2.2.2.2.2.2.2.2])]) (by kernel_rfl) ⟨(eqt h28), (c_ref04_Area h26), (decide_eq_false h27), (c_ref04_Area h26), (by unfold inI64; omega), h25, h24, h23, h22, h21, h20, (by unfold inI64; omega), h19, h18, h17, h16, h15, h14, (by unfold inI64; omega), h13, h12, h11, h10, h9, h8, (by unfold inI64; omega), h7, h6, h5, h4, h3, h2, (c_ref04_Corners h1), trivial⟩).le (LEs.refl _) (.tups (.cons (.lst _ _ _ _ _ nofun (.inl rfl)) (.cons (.refl _) (.nil))))
    · replace h := ite_f h h28
      replace h := Option.some.inj h
      subst h
      exact run (n := 100) (f := 18) (args := [.agg [.v (.string a0), I a1, I a2, I a3, I a4, I a5, I a6, I a7, I a8, I a9], .agg [I a10, I a11, I a12]]) (orc := [.ret (.agg [I t1.1, I t1.2.1, I t1.2.2.1, I t1.2.2.2.1, I t1.2.2.2.2.1, I t1.2.2.2.2.2.1, I t1.2.2.2.2.2.2.1, I t1.2.2.2.2.2.2.2.1, I t1.2.2.2.2.2.2.2.2.1, I t1.2.2.2.2.2.2.2.2.2.1, I t1.2.2.2.2.2.2.2.2.2.2.1, I t1.2.2.2.2.2.2.2.2.2.2.2]), .no, .no, .no, .no, .no, .no, .no, .no, .no, .no, .no, .no, .no, .no, .no, .ret (I t26), .br false, .ret (I t26), .br false]) (r := .tup [.lst false 2 [.agg [I ((t1.1 * a12) - (t1.2.2.1 * a10)), I ((t1.2.1 * a12) - (t1.2.2.1 * a11))], .agg [I ((t1.2.2.2.1 * a12) - (t1.2.2.2.2.2.1 * a10)), I ((t1.2.2.2.2.1 * a12) - (t1.2.2.2.2.2.1 * a11))], .agg [I ((t1.2.2.2.2.2.2.1 * a12) - (t1.2.2.2.2.2.2.2.2.1 * a10)), I ((t1.2.2.2.2.2.2.2.1 * a12) - (t1.2.2.2.2.2.2.2.2.1 * a11))], .agg [I ((t1.2.2.2.2.2.2.2.2.2.1 * a12) - (t1.2.2.2.2.2.2.2.2.2.2.2 * a10)), I ((t1.2.2.2.2.2.2.2.2.2.2.1 * a12) - (t1.2.2.2.2.2.2.2.2.2.2.2 * a11))]], I 0]) (ob := [(t26 == 0) = false, Computes cx 79 [.lst false 2 [.agg [I ((t1.1 * a12) - (t1.2.2.1 * a10)), I ((t1.2.1 * a12) - (t1.2.2.1 * a11))], .agg [I ((t1.2.2.2.1 * a12) - (t1.2.2.2.2.2.1 * a10)), I ((t1.2.2.2.2.1 * a12) - (t1.2.2.2.2.2.1 * a11))], .agg [I ((t1.2.2.2.2.2.2.1 * a12) - (t1.2.2.2.2.2.2.2.2.1 * a10)), I ((t1.2.2.2.2.2.2.2.1 * a12) - (t1.2.2.2.2.2.2.2.2.1 * a11))], .agg [I ((t1.2.2.2.2.2.2.2.2.2.1 * a12) - (t1.2.2.2.2.2.2.2.2.2.2.2 * a10)), I ((t1.2.2.2.2.2.2.2.2.2.2.1 * a12) - (t1.2.2.2.2.2.2.2.2.2.2.2 * a11))]]] (I t26), (decide (t26 < 0)) = false, Computes cx 79 [.lst false 2 [.agg [I ((t1.1 * a12) - (t1.2.2.1 * a10)), I ((t1.2.1 * a12) - (t1.2.2.1 * a11))], .agg [I ((t1.2.2.2.1 * a12) - (t1.2.2.2.2.2.1 * a10)), I ((t1.2.2.2.2.1 * a12) - (t1.2.2.2.2.2.1 * a11))], .agg [I ((t1.2.2.2.2.2.2.1 * a12) - (t1.2.2.2.2.2.2.2.2.1 * a10)), I ((t1.2.2.2.2.2.2.2.1 * a12) - (t1.2.2.2.2.2.2.2.2.1 * a11))], .agg [I ((t1.2.2.2.2.2.2.2.2.2.1 * a12) - (t1.2.2.2.2.2.2.2.2.2.2.2 * a10)), I ((t1.2.2.2.2.2.2.2.2.2.2.1 * a12) - (t1.2.2.2.2.2.2.2.2.2.2.2 * a11))]]] (I t26), inI64 4, inI64 ((t1.2.2.2.2.2.2.2.2.2.2.1 * a12) - (t1.2.2.2.2.2.2.2.2.2.2.2 * a11)), inI64 (t1.2.2.2.2.2.2.2.2.2.2.2 * a11), inI64 (t1.2.2.2.2.2.2.2.2.2.2.1 * a12), inI64 ((t1.2.2.2.2.2.2.2.2.2.1 * a12) - (t1.2.2.2.2.2.2.2.2.2.2.2 * a10)), inI64 (t1.2.2.2.2.2.2.2.2.2.2.2 * a10), inI64 (t1.2.2.2.2.2.2.2.2.2.1 * a12), inI64 3, inI64 ((t1.2.2.2.2.2.2.2.1 * a12) - (t1.2.2.2.2.2.2.2.2.1 * a11)), inI64 (t1.2.2.2.2.2.2.2.2.1 * a11), inI64 (t1.2.2.2.2.2.2.2.1 * a12), inI64 ((t1.2.2.2.2.2.2.1 * a12) - (t1.2.2.2.2.2.2.2.2.1 * a10)), inI64 (t1.2.2.2.2.2.2.2.2.1 * a10), inI64 (t1.2.2.2.2.2.2.1 * a12), inI64 2, inI64 ((t1.2.2.2.2.1 * a12) - (t1.2.2.2.2.2.1 * a11)), inI64 (t1.2.2.2.2.2.1 * a11), inI64 (t1.2.2.2.2.1 * a12), inI64 ((t1.2.2.2.1 * a12) - (t1.2.2.2.2.2.1 * a10)), inI64 (t1.2.2.2.2.2.1 * a10), inI64 (t1.2.2.2.1 * a12), inI64 1, inI64 ((t1.2.1 * a12) - (t1.2.2.1 * a11)), inI64 (t1.2.2.1 * a11), inI64 (t1.2.1 * a12), inI64 ((t1.1 * a12) - (t1.2.2.1 * a10)), inI64 (t1.2.2.1 * a10), inI64 (t1.1 * a12), Computes cx 78 [.agg [.v (.string a0), I a1, I a2, I a3, I a4, I a5, I a6, I a7, I a8, I a9]] (.agg [I t1.1, I t1.2.1, I t1.2.2.1, I t1.2.2.2.1, I t1.2.2.2.2.1, I t1.2.2.2.2.2.1, I t1.2.2.2.2.2.2.1, I t1.2.2.2.2.2.2.2.1, I t1.2.2.2.2.2.2.2.2.1, I t1.2.2.2.2.2.2.2.2.2.1, I t1.2.2.2.2.2.2.2.2.2.2.1, I t1.2.2.2.2.2.2.2.2.2.2.2])]) (by kernel_rfl) ⟨(eqf h28), (c_ref04_Area h26), (decide_eq_false h27), (c_ref04_Area h26), (by unfold inI64; omega), h25, h24, h23, h22, h21, h20, (by unfold inI64; omega), h19, h18, h17, h16, h15, h14, (by unfold inI64; omega), h13, h12, h11, h10, h9, h8, (by unfold inI64; omega), h7, h6, h5, h4, h3, h2, (c_ref04_Corners h1), trivial⟩
def F_ref04_SamePoints_L1 (n : Nat) (a0 : List D) (a1 : List D) (sa : (Int)) : Option (((Int)) ⊕ ((Unit) ⊕ (Unit))) :=
  if sa < ((a0).length : Int) then
    (el un_Ai2Z a0 sa).bind fun ta2 =>
    (el un_Ai2Z a1 sa).bind fun ta3 =>
    if ((ta2.1 == ta3.1) && ((ta2.2 == ta3.2) && true)) = true then
      if inI64 (sa + 1) then
      some (.inl (sa + 1))
      else none
    else
    some (.inr (.inl ()))
  else
  some (.inr (.inr ()))
noncomputable def T_ref04_SamePoints_L1 (a0 : List D) (a1 : List D) (sa : (Int)) : List (Nat × AV) := [(0, .d (.lst false 2 a0)), (1, .d (.lst false 2 a1)), (5, .d (I sa))]
noncomputable def H_ref04_SamePoints_L1 (a0 : List D) (a1 : List D) (sa : (Int)) : List (Nat × Blk) := []
noncomputable def X_ref04_SamePoints_L1 (a0 : List D) (a1 : List D) (e : (Unit) ⊕ (Unit)) : Ex := match e with
  | (.inl e) => .ret
  | (.inr e) => (.exit 0)
noncomputable def XT_ref04_SamePoints_L1 (a0 : List D) (a1 : List D) (e : (Unit) ⊕ (Unit)) : List (Nat × AV) := match e with
  | (.inl e) => [(4, .d (B false))]
  | (.inr e) => []
noncomputable def XH_ref04_SamePoints_L1 (a0 : List D) (a1 : List D) (e : (Unit) ⊕ (Unit)) : List (Nat × Blk) := match e with
  | (.inl e) => []
  | (.inr e) => []
theorem R_ref04_SamePoints_L1 {n : Nat} {a0 : List D} {a1 : List D} (sa : (Int)) (r) (h : F_ref04_SamePoints_L1 n a0 a1 sa = some r) : Rd cx (loopAt cx.P 52 0) 26 0 false (T_ref04_SamePoints_L1 a0 a1) (H_ref04_SamePoints_L1 a0 a1) (X_ref04_SamePoints_L1 a0 a1) (XT_ref04_SamePoints_L1 a0 a1) (XH_ref04_SamePoints_L1 a0 a1) sa r := by
  unfold F_ref04_SamePoints_L1 at h
  by_cases ha1 : sa < ((a0).length : Int)
  · replace h := ite_t h ha1
    obtain ⟨ta2, ha2, h⟩ := bnd_of h
    obtain ⟨ta3, ha3, h⟩ := bnd_of h
    by_cases ha4 : ((ta2.1 == ta3.1) && ((ta2.2 == ta3.2) && true)) = true
    · replace h := ite_t h ha4
      obtain ⟨ha5, h⟩ := grd_of h
      replace h := Option.some.inj h
      subst h
      exact ⟨100, 7, [.br true, .el (.agg [I ta2.1, I ta2.2]), .el (.agg [I ta3.1, I ta3.2]), .br false], [], [0, 1, 5], [], round_of (ob := [inI64 (sa + 1), (!((ta2.1 == ta3.1) && ((ta2.2 == ta3.2) && true))) = false, (0 : Int) ≤ sa, nth (a1) (Int.toNat sa) = some (.agg [I ta3.1, I ta3.2]), (0 : Int) ≤ sa, nth (a0) (Int.toNat sa) = some (.agg [I ta2.1, I ta2.2]), (decide (sa < ((a0).length : Int))) = true]) (by kernel_rfl) ⟨ha5, (notf ha4), (el_ok un_Ai2Z_ok ha3).1, (el_ok un_Ai2Z_ok ha3).2, (el_ok un_Ai2Z_ok ha2).1, (el_ok un_Ai2Z_ok ha2).2, (decide_eq_true ha1), trivial⟩⟩
    · replace h := ite_f h ha4
      replace h := Option.some.inj h
      subst h
      exact ⟨⟨100, 7, [.br true, .el (.agg [I ta2.1, I ta2.2]), .el (.agg [I ta3.1, I ta3.2]), .br true], [], [4], [], round_of (ob := [(!((ta2.1 == ta3.1) && ((ta2.2 == ta3.2) && true))) = true, (0 : Int) ≤ sa, nth (a1) (Int.toNat sa) = some (.agg [I ta3.1, I ta3.2]), (0 : Int) ≤ sa, nth (a0) (Int.toNat sa) = some (.agg [I ta2.1, I ta2.2]), (decide (sa < ((a0).length : Int))) = true]) (by kernel_rfl) ⟨(nott (bfalse ha4)), (el_ok un_Ai2Z_ok ha3).1, (el_ok un_Ai2Z_ok ha3).2, (el_ok un_Ai2Z_ok ha2).1, (el_ok un_Ai2Z_ok ha2).2, (decide_eq_true ha1), trivial⟩⟩, nofun⟩
  · replace h := ite_f h ha1
    replace h := Option.some.inj h
    subst h
    exact ⟨⟨100, 7, [.br false], [], [], [], round_of (ob := [(decide (sa < ((a0).length : Int))) = false]) (by kernel_rfl) ⟨(decide_eq_false ha1), trivial⟩⟩, nofun⟩
/- spillage/spillageref04.SamePoints: .lst false 2 a0, .lst false 2 a1 -/
def F_ref04_SamePoints (n : Nat) (a0 : List D) (a1 : List D) : Option (Bool) :=
  if ((a0).length : Int) = ((a1).length : Int) then
    (loopF (F_ref04_SamePoints_L1 n a0 a1) n 0).bind fun t2 => match t2 with
      | (.inl t2) => (
        some false)
      | (.inr t2) => (
        some true)
  else
  some false
theorem c_ref04_SamePoints {n : Nat} {a0 : List D} {a1 : List D} {r : Bool} (h : F_ref04_SamePoints n a0 a1 = some r) : Computes cx 52 [.lst false 2 a0, .lst false 2 a1] (B r) := by
  unfold F_ref04_SamePoints at h
  by_cases h1 : ((a0).length : Int) = ((a1).length : Int)
  · replace h := ite_t h h1
    obtain ⟨t2, h2, h⟩ := bnd_of h
    rcases t2 with t2 | t2
    · replace h := Option.some.inj h
      subst h
      exact run (n := 100) (f := 52) (args := [.lst false 2 a0, .lst false 2 a1]) (orc := [.br false, .lp [] [0, 1, 5] [] .ret [(4, .d (B false))] [] 34]) (r := B false) (ob := [LoopN cx (loopAt cx.P 52 0) 26 0 false [(0, .d (.lst false 2 a0)), (1, .d (.lst false 2 a1)), (5, .d (I 0))] [] .ret [(4, .d (B false))] [], (((a0).length : Int) != ((a1).length : Int)) = false]) (by kernel_rfl) ⟨(loopF_to R_ref04_SamePoints_L1 h2), (nef h1), trivial⟩
    · replace h := Option.some.inj h
      subst h
      exact run (n := 100) (f := 52) (args := [.lst false 2 a0, .lst false 2 a1]) (orc := [.br false, .lp [] [0, 1, 5] [] (.exit 0) [] [] 34]) (r := B true) (ob := [LoopN cx (loopAt cx.P 52 0) 26 0 false [(0, .d (.lst false 2 a0)), (1, .d (.lst false 2 a1)), (5, .d (I 0))] [] (.exit 0) [] [], (((a0).length : Int) != ((a1).length : Int)) = false]) (by kernel_rfl) ⟨(loopF_to R_ref04_SamePoints_L1 h2), (nef h1), trivial⟩
  · replace h := ite_f h h1
    replace h := Option.some.inj h
    subst h
    exact run (n := 100) (f := 52) (args := [.lst false 2 a0, .lst false 2 a1]) (orc := [.br true]) (r := B false) (ob := [(((a0).length : Int) != ((a1).length : Int)) = true]) (by kernel_rfl) ⟨(net h1), trivial⟩
/- spillage/spillagelaw04.outline: .lst false 2 a0, I a1, I a2, .lst false 2 a3 -/
def F_law04_outline (n : Nat) (a0 : List D) (a1 : Int) (a2 : Int) (a3 : List D) : Option (Bool) :=
  if a1 = a2 then
    if a2 = 0 then
      (F_ref04_SamePoints n a0 a3).bind fun t3 =>
      some t3
    else
    if ((a0).length : Int) = 0 then
      some true
    else
    some false
  else
  some false
theorem c_law04_outline {n : Nat} {a0 : List D} {a1 : Int} {a2 : Int} {a3 : List D} {r : Bool} (h : F_law04_outline n a0 a1 a2 a3 = some r) : Computes cx 19 [.lst false 2 a0, I a1, I a2, .lst false 2 a3] (B r) := by
  unfold F_law04_outline at h
  by_cases h1 : a1 = a2
  · replace h := ite_t h h1
    by_cases h2 : a2 = 0
    · replace h := ite_t h h2
      obtain ⟨t3, h3, h⟩ := bnd_of h
      replace h := Option.some.inj h
      subst h
      exact run (n := 100) (f := 19) (args := [.lst false 2 a0, I a1, I a2, .lst false 2 a3]) (orc := [.br true, .br false, .no, .br true, .ret (B t3)]) (r := B t3) (ob := [Computes cx 52 [.lst false 2 a0, .lst false 2 a3] (B t3), (a2 == 0) = true, (a2 != 0) = false, (a1 == a2) = true]) (by kernel_rfl) ⟨(c_ref04_SamePoints h3), (eqt h2), (nef h2), (eqt h1), trivial⟩
    · replace h := ite_f h h2
      by_cases h3 : ((a0).length : Int) = 0
      · replace h := ite_t h h3
        replace h := Option.some.inj h
        subst h
        exact run (n := 100) (f := 19) (args := [.lst false 2 a0, I a1, I a2, .lst false 2 a3]) (orc := [.br true, .br true, .br true]) (r := B true) (ob := [(((a0).length : Int) == 0) = true, (a2 != 0) = true, (a1 == a2) = true]) (by kernel_rfl) ⟨(eqt h3), (net h2), (eqt h1), trivial⟩
      · replace h := ite_f h h3
        replace h := Option.some.inj h
        subst h
        exact run (n := 100) (f := 19) (args := [.lst false 2 a0, I a1, I a2, .lst false 2 a3]) (orc := [.br true, .br true, .br false, .br false]) (r := B false) (ob := [(a2 == 0) = false, (((a0).length : Int) == 0) = false, (a2 != 0) = true, (a1 == a2) = true]) (by kernel_rfl) ⟨(eqf h2), (eqf h3), (net h2), (eqt h1), trivial⟩
  · replace h := ite_f h h1
    replace h := Option.some.inj h
    subst h
    exact run (n := 100) (f := 19) (args := [.lst false 2 a0, I a1, I a2, .lst false 2 a3]) (orc := [.br false]) (r := B false) (ob := [(a1 == a2) = false]) (by kernel_rfl) ⟨(eqf h1), trivial⟩
/- spillage/spillagelaw04.FieldSuns: .agg [.v (.string a0), I a1, I a2, I a3, I a4, I a5, I a6, I a7, I a8, I a9], .agg [I a10, I a11, I a12] -/
def F_law04_FieldSuns (n : Nat) (a0 : ByteArray) (a1 : Int) (a2 : Int) (a3 : Int) (a4 : Int) (a5 : Int) (a6 : Int) (a7 : Int) (a8 : Int) (a9 : Int) (a10 : Int) (a11 : Int) (a12 : Int) : Option (Bool) :=
  (F_law04_awake n).bind fun t1 =>
  if t1 = true then
    (F_ref04_ShortMirror n a0 a1 a2 a3 a4 a5 a6 a7 a8 a9).bind fun t3 =>
    if t3 = true then
      (F_field_Cosine n a0 a1 a2 a3 a4 a5 a6 a7 a8 a9 a10 a11 a12).bind fun t5 =>
      (F_field_Shadow n a0 a1 a2 a3 a4 a5 a6 a7 a8 a9 a10 a11 a12).bind fun t6 =>
      (F_ref04_CheckMirror n a0 a1 a2 a3 a4 a5 a6 a7 a8 a9).bind fun t7 =>
      (F_ref04_CheckDirection n a10 a11 a12).bind fun t8 =>
      (F_ref01_First n ([I t7, I t8])).bind fun t9 =>
      (F_ref01_When n (decide (a12 < 1)) 21).bind fun t10 =>
      (F_ref01_First n ([I t9, I t10])).bind fun t11 =>
      if t9 = 0 then
        (F_ref04_Cosine n a0 a1 a2 a3 a4 a5 a6 a7 a8 a9 a10 a11 a12).bind fun t13 =>
        if t11 = 0 then
          (F_ref04_Shadow n a0 a1 a2 a3 a4 a5 a6 a7 a8 a9 a10 a11 a12).bind fun t15 =>
          if t5.1 = t13.1 then
            if ((t5.2.1 == t13.2.1) && ((t5.2.2.1 == t13.2.2) && true)) = true then
              if t5.2.2.2 = t9 then
                (F_law04_outline n t6.1 t6.2 t15.2 t15.1).bind fun t19 =>
                some t19
              else
              none /- false -/
            else
            none /- false -/
          else
          none /- false -/
        else
        if t5.1 = t13.1 then
          if ((t5.2.1 == t13.2.1) && ((t5.2.2.1 == t13.2.2) && true)) = true then
            if t5.2.2.2 = t9 then
              (F_law04_outline n t6.1 t6.2 t11 ([])).bind fun t18 =>
              some t18
            else
            none /- false -/
          else
          none /- false -/
        else
        none /- false -/
      else
      if t11 = 0 then
        (F_ref04_Shadow n a0 a1 a2 a3 a4 a5 a6 a7 a8 a9 a10 a11 a12).bind fun t14 =>
        if t5.1 = 0 then
          if ((t5.2.1 == 0) && ((t5.2.2.1 == 0) && true)) = true then
            if t5.2.2.2 = t9 then
              (F_law04_outline n t6.1 t6.2 t14.2 t14.1).bind fun t18 =>
              some t18
            else
            none /- false -/
          else
          none /- false -/
        else
        none /- false -/
      else
      if t5.1 = 0 then
        if ((t5.2.1 == 0) && ((t5.2.2.1 == 0) && true)) = true then
          if t5.2.2.2 = t9 then
            (F_law04_outline n t6.1 t6.2 t11 ([])).bind fun t17 =>
            some t17
          else
          none /- false -/
        else
        none /- false -/
      else
      none /- false -/
    else
    some t1
  else
  some t1
theorem c_law04_FieldSuns {n : Nat} {a0 : ByteArray} {a1 : Int} {a2 : Int} {a3 : Int} {a4 : Int} {a5 : Int} {a6 : Int} {a7 : Int} {a8 : Int} {a9 : Int} {a10 : Int} {a11 : Int} {a12 : Int} {r : Bool} (h : F_law04_FieldSuns n a0 a1 a2 a3 a4 a5 a6 a7 a8 a9 a10 a11 a12 = some r) : Computes cx 3 [.agg [.v (.string a0), I a1, I a2, I a3, I a4, I a5, I a6, I a7, I a8, I a9], .agg [I a10, I a11, I a12]] (B r) := by
  unfold F_law04_FieldSuns at h
  obtain ⟨t1, h1, h⟩ := bnd_of h
  by_cases h2 : t1 = true
  · replace h := ite_t h h2
    obtain ⟨t3, h3, h⟩ := bnd_of h
    by_cases h4 : t3 = true
    · replace h := ite_t h h4
      obtain ⟨t5, h5, h⟩ := bnd_of h
      obtain ⟨t6, h6, h⟩ := bnd_of h
      obtain ⟨t7, h7, h⟩ := bnd_of h
      obtain ⟨t8, h8, h⟩ := bnd_of h
      obtain ⟨t9, h9, h⟩ := bnd_of h
      obtain ⟨t10, h10, h⟩ := bnd_of h
      obtain ⟨t11, h11, h⟩ := bnd_of h
      by_cases h12 : t9 = 0
      · replace h := ite_t h h12
        obtain ⟨t13, h13, h⟩ := bnd_of h
        by_cases h14 : t11 = 0
        · replace h := ite_t h h14
          obtain ⟨t15, h15, h⟩ := bnd_of h
          by_cases h16 : t5.1 = t13.1
          · replace h := ite_t h h16
            by_cases h17 : ((t5.2.1 == t13.2.1) && ((t5.2.2.1 == t13.2.2) && true)) = true
            · replace h := ite_t h h17
              by_cases h18 : t5.2.2.2 = t9
              · replace h := ite_t h h18
                obtain ⟨t19, h19, h⟩ := bnd_of h
                replace h := Option.some.inj h
                subst h
                exact run (n := 100) (f := 3) (args := [.agg [.v (.string a0), I a1, I a2, I a3, I a4, I a5, I a6, I a7, I a8, I a9], .agg [I a10, I a11, I a12]]) (orc := [.ret (B t1), .br false, .ret (B t3), .br false, .ret (.tup [I t5.1, .agg [I t5.2.1, I t5.2.2.1], I t5.2.2.2]), .ret (.tup [.lst false 2 t6.1, I t6.2]), .ret (I t7), .ret (I t8), .ret (I t9), .ret (I t10), .ret (I t11), .br true, .ret (.tup [I t13.1, .agg [I t13.2.1, I t13.2.2]]), .br true, .ret (.tup [.lst false 2 t15.1, I t15.2]), .br true, .br true, .br true, .ret (B t19)]) (r := B t19) (ob := [Computes cx 19 [.lst false 2 t6.1, I t6.2, I t15.2, .lst false 2 t15.1] (B t19), (t5.2.2.2 == t9) = true, ((t5.2.1 == t13.2.1) && ((t5.2.2.1 == t13.2.2) && true)) = true, (t5.1 == t13.1) = true, Computes cx 18 [.agg [.v (.string a0), I a1, I a2, I a3, I a4, I a5, I a6, I a7, I a8, I a9], .agg [I a10, I a11, I a12]] (.tup [.lst false 2 t15.1, I t15.2]), (t11 == 0) = true, Computes cx 17 [.agg [.v (.string a0), I a1, I a2, I a3, I a4, I a5, I a6, I a7, I a8, I a9], .agg [I a10, I a11, I a12]] (.tup [I t13.1, .agg [I t13.2.1, I t13.2.2]]), (t9 == 0) = true, Computes cx 13 [.lst true 1 [I t9, I t10]] (I t11), Computes cx 16 [B (decide (a12 < 1)), I 21] (I t10), Computes cx 13 [.lst true 1 [I t7, I t8]] (I t9), Computes cx 15 [.agg [I a10, I a11, I a12]] (I t8), Computes cx 14 [.agg [.v (.string a0), I a1, I a2, I a3, I a4, I a5, I a6, I a7, I a8, I a9]] (I t7), Computes cx 12 [.agg [.v (.string a0), I a1, I a2, I a3, I a4, I a5, I a6, I a7, I a8, I a9], .agg [I a10, I a11, I a12]] (.tup [.lst false 2 t6.1, I t6.2]), Computes cx 11 [.agg [.v (.string a0), I a1, I a2, I a3, I a4, I a5, I a6, I a7, I a8, I a9], .agg [I a10, I a11, I a12]] (.tup [I t5.1, .agg [I t5.2.1, I t5.2.2.1], I t5.2.2.2]), (!t3) = false, Computes cx 10 [.agg [.v (.string a0), I a1, I a2, I a3, I a4, I a5, I a6, I a7, I a8, I a9]] (B t3), (!t1) = false, Computes cx 9 [] (B t1)]) (by kernel_rfl) ⟨(c_law04_outline h19), (eqt h18), h17, (eqt h16), (c_ref04_Shadow h15), (eqt h14), (c_ref04_Cosine h13), (eqt h12), ((c_ref01_First h11).le (.cons (.full _ _ _) (.nil)) (.refl _)), (c_ref01_When h10), ((c_ref01_First h9).le (.cons (.full _ _ _) (.nil)) (.refl _)), (c_ref04_CheckDirection h8), (c_ref04_CheckMirror h7), (c_field_Shadow h6), (c_field_Cosine h5), (notf h4), (c_ref04_ShortMirror h3), (notf h2), (c_law04_awake h1), trivial⟩
              · replace h := ite_f h h18
                cases h
            · replace h := ite_f h h17
              cases h
          · replace h := ite_f h h16
            cases h
        · replace h := ite_f h h14
          by_cases h15 : t5.1 = t13.1
          · replace h := ite_t h h15
            by_cases h16 : ((t5.2.1 == t13.2.1) && ((t5.2.2.1 == t13.2.2) && true)) = true
            · replace h := ite_t h h16
              by_cases h17 : t5.2.2.2 = t9
              · replace h := ite_t h h17
                obtain ⟨t18, h18, h⟩ := bnd_of h
                replace h := Option.some.inj h
                subst h
                exact run (n := 100) (f := 3) (args := [.agg [.v (.string a0), I a1, I a2, I a3, I a4, I a5, I a6, I a7, I a8, I a9], .agg [I a10, I a11, I a12]]) (orc := [.ret (B t1), .br false, .ret (B t3), .br false, .ret (.tup [I t5.1, .agg [I t5.2.1, I t5.2.2.1], I t5.2.2.2]), .ret (.tup [.lst false 2 t6.1, I t6.2]), .ret (I t7), .ret (I t8), .ret (I t9), .ret (I t10), .ret (I t11), .br true, .ret (.tup [I t13.1, .agg [I t13.2.1, I t13.2.2]]), .br false, .br true, .br true, .br true, .ret (B t18)]) (r := B t18) (ob := [Computes cx 19 [.lst false 2 t6.1, I t6.2, I t11, .lst true 0 []] (B t18), (t5.2.2.2 == t9) = true, ((t5.2.1 == t13.2.1) && ((t5.2.2.1 == t13.2.2) && true)) = true, (t5.1 == t13.1) = true, (t11 == 0) = false, Computes cx 17 [.agg [.v (.string a0), I a1, I a2, I a3, I a4, I a5, I a6, I a7, I a8, I a9], .agg [I a10, I a11, I a12]] (.tup [I t13.1, .agg [I t13.2.1, I t13.2.2]]), (t9 == 0) = true, Computes cx 13 [.lst true 1 [I t9, I t10]] (I t11), Computes cx 16 [B (decide (a12 < 1)), I 21] (I t10), Computes cx 13 [.lst true 1 [I t7, I t8]] (I t9), Computes cx 15 [.agg [I a10, I a11, I a12]] (I t8), Computes cx 14 [.agg [.v (.string a0), I a1, I a2, I a3, I a4, I a5, I a6, I a7, I a8, I a9]] (I t7), Computes cx 12 [.agg [.v (.string a0), I a1, I a2, I a3, I a4, I a5, I a6, I a7, I a8, I a9], .agg [I a10, I a11, I a12]] (.tup [.lst false 2 t6.1, I t6.2]), Computes cx 11 [.agg [.v (.string a0), I a1, I a2, I a3, I a4, I a5, I a6, I a7, I a8, I a9], .agg [I a10, I a11, I a12]] (.tup [I t5.1, .agg [I t5.2.1, I t5.2.2.1], I t5.2.2.2]), (!t3) = false, Computes cx 10 [.agg [.v (.string a0), I a1, I a2, I a3, I a4, I a5, I a6, I a7, I a8, I a9]] (B t3), (!t1) = false, Computes cx 9 [] (B t1)]) (by kernel_rfl) ⟨((c_law04_outline h18).le (.cons (.refl _) (.cons (.refl _) (.cons (.refl _) (.cons (.lst _ _ _ _ _ nofun (.inl rfl)) (.nil))))) (.refl _)), (eqt h17), h16, (eqt h15), (eqf h14), (c_ref04_Cosine h13), (eqt h12), ((c_ref01_First h11).le (.cons (.full _ _ _) (.nil)) (.refl _)), (c_ref01_When h10), ((c_ref01_First h9).le (.cons (.full _ _ _) (.nil)) (.refl _)), (c_ref04_CheckDirection h8), (c_ref04_CheckMirror h7), (c_field_Shadow h6), (c_field_Cosine h5), (notf h4), (c_ref04_ShortMirror h3), (notf h2), (c_law04_awake h1), trivial⟩
              · replace h := ite_f h h17
                cases h
            · replace h := ite_f h h16
              cases h
          · replace h := ite_f h h15
            cases h
      · replace h := ite_f h h12
        by_cases h13 : t11 = 0
        · replace h := ite_t h h13
          obtain ⟨t14, h14, h⟩ := bnd_of h
          by_cases h15 : t5.1 = 0
          · replace h := ite_t h h15
            by_cases h16 : ((t5.2.1 == 0) && ((t5.2.2.1 == 0) && true)) = true
            · replace h := ite_t h h16
              by_cases h17 : t5.2.2.2 = t9
              · replace h := ite_t h h17
                obtain ⟨t18, h18, h⟩ := bnd_of h
                replace h := Option.some.inj h
                subst h
                exact run (n := 100) (f := 3) (args := [.agg [.v (.string a0), I a1, I a2, I a3, I a4, I a5, I a6, I a7, I a8, I a9], .agg [I a10, I a11, I a12]]) (orc := [.ret (B t1), .br false, .ret (B t3), .br false, .ret (.tup [I t5.1, .agg [I t5.2.1, I t5.2.2.1], I t5.2.2.2]), .ret (.tup [.lst false 2 t6.1, I t6.2]), .ret (I t7), .ret (I t8), .ret (I t9), .ret (I t10), .ret (I t11), .br false, .br true, .ret (.tup [.lst false 2 t14.1, I t14.2]), .br true, .br true, .br true, .ret (B t18)]) (r := B t18) (ob := [Computes cx 19 [.lst false 2 t6.1, I t6.2, I t14.2, .lst false 2 t14.1] (B t18), (t5.2.2.2 == t9) = true, ((t5.2.1 == 0) && ((t5.2.2.1 == 0) && true)) = true, (t5.1 == 0) = true, Computes cx 18 [.agg [.v (.string a0), I a1, I a2, I a3, I a4, I a5, I a6, I a7, I a8, I a9], .agg [I a10, I a11, I a12]] (.tup [.lst false 2 t14.1, I t14.2]), (t11 == 0) = true, (t9 == 0) = false, Computes cx 13 [.lst true 1 [I t9, I t10]] (I t11), Computes cx 16 [B (decide (a12 < 1)), I 21] (I t10), Computes cx 13 [.lst true 1 [I t7, I t8]] (I t9), Computes cx 15 [.agg [I a10, I a11, I a12]] (I t8), Computes cx 14 [.agg [.v (.string a0), I a1, I a2, I a3, I a4, I a5, I a6, I a7, I a8, I a9]] (I t7), Computes cx 12 [.agg [.v (.string a0), I a1, I a2, I a3, I a4, I a5, I a6, I a7, I a8, I a9], .agg [I a10, I a11, I a12]] (.tup [.lst false 2 t6.1, I t6.2]), Computes cx 11 [.agg [.v (.string a0), I a1, I a2, I a3, I a4, I a5, I a6, I a7, I a8, I a9], .agg [I a10, I a11, I a12]] (.tup [I t5.1, .agg [I t5.2.1, I t5.2.2.1], I t5.2.2.2]), (!t3) = false, Computes cx 10 [.agg [.v (.string a0), I a1, I a2, I a3, I a4, I a5, I a6, I a7, I a8, I a9]] (B t3), (!t1) = false, Computes cx 9 [] (B t1)]) (by kernel_rfl) ⟨(c_law04_outline h18), (eqt h17), h16, (eqt h15), (c_ref04_Shadow h14), (eqt h13), (eqf h12), ((c_ref01_First h11).le (.cons (.full _ _ _) (.nil)) (.refl _)), (c_ref01_When h10), ((c_ref01_First h9).le (.cons (.full _ _ _) (.nil)) (.refl _)), (c_ref04_CheckDirection h8), (c_ref04_CheckMirror h7), (c_field_Shadow h6), (c_field_Cosine h5), (notf h4), (c_ref04_ShortMirror h3), (notf h2), (c_law04_awake h1), trivial⟩
              · replace h := ite_f h h17
                cases h
            · replace h := ite_f h h16
              cases h
          · replace h := ite_f h h15
            cases h
        · replace h := ite_f h h13
          by_cases h14 : t5.1 = 0
          · replace h := ite_t h h14
            by_cases h15 : ((t5.2.1 == 0) && ((t5.2.2.1 == 0) && true)) = true
            · replace h := ite_t h h15
              by_cases h16 : t5.2.2.2 = t9
              · replace h := ite_t h h16
                obtain ⟨t17, h17, h⟩ := bnd_of h
                replace h := Option.some.inj h
                subst h
                exact run (n := 100) (f := 3) (args := [.agg [.v (.string a0), I a1, I a2, I a3, I a4, I a5, I a6, I a7, I a8, I a9], .agg [I a10, I a11, I a12]]) (orc := [.ret (B t1), .br false, .ret (B t3), .br false, .ret (.tup [I t5.1, .agg [I t5.2.1, I t5.2.2.1], I t5.2.2.2]), .ret (.tup [.lst false 2 t6.1, I t6.2]), .ret (I t7), .ret (I t8), .ret (I t9), .ret (I t10), .ret (I t11), .br false, .br false, .br true, .br true, .br true, .ret (B t17)]) (r := B t17) (ob := [Computes cx 19 [.lst false 2 t6.1, I t6.2, I t11, .lst true 0 []] (B t17), (t5.2.2.2 == t9) = true, ((t5.2.1 == 0) && ((t5.2.2.1 == 0) && true)) = true, (t5.1 == 0) = true, (t11 == 0) = false, (t9 == 0) = false, Computes cx 13 [.lst true 1 [I t9, I t10]] (I t11), Computes cx 16 [B (decide (a12 < 1)), I 21] (I t10), Computes cx 13 [.lst true 1 [I t7, I t8]] (I t9), Computes cx 15 [.agg [I a10, I a11, I a12]] (I t8), Computes cx 14 [.agg [.v (.string a0), I a1, I a2, I a3, I a4, I a5, I a6, I a7, I a8, I a9]] (I t7), Computes cx 12 [.agg [.v (.string a0), I a1, I a2, I a3, I a4, I a5, I a6, I a7, I a8, I a9], .agg [I a10, I a11, I a12]] (.tup [.lst false 2 t6.1, I t6.2]), Computes cx 11 [.agg [.v (.string a0), I a1, I a2, I a3, I a4, I a5, I a6, I a7, I a8, I a9], .agg [I a10, I a11, I a12]] (.tup [I t5.1, .agg [I t5.2.1, I t5.2.2.1], I t5.2.2.2]), (!t3) = false, Computes cx 10 [.agg [.v (.string a0), I a1, I a2, I a3, I a4, I a5, I a6, I a7, I a8, I a9]] (B t3), (!t1) = false, Computes cx 9 [] (B t1)]) (by kernel_rfl) ⟨((c_law04_outline h17).le (.cons (.refl _) (.cons (.refl _) (.cons (.refl _) (.cons (.lst _ _ _ _ _ nofun (.inl rfl)) (.nil))))) (.refl _)), (eqt h16), h15, (eqt h14), (eqf h13), (eqf h12), ((c_ref01_First h11).le (.cons (.full _ _ _) (.nil)) (.refl _)), (c_ref01_When h10), ((c_ref01_First h9).le (.cons (.full _ _ _) (.nil)) (.refl _)), (c_ref04_CheckDirection h8), (c_ref04_CheckMirror h7), (c_field_Shadow h6), (c_field_Cosine h5), (notf h4), (c_ref04_ShortMirror h3), (notf h2), (c_law04_awake h1), trivial⟩
              · replace h := ite_f h h16
                cases h
            · replace h := ite_f h h15
              cases h
          · replace h := ite_f h h14
            cases h
    · replace h := ite_f h h4
      replace h := Option.some.inj h
      subst h
      exact run (n := 100) (f := 3) (args := [.agg [.v (.string a0), I a1, I a2, I a3, I a4, I a5, I a6, I a7, I a8, I a9], .agg [I a10, I a11, I a12]]) (orc := [.ret (B t1), .br false, .ret (B t3), .br true, .ret (B t1)]) (r := B t1) (ob := [Computes cx 9 [] (B t1), (!t3) = true, Computes cx 10 [.agg [.v (.string a0), I a1, I a2, I a3, I a4, I a5, I a6, I a7, I a8, I a9]] (B t3), (!t1) = false, Computes cx 9 [] (B t1)]) (by kernel_rfl) ⟨(c_law04_awake h1), (nott (bfalse h4)), (c_ref04_ShortMirror h3), (notf h2), (c_law04_awake h1), trivial⟩
  · replace h := ite_f h h2
    replace h := Option.some.inj h
    subst h
    exact run (n := 100) (f := 3) (args := [.agg [.v (.string a0), I a1, I a2, I a3, I a4, I a5, I a6, I a7, I a8, I a9], .agg [I a10, I a11, I a12]]) (orc := [.ret (B t1), .br true, .no, .ret (B t1)]) (r := B t1) (ob := [Computes cx 9 [] (B t1), (!t1) = true, Computes cx 9 [] (B t1)]) (by kernel_rfl) ⟨(c_law04_awake h1), (nott (bfalse h2)), (c_law04_awake h1), trivial⟩
end Go.Proofs.YtojmcpnpojdnmaaGreatDoor
