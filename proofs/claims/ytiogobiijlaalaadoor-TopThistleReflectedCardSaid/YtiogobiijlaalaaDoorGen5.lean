/-
  Printed by gsx.py: functions of the program as Lean functions, and that the code computes them.
-/
import Derived.Test.YtiogobiijlaalaaDoorGen4
set_option linter.unusedVariables false
set_option linter.unusedSimpArgs false
set_option linter.unnecessarySimpa false
set_option maxRecDepth 10000
namespace Go.Proofs.YtiogobiijlaalaaDoor
open Go.SX
def F_field_dark_L2 (n : Nat) (a0 : List D) (a1 : Int) (a2 : Int) (a3 : Int) (a4 : Int) (a5 : Int) (t1 : ByteArray × Int × Int × Int × Int × Int × Int × Int × Int × Int) (t3 : Int) (sa : Int) (sb : (Unit) ⊕ (Int × List D)) : Option (((Unit) ⊕ (Int × List D)) ⊕ ((Unit) ⊕ (List D))) := match sb with
  | (.inl sb) => (
    if 0 < a5 then
      (F_field_times n a5 t1.2.1 t1.2.2.1 t1.2.2.2.1).bind fun tb2 =>
      if inI64 (1 - a5) then
      (F_field_times n (1 - a5) t1.2.2.2.2.1 t1.2.2.2.2.2.1 t1.2.2.2.2.2.2.1).bind fun tb4 =>
      if inI64 (2 * sa) then
      if inI64 ((2 * sa) + 1) then
      if inI64 (((2 * sa) + 1) - a5) then
      (F_field_times n (((2 * sa) + 1) - a5) t1.2.2.2.2.2.2.2.1 t1.2.2.2.2.2.2.2.2.1 t1.2.2.2.2.2.2.2.2.2).bind fun tb8 =>
      (F_field_plus n tb4.1 tb4.2.1 tb4.2.2 tb8.1 tb8.2.1 tb8.2.2).bind fun tb9 =>
      (F_field_plus n tb2.1 tb2.2.1 tb2.2.2 tb9.1 tb9.2.1 tb9.2.2).bind fun tb10 =>
      if inI64 (sa * a5) then
      if inI64 ((sa * a5) + 0) then
      some (.inl (.inr (1, [.agg [I ((sa * a5) + 0), I tb10.1, I tb10.2.1, I tb10.2.2]])))
      else none
      else none
      else none
      else none
      else none
      else none
    else
    some (.inr (.inl ())))
  | (.inr sb) => (
    if sb.1 < a5 then
      (F_field_times n a5 t1.2.1 t1.2.2.1 t1.2.2.2.1).bind fun tb2 =>
      if inI64 (2 * sb.1) then
      if inI64 ((2 * sb.1) + 1) then
      if inI64 (((2 * sb.1) + 1) - a5) then
      (F_field_times n (((2 * sb.1) + 1) - a5) t1.2.2.2.2.1 t1.2.2.2.2.2.1 t1.2.2.2.2.2.2.1).bind fun tb6 =>
      if inI64 (2 * sa) then
      if inI64 ((2 * sa) + 1) then
      if inI64 (((2 * sa) + 1) - a5) then
      (F_field_times n (((2 * sa) + 1) - a5) t1.2.2.2.2.2.2.2.1 t1.2.2.2.2.2.2.2.2.1 t1.2.2.2.2.2.2.2.2.2).bind fun tb10 =>
      (F_field_plus n tb6.1 tb6.2.1 tb6.2.2 tb10.1 tb10.2.1 tb10.2.2).bind fun tb11 =>
      (F_field_plus n tb2.1 tb2.2.1 tb2.2.2 tb11.1 tb11.2.1 tb11.2.2).bind fun tb12 =>
      if inI64 (sa * a5) then
      if inI64 ((sa * a5) + sb.1) then
      if roomP 32 ((sb.2).length + 1) then
      if inI64 (sb.1 + 1) then
      some (.inl (.inr ((sb.1 + 1), (sb.2 ++ ([.agg [I ((sa * a5) + sb.1), I tb12.1, I tb12.2.1, I tb12.2.2]] : List D)))))
      else none
      else none
      else none
      else none
      else none
      else none
      else none
      else none
      else none
      else none
    else
    some (.inr (.inr sb.2)))
noncomputable def T_field_dark_L2 (a0 : List D) (a1 : Int) (a2 : Int) (a3 : Int) (a4 : Int) (a5 : Int) (t1 : ByteArray × Int × Int × Int × Int × Int × Int × Int × Int × Int) (t3 : Int) (sa : Int) (sb : (Unit) ⊕ (Int × List D)) : List (Nat × AV) := match sb with
  | (.inl sb) => [(0, .own 37 0), (1, .ptr 26 0 0 0 0), (2, .ptr 25 0 0 0 0), (4, .d (I sa)), (7, .d (I a5)), (8, .d (I sa)), (11, .d (I a5)), (12, .d (I 0))]
  | (.inr sb) => [(0, .own 37 0), (1, .ptr 26 0 0 0 0), (2, .ptr 25 0 0 0 0), (4, .d (I sa)), (7, .d (I a5)), (8, .d (I sa)), (11, .d (I a5)), (12, .d (I sb.1))]
noncomputable def H_field_dark_L2 (a0 : List D) (a1 : Int) (a2 : Int) (a3 : Int) (a4 : Int) (a5 : Int) (t1 : ByteArray × Int × Int × Int × Int × Int × Int × Int × Int × Int) (t3 : Int) (sa : Int) (sb : (Unit) ⊕ (Int × List D)) : List (Nat × Blk) := match sb with
  | (.inl sb) => [(0, .box (.d (.lst false 10 a0))), (1, .box (.d (I a1))), (2, .box (.d (.agg [I a2, I a3, I a4]))), (3, .box (.d (I a5))), (9, .box (.d (.agg [.v (.string t1.1), I t1.2.1, I t1.2.2.1, I t1.2.2.2.1, I t1.2.2.2.2.1, I t1.2.2.2.2.2.1, I t1.2.2.2.2.2.2.1, I t1.2.2.2.2.2.2.2.1, I t1.2.2.2.2.2.2.2.2.1, I t1.2.2.2.2.2.2.2.2.2]))), (16, .box (.d (B (decide (t3 > 0))))), (25, .box (.d (.agg [.v (.string t1.1), I t1.2.1, I t1.2.2.1, I t1.2.2.2.1, I t1.2.2.2.2.1, I t1.2.2.2.2.2.1, I t1.2.2.2.2.2.2.1, I t1.2.2.2.2.2.2.2.1, I t1.2.2.2.2.2.2.2.2.1, I t1.2.2.2.2.2.2.2.2.2]))), (26, .box (.d (I a5))), (34, .box (.d (.lst true 0 []))), (37, .loop true [(6, .fn (.func 104) [] [.ptr 26 0 0 0 0, .ptr 25 0 0 0 0]), (4, .d (.lst true 0 [])), (2, .ptr 34 0 0 0 0), (1, .fn (.func 104) [] [.ptr 26 0 0 0 0, .ptr 25 0 0 0 0]), (0, .d (.lst true 0 []))] [7] (rangeAt cx.P 103 0).1 (rangeAt cx.P 103 0).2 13)]
  | (.inr sb) => [(0, .box (.d (.lst false 10 a0))), (1, .box (.d (I a1))), (2, .box (.d (.agg [I a2, I a3, I a4]))), (3, .box (.d (I a5))), (9, .box (.d (.agg [.v (.string t1.1), I t1.2.1, I t1.2.2.1, I t1.2.2.2.1, I t1.2.2.2.2.1, I t1.2.2.2.2.2.1, I t1.2.2.2.2.2.2.1, I t1.2.2.2.2.2.2.2.1, I t1.2.2.2.2.2.2.2.2.1, I t1.2.2.2.2.2.2.2.2.2]))), (16, .box (.d (B (decide (t3 > 0))))), (25, .box (.d (.agg [.v (.string t1.1), I t1.2.1, I t1.2.2.1, I t1.2.2.2.1, I t1.2.2.2.2.1, I t1.2.2.2.2.2.1, I t1.2.2.2.2.2.2.1, I t1.2.2.2.2.2.2.2.1, I t1.2.2.2.2.2.2.2.2.1, I t1.2.2.2.2.2.2.2.2.2]))), (26, .box (.d (I a5))), (34, .box (.own 87 0)), (37, .loop true [(6, .fn (.func 104) [] [.ptr 26 0 0 0 0, .ptr 25 0 0 0 0]), (4, .d (.lst true 0 [])), (2, .ptr 34 0 0 0 0), (1, .fn (.func 104) [] [.ptr 26 0 0 0 0, .ptr 25 0 0 0 0]), (0, .d (.lst true 0 []))] [7] (rangeAt cx.P 103 0).1 (rangeAt cx.P 103 0).2 13), (87, .row 0 4 sb.2)]
noncomputable def X_field_dark_L2 (a0 : List D) (a1 : Int) (a2 : Int) (a3 : Int) (a4 : Int) (a5 : Int) (t1 : ByteArray × Int × Int × Int × Int × Int × Int × Int × Int × Int) (t3 : Int) (sa : Int) (e : (Unit) ⊕ (List D)) : Ex := match e with
  | (.inl e) => (.exit 2)
  | (.inr e) => (.exit 2)
noncomputable def XT_field_dark_L2 (a0 : List D) (a1 : Int) (a2 : Int) (a3 : Int) (a4 : Int) (a5 : Int) (t1 : ByteArray × Int × Int × Int × Int × Int × Int × Int × Int × Int) (t3 : Int) (sa : Int) (e : (Unit) ⊕ (List D)) : List (Nat × AV) := match e with
  | (.inl e) => [(0, .own 37 0), (1, .ptr 26 0 0 0 0), (2, .ptr 25 0 0 0 0), (7, .d (I a5)), (8, .d (I sa))]
  | (.inr e) => [(0, .own 37 0), (1, .ptr 26 0 0 0 0), (2, .ptr 25 0 0 0 0), (7, .d (I a5)), (8, .d (I sa))]
noncomputable def XH_field_dark_L2 (a0 : List D) (a1 : Int) (a2 : Int) (a3 : Int) (a4 : Int) (a5 : Int) (t1 : ByteArray × Int × Int × Int × Int × Int × Int × Int × Int × Int) (t3 : Int) (sa : Int) (e : (Unit) ⊕ (List D)) : List (Nat × Blk) := match e with
  | (.inl e) => [(0, .box (.d (.lst false 10 a0))), (1, .box (.d (I a1))), (2, .box (.d (.agg [I a2, I a3, I a4]))), (3, .box (.d (I a5))), (9, .box (.d (.agg [.v (.string t1.1), I t1.2.1, I t1.2.2.1, I t1.2.2.2.1, I t1.2.2.2.2.1, I t1.2.2.2.2.2.1, I t1.2.2.2.2.2.2.1, I t1.2.2.2.2.2.2.2.1, I t1.2.2.2.2.2.2.2.2.1, I t1.2.2.2.2.2.2.2.2.2]))), (16, .box (.d (B (decide (t3 > 0))))), (25, .box (.d (.agg [.v (.string t1.1), I t1.2.1, I t1.2.2.1, I t1.2.2.2.1, I t1.2.2.2.2.1, I t1.2.2.2.2.2.1, I t1.2.2.2.2.2.2.1, I t1.2.2.2.2.2.2.2.1, I t1.2.2.2.2.2.2.2.2.1, I t1.2.2.2.2.2.2.2.2.2]))), (26, .box (.d (I a5))), (34, .box (.d (.lst true 0 []))), (37, .loop true [(6, .fn (.func 104) [] [.ptr 26 0 0 0 0, .ptr 25 0 0 0 0]), (4, .d (.lst true 0 [])), (2, .ptr 34 0 0 0 0), (1, .fn (.func 104) [] [.ptr 26 0 0 0 0, .ptr 25 0 0 0 0]), (0, .d (.lst true 0 []))] [7] (rangeAt cx.P 103 0).1 (rangeAt cx.P 103 0).2 13)]
  | (.inr e) => [(0, .box (.d (.lst false 10 a0))), (1, .box (.d (I a1))), (2, .box (.d (.agg [I a2, I a3, I a4]))), (3, .box (.d (I a5))), (9, .box (.d (.agg [.v (.string t1.1), I t1.2.1, I t1.2.2.1, I t1.2.2.2.1, I t1.2.2.2.2.1, I t1.2.2.2.2.2.1, I t1.2.2.2.2.2.2.1, I t1.2.2.2.2.2.2.2.1, I t1.2.2.2.2.2.2.2.2.1, I t1.2.2.2.2.2.2.2.2.2]))), (16, .box (.d (B (decide (t3 > 0))))), (25, .box (.d (.agg [.v (.string t1.1), I t1.2.1, I t1.2.2.1, I t1.2.2.2.1, I t1.2.2.2.2.1, I t1.2.2.2.2.2.1, I t1.2.2.2.2.2.2.1, I t1.2.2.2.2.2.2.2.1, I t1.2.2.2.2.2.2.2.2.1, I t1.2.2.2.2.2.2.2.2.2]))), (26, .box (.d (I a5))), (34, .box (.own 87 0)), (37, .loop true [(6, .fn (.func 104) [] [.ptr 26 0 0 0 0, .ptr 25 0 0 0 0]), (4, .d (.lst true 0 [])), (2, .ptr 34 0 0 0 0), (1, .fn (.func 104) [] [.ptr 26 0 0 0 0, .ptr 25 0 0 0 0]), (0, .d (.lst true 0 []))] [7] (rangeAt cx.P 103 0).1 (rangeAt cx.P 103 0).2 13), (87, .row 0 4 e)]
theorem R_field_dark_L2 {n : Nat} {a0 : List D} {a1 : Int} {a2 : Int} {a3 : Int} {a4 : Int} {a5 : Int} {t1 : ByteArray × Int × Int × Int × Int × Int × Int × Int × Int × Int} {t3 : Int} {sa : Int} (sb : (Unit) ⊕ (Int × List D)) (r) (h : F_field_dark_L2 n a0 a1 a2 a3 a4 a5 t1 t3 sa sb = some r) : Rd cx (loopAt cx.P 104 1) 49 38 false (T_field_dark_L2 a0 a1 a2 a3 a4 a5 t1 t3 sa) (H_field_dark_L2 a0 a1 a2 a3 a4 a5 t1 t3 sa) (X_field_dark_L2 a0 a1 a2 a3 a4 a5 t1 t3 sa) (XT_field_dark_L2 a0 a1 a2 a3 a4 a5 t1 t3 sa) (XH_field_dark_L2 a0 a1 a2 a3 a4 a5 t1 t3 sa) sb r := by
  unfold F_field_dark_L2 at h
  rcases sb with sb | sb
  · by_cases hb1 : 0 < a5
    · replace h := ite_t h hb1
      obtain ⟨tb2, hb2, h⟩ := bnd_of h
      obtain ⟨hb3, h⟩ := grd_of h
      obtain ⟨tb4, hb4, h⟩ := bnd_of h
      obtain ⟨hb5, h⟩ := grd_of h
      obtain ⟨hb6, h⟩ := grd_of h
      obtain ⟨hb7, h⟩ := grd_of h
      obtain ⟨tb8, hb8, h⟩ := bnd_of h
      obtain ⟨tb9, hb9, h⟩ := bnd_of h
      obtain ⟨tb10, hb10, h⟩ := bnd_of h
      obtain ⟨hb11, h⟩ := grd_of h
      obtain ⟨hb12, h⟩ := grd_of h
      replace h := Option.some.inj h
      subst h
      exact ⟨100, 45, [.br true, .ret (.agg [I tb2.1, I tb2.2.1, I tb2.2.2]), .ret (.agg [I tb4.1, I tb4.2.1, I tb4.2.2]), .ret (.agg [I tb8.1, I tb8.2.1, I tb8.2.2]), .ret (.agg [I tb9.1, I tb9.2.1, I tb9.2.2]), .ret (.agg [I tb10.1, I tb10.2.1, I tb10.2.2]), .no, .no, .no], [], [0, 1, 2, 4, 7, 8, 11, 12], [0, 1, 2, 3, 9, 16, 25, 26, 34, 37, 87], round_of (ob := [inI64 1, inI64 ((sa * a5) + 0), inI64 (sa * a5), Computes cx 98 [.agg [I tb2.1, I tb2.2.1, I tb2.2.2], .agg [I tb9.1, I tb9.2.1, I tb9.2.2]] (.agg [I tb10.1, I tb10.2.1, I tb10.2.2]), Computes cx 98 [.agg [I tb4.1, I tb4.2.1, I tb4.2.2], .agg [I tb8.1, I tb8.2.1, I tb8.2.2]] (.agg [I tb9.1, I tb9.2.1, I tb9.2.2]), Computes cx 99 [I (((2 * sa) + 1) - a5), .agg [I t1.2.2.2.2.2.2.2.1, I t1.2.2.2.2.2.2.2.2.1, I t1.2.2.2.2.2.2.2.2.2]] (.agg [I tb8.1, I tb8.2.1, I tb8.2.2]), inI64 (((2 * sa) + 1) - a5), inI64 ((2 * sa) + 1), inI64 (2 * sa), Computes cx 99 [I (1 - a5), .agg [I t1.2.2.2.2.1, I t1.2.2.2.2.2.1, I t1.2.2.2.2.2.2.1]] (.agg [I tb4.1, I tb4.2.1, I tb4.2.2]), inI64 (1 - a5), inI64 1, inI64 0, Computes cx 99 [I a5, .agg [I t1.2.1, I t1.2.2.1, I t1.2.2.2.1]] (.agg [I tb2.1, I tb2.2.1, I tb2.2.2]), (decide (0 < a5)) = true]) (by kernel_rfl) ⟨(by unfold inI64; omega), hb12, hb11, (c_field_plus hb10), (c_field_plus hb9), (c_field_times hb8), hb7, hb6, hb5, (c_field_times hb4), hb3, (by unfold inI64; omega), (by unfold inI64; omega), (c_field_times hb2), (decide_eq_true hb1), trivial⟩⟩
    · replace h := ite_f h hb1
      replace h := Option.some.inj h
      subst h
      exact ⟨⟨100, 45, [.br false], [], [0, 1, 2, 7, 8], [0, 1, 2, 3, 9, 16, 25, 26, 34, 37], round_of (ob := [(decide (0 < a5)) = false]) (by kernel_rfl) ⟨(decide_eq_false hb1), trivial⟩⟩, nofun⟩
  · by_cases hb1 : sb.1 < a5
    · replace h := ite_t h hb1
      obtain ⟨tb2, hb2, h⟩ := bnd_of h
      obtain ⟨hb3, h⟩ := grd_of h
      obtain ⟨hb4, h⟩ := grd_of h
      obtain ⟨hb5, h⟩ := grd_of h
      obtain ⟨tb6, hb6, h⟩ := bnd_of h
      obtain ⟨hb7, h⟩ := grd_of h
      obtain ⟨hb8, h⟩ := grd_of h
      obtain ⟨hb9, h⟩ := grd_of h
      obtain ⟨tb10, hb10, h⟩ := bnd_of h
      obtain ⟨tb11, hb11, h⟩ := bnd_of h
      obtain ⟨tb12, hb12, h⟩ := bnd_of h
      obtain ⟨hb13, h⟩ := grd_of h
      obtain ⟨hb14, h⟩ := grd_of h
      obtain ⟨hb15, h⟩ := grd_of h
      obtain ⟨hb16, h⟩ := grd_of h
      replace h := Option.some.inj h
      subst h
      exact ⟨100, 88, [.br true, .ret (.agg [I tb2.1, I tb2.2.1, I tb2.2.2]), .ret (.agg [I tb6.1, I tb6.2.1, I tb6.2.2]), .ret (.agg [I tb10.1, I tb10.2.1, I tb10.2.2]), .ret (.agg [I tb11.1, I tb11.2.1, I tb11.2.2]), .ret (.agg [I tb12.1, I tb12.2.1, I tb12.2.2]), .br true, .no], [], [0, 1, 2, 4, 7, 8, 11, 12], [0, 1, 2, 3, 9, 16, 25, 26, 34, 37, 87], round_of (ob := [inI64 (sb.1 + 1), room cx 130 ((sb.2).length + 1), inI64 ((sa * a5) + sb.1), inI64 (sa * a5), Computes cx 98 [.agg [I tb2.1, I tb2.2.1, I tb2.2.2], .agg [I tb11.1, I tb11.2.1, I tb11.2.2]] (.agg [I tb12.1, I tb12.2.1, I tb12.2.2]), Computes cx 98 [.agg [I tb6.1, I tb6.2.1, I tb6.2.2], .agg [I tb10.1, I tb10.2.1, I tb10.2.2]] (.agg [I tb11.1, I tb11.2.1, I tb11.2.2]), Computes cx 99 [I (((2 * sa) + 1) - a5), .agg [I t1.2.2.2.2.2.2.2.1, I t1.2.2.2.2.2.2.2.2.1, I t1.2.2.2.2.2.2.2.2.2]] (.agg [I tb10.1, I tb10.2.1, I tb10.2.2]), inI64 (((2 * sa) + 1) - a5), inI64 ((2 * sa) + 1), inI64 (2 * sa), Computes cx 99 [I (((2 * sb.1) + 1) - a5), .agg [I t1.2.2.2.2.1, I t1.2.2.2.2.2.1, I t1.2.2.2.2.2.2.1]] (.agg [I tb6.1, I tb6.2.1, I tb6.2.2]), inI64 (((2 * sb.1) + 1) - a5), inI64 ((2 * sb.1) + 1), inI64 (2 * sb.1), Computes cx 99 [I a5, .agg [I t1.2.1, I t1.2.2.1, I t1.2.2.2.1]] (.agg [I tb2.1, I tb2.2.1, I tb2.2.2]), (decide (sb.1 < a5)) = true]) (by kernel_rfl) ⟨hb16, (room_of (b := 32) (by kernel_rfl) (by decide) hb15), hb14, hb13, (c_field_plus hb12), (c_field_plus hb11), (c_field_times hb10), hb9, hb8, hb7, (c_field_times hb6), hb5, hb4, hb3, (c_field_times hb2), (decide_eq_true hb1), trivial⟩⟩
    · replace h := ite_f h hb1
      replace h := Option.some.inj h
      subst h
      exact ⟨⟨100, 88, [.br false], [], [0, 1, 2, 7, 8], [0, 1, 2, 3, 9, 16, 25, 26, 34, 37, 87], round_of (ob := [(decide (sb.1 < a5)) = false]) (by kernel_rfl) ⟨(decide_eq_false hb1), trivial⟩⟩, nofun⟩
def F_field_dark_L3 (n : Nat) (a0 : List D) (a1 : Int) (a2 : Int) (a3 : Int) (a4 : Int) (a5 : Int) (t1 : ByteArray × Int × Int × Int × Int × Int × Int × Int × Int × Int) (t3 : Int) (sa : Int × List D) (sb : (Int × List D)) : Option (((Int × List D)) ⊕ ((List D))) :=
  if sb.1 < a5 then
    (F_field_times n a5 t1.2.1 t1.2.2.1 t1.2.2.2.1).bind fun tb2 =>
    if inI64 (2 * sb.1) then
    if inI64 ((2 * sb.1) + 1) then
    if inI64 (((2 * sb.1) + 1) - a5) then
    (F_field_times n (((2 * sb.1) + 1) - a5) t1.2.2.2.2.1 t1.2.2.2.2.2.1 t1.2.2.2.2.2.2.1).bind fun tb6 =>
    if inI64 (2 * sa.1) then
    if inI64 ((2 * sa.1) + 1) then
    if inI64 (((2 * sa.1) + 1) - a5) then
    (F_field_times n (((2 * sa.1) + 1) - a5) t1.2.2.2.2.2.2.2.1 t1.2.2.2.2.2.2.2.2.1 t1.2.2.2.2.2.2.2.2.2).bind fun tb10 =>
    (F_field_plus n tb6.1 tb6.2.1 tb6.2.2 tb10.1 tb10.2.1 tb10.2.2).bind fun tb11 =>
    (F_field_plus n tb2.1 tb2.2.1 tb2.2.2 tb11.1 tb11.2.1 tb11.2.2).bind fun tb12 =>
    if inI64 (sa.1 * a5) then
    if inI64 ((sa.1 * a5) + sb.1) then
    if roomP 32 ((sb.2).length + 1) then
    if inI64 (sb.1 + 1) then
    some (.inl ((sb.1 + 1), (sb.2 ++ ([.agg [I ((sa.1 * a5) + sb.1), I tb12.1, I tb12.2.1, I tb12.2.2]] : List D))))
    else none
    else none
    else none
    else none
    else none
    else none
    else none
    else none
    else none
    else none
  else
  some (.inr sb.2)
noncomputable def T_field_dark_L3 (a0 : List D) (a1 : Int) (a2 : Int) (a3 : Int) (a4 : Int) (a5 : Int) (t1 : ByteArray × Int × Int × Int × Int × Int × Int × Int × Int × Int) (t3 : Int) (sa : Int × List D) (sb : (Int × List D)) : List (Nat × AV) := [(0, .own 37 0), (1, .ptr 26 0 0 0 0), (2, .ptr 25 0 0 0 0), (4, .d (I sa.1)), (7, .d (I a5)), (8, .d (I sa.1)), (11, .d (I a5)), (12, .d (I sb.1))]
noncomputable def H_field_dark_L3 (a0 : List D) (a1 : Int) (a2 : Int) (a3 : Int) (a4 : Int) (a5 : Int) (t1 : ByteArray × Int × Int × Int × Int × Int × Int × Int × Int × Int) (t3 : Int) (sa : Int × List D) (sb : (Int × List D)) : List (Nat × Blk) := [(0, .box (.d (.lst false 10 a0))), (1, .box (.d (I a1))), (2, .box (.d (.agg [I a2, I a3, I a4]))), (3, .box (.d (I a5))), (9, .box (.d (.agg [.v (.string t1.1), I t1.2.1, I t1.2.2.1, I t1.2.2.2.1, I t1.2.2.2.2.1, I t1.2.2.2.2.2.1, I t1.2.2.2.2.2.2.1, I t1.2.2.2.2.2.2.2.1, I t1.2.2.2.2.2.2.2.2.1, I t1.2.2.2.2.2.2.2.2.2]))), (16, .box (.d (B (decide (t3 > 0))))), (25, .box (.d (.agg [.v (.string t1.1), I t1.2.1, I t1.2.2.1, I t1.2.2.2.1, I t1.2.2.2.2.1, I t1.2.2.2.2.2.1, I t1.2.2.2.2.2.2.1, I t1.2.2.2.2.2.2.2.1, I t1.2.2.2.2.2.2.2.2.1, I t1.2.2.2.2.2.2.2.2.2]))), (26, .box (.d (I a5))), (34, .box (.own 87 0)), (37, .loop true [(6, .fn (.func 104) [] [.ptr 26 0 0 0 0, .ptr 25 0 0 0 0]), (4, .d (.lst true 0 [])), (2, .ptr 34 0 0 0 0), (1, .fn (.func 104) [] [.ptr 26 0 0 0 0, .ptr 25 0 0 0 0]), (0, .d (.lst true 0 []))] [7] (rangeAt cx.P 103 0).1 (rangeAt cx.P 103 0).2 13), (87, .row 0 4 sb.2)]
noncomputable def X_field_dark_L3 (a0 : List D) (a1 : Int) (a2 : Int) (a3 : Int) (a4 : Int) (a5 : Int) (t1 : ByteArray × Int × Int × Int × Int × Int × Int × Int × Int × Int) (t3 : Int) (sa : Int × List D) (e : (List D)) : Ex := (.exit 2)
noncomputable def XT_field_dark_L3 (a0 : List D) (a1 : Int) (a2 : Int) (a3 : Int) (a4 : Int) (a5 : Int) (t1 : ByteArray × Int × Int × Int × Int × Int × Int × Int × Int × Int) (t3 : Int) (sa : Int × List D) (e : (List D)) : List (Nat × AV) := [(0, .own 37 0), (1, .ptr 26 0 0 0 0), (2, .ptr 25 0 0 0 0), (7, .d (I a5)), (8, .d (I sa.1))]
noncomputable def XH_field_dark_L3 (a0 : List D) (a1 : Int) (a2 : Int) (a3 : Int) (a4 : Int) (a5 : Int) (t1 : ByteArray × Int × Int × Int × Int × Int × Int × Int × Int × Int) (t3 : Int) (sa : Int × List D) (e : (List D)) : List (Nat × Blk) := [(0, .box (.d (.lst false 10 a0))), (1, .box (.d (I a1))), (2, .box (.d (.agg [I a2, I a3, I a4]))), (3, .box (.d (I a5))), (9, .box (.d (.agg [.v (.string t1.1), I t1.2.1, I t1.2.2.1, I t1.2.2.2.1, I t1.2.2.2.2.1, I t1.2.2.2.2.2.1, I t1.2.2.2.2.2.2.1, I t1.2.2.2.2.2.2.2.1, I t1.2.2.2.2.2.2.2.2.1, I t1.2.2.2.2.2.2.2.2.2]))), (16, .box (.d (B (decide (t3 > 0))))), (25, .box (.d (.agg [.v (.string t1.1), I t1.2.1, I t1.2.2.1, I t1.2.2.2.1, I t1.2.2.2.2.1, I t1.2.2.2.2.2.1, I t1.2.2.2.2.2.2.1, I t1.2.2.2.2.2.2.2.1, I t1.2.2.2.2.2.2.2.2.1, I t1.2.2.2.2.2.2.2.2.2]))), (26, .box (.d (I a5))), (34, .box (.own 87 0)), (37, .loop true [(6, .fn (.func 104) [] [.ptr 26 0 0 0 0, .ptr 25 0 0 0 0]), (4, .d (.lst true 0 [])), (2, .ptr 34 0 0 0 0), (1, .fn (.func 104) [] [.ptr 26 0 0 0 0, .ptr 25 0 0 0 0]), (0, .d (.lst true 0 []))] [7] (rangeAt cx.P 103 0).1 (rangeAt cx.P 103 0).2 13), (87, .row 0 4 e)]
theorem R_field_dark_L3 {n : Nat} {a0 : List D} {a1 : Int} {a2 : Int} {a3 : Int} {a4 : Int} {a5 : Int} {t1 : ByteArray × Int × Int × Int × Int × Int × Int × Int × Int × Int} {t3 : Int} {sa : Int × List D} (sb : (Int × List D)) (r) (h : F_field_dark_L3 n a0 a1 a2 a3 a4 a5 t1 t3 sa sb = some r) : Rd cx (loopAt cx.P 104 1) 49 38 false (T_field_dark_L3 a0 a1 a2 a3 a4 a5 t1 t3 sa) (H_field_dark_L3 a0 a1 a2 a3 a4 a5 t1 t3 sa) (X_field_dark_L3 a0 a1 a2 a3 a4 a5 t1 t3 sa) (XT_field_dark_L3 a0 a1 a2 a3 a4 a5 t1 t3 sa) (XH_field_dark_L3 a0 a1 a2 a3 a4 a5 t1 t3 sa) sb r := by
  unfold F_field_dark_L3 at h
  by_cases hb1 : sb.1 < a5
  · replace h := ite_t h hb1
    obtain ⟨tb2, hb2, h⟩ := bnd_of h
    obtain ⟨hb3, h⟩ := grd_of h
    obtain ⟨hb4, h⟩ := grd_of h
    obtain ⟨hb5, h⟩ := grd_of h
    obtain ⟨tb6, hb6, h⟩ := bnd_of h
    obtain ⟨hb7, h⟩ := grd_of h
    obtain ⟨hb8, h⟩ := grd_of h
    obtain ⟨hb9, h⟩ := grd_of h
    obtain ⟨tb10, hb10, h⟩ := bnd_of h
    obtain ⟨tb11, hb11, h⟩ := bnd_of h
    obtain ⟨tb12, hb12, h⟩ := bnd_of h
    obtain ⟨hb13, h⟩ := grd_of h
    obtain ⟨hb14, h⟩ := grd_of h
    obtain ⟨hb15, h⟩ := grd_of h
    obtain ⟨hb16, h⟩ := grd_of h
    replace h := Option.some.inj h
    subst h
    exact ⟨100, 93, [.br true, .ret (.agg [I tb2.1, I tb2.2.1, I tb2.2.2]), .ret (.agg [I tb6.1, I tb6.2.1, I tb6.2.2]), .ret (.agg [I tb10.1, I tb10.2.1, I tb10.2.2]), .ret (.agg [I tb11.1, I tb11.2.1, I tb11.2.2]), .ret (.agg [I tb12.1, I tb12.2.1, I tb12.2.2]), .br true, .no], [], [0, 1, 2, 4, 7, 8, 11, 12], [0, 1, 2, 3, 9, 16, 25, 26, 34, 37, 87], round_of (ob := [inI64 (sb.1 + 1), room cx 130 ((sb.2).length + 1), inI64 ((sa.1 * a5) + sb.1), inI64 (sa.1 * a5), Computes cx 98 [.agg [I tb2.1, I tb2.2.1, I tb2.2.2], .agg [I tb11.1, I tb11.2.1, I tb11.2.2]] (.agg [I tb12.1, I tb12.2.1, I tb12.2.2]), Computes cx 98 [.agg [I tb6.1, I tb6.2.1, I tb6.2.2], .agg [I tb10.1, I tb10.2.1, I tb10.2.2]] (.agg [I tb11.1, I tb11.2.1, I tb11.2.2]), Computes cx 99 [I (((2 * sa.1) + 1) - a5), .agg [I t1.2.2.2.2.2.2.2.1, I t1.2.2.2.2.2.2.2.2.1, I t1.2.2.2.2.2.2.2.2.2]] (.agg [I tb10.1, I tb10.2.1, I tb10.2.2]), inI64 (((2 * sa.1) + 1) - a5), inI64 ((2 * sa.1) + 1), inI64 (2 * sa.1), Computes cx 99 [I (((2 * sb.1) + 1) - a5), .agg [I t1.2.2.2.2.1, I t1.2.2.2.2.2.1, I t1.2.2.2.2.2.2.1]] (.agg [I tb6.1, I tb6.2.1, I tb6.2.2]), inI64 (((2 * sb.1) + 1) - a5), inI64 ((2 * sb.1) + 1), inI64 (2 * sb.1), Computes cx 99 [I a5, .agg [I t1.2.1, I t1.2.2.1, I t1.2.2.2.1]] (.agg [I tb2.1, I tb2.2.1, I tb2.2.2]), (decide (sb.1 < a5)) = true]) (by kernel_rfl) ⟨hb16, (room_of (b := 32) (by kernel_rfl) (by decide) hb15), hb14, hb13, (c_field_plus hb12), (c_field_plus hb11), (c_field_times hb10), hb9, hb8, hb7, (c_field_times hb6), hb5, hb4, hb3, (c_field_times hb2), (decide_eq_true hb1), trivial⟩⟩
  · replace h := ite_f h hb1
    replace h := Option.some.inj h
    subst h
    exact ⟨⟨100, 93, [.br false], [], [0, 1, 2, 7, 8], [0, 1, 2, 3, 9, 16, 25, 26, 34, 37, 87], round_of (ob := [(decide (sb.1 < a5)) = false]) (by kernel_rfl) ⟨(decide_eq_false hb1), trivial⟩⟩, nofun⟩
def F_field_dark_L4 (n : Nat) (a0 : List D) (a1 : Int) (a2 : Int) (a3 : Int) (a4 : Int) (a5 : Int) (t1 : ByteArray × Int × Int × Int × Int × Int × Int × Int × Int × Int) (t3 : Int) (sa : (Int) ⊕ (Int × List D)) : Option (((Int) ⊕ (Int × List D)) ⊕ ((Unit) ⊕ (List D))) := match sa with
  | (.inl sa) => (
    if sa < a5 then
      (loopF (F_field_dark_L2 n a0 a1 a2 a3 a4 a5 t1 t3 sa) n (.inl ())).bind fun ta2 => match ta2 with
        | (.inl ta2) => (
          if inI64 (sa + 1) then
          some (.inl (.inl (sa + 1)))
          else none)
        | (.inr ta2) => (
          if inI64 (sa + 1) then
          some (.inl (.inr ((sa + 1), ta2)))
          else none)
    else
    some (.inr (.inl ())))
  | (.inr sa) => (
    if sa.1 < a5 then
      (loopF (F_field_dark_L3 n a0 a1 a2 a3 a4 a5 t1 t3 sa) n (0, sa.2)).bind fun ta2 =>
      if inI64 (sa.1 + 1) then
      some (.inl (.inr ((sa.1 + 1), ta2)))
      else none
    else
    some (.inr (.inr sa.2)))
noncomputable def T_field_dark_L4 (a0 : List D) (a1 : Int) (a2 : Int) (a3 : Int) (a4 : Int) (a5 : Int) (t1 : ByteArray × Int × Int × Int × Int × Int × Int × Int × Int × Int) (t3 : Int) (sa : (Int) ⊕ (Int × List D)) : List (Nat × AV) := match sa with
  | (.inl sa) => [(0, .own 37 0), (1, .ptr 26 0 0 0 0), (2, .ptr 25 0 0 0 0), (7, .d (I a5)), (8, .d (I sa))]
  | (.inr sa) => [(0, .own 37 0), (1, .ptr 26 0 0 0 0), (2, .ptr 25 0 0 0 0), (7, .d (I a5)), (8, .d (I sa.1))]
noncomputable def H_field_dark_L4 (a0 : List D) (a1 : Int) (a2 : Int) (a3 : Int) (a4 : Int) (a5 : Int) (t1 : ByteArray × Int × Int × Int × Int × Int × Int × Int × Int × Int) (t3 : Int) (sa : (Int) ⊕ (Int × List D)) : List (Nat × Blk) := match sa with
  | (.inl sa) => [(0, .box (.d (.lst false 10 a0))), (1, .box (.d (I a1))), (2, .box (.d (.agg [I a2, I a3, I a4]))), (3, .box (.d (I a5))), (9, .box (.d (.agg [.v (.string t1.1), I t1.2.1, I t1.2.2.1, I t1.2.2.2.1, I t1.2.2.2.2.1, I t1.2.2.2.2.2.1, I t1.2.2.2.2.2.2.1, I t1.2.2.2.2.2.2.2.1, I t1.2.2.2.2.2.2.2.2.1, I t1.2.2.2.2.2.2.2.2.2]))), (16, .box (.d (B (decide (t3 > 0))))), (25, .box (.d (.agg [.v (.string t1.1), I t1.2.1, I t1.2.2.1, I t1.2.2.2.1, I t1.2.2.2.2.1, I t1.2.2.2.2.2.1, I t1.2.2.2.2.2.2.1, I t1.2.2.2.2.2.2.2.1, I t1.2.2.2.2.2.2.2.2.1, I t1.2.2.2.2.2.2.2.2.2]))), (26, .box (.d (I a5))), (34, .box (.d (.lst true 0 []))), (37, .loop true [(6, .fn (.func 104) [] [.ptr 26 0 0 0 0, .ptr 25 0 0 0 0]), (4, .d (.lst true 0 [])), (2, .ptr 34 0 0 0 0), (1, .fn (.func 104) [] [.ptr 26 0 0 0 0, .ptr 25 0 0 0 0]), (0, .d (.lst true 0 []))] [7] (rangeAt cx.P 103 0).1 (rangeAt cx.P 103 0).2 13)]
  | (.inr sa) => [(0, .box (.d (.lst false 10 a0))), (1, .box (.d (I a1))), (2, .box (.d (.agg [I a2, I a3, I a4]))), (3, .box (.d (I a5))), (9, .box (.d (.agg [.v (.string t1.1), I t1.2.1, I t1.2.2.1, I t1.2.2.2.1, I t1.2.2.2.2.1, I t1.2.2.2.2.2.1, I t1.2.2.2.2.2.2.1, I t1.2.2.2.2.2.2.2.1, I t1.2.2.2.2.2.2.2.2.1, I t1.2.2.2.2.2.2.2.2.2]))), (16, .box (.d (B (decide (t3 > 0))))), (25, .box (.d (.agg [.v (.string t1.1), I t1.2.1, I t1.2.2.1, I t1.2.2.2.1, I t1.2.2.2.2.1, I t1.2.2.2.2.2.1, I t1.2.2.2.2.2.2.1, I t1.2.2.2.2.2.2.2.1, I t1.2.2.2.2.2.2.2.2.1, I t1.2.2.2.2.2.2.2.2.2]))), (26, .box (.d (I a5))), (34, .box (.own 87 0)), (37, .loop true [(6, .fn (.func 104) [] [.ptr 26 0 0 0 0, .ptr 25 0 0 0 0]), (4, .d (.lst true 0 [])), (2, .ptr 34 0 0 0 0), (1, .fn (.func 104) [] [.ptr 26 0 0 0 0, .ptr 25 0 0 0 0]), (0, .d (.lst true 0 []))] [7] (rangeAt cx.P 103 0).1 (rangeAt cx.P 103 0).2 13), (87, .row 0 4 sa.2)]
noncomputable def X_field_dark_L4 (a0 : List D) (a1 : Int) (a2 : Int) (a3 : Int) (a4 : Int) (a5 : Int) (t1 : ByteArray × Int × Int × Int × Int × Int × Int × Int × Int × Int) (t3 : Int) (e : (Unit) ⊕ (List D)) : Ex := match e with
  | (.inl e) => (.exit 0)
  | (.inr e) => (.exit 0)
noncomputable def XT_field_dark_L4 (a0 : List D) (a1 : Int) (a2 : Int) (a3 : Int) (a4 : Int) (a5 : Int) (t1 : ByteArray × Int × Int × Int × Int × Int × Int × Int × Int × Int) (t3 : Int) (e : (Unit) ⊕ (List D)) : List (Nat × AV) := match e with
  | (.inl e) => []
  | (.inr e) => []
noncomputable def XH_field_dark_L4 (a0 : List D) (a1 : Int) (a2 : Int) (a3 : Int) (a4 : Int) (a5 : Int) (t1 : ByteArray × Int × Int × Int × Int × Int × Int × Int × Int × Int) (t3 : Int) (e : (Unit) ⊕ (List D)) : List (Nat × Blk) := match e with
  | (.inl e) => [(0, .box (.d (.lst false 10 a0))), (1, .box (.d (I a1))), (2, .box (.d (.agg [I a2, I a3, I a4]))), (3, .box (.d (I a5))), (9, .box (.d (.agg [.v (.string t1.1), I t1.2.1, I t1.2.2.1, I t1.2.2.2.1, I t1.2.2.2.2.1, I t1.2.2.2.2.2.1, I t1.2.2.2.2.2.2.1, I t1.2.2.2.2.2.2.2.1, I t1.2.2.2.2.2.2.2.2.1, I t1.2.2.2.2.2.2.2.2.2]))), (16, .box (.d (B (decide (t3 > 0))))), (25, .box (.d (.agg [.v (.string t1.1), I t1.2.1, I t1.2.2.1, I t1.2.2.2.1, I t1.2.2.2.2.1, I t1.2.2.2.2.2.1, I t1.2.2.2.2.2.2.1, I t1.2.2.2.2.2.2.2.1, I t1.2.2.2.2.2.2.2.2.1, I t1.2.2.2.2.2.2.2.2.2]))), (26, .box (.d (I a5))), (34, .box (.d (.lst true 0 []))), (37, .loop true [(6, .fn (.func 104) [] [.ptr 26 0 0 0 0, .ptr 25 0 0 0 0]), (4, .d (.lst true 0 [])), (2, .ptr 34 0 0 0 0), (1, .fn (.func 104) [] [.ptr 26 0 0 0 0, .ptr 25 0 0 0 0]), (0, .d (.lst true 0 []))] [7] (rangeAt cx.P 103 0).1 (rangeAt cx.P 103 0).2 13)]
  | (.inr e) => [(0, .box (.d (.lst false 10 a0))), (1, .box (.d (I a1))), (2, .box (.d (.agg [I a2, I a3, I a4]))), (3, .box (.d (I a5))), (9, .box (.d (.agg [.v (.string t1.1), I t1.2.1, I t1.2.2.1, I t1.2.2.2.1, I t1.2.2.2.2.1, I t1.2.2.2.2.2.1, I t1.2.2.2.2.2.2.1, I t1.2.2.2.2.2.2.2.1, I t1.2.2.2.2.2.2.2.2.1, I t1.2.2.2.2.2.2.2.2.2]))), (16, .box (.d (B (decide (t3 > 0))))), (25, .box (.d (.agg [.v (.string t1.1), I t1.2.1, I t1.2.2.1, I t1.2.2.2.1, I t1.2.2.2.2.1, I t1.2.2.2.2.2.1, I t1.2.2.2.2.2.2.1, I t1.2.2.2.2.2.2.2.1, I t1.2.2.2.2.2.2.2.2.1, I t1.2.2.2.2.2.2.2.2.2]))), (26, .box (.d (I a5))), (34, .box (.own 87 0)), (37, .loop true [(6, .fn (.func 104) [] [.ptr 26 0 0 0 0, .ptr 25 0 0 0 0]), (4, .d (.lst true 0 [])), (2, .ptr 34 0 0 0 0), (1, .fn (.func 104) [] [.ptr 26 0 0 0 0, .ptr 25 0 0 0 0]), (0, .d (.lst true 0 []))] [7] (rangeAt cx.P 103 0).1 (rangeAt cx.P 103 0).2 13), (87, .row 0 4 e)]
theorem R_field_dark_L4 {n : Nat} {a0 : List D} {a1 : Int} {a2 : Int} {a3 : Int} {a4 : Int} {a5 : Int} {t1 : ByteArray × Int × Int × Int × Int × Int × Int × Int × Int × Int} {t3 : Int} (sa : (Int) ⊕ (Int × List D)) (r) (h : F_field_dark_L4 n a0 a1 a2 a3 a4 a5 t1 t3 sa = some r) : Rd cx (loopAt cx.P 104 0) 49 38 false (T_field_dark_L4 a0 a1 a2 a3 a4 a5 t1 t3) (H_field_dark_L4 a0 a1 a2 a3 a4 a5 t1 t3) (X_field_dark_L4 a0 a1 a2 a3 a4 a5 t1 t3) (XT_field_dark_L4 a0 a1 a2 a3 a4 a5 t1 t3) (XH_field_dark_L4 a0 a1 a2 a3 a4 a5 t1 t3) sa r := by
  unfold F_field_dark_L4 at h
  rcases sa with sa | sa
  · by_cases ha1 : sa < a5
    · replace h := ite_t h ha1
      obtain ⟨ta2, ha2, h⟩ := bnd_of h
      rcases ta2 with ta2 | ta2
      · obtain ⟨ha3, h⟩ := grd_of h
        replace h := Option.some.inj h
        subst h
        exact ⟨100, 40, [.br true, .lp [] [0, 1, 2, 4, 7, 8, 11, 12] [0, 1, 2, 3, 9, 16, 25, 26, 34, 37] (.exit 2) [(0, .own 37 0), (1, .ptr 26 0 0 0 0), (2, .ptr 25 0 0 0 0), (7, .d (I a5)), (8, .d (I sa))] [(0, .box (.d (.lst false 10 a0))), (1, .box (.d (I a1))), (2, .box (.d (.agg [I a2, I a3, I a4]))), (3, .box (.d (I a5))), (9, .box (.d (.agg [.v (.string t1.1), I t1.2.1, I t1.2.2.1, I t1.2.2.2.1, I t1.2.2.2.2.1, I t1.2.2.2.2.2.1, I t1.2.2.2.2.2.2.1, I t1.2.2.2.2.2.2.2.1, I t1.2.2.2.2.2.2.2.2.1, I t1.2.2.2.2.2.2.2.2.2]))), (16, .box (.d (B (decide (t3 > 0))))), (25, .box (.d (.agg [.v (.string t1.1), I t1.2.1, I t1.2.2.1, I t1.2.2.2.1, I t1.2.2.2.2.1, I t1.2.2.2.2.2.1, I t1.2.2.2.2.2.2.1, I t1.2.2.2.2.2.2.2.1, I t1.2.2.2.2.2.2.2.2.1, I t1.2.2.2.2.2.2.2.2.2]))), (26, .box (.d (I a5))), (34, .box (.d (.lst true 0 []))), (37, .loop true [(6, .fn (.func 104) [] [.ptr 26 0 0 0 0, .ptr 25 0 0 0 0]), (4, .d (.lst true 0 [])), (2, .ptr 34 0 0 0 0), (1, .fn (.func 104) [] [.ptr 26 0 0 0 0, .ptr 25 0 0 0 0]), (0, .d (.lst true 0 []))] [7] (rangeAt cx.P 103 0).1 (rangeAt cx.P 103 0).2 13)] 145], [], [0, 1, 2, 7, 8], [0, 1, 2, 3, 9, 16, 25, 26, 34, 37], round_of (ob := [inI64 (sa + 1), LoopN cx (loopAt cx.P 104 1) 49 38 false [(0, .own 37 0), (1, .ptr 26 0 0 0 0), (2, .ptr 25 0 0 0 0), (4, .d (I sa)), (7, .d (I a5)), (8, .d (I sa)), (11, .d (I a5)), (12, .d (I 0))] [(0, .box (.d (.lst false 10 a0))), (1, .box (.d (I a1))), (2, .box (.d (.agg [I a2, I a3, I a4]))), (3, .box (.d (I a5))), (9, .box (.d (.agg [.v (.string t1.1), I t1.2.1, I t1.2.2.1, I t1.2.2.2.1, I t1.2.2.2.2.1, I t1.2.2.2.2.2.1, I t1.2.2.2.2.2.2.1, I t1.2.2.2.2.2.2.2.1, I t1.2.2.2.2.2.2.2.2.1, I t1.2.2.2.2.2.2.2.2.2]))), (16, .box (.d (B (decide (t3 > 0))))), (25, .box (.d (.agg [.v (.string t1.1), I t1.2.1, I t1.2.2.1, I t1.2.2.2.1, I t1.2.2.2.2.1, I t1.2.2.2.2.2.1, I t1.2.2.2.2.2.2.1, I t1.2.2.2.2.2.2.2.1, I t1.2.2.2.2.2.2.2.2.1, I t1.2.2.2.2.2.2.2.2.2]))), (26, .box (.d (I a5))), (34, .box (.d (.lst true 0 []))), (37, .loop true [(6, .fn (.func 104) [] [.ptr 26 0 0 0 0, .ptr 25 0 0 0 0]), (4, .d (.lst true 0 [])), (2, .ptr 34 0 0 0 0), (1, .fn (.func 104) [] [.ptr 26 0 0 0 0, .ptr 25 0 0 0 0]), (0, .d (.lst true 0 []))] [7] (rangeAt cx.P 103 0).1 (rangeAt cx.P 103 0).2 13)] (.exit 2) [(0, .own 37 0), (1, .ptr 26 0 0 0 0), (2, .ptr 25 0 0 0 0), (7, .d (I a5)), (8, .d (I sa))] [(0, .box (.d (.lst false 10 a0))), (1, .box (.d (I a1))), (2, .box (.d (.agg [I a2, I a3, I a4]))), (3, .box (.d (I a5))), (9, .box (.d (.agg [.v (.string t1.1), I t1.2.1, I t1.2.2.1, I t1.2.2.2.1, I t1.2.2.2.2.1, I t1.2.2.2.2.2.1, I t1.2.2.2.2.2.2.1, I t1.2.2.2.2.2.2.2.1, I t1.2.2.2.2.2.2.2.2.1, I t1.2.2.2.2.2.2.2.2.2]))), (16, .box (.d (B (decide (t3 > 0))))), (25, .box (.d (.agg [.v (.string t1.1), I t1.2.1, I t1.2.2.1, I t1.2.2.2.1, I t1.2.2.2.2.1, I t1.2.2.2.2.2.1, I t1.2.2.2.2.2.2.1, I t1.2.2.2.2.2.2.2.1, I t1.2.2.2.2.2.2.2.2.1, I t1.2.2.2.2.2.2.2.2.2]))), (26, .box (.d (I a5))), (34, .box (.d (.lst true 0 []))), (37, .loop true [(6, .fn (.func 104) [] [.ptr 26 0 0 0 0, .ptr 25 0 0 0 0]), (4, .d (.lst true 0 [])), (2, .ptr 34 0 0 0 0), (1, .fn (.func 104) [] [.ptr 26 0 0 0 0, .ptr 25 0 0 0 0]), (0, .d (.lst true 0 []))] [7] (rangeAt cx.P 103 0).1 (rangeAt cx.P 103 0).2 13)], (decide (sa < a5)) = true]) (by kernel_rfl) ⟨ha3, (loopF_to R_field_dark_L2 ha2), (decide_eq_true ha1), trivial⟩⟩
      · obtain ⟨ha3, h⟩ := grd_of h
        replace h := Option.some.inj h
        subst h
        exact ⟨100, 40, [.br true, .lp [] [0, 1, 2, 4, 7, 8, 11, 12] [0, 1, 2, 3, 9, 16, 25, 26, 34, 37] (.exit 2) [(0, .own 37 0), (1, .ptr 26 0 0 0 0), (2, .ptr 25 0 0 0 0), (7, .d (I a5)), (8, .d (I sa))] [(0, .box (.d (.lst false 10 a0))), (1, .box (.d (I a1))), (2, .box (.d (.agg [I a2, I a3, I a4]))), (3, .box (.d (I a5))), (9, .box (.d (.agg [.v (.string t1.1), I t1.2.1, I t1.2.2.1, I t1.2.2.2.1, I t1.2.2.2.2.1, I t1.2.2.2.2.2.1, I t1.2.2.2.2.2.2.1, I t1.2.2.2.2.2.2.2.1, I t1.2.2.2.2.2.2.2.2.1, I t1.2.2.2.2.2.2.2.2.2]))), (16, .box (.d (B (decide (t3 > 0))))), (25, .box (.d (.agg [.v (.string t1.1), I t1.2.1, I t1.2.2.1, I t1.2.2.2.1, I t1.2.2.2.2.1, I t1.2.2.2.2.2.1, I t1.2.2.2.2.2.2.1, I t1.2.2.2.2.2.2.2.1, I t1.2.2.2.2.2.2.2.2.1, I t1.2.2.2.2.2.2.2.2.2]))), (26, .box (.d (I a5))), (34, .box (.own 87 0)), (37, .loop true [(6, .fn (.func 104) [] [.ptr 26 0 0 0 0, .ptr 25 0 0 0 0]), (4, .d (.lst true 0 [])), (2, .ptr 34 0 0 0 0), (1, .fn (.func 104) [] [.ptr 26 0 0 0 0, .ptr 25 0 0 0 0]), (0, .d (.lst true 0 []))] [7] (rangeAt cx.P 103 0).1 (rangeAt cx.P 103 0).2 13), (87, .row 0 4 ta2)] 145], [], [0, 1, 2, 7, 8], [0, 1, 2, 3, 9, 16, 25, 26, 34, 37, 87], round_of (ob := [inI64 (sa + 1), LoopN cx (loopAt cx.P 104 1) 49 38 false [(0, .own 37 0), (1, .ptr 26 0 0 0 0), (2, .ptr 25 0 0 0 0), (4, .d (I sa)), (7, .d (I a5)), (8, .d (I sa)), (11, .d (I a5)), (12, .d (I 0))] [(0, .box (.d (.lst false 10 a0))), (1, .box (.d (I a1))), (2, .box (.d (.agg [I a2, I a3, I a4]))), (3, .box (.d (I a5))), (9, .box (.d (.agg [.v (.string t1.1), I t1.2.1, I t1.2.2.1, I t1.2.2.2.1, I t1.2.2.2.2.1, I t1.2.2.2.2.2.1, I t1.2.2.2.2.2.2.1, I t1.2.2.2.2.2.2.2.1, I t1.2.2.2.2.2.2.2.2.1, I t1.2.2.2.2.2.2.2.2.2]))), (16, .box (.d (B (decide (t3 > 0))))), (25, .box (.d (.agg [.v (.string t1.1), I t1.2.1, I t1.2.2.1, I t1.2.2.2.1, I t1.2.2.2.2.1, I t1.2.2.2.2.2.1, I t1.2.2.2.2.2.2.1, I t1.2.2.2.2.2.2.2.1, I t1.2.2.2.2.2.2.2.2.1, I t1.2.2.2.2.2.2.2.2.2]))), (26, .box (.d (I a5))), (34, .box (.d (.lst true 0 []))), (37, .loop true [(6, .fn (.func 104) [] [.ptr 26 0 0 0 0, .ptr 25 0 0 0 0]), (4, .d (.lst true 0 [])), (2, .ptr 34 0 0 0 0), (1, .fn (.func 104) [] [.ptr 26 0 0 0 0, .ptr 25 0 0 0 0]), (0, .d (.lst true 0 []))] [7] (rangeAt cx.P 103 0).1 (rangeAt cx.P 103 0).2 13)] (.exit 2) [(0, .own 37 0), (1, .ptr 26 0 0 0 0), (2, .ptr 25 0 0 0 0), (7, .d (I a5)), (8, .d (I sa))] [(0, .box (.d (.lst false 10 a0))), (1, .box (.d (I a1))), (2, .box (.d (.agg [I a2, I a3, I a4]))), (3, .box (.d (I a5))), (9, .box (.d (.agg [.v (.string t1.1), I t1.2.1, I t1.2.2.1, I t1.2.2.2.1, I t1.2.2.2.2.1, I t1.2.2.2.2.2.1, I t1.2.2.2.2.2.2.1, I t1.2.2.2.2.2.2.2.1, I t1.2.2.2.2.2.2.2.2.1, I t1.2.2.2.2.2.2.2.2.2]))), (16, .box (.d (B (decide (t3 > 0))))), (25, .box (.d (.agg [.v (.string t1.1), I t1.2.1, I t1.2.2.1, I t1.2.2.2.1, I t1.2.2.2.2.1, I t1.2.2.2.2.2.1, I t1.2.2.2.2.2.2.1, I t1.2.2.2.2.2.2.2.1, I t1.2.2.2.2.2.2.2.2.1, I t1.2.2.2.2.2.2.2.2.2]))), (26, .box (.d (I a5))), (34, .box (.own 87 0)), (37, .loop true [(6, .fn (.func 104) [] [.ptr 26 0 0 0 0, .ptr 25 0 0 0 0]), (4, .d (.lst true 0 [])), (2, .ptr 34 0 0 0 0), (1, .fn (.func 104) [] [.ptr 26 0 0 0 0, .ptr 25 0 0 0 0]), (0, .d (.lst true 0 []))] [7] (rangeAt cx.P 103 0).1 (rangeAt cx.P 103 0).2 13), (87, .row 0 4 ta2)], (decide (sa < a5)) = true]) (by kernel_rfl) ⟨ha3, (loopF_to R_field_dark_L2 ha2), (decide_eq_true ha1), trivial⟩⟩
    · replace h := ite_f h ha1
      replace h := Option.some.inj h
      subst h
      exact ⟨⟨100, 40, [.br false], [], [], [0, 1, 2, 3, 9, 16, 25, 26, 34, 37], round_of (ob := [(decide (sa < a5)) = false]) (by kernel_rfl) ⟨(decide_eq_false ha1), trivial⟩⟩, nofun⟩
  · by_cases ha1 : sa.1 < a5
    · replace h := ite_t h ha1
      obtain ⟨ta2, ha2, h⟩ := bnd_of h
      obtain ⟨ha3, h⟩ := grd_of h
      replace h := Option.some.inj h
      subst h
      exact ⟨100, 88, [.br true, .lp [] [0, 1, 2, 4, 7, 8, 11, 12] [0, 1, 2, 3, 9, 16, 25, 26, 34, 37, 87] (.exit 2) [(0, .own 37 0), (1, .ptr 26 0 0 0 0), (2, .ptr 25 0 0 0 0), (7, .d (I a5)), (8, .d (I sa.1))] [(0, .box (.d (.lst false 10 a0))), (1, .box (.d (I a1))), (2, .box (.d (.agg [I a2, I a3, I a4]))), (3, .box (.d (I a5))), (9, .box (.d (.agg [.v (.string t1.1), I t1.2.1, I t1.2.2.1, I t1.2.2.2.1, I t1.2.2.2.2.1, I t1.2.2.2.2.2.1, I t1.2.2.2.2.2.2.1, I t1.2.2.2.2.2.2.2.1, I t1.2.2.2.2.2.2.2.2.1, I t1.2.2.2.2.2.2.2.2.2]))), (16, .box (.d (B (decide (t3 > 0))))), (25, .box (.d (.agg [.v (.string t1.1), I t1.2.1, I t1.2.2.1, I t1.2.2.2.1, I t1.2.2.2.2.1, I t1.2.2.2.2.2.1, I t1.2.2.2.2.2.2.1, I t1.2.2.2.2.2.2.2.1, I t1.2.2.2.2.2.2.2.2.1, I t1.2.2.2.2.2.2.2.2.2]))), (26, .box (.d (I a5))), (34, .box (.own 87 0)), (37, .loop true [(6, .fn (.func 104) [] [.ptr 26 0 0 0 0, .ptr 25 0 0 0 0]), (4, .d (.lst true 0 [])), (2, .ptr 34 0 0 0 0), (1, .fn (.func 104) [] [.ptr 26 0 0 0 0, .ptr 25 0 0 0 0]), (0, .d (.lst true 0 []))] [7] (rangeAt cx.P 103 0).1 (rangeAt cx.P 103 0).2 13), (87, .row 0 4 ta2)] 150], [], [0, 1, 2, 7, 8], [0, 1, 2, 3, 9, 16, 25, 26, 34, 37, 87], round_of (ob := [inI64 (sa.1 + 1), LoopN cx (loopAt cx.P 104 1) 49 38 false [(0, .own 37 0), (1, .ptr 26 0 0 0 0), (2, .ptr 25 0 0 0 0), (4, .d (I sa.1)), (7, .d (I a5)), (8, .d (I sa.1)), (11, .d (I a5)), (12, .d (I 0))] [(0, .box (.d (.lst false 10 a0))), (1, .box (.d (I a1))), (2, .box (.d (.agg [I a2, I a3, I a4]))), (3, .box (.d (I a5))), (9, .box (.d (.agg [.v (.string t1.1), I t1.2.1, I t1.2.2.1, I t1.2.2.2.1, I t1.2.2.2.2.1, I t1.2.2.2.2.2.1, I t1.2.2.2.2.2.2.1, I t1.2.2.2.2.2.2.2.1, I t1.2.2.2.2.2.2.2.2.1, I t1.2.2.2.2.2.2.2.2.2]))), (16, .box (.d (B (decide (t3 > 0))))), (25, .box (.d (.agg [.v (.string t1.1), I t1.2.1, I t1.2.2.1, I t1.2.2.2.1, I t1.2.2.2.2.1, I t1.2.2.2.2.2.1, I t1.2.2.2.2.2.2.1, I t1.2.2.2.2.2.2.2.1, I t1.2.2.2.2.2.2.2.2.1, I t1.2.2.2.2.2.2.2.2.2]))), (26, .box (.d (I a5))), (34, .box (.own 87 0)), (37, .loop true [(6, .fn (.func 104) [] [.ptr 26 0 0 0 0, .ptr 25 0 0 0 0]), (4, .d (.lst true 0 [])), (2, .ptr 34 0 0 0 0), (1, .fn (.func 104) [] [.ptr 26 0 0 0 0, .ptr 25 0 0 0 0]), (0, .d (.lst true 0 []))] [7] (rangeAt cx.P 103 0).1 (rangeAt cx.P 103 0).2 13), (87, .row 0 4 sa.2)] (.exit 2) [(0, .own 37 0), (1, .ptr 26 0 0 0 0), (2, .ptr 25 0 0 0 0), (7, .d (I a5)), (8, .d (I sa.1))] [(0, .box (.d (.lst false 10 a0))), (1, .box (.d (I a1))), (2, .box (.d (.agg [I a2, I a3, I a4]))), (3, .box (.d (I a5))), (9, .box (.d (.agg [.v (.string t1.1), I t1.2.1, I t1.2.2.1, I t1.2.2.2.1, I t1.2.2.2.2.1, I t1.2.2.2.2.2.1, I t1.2.2.2.2.2.2.1, I t1.2.2.2.2.2.2.2.1, I t1.2.2.2.2.2.2.2.2.1, I t1.2.2.2.2.2.2.2.2.2]))), (16, .box (.d (B (decide (t3 > 0))))), (25, .box (.d (.agg [.v (.string t1.1), I t1.2.1, I t1.2.2.1, I t1.2.2.2.1, I t1.2.2.2.2.1, I t1.2.2.2.2.2.1, I t1.2.2.2.2.2.2.1, I t1.2.2.2.2.2.2.2.1, I t1.2.2.2.2.2.2.2.2.1, I t1.2.2.2.2.2.2.2.2.2]))), (26, .box (.d (I a5))), (34, .box (.own 87 0)), (37, .loop true [(6, .fn (.func 104) [] [.ptr 26 0 0 0 0, .ptr 25 0 0 0 0]), (4, .d (.lst true 0 [])), (2, .ptr 34 0 0 0 0), (1, .fn (.func 104) [] [.ptr 26 0 0 0 0, .ptr 25 0 0 0 0]), (0, .d (.lst true 0 []))] [7] (rangeAt cx.P 103 0).1 (rangeAt cx.P 103 0).2 13), (87, .row 0 4 ta2)], (decide (sa.1 < a5)) = true]) (by kernel_rfl) ⟨ha3, (loopF_to R_field_dark_L3 ha2), (decide_eq_true ha1), trivial⟩⟩
    · replace h := ite_f h ha1
      replace h := Option.some.inj h
      subst h
      exact ⟨⟨100, 88, [.br false], [], [], [0, 1, 2, 3, 9, 16, 25, 26, 34, 37, 87], round_of (ob := [(decide (sa.1 < a5)) = false]) (by kernel_rfl) ⟨(decide_eq_false ha1), trivial⟩⟩, nofun⟩
def F_field_dark_L5 (n : Nat) (a0 : List D) (a1 : Int) (a2 : Int) (a3 : Int) (a4 : Int) (a5 : Int) (t1 : ByteArray × Int × Int × Int × Int × Int × Int × Int × Int × Int) (t3 : Int) (t4 : List D) (sa : (Int × List D)) : Option (((Int × List D)) ⊕ ((List D))) :=
  if sa.1 < ((t4).length : Int) then
    if 0 ≤ sa.1 ∧ sa.1 < ((t4).length : Int) then
    ((nth (t4) (Int.toNat sa.1)).bind un_Ai4Z).bind fun ta3 =>
    if (decide (t3 > 0)) = true then
      (F_field_met n a0 a1 a5 ta3.2.1 ta3.2.2.1 ta3.2.2.2 a2 a3 a4 false).bind fun ta5 =>
      if roomP 1 ((sa.2).length + 1) then
      if inI64 (sa.1 + 1) then
      some (.inl ((sa.1 + 1), (sa.2 ++ ([B ta5] : List D))))
      else none
      else none
    else
    if roomP 1 ((sa.2).length + 1) then
    if inI64 (sa.1 + 1) then
    some (.inl ((sa.1 + 1), (sa.2 ++ ([B true] : List D))))
    else none
    else none
    else none
  else
  some (.inr sa.2)
noncomputable def T_field_dark_L5 (a0 : List D) (a1 : Int) (a2 : Int) (a3 : Int) (a4 : Int) (a5 : Int) (t1 : ByteArray × Int × Int × Int × Int × Int × Int × Int × Int × Int) (t3 : Int) (t4 : List D) (sa : (Int × List D)) : List (Nat × AV) := [(1, .fn (.func 101) [] [.ptr 16 0 0 0 0, .ptr 0 0 0 0 0, .ptr 1 0 0 0 0, .ptr 3 0 0 0 0, .ptr 2 0 0 0 0]), (5, .own 170 0), (8, .own 87 0), (9, .d (I ((t4).length : Int))), (10, .d (I sa.1))]
noncomputable def H_field_dark_L5 (a0 : List D) (a1 : Int) (a2 : Int) (a3 : Int) (a4 : Int) (a5 : Int) (t1 : ByteArray × Int × Int × Int × Int × Int × Int × Int × Int × Int) (t3 : Int) (t4 : List D) (sa : (Int × List D)) : List (Nat × Blk) := [(0, .box (.d (.lst false 10 a0))), (1, .box (.d (I a1))), (2, .box (.d (.agg [I a2, I a3, I a4]))), (3, .box (.d (I a5))), (9, .box (.d (.agg [.v (.string t1.1), I t1.2.1, I t1.2.2.1, I t1.2.2.2.1, I t1.2.2.2.2.1, I t1.2.2.2.2.2.1, I t1.2.2.2.2.2.2.1, I t1.2.2.2.2.2.2.2.1, I t1.2.2.2.2.2.2.2.2.1, I t1.2.2.2.2.2.2.2.2.2]))), (16, .box (.d (B (decide (t3 > 0))))), (25, .box (.d (.agg [.v (.string t1.1), I t1.2.1, I t1.2.2.1, I t1.2.2.2.1, I t1.2.2.2.2.1, I t1.2.2.2.2.2.1, I t1.2.2.2.2.2.2.1, I t1.2.2.2.2.2.2.2.1, I t1.2.2.2.2.2.2.2.2.1, I t1.2.2.2.2.2.2.2.2.2]))), (26, .box (.d (I a5))), (34, .box (.own 87 0)), (37, .dead), (87, .row 0 4 t4), (170, .row 0 1 sa.2)]
noncomputable def X_field_dark_L5 (a0 : List D) (a1 : Int) (a2 : Int) (a3 : Int) (a4 : Int) (a5 : Int) (t1 : ByteArray × Int × Int × Int × Int × Int × Int × Int × Int × Int) (t3 : Int) (t4 : List D) (e : (List D)) : Ex := (.exit 0)
noncomputable def XT_field_dark_L5 (a0 : List D) (a1 : Int) (a2 : Int) (a3 : Int) (a4 : Int) (a5 : Int) (t1 : ByteArray × Int × Int × Int × Int × Int × Int × Int × Int × Int) (t3 : Int) (t4 : List D) (e : (List D)) : List (Nat × AV) := [(5, .own 170 0)]
noncomputable def XH_field_dark_L5 (a0 : List D) (a1 : Int) (a2 : Int) (a3 : Int) (a4 : Int) (a5 : Int) (t1 : ByteArray × Int × Int × Int × Int × Int × Int × Int × Int × Int) (t3 : Int) (t4 : List D) (e : (List D)) : List (Nat × Blk) := [(0, .box (.d (.lst false 10 a0))), (1, .box (.d (I a1))), (2, .box (.d (.agg [I a2, I a3, I a4]))), (3, .box (.d (I a5))), (9, .box (.d (.agg [.v (.string t1.1), I t1.2.1, I t1.2.2.1, I t1.2.2.2.1, I t1.2.2.2.2.1, I t1.2.2.2.2.2.1, I t1.2.2.2.2.2.2.1, I t1.2.2.2.2.2.2.2.1, I t1.2.2.2.2.2.2.2.2.1, I t1.2.2.2.2.2.2.2.2.2]))), (16, .box (.d (B (decide (t3 > 0))))), (25, .box (.d (.agg [.v (.string t1.1), I t1.2.1, I t1.2.2.1, I t1.2.2.2.1, I t1.2.2.2.2.1, I t1.2.2.2.2.2.1, I t1.2.2.2.2.2.2.1, I t1.2.2.2.2.2.2.2.1, I t1.2.2.2.2.2.2.2.2.1, I t1.2.2.2.2.2.2.2.2.2]))), (26, .box (.d (I a5))), (34, .box (.own 87 0)), (37, .dead), (87, .row 0 4 t4), (170, .row 0 1 e)]
theorem R_field_dark_L5 {n : Nat} {a0 : List D} {a1 : Int} {a2 : Int} {a3 : Int} {a4 : Int} {a5 : Int} {t1 : ByteArray × Int × Int × Int × Int × Int × Int × Int × Int × Int} {t3 : Int} {t4 : List D} (sa : (Int × List D)) (r) (h : F_field_dark_L5 n a0 a1 a2 a3 a4 a5 t1 t3 t4 sa = some r) : Rd cx (loopAt cx.P 94 0) 22 165 false (T_field_dark_L5 a0 a1 a2 a3 a4 a5 t1 t3 t4) (H_field_dark_L5 a0 a1 a2 a3 a4 a5 t1 t3 t4) (X_field_dark_L5 a0 a1 a2 a3 a4 a5 t1 t3 t4) (XT_field_dark_L5 a0 a1 a2 a3 a4 a5 t1 t3 t4) (XH_field_dark_L5 a0 a1 a2 a3 a4 a5 t1 t3 t4) sa r := by
  unfold F_field_dark_L5 at h
  by_cases ha1 : sa.1 < ((t4).length : Int)
  · replace h := ite_t h ha1
    obtain ⟨ha2, h⟩ := grd_of h
    obtain ⟨ta3, ha3, h⟩ := bnd_of h
    by_cases ha4 : (decide (t3 > 0)) = true
    · replace h := ite_t h ha4
      obtain ⟨ta5, ha5, h⟩ := bnd_of h
      obtain ⟨ha6, h⟩ := grd_of h
      obtain ⟨ha7, h⟩ := grd_of h
      replace h := Option.some.inj h
      subst h
      exact ⟨100, 171, [.br true, .br true, .el (.agg [I ta3.1, I ta3.2.1, I ta3.2.2.1, I ta3.2.2.2]), .br true, .br false, .ret (B ta5), .br true], [], [1, 5, 8, 9, 10], [0, 1, 2, 3, 9, 16, 25, 26, 34, 37, 87, 170], round_of (ob := [inI64 (sa.1 + 1), room cx 4 ((sa.2).length + 1), Computes cx 100 [.lst false 10 a0, I a1, I a5, .agg [I ta3.2.1, I ta3.2.2.1, I ta3.2.2.2, I a2, I a3, I a4, B false]] (B ta5), (!(decide (t3 > 0))) = false, nth (t4) (Int.toNat sa.1) = some (.agg [I ta3.1, I ta3.2.1, I ta3.2.2.1, I ta3.2.2.2]), 0 ≤ sa.1 ∧ sa.1 < ((t4).length : Int), (decide (sa.1 < ((t4).length : Int))) = true]) (by kernel_rfl) ⟨ha7, (room_of (b := 1) (by kernel_rfl) (by decide) ha6), (c_field_met ha5), (notf ha4), nel_ok un_Ai4Z_ok ha3, ha2, (decide_eq_true ha1), trivial⟩⟩
    · replace h := ite_f h ha4
      obtain ⟨ha5, h⟩ := grd_of h
      obtain ⟨ha6, h⟩ := grd_of h
      replace h := Option.some.inj h
      subst h
      exact ⟨100, 171, [.br true, .br true, .el (.agg [I ta3.1, I ta3.2.1, I ta3.2.2.1, I ta3.2.2.2]), .br true, .br true, .br true], [], [1, 5, 8, 9, 10], [0, 1, 2, 3, 9, 16, 25, 26, 34, 37, 87, 170], round_of (ob := [inI64 (sa.1 + 1), room cx 4 ((sa.2).length + 1), (!(decide (t3 > 0))) = true, nth (t4) (Int.toNat sa.1) = some (.agg [I ta3.1, I ta3.2.1, I ta3.2.2.1, I ta3.2.2.2]), 0 ≤ sa.1 ∧ sa.1 < ((t4).length : Int), (decide (sa.1 < ((t4).length : Int))) = true]) (by kernel_rfl) ⟨ha6, (room_of (b := 1) (by kernel_rfl) (by decide) ha5), (nott (bfalse ha4)), nel_ok un_Ai4Z_ok ha3, ha2, (decide_eq_true ha1), trivial⟩⟩
  · replace h := ite_f h ha1
    replace h := Option.some.inj h
    subst h
    exact ⟨⟨100, 171, [.br false], [], [5], [0, 1, 2, 3, 9, 16, 25, 26, 34, 37, 87, 170], round_of (ob := [(decide (sa.1 < ((t4).length : Int))) = false]) (by kernel_rfl) ⟨(decide_eq_false ha1), trivial⟩⟩, nofun⟩
/- spillage/field.dark: .lst false 10 a0, I a1, .agg [I a2, I a3, I a4], I a5 -/
def F_field_dark (n : Nat) (a0 : List D) (a1 : Int) (a2 : Int) (a3 : Int) (a4 : Int) (a5 : Int) : Option (List D) :=
  (el un_Asi9Z a0 a1).bind fun t1 =>
  (F_field_Mirror_normal n t1.1 t1.2.1 t1.2.2.1 t1.2.2.2.1 t1.2.2.2.2.1 t1.2.2.2.2.2.1 t1.2.2.2.2.2.2.1 t1.2.2.2.2.2.2.2.1 t1.2.2.2.2.2.2.2.2.1 t1.2.2.2.2.2.2.2.2.2).bind fun t2 =>
  (F_field_dot n t2.1 t2.2.1 t2.2.2 a2 a3 a4).bind fun t3 =>
  (loopF (F_field_dark_L4 n a0 a1 a2 a3 a4 a5 t1 t3) n (.inl 0)).bind fun t4 => match t4 with
    | (.inl t4) => (
      some [])
    | (.inr t4) => (
      (loopF (F_field_dark_L5 n a0 a1 a2 a3 a4 a5 t1 t3 t4) n (0, [])).bind fun t5 =>
      some t5)
theorem c_field_dark {n : Nat} {a0 : List D} {a1 : Int} {a2 : Int} {a3 : Int} {a4 : Int} {a5 : Int} {r : List D} (h : F_field_dark n a0 a1 a2 a3 a4 a5 = some r) : Computes cx 89 [.lst false 10 a0, I a1, .agg [I a2, I a3, I a4], I a5] (.lst false 1 r) := by
  unfold F_field_dark at h
  obtain ⟨t1, h1, h⟩ := bnd_of h
  obtain ⟨t2, h2, h⟩ := bnd_of h
  obtain ⟨t3, h3, h⟩ := bnd_of h
  obtain ⟨t4, h4, h⟩ := bnd_of h
  rcases t4 with t4 | t4
  · replace h := Option.some.inj h
    subst h
    exact (run (n := 100) (f := 89) (args := [.lst false 10 a0, I a1, .agg [I a2, I a3, I a4], I a5]) (orc := [.el (.agg [.v (.string t1.1), I t1.2.1, I t1.2.2.1, I t1.2.2.2.1, I t1.2.2.2.2.1, I t1.2.2.2.2.2.1, I t1.2.2.2.2.2.2.1, I t1.2.2.2.2.2.2.2.1, I t1.2.2.2.2.2.2.2.2.1, I t1.2.2.2.2.2.2.2.2.2]), .ret (.agg [I t2.1, I t2.2.1, I t2.2.2]), .ret (I t3), .br true, .br true, .br true, .lp [] [0, 1, 2, 7, 8] [0, 1, 2, 3, 9, 16, 25, 26, 34, 37] (.exit 0) [] [(0, .box (.d (.lst false 10 a0))), (1, .box (.d (I a1))), (2, .box (.d (.agg [I a2, I a3, I a4]))), (3, .box (.d (I a5))), (9, .box (.d (.agg [.v (.string t1.1), I t1.2.1, I t1.2.2.1, I t1.2.2.2.1, I t1.2.2.2.2.1, I t1.2.2.2.2.2.1, I t1.2.2.2.2.2.2.1, I t1.2.2.2.2.2.2.2.1, I t1.2.2.2.2.2.2.2.2.1, I t1.2.2.2.2.2.2.2.2.2]))), (16, .box (.d (B (decide (t3 > 0))))), (25, .box (.d (.agg [.v (.string t1.1), I t1.2.1, I t1.2.2.1, I t1.2.2.2.1, I t1.2.2.2.2.1, I t1.2.2.2.2.2.1, I t1.2.2.2.2.2.2.1, I t1.2.2.2.2.2.2.2.1, I t1.2.2.2.2.2.2.2.2.1, I t1.2.2.2.2.2.2.2.2.2]))), (26, .box (.d (I a5))), (34, .box (.d (.lst true 0 []))), (37, .loop true [(6, .fn (.func 104) [] [.ptr 26 0 0 0 0, .ptr 25 0 0 0 0]), (4, .d (.lst true 0 [])), (2, .ptr 34 0 0 0 0), (1, .fn (.func 104) [] [.ptr 26 0 0 0 0, .ptr 25 0 0 0 0]), (0, .d (.lst true 0 []))] [7] (rangeAt cx.P 103 0).1 (rangeAt cx.P 103 0).2 13)] 163, .br true, .no, .no]) (r := .lst true 0 []) (ob := [LoopN cx (loopAt cx.P 104 0) 49 38 false [(0, .own 37 0), (1, .ptr 26 0 0 0 0), (2, .ptr 25 0 0 0 0), (7, .d (I a5)), (8, .d (I 0))] [(0, .box (.d (.lst false 10 a0))), (1, .box (.d (I a1))), (2, .box (.d (.agg [I a2, I a3, I a4]))), (3, .box (.d (I a5))), (9, .box (.d (.agg [.v (.string t1.1), I t1.2.1, I t1.2.2.1, I t1.2.2.2.1, I t1.2.2.2.2.1, I t1.2.2.2.2.2.1, I t1.2.2.2.2.2.2.1, I t1.2.2.2.2.2.2.2.1, I t1.2.2.2.2.2.2.2.2.1, I t1.2.2.2.2.2.2.2.2.2]))), (16, .box (.d (B (decide (t3 > 0))))), (25, .box (.d (.agg [.v (.string t1.1), I t1.2.1, I t1.2.2.1, I t1.2.2.2.1, I t1.2.2.2.2.1, I t1.2.2.2.2.2.1, I t1.2.2.2.2.2.2.1, I t1.2.2.2.2.2.2.2.1, I t1.2.2.2.2.2.2.2.2.1, I t1.2.2.2.2.2.2.2.2.2]))), (26, .box (.d (I a5))), (34, .box (.d (.lst true 0 []))), (37, .loop true [(6, .fn (.func 104) [] [.ptr 26 0 0 0 0, .ptr 25 0 0 0 0]), (4, .d (.lst true 0 [])), (2, .ptr 34 0 0 0 0), (1, .fn (.func 104) [] [.ptr 26 0 0 0 0, .ptr 25 0 0 0 0]), (0, .d (.lst true 0 []))] [7] (rangeAt cx.P 103 0).1 (rangeAt cx.P 103 0).2 13)] (.exit 0) [] [(0, .box (.d (.lst false 10 a0))), (1, .box (.d (I a1))), (2, .box (.d (.agg [I a2, I a3, I a4]))), (3, .box (.d (I a5))), (9, .box (.d (.agg [.v (.string t1.1), I t1.2.1, I t1.2.2.1, I t1.2.2.2.1, I t1.2.2.2.2.1, I t1.2.2.2.2.2.1, I t1.2.2.2.2.2.2.1, I t1.2.2.2.2.2.2.2.1, I t1.2.2.2.2.2.2.2.2.1, I t1.2.2.2.2.2.2.2.2.2]))), (16, .box (.d (B (decide (t3 > 0))))), (25, .box (.d (.agg [.v (.string t1.1), I t1.2.1, I t1.2.2.1, I t1.2.2.2.1, I t1.2.2.2.2.1, I t1.2.2.2.2.2.1, I t1.2.2.2.2.2.2.1, I t1.2.2.2.2.2.2.2.1, I t1.2.2.2.2.2.2.2.2.1, I t1.2.2.2.2.2.2.2.2.2]))), (26, .box (.d (I a5))), (34, .box (.d (.lst true 0 []))), (37, .loop true [(6, .fn (.func 104) [] [.ptr 26 0 0 0 0, .ptr 25 0 0 0 0]), (4, .d (.lst true 0 [])), (2, .ptr 34 0 0 0 0), (1, .fn (.func 104) [] [.ptr 26 0 0 0 0, .ptr 25 0 0 0 0]), (0, .d (.lst true 0 []))] [7] (rangeAt cx.P 103 0).1 (rangeAt cx.P 103 0).2 13)], Computes cx 59 [.agg [I t2.1, I t2.2.1, I t2.2.2], .agg [I a2, I a3, I a4]] (I t3), Computes cx 60 [.agg [.v (.string t1.1), I t1.2.1, I t1.2.2.1, I t1.2.2.2.1, I t1.2.2.2.2.1, I t1.2.2.2.2.2.1, I t1.2.2.2.2.2.2.1, I t1.2.2.2.2.2.2.2.1, I t1.2.2.2.2.2.2.2.2.1, I t1.2.2.2.2.2.2.2.2.2]] (.agg [I t2.1, I t2.2.1, I t2.2.2]), (0 : Int) ≤ a1, nth (a0) (Int.toNat a1) = some (.agg [.v (.string t1.1), I t1.2.1, I t1.2.2.1, I t1.2.2.2.1, I t1.2.2.2.2.1, I t1.2.2.2.2.2.1, I t1.2.2.2.2.2.2.1, I t1.2.2.2.2.2.2.2.1, I t1.2.2.2.2.2.2.2.2.1, I t1.2.2.2.2.2.2.2.2.2])]) (by kernel_rfl) ⟨(loopF_to R_field_dark_L4 h4), (c_field_dot h3), (c_field_Mirror_normal h2), (el_ok un_Asi9Z_ok h1).1, (el_ok un_Asi9Z_ok h1).2, trivial⟩).le (LEs.refl _) (.lst _ _ _ _ _ nofun (.inl rfl))
  · obtain ⟨t5, h5, h⟩ := bnd_of h
    replace h := Option.some.inj h
    subst h
    exact run (n := 100) (f := 89) (args := [.lst false 10 a0, I a1, .agg [I a2, I a3, I a4], I a5]) (orc := [.el (.agg [.v (.string t1.1), I t1.2.1, I t1.2.2.1, I t1.2.2.2.1, I t1.2.2.2.2.1, I t1.2.2.2.2.2.1, I t1.2.2.2.2.2.2.1, I t1.2.2.2.2.2.2.2.1, I t1.2.2.2.2.2.2.2.2.1, I t1.2.2.2.2.2.2.2.2.2]), .ret (.agg [I t2.1, I t2.2.1, I t2.2.2]), .ret (I t3), .br true, .br true, .br true, .lp [] [0, 1, 2, 7, 8] [0, 1, 2, 3, 9, 16, 25, 26, 34, 37] (.exit 0) [] [(0, .box (.d (.lst false 10 a0))), (1, .box (.d (I a1))), (2, .box (.d (.agg [I a2, I a3, I a4]))), (3, .box (.d (I a5))), (9, .box (.d (.agg [.v (.string t1.1), I t1.2.1, I t1.2.2.1, I t1.2.2.2.1, I t1.2.2.2.2.1, I t1.2.2.2.2.2.1, I t1.2.2.2.2.2.2.1, I t1.2.2.2.2.2.2.2.1, I t1.2.2.2.2.2.2.2.2.1, I t1.2.2.2.2.2.2.2.2.2]))), (16, .box (.d (B (decide (t3 > 0))))), (25, .box (.d (.agg [.v (.string t1.1), I t1.2.1, I t1.2.2.1, I t1.2.2.2.1, I t1.2.2.2.2.1, I t1.2.2.2.2.2.1, I t1.2.2.2.2.2.2.1, I t1.2.2.2.2.2.2.2.1, I t1.2.2.2.2.2.2.2.2.1, I t1.2.2.2.2.2.2.2.2.2]))), (26, .box (.d (I a5))), (34, .box (.own 87 0)), (37, .loop true [(6, .fn (.func 104) [] [.ptr 26 0 0 0 0, .ptr 25 0 0 0 0]), (4, .d (.lst true 0 [])), (2, .ptr 34 0 0 0 0), (1, .fn (.func 104) [] [.ptr 26 0 0 0 0, .ptr 25 0 0 0 0]), (0, .d (.lst true 0 []))] [7] (rangeAt cx.P 103 0).1 (rangeAt cx.P 103 0).2 13), (87, .row 0 4 t4)] 163, .br true, .lp [5, 1] [1, 5, 8, 9, 10] [0, 1, 2, 3, 9, 16, 25, 26, 34, 37, 87, 170] (.exit 0) [(5, .own 170 0)] [(0, .box (.d (.lst false 10 a0))), (1, .box (.d (I a1))), (2, .box (.d (.agg [I a2, I a3, I a4]))), (3, .box (.d (I a5))), (9, .box (.d (.agg [.v (.string t1.1), I t1.2.1, I t1.2.2.1, I t1.2.2.2.1, I t1.2.2.2.2.1, I t1.2.2.2.2.2.1, I t1.2.2.2.2.2.2.1, I t1.2.2.2.2.2.2.2.1, I t1.2.2.2.2.2.2.2.2.1, I t1.2.2.2.2.2.2.2.2.2]))), (16, .box (.d (B (decide (t3 > 0))))), (25, .box (.d (.agg [.v (.string t1.1), I t1.2.1, I t1.2.2.1, I t1.2.2.2.1, I t1.2.2.2.2.1, I t1.2.2.2.2.2.1, I t1.2.2.2.2.2.2.1, I t1.2.2.2.2.2.2.2.1, I t1.2.2.2.2.2.2.2.2.1, I t1.2.2.2.2.2.2.2.2.2]))), (26, .box (.d (I a5))), (34, .box (.own 87 0)), (37, .dead), (87, .row 0 4 t4), (170, .row 0 1 t5)] 211]) (r := .lst false 1 t5) (ob := [LoopN cx (loopAt cx.P 94 0) 22 165 false [(1, .fn (.func 101) [] [.ptr 16 0 0 0 0, .ptr 0 0 0 0 0, .ptr 1 0 0 0 0, .ptr 3 0 0 0 0, .ptr 2 0 0 0 0]), (5, .own 170 0), (8, .own 87 0), (9, .d (I ((t4).length : Int))), (10, .d (I 0))] [(0, .box (.d (.lst false 10 a0))), (1, .box (.d (I a1))), (2, .box (.d (.agg [I a2, I a3, I a4]))), (3, .box (.d (I a5))), (9, .box (.d (.agg [.v (.string t1.1), I t1.2.1, I t1.2.2.1, I t1.2.2.2.1, I t1.2.2.2.2.1, I t1.2.2.2.2.2.1, I t1.2.2.2.2.2.2.1, I t1.2.2.2.2.2.2.2.1, I t1.2.2.2.2.2.2.2.2.1, I t1.2.2.2.2.2.2.2.2.2]))), (16, .box (.d (B (decide (t3 > 0))))), (25, .box (.d (.agg [.v (.string t1.1), I t1.2.1, I t1.2.2.1, I t1.2.2.2.1, I t1.2.2.2.2.1, I t1.2.2.2.2.2.1, I t1.2.2.2.2.2.2.1, I t1.2.2.2.2.2.2.2.1, I t1.2.2.2.2.2.2.2.2.1, I t1.2.2.2.2.2.2.2.2.2]))), (26, .box (.d (I a5))), (34, .box (.own 87 0)), (37, .dead), (87, .row 0 4 t4), (170, .row 0 1 [])] (.exit 0) [(5, .own 170 0)] [(0, .box (.d (.lst false 10 a0))), (1, .box (.d (I a1))), (2, .box (.d (.agg [I a2, I a3, I a4]))), (3, .box (.d (I a5))), (9, .box (.d (.agg [.v (.string t1.1), I t1.2.1, I t1.2.2.1, I t1.2.2.2.1, I t1.2.2.2.2.1, I t1.2.2.2.2.2.1, I t1.2.2.2.2.2.2.1, I t1.2.2.2.2.2.2.2.1, I t1.2.2.2.2.2.2.2.2.1, I t1.2.2.2.2.2.2.2.2.2]))), (16, .box (.d (B (decide (t3 > 0))))), (25, .box (.d (.agg [.v (.string t1.1), I t1.2.1, I t1.2.2.1, I t1.2.2.2.1, I t1.2.2.2.2.1, I t1.2.2.2.2.2.1, I t1.2.2.2.2.2.2.1, I t1.2.2.2.2.2.2.2.1, I t1.2.2.2.2.2.2.2.2.1, I t1.2.2.2.2.2.2.2.2.2]))), (26, .box (.d (I a5))), (34, .box (.own 87 0)), (37, .dead), (87, .row 0 4 t4), (170, .row 0 1 t5)], LoopN cx (loopAt cx.P 104 0) 49 38 false [(0, .own 37 0), (1, .ptr 26 0 0 0 0), (2, .ptr 25 0 0 0 0), (7, .d (I a5)), (8, .d (I 0))] [(0, .box (.d (.lst false 10 a0))), (1, .box (.d (I a1))), (2, .box (.d (.agg [I a2, I a3, I a4]))), (3, .box (.d (I a5))), (9, .box (.d (.agg [.v (.string t1.1), I t1.2.1, I t1.2.2.1, I t1.2.2.2.1, I t1.2.2.2.2.1, I t1.2.2.2.2.2.1, I t1.2.2.2.2.2.2.1, I t1.2.2.2.2.2.2.2.1, I t1.2.2.2.2.2.2.2.2.1, I t1.2.2.2.2.2.2.2.2.2]))), (16, .box (.d (B (decide (t3 > 0))))), (25, .box (.d (.agg [.v (.string t1.1), I t1.2.1, I t1.2.2.1, I t1.2.2.2.1, I t1.2.2.2.2.1, I t1.2.2.2.2.2.1, I t1.2.2.2.2.2.2.1, I t1.2.2.2.2.2.2.2.1, I t1.2.2.2.2.2.2.2.2.1, I t1.2.2.2.2.2.2.2.2.2]))), (26, .box (.d (I a5))), (34, .box (.d (.lst true 0 []))), (37, .loop true [(6, .fn (.func 104) [] [.ptr 26 0 0 0 0, .ptr 25 0 0 0 0]), (4, .d (.lst true 0 [])), (2, .ptr 34 0 0 0 0), (1, .fn (.func 104) [] [.ptr 26 0 0 0 0, .ptr 25 0 0 0 0]), (0, .d (.lst true 0 []))] [7] (rangeAt cx.P 103 0).1 (rangeAt cx.P 103 0).2 13)] (.exit 0) [] [(0, .box (.d (.lst false 10 a0))), (1, .box (.d (I a1))), (2, .box (.d (.agg [I a2, I a3, I a4]))), (3, .box (.d (I a5))), (9, .box (.d (.agg [.v (.string t1.1), I t1.2.1, I t1.2.2.1, I t1.2.2.2.1, I t1.2.2.2.2.1, I t1.2.2.2.2.2.1, I t1.2.2.2.2.2.2.1, I t1.2.2.2.2.2.2.2.1, I t1.2.2.2.2.2.2.2.2.1, I t1.2.2.2.2.2.2.2.2.2]))), (16, .box (.d (B (decide (t3 > 0))))), (25, .box (.d (.agg [.v (.string t1.1), I t1.2.1, I t1.2.2.1, I t1.2.2.2.1, I t1.2.2.2.2.1, I t1.2.2.2.2.2.1, I t1.2.2.2.2.2.2.1, I t1.2.2.2.2.2.2.2.1, I t1.2.2.2.2.2.2.2.2.1, I t1.2.2.2.2.2.2.2.2.2]))), (26, .box (.d (I a5))), (34, .box (.own 87 0)), (37, .loop true [(6, .fn (.func 104) [] [.ptr 26 0 0 0 0, .ptr 25 0 0 0 0]), (4, .d (.lst true 0 [])), (2, .ptr 34 0 0 0 0), (1, .fn (.func 104) [] [.ptr 26 0 0 0 0, .ptr 25 0 0 0 0]), (0, .d (.lst true 0 []))] [7] (rangeAt cx.P 103 0).1 (rangeAt cx.P 103 0).2 13), (87, .row 0 4 t4)], Computes cx 59 [.agg [I t2.1, I t2.2.1, I t2.2.2], .agg [I a2, I a3, I a4]] (I t3), Computes cx 60 [.agg [.v (.string t1.1), I t1.2.1, I t1.2.2.1, I t1.2.2.2.1, I t1.2.2.2.2.1, I t1.2.2.2.2.2.1, I t1.2.2.2.2.2.2.1, I t1.2.2.2.2.2.2.2.1, I t1.2.2.2.2.2.2.2.2.1, I t1.2.2.2.2.2.2.2.2.2]] (.agg [I t2.1, I t2.2.1, I t2.2.2]), (0 : Int) ≤ a1, nth (a0) (Int.toNat a1) = some (.agg [.v (.string t1.1), I t1.2.1, I t1.2.2.1, I t1.2.2.2.1, I t1.2.2.2.2.1, I t1.2.2.2.2.2.1, I t1.2.2.2.2.2.2.1, I t1.2.2.2.2.2.2.2.1, I t1.2.2.2.2.2.2.2.2.1, I t1.2.2.2.2.2.2.2.2.2])]) (by kernel_rfl) ⟨(loopF_to R_field_dark_L5 h5), (loopF_to R_field_dark_L4 h4), (c_field_dot h3), (c_field_Mirror_normal h2), (el_ok un_Asi9Z_ok h1).1, (el_ok un_Asi9Z_ok h1).2, trivial⟩
def F_field_lit_L1 (n : Nat) (t1 : List D) (t2 : List D) (sa : (Int × Int × Int × Int)) : Option (((Int × Int × Int × Int)) ⊕ ((Int × Int × Int))) :=
  if sa.1 < ((t2).length : Int) then
    (el un_b t2 sa.1).bind fun ta2 =>
    if ta2 = true then
      if inI64 (sa.2.1 + 1) then
      if inI64 (sa.1 + 1) then
      some (.inl ((sa.1 + 1), (sa.2.1 + 1), sa.2.2.1, sa.2.2.2))
      else none
      else none
    else
    (el un_b t1 sa.1).bind fun ta4 =>
    if ta4 = true then
      if inI64 (sa.2.2.1 + 1) then
      if inI64 (sa.1 + 1) then
      some (.inl ((sa.1 + 1), sa.2.1, (sa.2.2.1 + 1), sa.2.2.2))
      else none
      else none
    else
    if inI64 (sa.2.2.2 + 1) then
    if inI64 (sa.1 + 1) then
    some (.inl ((sa.1 + 1), sa.2.1, sa.2.2.1, (sa.2.2.2 + 1)))
    else none
    else none
  else
  some (.inr (sa.2.1, sa.2.2.1, sa.2.2.2))
noncomputable def T_field_lit_L1 (t1 : List D) (t2 : List D) (sa : (Int × Int × Int × Int)) : List (Nat × AV) := [(10, .ptr 2 0 0 0 0), (11, .ptr 3 0 0 0 0), (12, .d (.lst false 1 t1)), (24, .d (.lst false 1 t2)), (25, .d (I ((t2).length : Int))), (26, .d (I sa.1))]
noncomputable def H_field_lit_L1 (t1 : List D) (t2 : List D) (sa : (Int × Int × Int × Int)) : List (Nat × Blk) := [(2, .box (.d (.agg [I 0, I 0, I 0]))), (3, .box (.d (.agg [I sa.2.1, I sa.2.2.1, I sa.2.2.2])))]
noncomputable def X_field_lit_L1 (t1 : List D) (t2 : List D) (e : (Int × Int × Int)) : Ex := (.exit 0)
noncomputable def XT_field_lit_L1 (t1 : List D) (t2 : List D) (e : (Int × Int × Int)) : List (Nat × AV) := [(10, .ptr 2 0 0 0 0), (11, .ptr 3 0 0 0 0)]
noncomputable def XH_field_lit_L1 (t1 : List D) (t2 : List D) (e : (Int × Int × Int)) : List (Nat × Blk) := [(2, .box (.d (.agg [I 0, I 0, I 0]))), (3, .box (.d (.agg [I e.1, I e.2.1, I e.2.2])))]
theorem R_field_lit_L1 {n : Nat} {t1 : List D} {t2 : List D} (sa : (Int × Int × Int × Int)) (r) (h : F_field_lit_L1 n t1 t2 sa = some r) : Rd cx (loopAt cx.P 66 0) 52 0 false (T_field_lit_L1 t1 t2) (H_field_lit_L1 t1 t2) (X_field_lit_L1 t1 t2) (XT_field_lit_L1 t1 t2) (XH_field_lit_L1 t1 t2) sa r := by
  unfold F_field_lit_L1 at h
  by_cases ha1 : sa.1 < ((t2).length : Int)
  · replace h := ite_t h ha1
    obtain ⟨ta2, ha2, h⟩ := bnd_of h
    by_cases ha3 : ta2 = true
    · replace h := ite_t h ha3
      obtain ⟨ha4, h⟩ := grd_of h
      obtain ⟨ha5, h⟩ := grd_of h
      replace h := Option.some.inj h
      subst h
      exact ⟨100, 17, [.br true, .el (B ta2), .br true], [], [10, 11, 12, 24, 25, 26], [2, 3], round_of (ob := [inI64 (sa.1 + 1), inI64 (sa.2.1 + 1), ta2 = true, (0 : Int) ≤ sa.1, nth (t2) (Int.toNat sa.1) = some (B ta2), (decide (sa.1 < ((t2).length : Int))) = true]) (by kernel_rfl) ⟨ha5, ha4, ha3, (el_ok un_b_ok ha2).1, (el_ok un_b_ok ha2).2, (decide_eq_true ha1), trivial⟩⟩
    · replace h := ite_f h ha3
      obtain ⟨ta4, ha4, h⟩ := bnd_of h
      by_cases ha5 : ta4 = true
      · replace h := ite_t h ha5
        obtain ⟨ha6, h⟩ := grd_of h
        obtain ⟨ha7, h⟩ := grd_of h
        replace h := Option.some.inj h
        subst h
        exact ⟨100, 17, [.br true, .el (B ta2), .br false, .el (B ta4), .br true], [], [10, 11, 12, 24, 25, 26], [2, 3], round_of (ob := [inI64 (sa.1 + 1), inI64 (sa.2.2.1 + 1), ta4 = true, (0 : Int) ≤ sa.1, nth (t1) (Int.toNat sa.1) = some (B ta4), ta2 = false, (0 : Int) ≤ sa.1, nth (t2) (Int.toNat sa.1) = some (B ta2), (decide (sa.1 < ((t2).length : Int))) = true]) (by kernel_rfl) ⟨ha7, ha6, ha5, (el_ok un_b_ok ha4).1, (el_ok un_b_ok ha4).2, (bfalse ha3), (el_ok un_b_ok ha2).1, (el_ok un_b_ok ha2).2, (decide_eq_true ha1), trivial⟩⟩
      · replace h := ite_f h ha5
        obtain ⟨ha6, h⟩ := grd_of h
        obtain ⟨ha7, h⟩ := grd_of h
        replace h := Option.some.inj h
        subst h
        exact ⟨100, 17, [.br true, .el (B ta2), .br false, .el (B ta4), .br false], [], [10, 11, 12, 24, 25, 26], [2, 3], round_of (ob := [inI64 (sa.1 + 1), inI64 (sa.2.2.2 + 1), ta4 = false, (0 : Int) ≤ sa.1, nth (t1) (Int.toNat sa.1) = some (B ta4), ta2 = false, (0 : Int) ≤ sa.1, nth (t2) (Int.toNat sa.1) = some (B ta2), (decide (sa.1 < ((t2).length : Int))) = true]) (by kernel_rfl) ⟨ha7, ha6, (bfalse ha5), (el_ok un_b_ok ha4).1, (el_ok un_b_ok ha4).2, (bfalse ha3), (el_ok un_b_ok ha2).1, (el_ok un_b_ok ha2).2, (decide_eq_true ha1), trivial⟩⟩
  · replace h := ite_f h ha1
    replace h := Option.some.inj h
    subst h
    exact ⟨⟨100, 17, [.br false], [], [10, 11], [2, 3], round_of (ob := [(decide (sa.1 < ((t2).length : Int))) = false]) (by kernel_rfl) ⟨(decide_eq_false ha1), trivial⟩⟩, nofun⟩
/- spillage/field.lit: .lst false 10 a0, I a1, .agg [I a2, I a3, I a4], .agg [I a5, I a6, I a7], I a8 -/
def F_field_lit (n : Nat) (a0 : List D) (a1 : Int) (a2 : Int) (a3 : Int) (a4 : Int) (a5 : Int) (a6 : Int) (a7 : Int) (a8 : Int) : Option (Int × Int × Int) :=
  (F_field_blocked n a0 a1 a5 a6 a7 a8).bind fun t1 =>
  (F_field_dark n a0 a1 a2 a3 a4 a8).bind fun t2 =>
  (loopF (F_field_lit_L1 n t1 t2) n (0, 0, 0, 0)).bind fun t3 =>
  some (t3.1, t3.2.1, t3.2.2)
theorem c_field_lit {n : Nat} {a0 : List D} {a1 : Int} {a2 : Int} {a3 : Int} {a4 : Int} {a5 : Int} {a6 : Int} {a7 : Int} {a8 : Int} {r : Int × Int × Int} (h : F_field_lit n a0 a1 a2 a3 a4 a5 a6 a7 a8 = some r) : Computes cx 66 [.lst false 10 a0, I a1, .agg [I a2, I a3, I a4], .agg [I a5, I a6, I a7], I a8] (.agg [I r.1, I r.2.1, I r.2.2]) := by
  unfold F_field_lit at h
  obtain ⟨t1, h1, h⟩ := bnd_of h
  obtain ⟨t2, h2, h⟩ := bnd_of h
  obtain ⟨t3, h3, h⟩ := bnd_of h
  replace h := Option.some.inj h
  subst h
  exact run (n := 100) (f := 66) (args := [.lst false 10 a0, I a1, .agg [I a2, I a3, I a4], .agg [I a5, I a6, I a7], I a8]) (orc := [.ret (.lst false 1 t1), .ret (.lst false 1 t2), .lp [] [10, 11, 12, 24, 25, 26] [2, 3] (.exit 0) [(10, .ptr 2 0 0 0 0), (11, .ptr 3 0 0 0 0)] [(2, .box (.d (.agg [I 0, I 0, I 0]))), (3, .box (.d (.agg [I t3.1, I t3.2.1, I t3.2.2])))] 48]) (r := .agg [I t3.1, I t3.2.1, I t3.2.2]) (ob := [LoopN cx (loopAt cx.P 66 0) 52 0 false [(10, .ptr 2 0 0 0 0), (11, .ptr 3 0 0 0 0), (12, .d (.lst false 1 t1)), (24, .d (.lst false 1 t2)), (25, .d (I ((t2).length : Int))), (26, .d (I 0))] [(2, .box (.d (.agg [I 0, I 0, I 0]))), (3, .box (.d (.agg [I 0, I 0, I 0])))] (.exit 0) [(10, .ptr 2 0 0 0 0), (11, .ptr 3 0 0 0 0)] [(2, .box (.d (.agg [I 0, I 0, I 0]))), (3, .box (.d (.agg [I t3.1, I t3.2.1, I t3.2.2])))], Computes cx 89 [.lst false 10 a0, I a1, .agg [I a2, I a3, I a4], I a8] (.lst false 1 t2), Computes cx 88 [.lst false 10 a0, I a1, .agg [I a5, I a6, I a7], I a8] (.lst false 1 t1)]) (by kernel_rfl) ⟨(loopF_to R_field_lit_L1 h3), (c_field_dark h2), (c_field_blocked h1), trivial⟩
/- spillage/field.Lit: .lst false 10 a0, I a1, .agg [I a2, I a3, I a4], .agg [I a5, I a6, I a7], I a8 -/
def F_field_Lit (n : Nat) (a0 : List D) (a1 : Int) (a2 : Int) (a3 : Int) (a4 : Int) (a5 : Int) (a6 : Int) (a7 : Int) (a8 : Int) : Option (Int × Int × Int × Int) :=
  (F_field_checkIndex n a0 a1).bind fun t1 =>
  (F_field_checkDirection n a2 a3 a4 1024).bind fun t2 =>
  (F_field_checkParts n a5 a6 a7 4096).bind fun t3 =>
  (F_field_checkK n a8).bind fun t4 =>
  (F_field_first n ([I t1, I t2, I t3, I t4])).bind fun t5 =>
  if t5 = 0 then
    (F_field_lit n a0 a1 a2 a3 a4 a5 a6 a7 a8).bind fun t7 =>
    some (t7.1, t7.2.1, t7.2.2, 0)
  else
  some (0, 0, 0, t5)
theorem c_field_Lit {n : Nat} {a0 : List D} {a1 : Int} {a2 : Int} {a3 : Int} {a4 : Int} {a5 : Int} {a6 : Int} {a7 : Int} {a8 : Int} {r : Int × Int × Int × Int} (h : F_field_Lit n a0 a1 a2 a3 a4 a5 a6 a7 a8 = some r) : Computes cx 18 [.lst false 10 a0, I a1, .agg [I a2, I a3, I a4], .agg [I a5, I a6, I a7], I a8] (.tup [.agg [I r.1, I r.2.1, I r.2.2.1], I r.2.2.2]) := by
  unfold F_field_Lit at h
  obtain ⟨t1, h1, h⟩ := bnd_of h
  obtain ⟨t2, h2, h⟩ := bnd_of h
  obtain ⟨t3, h3, h⟩ := bnd_of h
  obtain ⟨t4, h4, h⟩ := bnd_of h
  obtain ⟨t5, h5, h⟩ := bnd_of h
  by_cases h6 : t5 = 0
  · replace h := ite_t h h6
    obtain ⟨t7, h7, h⟩ := bnd_of h
    replace h := Option.some.inj h
    subst h
    exact run (n := 100) (f := 18) (args := [.lst false 10 a0, I a1, .agg [I a2, I a3, I a4], .agg [I a5, I a6, I a7], I a8]) (orc := [.ret (I t1), .ret (I t2), .ret (I t3), .ret (I t4), .ret (I t5), .br false, .ret (.agg [I t7.1, I t7.2.1, I t7.2.2])]) (r := .tup [.agg [I t7.1, I t7.2.1, I t7.2.2], I 0]) (ob := [Computes cx 66 [.lst false 10 a0, I a1, .agg [I a2, I a3, I a4], .agg [I a5, I a6, I a7], I a8] (.agg [I t7.1, I t7.2.1, I t7.2.2]), (t5 != 0) = false, Computes cx 56 [.lst true 1 [I t1, I t2, I t3, I t4]] (I t5), Computes cx 65 [I a8] (I t4), Computes cx 64 [.agg [I a5, I a6, I a7], I 4096] (I t3), Computes cx 58 [.agg [I a2, I a3, I a4], I 1024] (I t2), Computes cx 63 [.lst false 10 a0, I a1] (I t1)]) (by kernel_rfl) ⟨(c_field_lit h7), (nef h6), ((c_field_first h5).le (.cons (.full _ _ _) (.nil)) (.refl _)), (c_field_checkK h4), (c_field_checkParts h3), (c_field_checkDirection h2), (c_field_checkIndex h1), trivial⟩
  · replace h := ite_f h h6
    replace h := Option.some.inj h
    subst h
    exact run (n := 100) (f := 18) (args := [.lst false 10 a0, I a1, .agg [I a2, I a3, I a4], .agg [I a5, I a6, I a7], I a8]) (orc := [.ret (I t1), .ret (I t2), .ret (I t3), .ret (I t4), .ret (I t5), .br true]) (r := .tup [.agg [I 0, I 0, I 0], I t5]) (ob := [(t5 != 0) = true, Computes cx 56 [.lst true 1 [I t1, I t2, I t3, I t4]] (I t5), Computes cx 65 [I a8] (I t4), Computes cx 64 [.agg [I a5, I a6, I a7], I 4096] (I t3), Computes cx 58 [.agg [I a2, I a3, I a4], I 1024] (I t2), Computes cx 63 [.lst false 10 a0, I a1] (I t1)]) (by kernel_rfl) ⟨(net h6), ((c_field_first h5).le (.cons (.full _ _ _) (.nil)) (.refl _)), (c_field_checkK h4), (c_field_checkParts h3), (c_field_checkDirection h2), (c_field_checkIndex h1), trivial⟩
def F_ref01_Divisor_L1 (n : Nat)  (sa : (Int × Int)) : Option (((Int × Int)) ⊕ ((Int))) :=
  if sa.2 = 0 then
    some (.inr sa.1)
  else
  if sa.2 ≠ 0 then
  some (.inl (sa.2, (Int.tmod sa.1 sa.2)))
  else none
noncomputable def T_ref01_Divisor_L1  (sa : (Int × Int)) : List (Nat × AV) := [(0, .d (I sa.1)), (1, .d (I sa.2))]
noncomputable def H_ref01_Divisor_L1  (sa : (Int × Int)) : List (Nat × Blk) := []
noncomputable def X_ref01_Divisor_L1  (e : (Int)) : Ex := (.exit 0)
noncomputable def XT_ref01_Divisor_L1  (e : (Int)) : List (Nat × AV) := [(0, .d (I e))]
noncomputable def XH_ref01_Divisor_L1  (e : (Int)) : List (Nat × Blk) := []
theorem R_ref01_Divisor_L1 {n : Nat}  (sa : (Int × Int)) (r) (h : F_ref01_Divisor_L1 n  sa = some r) : Rd cx (loopAt cx.P 74 0) 24 0 false (T_ref01_Divisor_L1 ) (H_ref01_Divisor_L1 ) (X_ref01_Divisor_L1 ) (XT_ref01_Divisor_L1 ) (XH_ref01_Divisor_L1 ) sa r := by
  unfold F_ref01_Divisor_L1 at h
  by_cases ha1 : sa.2 = 0
  · replace h := ite_t h ha1
    replace h := Option.some.inj h
    subst h
    exact ⟨⟨100, 11, [.br false], [], [0], [], round_of (ob := [(sa.2 != 0) = false]) (by kernel_rfl) ⟨(nef ha1), trivial⟩⟩, nofun⟩
  · replace h := ite_f h ha1
    obtain ⟨ha2, h⟩ := grd_of h
    replace h := Option.some.inj h
    subst h
    exact ⟨100, 11, [.br true], [], [0, 1], [], round_of (ob := [sa.2 ≠ 0, (sa.2 != 0) = true]) (by kernel_rfl) ⟨ha2, (net ha1), trivial⟩⟩
def F_ref01_Divisor_L2 (n : Nat)  (sa : (Int × Int)) : Option (((Int × Int)) ⊕ ((Int))) :=
  if sa.2 = 0 then
    some (.inr sa.1)
  else
  if sa.2 ≠ 0 then
  some (.inl (sa.2, (Int.tmod sa.1 sa.2)))
  else none
noncomputable def T_ref01_Divisor_L2  (sa : (Int × Int)) : List (Nat × AV) := [(0, .d (I sa.1)), (1, .d (I sa.2))]
noncomputable def H_ref01_Divisor_L2  (sa : (Int × Int)) : List (Nat × Blk) := []
noncomputable def X_ref01_Divisor_L2  (e : (Int)) : Ex := (.exit 0)
noncomputable def XT_ref01_Divisor_L2  (e : (Int)) : List (Nat × AV) := [(0, .d (I e))]
noncomputable def XH_ref01_Divisor_L2  (e : (Int)) : List (Nat × Blk) := []
theorem R_ref01_Divisor_L2 {n : Nat}  (sa : (Int × Int)) (r) (h : F_ref01_Divisor_L2 n  sa = some r) : Rd cx (loopAt cx.P 74 0) 24 0 false (T_ref01_Divisor_L2 ) (H_ref01_Divisor_L2 ) (X_ref01_Divisor_L2 ) (XT_ref01_Divisor_L2 ) (XH_ref01_Divisor_L2 ) sa r := by
  unfold F_ref01_Divisor_L2 at h
  by_cases ha1 : sa.2 = 0
  · replace h := ite_t h ha1
    replace h := Option.some.inj h
    subst h
    exact ⟨⟨100, 8, [.br false], [], [0], [], round_of (ob := [(sa.2 != 0) = false]) (by kernel_rfl) ⟨(nef ha1), trivial⟩⟩, nofun⟩
  · replace h := ite_f h ha1
    obtain ⟨ha2, h⟩ := grd_of h
    replace h := Option.some.inj h
    subst h
    exact ⟨100, 8, [.br true], [], [0, 1], [], round_of (ob := [sa.2 ≠ 0, (sa.2 != 0) = true]) (by kernel_rfl) ⟨ha2, (net ha1), trivial⟩⟩
def F_ref01_Divisor_L3 (n : Nat)  (sa : (Int × Int)) : Option (((Int × Int)) ⊕ ((Int))) :=
  if sa.2 = 0 then
    some (.inr sa.1)
  else
  if sa.2 ≠ 0 then
  some (.inl (sa.2, (Int.tmod sa.1 sa.2)))
  else none
noncomputable def T_ref01_Divisor_L3  (sa : (Int × Int)) : List (Nat × AV) := [(0, .d (I sa.1)), (1, .d (I sa.2))]
noncomputable def H_ref01_Divisor_L3  (sa : (Int × Int)) : List (Nat × Blk) := []
noncomputable def X_ref01_Divisor_L3  (e : (Int)) : Ex := (.exit 0)
noncomputable def XT_ref01_Divisor_L3  (e : (Int)) : List (Nat × AV) := [(0, .d (I e))]
noncomputable def XH_ref01_Divisor_L3  (e : (Int)) : List (Nat × Blk) := []
theorem R_ref01_Divisor_L3 {n : Nat}  (sa : (Int × Int)) (r) (h : F_ref01_Divisor_L3 n  sa = some r) : Rd cx (loopAt cx.P 74 0) 24 0 false (T_ref01_Divisor_L3 ) (H_ref01_Divisor_L3 ) (X_ref01_Divisor_L3 ) (XT_ref01_Divisor_L3 ) (XH_ref01_Divisor_L3 ) sa r := by
  unfold F_ref01_Divisor_L3 at h
  by_cases ha1 : sa.2 = 0
  · replace h := ite_t h ha1
    replace h := Option.some.inj h
    subst h
    exact ⟨⟨100, 8, [.br false], [], [0], [], round_of (ob := [(sa.2 != 0) = false]) (by kernel_rfl) ⟨(nef ha1), trivial⟩⟩, nofun⟩
  · replace h := ite_f h ha1
    obtain ⟨ha2, h⟩ := grd_of h
    replace h := Option.some.inj h
    subst h
    exact ⟨100, 8, [.br true], [], [0, 1], [], round_of (ob := [sa.2 ≠ 0, (sa.2 != 0) = true]) (by kernel_rfl) ⟨ha2, (net ha1), trivial⟩⟩
def F_ref01_Divisor_L4 (n : Nat)  (sa : (Int × Int)) : Option (((Int × Int)) ⊕ ((Int))) :=
  if sa.2 = 0 then
    some (.inr sa.1)
  else
  if sa.2 ≠ 0 then
  some (.inl (sa.2, (Int.tmod sa.1 sa.2)))
  else none
noncomputable def T_ref01_Divisor_L4  (sa : (Int × Int)) : List (Nat × AV) := [(0, .d (I sa.1)), (1, .d (I sa.2))]
noncomputable def H_ref01_Divisor_L4  (sa : (Int × Int)) : List (Nat × Blk) := []
noncomputable def X_ref01_Divisor_L4  (e : (Int)) : Ex := (.exit 0)
noncomputable def XT_ref01_Divisor_L4  (e : (Int)) : List (Nat × AV) := [(0, .d (I e))]
noncomputable def XH_ref01_Divisor_L4  (e : (Int)) : List (Nat × Blk) := []
theorem R_ref01_Divisor_L4 {n : Nat}  (sa : (Int × Int)) (r) (h : F_ref01_Divisor_L4 n  sa = some r) : Rd cx (loopAt cx.P 74 0) 24 0 false (T_ref01_Divisor_L4 ) (H_ref01_Divisor_L4 ) (X_ref01_Divisor_L4 ) (XT_ref01_Divisor_L4 ) (XH_ref01_Divisor_L4 ) sa r := by
  unfold F_ref01_Divisor_L4 at h
  by_cases ha1 : sa.2 = 0
  · replace h := ite_t h ha1
    replace h := Option.some.inj h
    subst h
    exact ⟨⟨100, 5, [.br false], [], [0], [], round_of (ob := [(sa.2 != 0) = false]) (by kernel_rfl) ⟨(nef ha1), trivial⟩⟩, nofun⟩
  · replace h := ite_f h ha1
    obtain ⟨ha2, h⟩ := grd_of h
    replace h := Option.some.inj h
    subst h
    exact ⟨100, 5, [.br true], [], [0, 1], [], round_of (ob := [sa.2 ≠ 0, (sa.2 != 0) = true]) (by kernel_rfl) ⟨ha2, (net ha1), trivial⟩⟩
/- spillage/spillageref01.Divisor: I a0, I a1 -/
def F_ref01_Divisor (n : Nat) (a0 : Int) (a1 : Int) : Option (Int) :=
  if a0 < 0 then
    if inI64 (0 - a0) then
    if a1 < 0 then
      if inI64 (0 - a1) then
      (loopF (F_ref01_Divisor_L1 n) n ((0 - a0), (0 - a1))).bind fun t5 =>
      if t5 = 0 then
        some 1
      else
      some t5
      else none
    else
    (loopF (F_ref01_Divisor_L2 n) n ((0 - a0), a1)).bind fun t4 =>
    if t4 = 0 then
      some 1
    else
    some t4
    else none
  else
  if a1 < 0 then
    if inI64 (0 - a1) then
    (loopF (F_ref01_Divisor_L3 n) n (a0, (0 - a1))).bind fun t4 =>
    if t4 = 0 then
      some 1
    else
    some t4
    else none
  else
  (loopF (F_ref01_Divisor_L4 n) n (a0, a1)).bind fun t3 =>
  if t3 = 0 then
    some 1
  else
  some t3
theorem c_ref01_Divisor {n : Nat} {a0 : Int} {a1 : Int} {r : Int} (h : F_ref01_Divisor n a0 a1 = some r) : Computes cx 74 [I a0, I a1] (I r) := by
  unfold F_ref01_Divisor at h
  by_cases h1 : a0 < 0
  · replace h := ite_t h h1
    obtain ⟨h2, h⟩ := grd_of h
    by_cases h3 : a1 < 0
    · replace h := ite_t h h3
      obtain ⟨h4, h⟩ := grd_of h
      obtain ⟨t5, h5, h⟩ := bnd_of h
      by_cases h6 : t5 = 0
      · replace h := ite_t h h6
        replace h := Option.some.inj h
        subst h
        exact run (n := 100) (f := 74) (args := [I a0, I a1]) (orc := [.br true, .br true, .lp [] [0, 1] [] (.exit 0) [(0, .d (I t5))] [] 32, .br true]) (r := I 1) (ob := [(t5 == 0) = true, LoopN cx (loopAt cx.P 74 0) 24 0 false [(0, .d (I (0 - a0))), (1, .d (I (0 - a1)))] [] (.exit 0) [(0, .d (I t5))] [], inI64 (0 - a1), (decide (a1 < 0)) = true, inI64 (0 - a0), (decide (a0 < 0)) = true]) (by kernel_rfl) ⟨(eqt h6), (loopF_to R_ref01_Divisor_L1 h5), h4, (decide_eq_true h3), h2, (decide_eq_true h1), trivial⟩
      · replace h := ite_f h h6
        replace h := Option.some.inj h
        subst h
        exact run (n := 100) (f := 74) (args := [I a0, I a1]) (orc := [.br true, .br true, .lp [] [0, 1] [] (.exit 0) [(0, .d (I t5))] [] 32, .br false]) (r := I t5) (ob := [(t5 == 0) = false, LoopN cx (loopAt cx.P 74 0) 24 0 false [(0, .d (I (0 - a0))), (1, .d (I (0 - a1)))] [] (.exit 0) [(0, .d (I t5))] [], inI64 (0 - a1), (decide (a1 < 0)) = true, inI64 (0 - a0), (decide (a0 < 0)) = true]) (by kernel_rfl) ⟨(eqf h6), (loopF_to R_ref01_Divisor_L1 h5), h4, (decide_eq_true h3), h2, (decide_eq_true h1), trivial⟩
    · replace h := ite_f h h3
      obtain ⟨t4, h4, h⟩ := bnd_of h
      by_cases h5 : t4 = 0
      · replace h := ite_t h h5
        replace h := Option.some.inj h
        subst h
        exact run (n := 100) (f := 74) (args := [I a0, I a1]) (orc := [.br true, .br false, .lp [] [0, 1] [] (.exit 0) [(0, .d (I t4))] [] 29, .br true]) (r := I 1) (ob := [(t4 == 0) = true, LoopN cx (loopAt cx.P 74 0) 24 0 false [(0, .d (I (0 - a0))), (1, .d (I a1))] [] (.exit 0) [(0, .d (I t4))] [], (decide (a1 < 0)) = false, inI64 (0 - a0), (decide (a0 < 0)) = true]) (by kernel_rfl) ⟨(eqt h5), (loopF_to R_ref01_Divisor_L2 h4), (decide_eq_false h3), h2, (decide_eq_true h1), trivial⟩
      · replace h := ite_f h h5
        replace h := Option.some.inj h
        subst h
        exact run (n := 100) (f := 74) (args := [I a0, I a1]) (orc := [.br true, .br false, .lp [] [0, 1] [] (.exit 0) [(0, .d (I t4))] [] 29, .br false]) (r := I t4) (ob := [(t4 == 0) = false, LoopN cx (loopAt cx.P 74 0) 24 0 false [(0, .d (I (0 - a0))), (1, .d (I a1))] [] (.exit 0) [(0, .d (I t4))] [], (decide (a1 < 0)) = false, inI64 (0 - a0), (decide (a0 < 0)) = true]) (by kernel_rfl) ⟨(eqf h5), (loopF_to R_ref01_Divisor_L2 h4), (decide_eq_false h3), h2, (decide_eq_true h1), trivial⟩
  · replace h := ite_f h h1
    by_cases h2 : a1 < 0
    · replace h := ite_t h h2
      obtain ⟨h3, h⟩ := grd_of h
      obtain ⟨t4, h4, h⟩ := bnd_of h
      by_cases h5 : t4 = 0
      · replace h := ite_t h h5
        replace h := Option.some.inj h
        subst h
        exact run (n := 100) (f := 74) (args := [I a0, I a1]) (orc := [.br false, .br true, .lp [] [0, 1] [] (.exit 0) [(0, .d (I t4))] [] 29, .br true]) (r := I 1) (ob := [(t4 == 0) = true, LoopN cx (loopAt cx.P 74 0) 24 0 false [(0, .d (I a0)), (1, .d (I (0 - a1)))] [] (.exit 0) [(0, .d (I t4))] [], inI64 (0 - a1), (decide (a1 < 0)) = true, (decide (a0 < 0)) = false]) (by kernel_rfl) ⟨(eqt h5), (loopF_to R_ref01_Divisor_L3 h4), h3, (decide_eq_true h2), (decide_eq_false h1), trivial⟩
      · replace h := ite_f h h5
        replace h := Option.some.inj h
        subst h
        exact run (n := 100) (f := 74) (args := [I a0, I a1]) (orc := [.br false, .br true, .lp [] [0, 1] [] (.exit 0) [(0, .d (I t4))] [] 29, .br false]) (r := I t4) (ob := [(t4 == 0) = false, LoopN cx (loopAt cx.P 74 0) 24 0 false [(0, .d (I a0)), (1, .d (I (0 - a1)))] [] (.exit 0) [(0, .d (I t4))] [], inI64 (0 - a1), (decide (a1 < 0)) = true, (decide (a0 < 0)) = false]) (by kernel_rfl) ⟨(eqf h5), (loopF_to R_ref01_Divisor_L3 h4), h3, (decide_eq_true h2), (decide_eq_false h1), trivial⟩
    · replace h := ite_f h h2
      obtain ⟨t3, h3, h⟩ := bnd_of h
      by_cases h4 : t3 = 0
      · replace h := ite_t h h4
        replace h := Option.some.inj h
        subst h
        exact run (n := 100) (f := 74) (args := [I a0, I a1]) (orc := [.br false, .br false, .lp [] [0, 1] [] (.exit 0) [(0, .d (I t3))] [] 26, .br true]) (r := I 1) (ob := [(t3 == 0) = true, LoopN cx (loopAt cx.P 74 0) 24 0 false [(0, .d (I a0)), (1, .d (I a1))] [] (.exit 0) [(0, .d (I t3))] [], (decide (a1 < 0)) = false, (decide (a0 < 0)) = false]) (by kernel_rfl) ⟨(eqt h4), (loopF_to R_ref01_Divisor_L4 h3), (decide_eq_false h2), (decide_eq_false h1), trivial⟩
      · replace h := ite_f h h4
        replace h := Option.some.inj h
        subst h
        exact run (n := 100) (f := 74) (args := [I a0, I a1]) (orc := [.br false, .br false, .lp [] [0, 1] [] (.exit 0) [(0, .d (I t3))] [] 26, .br false]) (r := I t3) (ob := [(t3 == 0) = false, LoopN cx (loopAt cx.P 74 0) 24 0 false [(0, .d (I a0)), (1, .d (I a1))] [] (.exit 0) [(0, .d (I t3))] [], (decide (a1 < 0)) = false, (decide (a0 < 0)) = false]) (by kernel_rfl) ⟨(eqf h4), (loopF_to R_ref01_Divisor_L4 h3), (decide_eq_false h2), (decide_eq_false h1), trivial⟩
end Go.Proofs.YtiogobiijlaalaaDoor
