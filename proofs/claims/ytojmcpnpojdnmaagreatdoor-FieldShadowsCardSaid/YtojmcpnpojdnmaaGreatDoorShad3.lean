/-
  Printed by gsx.py: functions of the program as Lean functions, and that the code computes them.
-/
import Derived.Test.YtojmcpnpojdnmaaGreatDoorShad2
set_option linter.unusedVariables false
set_option maxRecDepth 10000
namespace Go.Proofs.YtojmcpnpojdnmaaGreatDoor
open Go.SX
def F_field_Dark (n : Nat) (a0 : List D) (a1 : Int) (a2 : Int) (a3 : Int) (a4 : Int) (a5 : Int) : Option (List D × Int) :=
 (F_field_checkIndex n a0 a1).bind fun t1 =>
 (F_field_checkDirection n a2 a3 a4 1024).bind fun t2 =>
 (F_field_checkK n a5).bind fun t3 =>
 (F_field_first n ([I t1, I t2, I t3])).bind fun t4 =>
 if t4 = 0 then
  (F_field_dark n a0 a1 a2 a3 a4 a5).bind fun t6 =>
  some (t6, 0)
 else
 some ([], t4)
theorem c_field_Dark {n : Nat} {a0 : List D} {a1 : Int} {a2 : Int} {a3 : Int} {a4 : Int} {a5 : Int} {r : List D × Int} (h : F_field_Dark n a0 a1 a2 a3 a4 a5 = some r) : Computes cx 35 [.lst false 10 a0, I a1, .agg [I a2, I a3, I a4], I a5] (.tup [.lst false 1 r.1, I r.2]) := by
  unfold F_field_Dark at h
  obtain ⟨t1, h1, h⟩ := bnd_of h
  obtain ⟨t2, h2, h⟩ := bnd_of h
  obtain ⟨t3, h3, h⟩ := bnd_of h
  obtain ⟨t4, h4, h⟩ := bnd_of h
  by_cases h5 : t4 = 0
  · replace h := ite_t h h5
    obtain ⟨t6, h6, h⟩ := bnd_of h
    replace h := Option.some.inj h
    subst h
    exact run (n := 100) (f := 35) (args := [.lst false 10 a0, I a1, .agg [I a2, I a3, I a4], I a5]) (orc := [.ret (I t1), .ret (I t2), .ret (I t3), .ret (I t4), .br false, .ret (.lst false 1 t6)]) (r := .tup [.lst false 1 t6, I 0]) (ob := [Computes cx 97 [.lst false 10 a0, I a1, .agg [I a2, I a3, I a4], I a5] (.lst false 1 t6), (t4 != 0) = false, Computes cx 59 [.lst true 1 [I t1, I t2, I t3]] (I t4), Computes cx 82 [I a5] (I t3), Computes cx 61 [.agg [I a2, I a3, I a4], I 1024] (I t2), Computes cx 80 [.lst false 10 a0, I a1] (I t1)]) (by kernel_rfl) ⟨(c_field_dark h6), (nef h5), ((c_field_first h4).le (.cons (.full _ _ _) (.nil)) (.refl _)), (c_field_checkK h3), (c_field_checkDirection h2), (c_field_checkIndex h1), trivial⟩
  · replace h := ite_f h h5
    replace h := Option.some.inj h
    subst h
    exact (run (n := 100) (f := 35) (args := [.lst false 10 a0, I a1, .agg [I a2, I a3, I a4], I a5]) (orc := [.ret (I t1), .ret (I t2), .ret (I t3), .ret (I t4), .br true]) (r := .tup [.lst true 0 [], I t4]) (ob := [(t4 != 0) = true, Computes cx 59 [.lst true 1 [I t1, I t2, I t3]] (I t4), Computes cx 82 [I a5] (I t3), Computes cx 61 [.agg [I a2, I a3, I a4], I 1024] (I t2), Computes cx 80 [.lst false 10 a0, I a1] (I t1)]) (by kernel_rfl) ⟨(net h5), ((c_field_first h4).le (.cons (.full _ _ _) (.nil)) (.refl _)), (c_field_checkK h3), (c_field_checkDirection h2), (c_field_checkIndex h1), trivial⟩).le (LEs.refl _) (.tups (.cons (.lst _ _ _ _ _ nofun (.inl rfl)) (.cons (.refl _) (.nil))))
def F_field_blocked_L2 (n : Nat) (a0 : List D) (a1 : Int) (a2 : Int) (a3 : Int) (a4 : Int) (a5 : Int) (t1 : ByteArray × Int × Int × Int × Int × Int × Int × Int × Int × Int) (sa : Int) (sb : (Unit) ⊕ (Int × List D)) : Option (((Unit) ⊕ (Int × List D)) ⊕ ((Unit) ⊕ (List D))) := match sb with
 | (.inl sb) => (
  if 0 < a5 then
  (F_field_times n a5 t1.2.1 t1.2.2.1 t1.2.2.2.1).bind fun tb2 =>
  if inI64 (1 - a5) then
  (F_field_times n (1 - a5) t1.2.2.2.2.1 t1.2.2.2.2.2.1 t1.2.2.2.2.2.2.1).bind fun tb4 =>
  if inI64 (2 * sa) then
  if inI64 ((2 * sa) + 1) then
  if inI64 (((2 * sa) + 1) - a5) then
  (F_field_times n (((2 * sa) + 1) - a5) t1.2.2.2.2.2.2.2.1 t1.2.2.2.2.2.2.2.2.1 t1.2.2.2.2.2.2.2.2.2).bind fun tb8 =>
  (F_field_plus n tb4.1 tb4.2.1 tb4.2.2 tb8.1 tb8.2.1 tb8.2.2).bind fun tb9 =>
  (F_field_plus n tb2.1 tb2.2.1 tb2.2.2 tb9.1 tb9.2.1 tb9.2.2).bind fun tb10 =>
  if inI64 (sa * a5) then
  if inI64 ((sa * a5) + 0) then
  some (.inl (.inr (1, [.agg [I ((sa * a5) + 0), I tb10.1, I tb10.2.1, I tb10.2.2]])))
  else none
  else none
  else none
  else none
  else none
  else none
  else
  some (.inr (.inl ())))
 | (.inr sb) => (
  if sb.1 < a5 then
  (F_field_times n a5 t1.2.1 t1.2.2.1 t1.2.2.2.1).bind fun tb2 =>
  if inI64 (2 * sb.1) then
  if inI64 ((2 * sb.1) + 1) then
  if inI64 (((2 * sb.1) + 1) - a5) then
  (F_field_times n (((2 * sb.1) + 1) - a5) t1.2.2.2.2.1 t1.2.2.2.2.2.1 t1.2.2.2.2.2.2.1).bind fun tb6 =>
  if inI64 (2 * sa) then
  if inI64 ((2 * sa) + 1) then
  if inI64 (((2 * sa) + 1) - a5) then
  (F_field_times n (((2 * sa) + 1) - a5) t1.2.2.2.2.2.2.2.1 t1.2.2.2.2.2.2.2.2.1 t1.2.2.2.2.2.2.2.2.2).bind fun tb10 =>
  (F_field_plus n tb6.1 tb6.2.1 tb6.2.2 tb10.1 tb10.2.1 tb10.2.2).bind fun tb11 =>
  (F_field_plus n tb2.1 tb2.2.1 tb2.2.2 tb11.1 tb11.2.1 tb11.2.2).bind fun tb12 =>
  if inI64 (sa * a5) then
  if inI64 ((sa * a5) + sb.1) then
  if roomP 32 ((sb.2).length + 1) then
  if inI64 (sb.1 + 1) then
  some (.inl (.inr ((sb.1 + 1), (sb.2 ++ ([.agg [I ((sa * a5) + sb.1), I tb12.1, I tb12.2.1, I tb12.2.2]] : List D)))))
  else none
  else none
  else none
  else none
  else none
  else none
  else none
  else none
  else none
  else none
  else
  some (.inr (.inr sb.2)))
noncomputable def T_field_blocked_L2 (a0 : List D) (a1 : Int) (a2 : Int) (a3 : Int) (a4 : Int) (a5 : Int) (t1 : ByteArray × Int × Int × Int × Int × Int × Int × Int × Int × Int) (sa : Int) (sb : (Unit) ⊕ (Int × List D)) : List (Nat × AV) := match sb with
  | (.inl sb) => [(0, .own 30 0), (1, .ptr 19 0 0 0 0), (2, .ptr 18 0 0 0 0), (4, .d (I sa)), (7, .d (I a5)), (8, .d (I sa)), (11, .d (I a5)), (12, .d (I 0))]
  | (.inr sb) => [(0, .own 30 0), (1, .ptr 19 0 0 0 0), (2, .ptr 18 0 0 0 0), (4, .d (I sa)), (7, .d (I a5)), (8, .d (I sa)), (11, .d (I a5)), (12, .d (I sb.1))]
noncomputable def H_field_blocked_L2 (a0 : List D) (a1 : Int) (a2 : Int) (a3 : Int) (a4 : Int) (a5 : Int) (t1 : ByteArray × Int × Int × Int × Int × Int × Int × Int × Int × Int) (sa : Int) (sb : (Unit) ⊕ (Int × List D)) : List (Nat × Blk) := match sb with
  | (.inl sb) => [(0, .box (.d (.lst false 10 a0))), (1, .box (.d (I a1))), (2, .box (.d (.agg [I a2, I a3, I a4]))), (3, .box (.d (I a5))), (9, .box (.d (.agg [.v (.string t1.1), I t1.2.1, I t1.2.2.1, I t1.2.2.2.1, I t1.2.2.2.2.1, I t1.2.2.2.2.2.1, I t1.2.2.2.2.2.2.1, I t1.2.2.2.2.2.2.2.1, I t1.2.2.2.2.2.2.2.2.1, I t1.2.2.2.2.2.2.2.2.2]))), (18, .box (.d (.agg [.v (.string t1.1), I t1.2.1, I t1.2.2.1, I t1.2.2.2.1, I t1.2.2.2.2.1, I t1.2.2.2.2.2.1, I t1.2.2.2.2.2.2.1, I t1.2.2.2.2.2.2.2.1, I t1.2.2.2.2.2.2.2.2.1, I t1.2.2.2.2.2.2.2.2.2]))), (19, .box (.d (I a5))), (27, .box (.d (.lst true 0 []))), (30, .loop true [(6, .fn (.func 137) [] [.ptr 19 0 0 0 0, .ptr 18 0 0 0 0]), (4, .d (.lst true 0 [])), (2, .ptr 27 0 0 0 0), (1, .fn (.func 137) [] [.ptr 19 0 0 0 0, .ptr 18 0 0 0 0]), (0, .d (.lst true 0 []))] [7] (rangeAt cx.P 136 0).1 (rangeAt cx.P 136 0).2 13)]
  | (.inr sb) => [(0, .box (.d (.lst false 10 a0))), (1, .box (.d (I a1))), (2, .box (.d (.agg [I a2, I a3, I a4]))), (3, .box (.d (I a5))), (9, .box (.d (.agg [.v (.string t1.1), I t1.2.1, I t1.2.2.1, I t1.2.2.2.1, I t1.2.2.2.2.1, I t1.2.2.2.2.2.1, I t1.2.2.2.2.2.2.1, I t1.2.2.2.2.2.2.2.1, I t1.2.2.2.2.2.2.2.2.1, I t1.2.2.2.2.2.2.2.2.2]))), (18, .box (.d (.agg [.v (.string t1.1), I t1.2.1, I t1.2.2.1, I t1.2.2.2.1, I t1.2.2.2.2.1, I t1.2.2.2.2.2.1, I t1.2.2.2.2.2.2.1, I t1.2.2.2.2.2.2.2.1, I t1.2.2.2.2.2.2.2.2.1, I t1.2.2.2.2.2.2.2.2.2]))), (19, .box (.d (I a5))), (27, .box (.own 80 0)), (30, .loop true [(6, .fn (.func 137) [] [.ptr 19 0 0 0 0, .ptr 18 0 0 0 0]), (4, .d (.lst true 0 [])), (2, .ptr 27 0 0 0 0), (1, .fn (.func 137) [] [.ptr 19 0 0 0 0, .ptr 18 0 0 0 0]), (0, .d (.lst true 0 []))] [7] (rangeAt cx.P 136 0).1 (rangeAt cx.P 136 0).2 13), (80, .row 0 4 sb.2)]
noncomputable def X_field_blocked_L2 (a0 : List D) (a1 : Int) (a2 : Int) (a3 : Int) (a4 : Int) (a5 : Int) (t1 : ByteArray × Int × Int × Int × Int × Int × Int × Int × Int × Int) (sa : Int) (e : (Unit) ⊕ (List D)) : Ex := match e with
  | (.inl e) => (.exit 2)
  | (.inr e) => (.exit 2)
noncomputable def XT_field_blocked_L2 (a0 : List D) (a1 : Int) (a2 : Int) (a3 : Int) (a4 : Int) (a5 : Int) (t1 : ByteArray × Int × Int × Int × Int × Int × Int × Int × Int × Int) (sa : Int) (e : (Unit) ⊕ (List D)) : List (Nat × AV) := match e with
  | (.inl e) => [(0, .own 30 0), (1, .ptr 19 0 0 0 0), (2, .ptr 18 0 0 0 0), (7, .d (I a5)), (8, .d (I sa))]
  | (.inr e) => [(0, .own 30 0), (1, .ptr 19 0 0 0 0), (2, .ptr 18 0 0 0 0), (7, .d (I a5)), (8, .d (I sa))]
noncomputable def XH_field_blocked_L2 (a0 : List D) (a1 : Int) (a2 : Int) (a3 : Int) (a4 : Int) (a5 : Int) (t1 : ByteArray × Int × Int × Int × Int × Int × Int × Int × Int × Int) (sa : Int) (e : (Unit) ⊕ (List D)) : List (Nat × Blk) := match e with
  | (.inl e) => [(0, .box (.d (.lst false 10 a0))), (1, .box (.d (I a1))), (2, .box (.d (.agg [I a2, I a3, I a4]))), (3, .box (.d (I a5))), (9, .box (.d (.agg [.v (.string t1.1), I t1.2.1, I t1.2.2.1, I t1.2.2.2.1, I t1.2.2.2.2.1, I t1.2.2.2.2.2.1, I t1.2.2.2.2.2.2.1, I t1.2.2.2.2.2.2.2.1, I t1.2.2.2.2.2.2.2.2.1, I t1.2.2.2.2.2.2.2.2.2]))), (18, .box (.d (.agg [.v (.string t1.1), I t1.2.1, I t1.2.2.1, I t1.2.2.2.1, I t1.2.2.2.2.1, I t1.2.2.2.2.2.1, I t1.2.2.2.2.2.2.1, I t1.2.2.2.2.2.2.2.1, I t1.2.2.2.2.2.2.2.2.1, I t1.2.2.2.2.2.2.2.2.2]))), (19, .box (.d (I a5))), (27, .box (.d (.lst true 0 []))), (30, .loop true [(6, .fn (.func 137) [] [.ptr 19 0 0 0 0, .ptr 18 0 0 0 0]), (4, .d (.lst true 0 [])), (2, .ptr 27 0 0 0 0), (1, .fn (.func 137) [] [.ptr 19 0 0 0 0, .ptr 18 0 0 0 0]), (0, .d (.lst true 0 []))] [7] (rangeAt cx.P 136 0).1 (rangeAt cx.P 136 0).2 13)]
  | (.inr e) => [(0, .box (.d (.lst false 10 a0))), (1, .box (.d (I a1))), (2, .box (.d (.agg [I a2, I a3, I a4]))), (3, .box (.d (I a5))), (9, .box (.d (.agg [.v (.string t1.1), I t1.2.1, I t1.2.2.1, I t1.2.2.2.1, I t1.2.2.2.2.1, I t1.2.2.2.2.2.1, I t1.2.2.2.2.2.2.1, I t1.2.2.2.2.2.2.2.1, I t1.2.2.2.2.2.2.2.2.1, I t1.2.2.2.2.2.2.2.2.2]))), (18, .box (.d (.agg [.v (.string t1.1), I t1.2.1, I t1.2.2.1, I t1.2.2.2.1, I t1.2.2.2.2.1, I t1.2.2.2.2.2.1, I t1.2.2.2.2.2.2.1, I t1.2.2.2.2.2.2.2.1, I t1.2.2.2.2.2.2.2.2.1, I t1.2.2.2.2.2.2.2.2.2]))), (19, .box (.d (I a5))), (27, .box (.own 80 0)), (30, .loop true [(6, .fn (.func 137) [] [.ptr 19 0 0 0 0, .ptr 18 0 0 0 0]), (4, .d (.lst true 0 [])), (2, .ptr 27 0 0 0 0), (1, .fn (.func 137) [] [.ptr 19 0 0 0 0, .ptr 18 0 0 0 0]), (0, .d (.lst true 0 []))] [7] (rangeAt cx.P 136 0).1 (rangeAt cx.P 136 0).2 13), (80, .row 0 4 e)]
theorem R_field_blocked_L2 {n : Nat} {a0 : List D} {a1 : Int} {a2 : Int} {a3 : Int} {a4 : Int} {a5 : Int} {t1 : ByteArray × Int × Int × Int × Int × Int × Int × Int × Int × Int} {sa : Int} (sb : (Unit) ⊕ (Int × List D)) (r) (h : F_field_blocked_L2 n a0 a1 a2 a3 a4 a5 t1 sa sb = some r) : Rd cx (loopAt cx.P 137 1) 49 31 false (T_field_blocked_L2 a0 a1 a2 a3 a4 a5 t1 sa) (H_field_blocked_L2 a0 a1 a2 a3 a4 a5 t1 sa) (X_field_blocked_L2 a0 a1 a2 a3 a4 a5 t1 sa) (XT_field_blocked_L2 a0 a1 a2 a3 a4 a5 t1 sa) (XH_field_blocked_L2 a0 a1 a2 a3 a4 a5 t1 sa) sb r := by
  unfold F_field_blocked_L2 at h
  rcases sb with sb | sb
  · by_cases hb1 : 0 < a5
    · replace h := ite_t h hb1
      obtain ⟨tb2, hb2, h⟩ := bnd_of h
      obtain ⟨hb3, h⟩ := grd_of h
      obtain ⟨tb4, hb4, h⟩ := bnd_of h
      obtain ⟨hb5, h⟩ := grd_of h
      obtain ⟨hb6, h⟩ := grd_of h
      obtain ⟨hb7, h⟩ := grd_of h
      obtain ⟨tb8, hb8, h⟩ := bnd_of h
      obtain ⟨tb9, hb9, h⟩ := bnd_of h
      obtain ⟨tb10, hb10, h⟩ := bnd_of h
      obtain ⟨hb11, h⟩ := grd_of h
      obtain ⟨hb12, h⟩ := grd_of h
      replace h := Option.some.inj h
      subst h
      exact ⟨100, 38, [.br true, .ret (.agg [I tb2.1, I tb2.2.1, I tb2.2.2]), .ret (.agg [I tb4.1, I tb4.2.1, I tb4.2.2]), .ret (.agg [I tb8.1, I tb8.2.1, I tb8.2.2]), .ret (.agg [I tb9.1, I tb9.2.1, I tb9.2.2]), .ret (.agg [I tb10.1, I tb10.2.1, I tb10.2.2]), .no, .no, .no], [], [0, 1, 2, 4, 7, 8, 11, 12], [0, 1, 2, 3, 9, 18, 19, 27, 30, 80], round_of (ob := [inI64 1, inI64 ((sa * a5) + 0), inI64 (sa * a5), Computes cx 89 [.agg [I tb2.1, I tb2.2.1, I tb2.2.2], .agg [I tb9.1, I tb9.2.1, I tb9.2.2]] (.agg [I tb10.1, I tb10.2.1, I tb10.2.2]), Computes cx 89 [.agg [I tb4.1, I tb4.2.1, I tb4.2.2], .agg [I tb8.1, I tb8.2.1, I tb8.2.2]] (.agg [I tb9.1, I tb9.2.1, I tb9.2.2]), Computes cx 90 [I (((2 * sa) + 1) - a5), .agg [I t1.2.2.2.2.2.2.2.1, I t1.2.2.2.2.2.2.2.2.1, I t1.2.2.2.2.2.2.2.2.2]] (.agg [I tb8.1, I tb8.2.1, I tb8.2.2]), inI64 (((2 * sa) + 1) - a5), inI64 ((2 * sa) + 1), inI64 (2 * sa), Computes cx 90 [I (1 - a5), .agg [I t1.2.2.2.2.1, I t1.2.2.2.2.2.1, I t1.2.2.2.2.2.2.1]] (.agg [I tb4.1, I tb4.2.1, I tb4.2.2]), inI64 (1 - a5), inI64 1, inI64 0, Computes cx 90 [I a5, .agg [I t1.2.1, I t1.2.2.1, I t1.2.2.2.1]] (.agg [I tb2.1, I tb2.2.1, I tb2.2.2]), (decide (0 < a5)) = true]) (by kernel_rfl) ⟨(by unfold inI64; omega), hb12, hb11, (c_field_plus hb10), (c_field_plus hb9), (c_field_times hb8), hb7, hb6, hb5, (c_field_times hb4), hb3, (by unfold inI64; omega), (by unfold inI64; omega), (c_field_times hb2), (decide_eq_true hb1), trivial⟩⟩
    · replace h := ite_f h hb1
      replace h := Option.some.inj h
      subst h
      exact ⟨⟨100, 38, [.br false], [], [0, 1, 2, 7, 8], [0, 1, 2, 3, 9, 18, 19, 27, 30], round_of (ob := [(decide (0 < a5)) = false]) (by kernel_rfl) ⟨(decide_eq_false hb1), trivial⟩⟩, nofun⟩
  · by_cases hb1 : sb.1 < a5
    · replace h := ite_t h hb1
      obtain ⟨tb2, hb2, h⟩ := bnd_of h
      obtain ⟨hb3, h⟩ := grd_of h
      obtain ⟨hb4, h⟩ := grd_of h
      obtain ⟨hb5, h⟩ := grd_of h
      obtain ⟨tb6, hb6, h⟩ := bnd_of h
      obtain ⟨hb7, h⟩ := grd_of h
      obtain ⟨hb8, h⟩ := grd_of h
      obtain ⟨hb9, h⟩ := grd_of h
      obtain ⟨tb10, hb10, h⟩ := bnd_of h
      obtain ⟨tb11, hb11, h⟩ := bnd_of h
      obtain ⟨tb12, hb12, h⟩ := bnd_of h
      obtain ⟨hb13, h⟩ := grd_of h
      obtain ⟨hb14, h⟩ := grd_of h
      obtain ⟨hb15, h⟩ := grd_of h
      obtain ⟨hb16, h⟩ := grd_of h
      replace h := Option.some.inj h
      subst h
      exact ⟨100, 81, [.br true, .ret (.agg [I tb2.1, I tb2.2.1, I tb2.2.2]), .ret (.agg [I tb6.1, I tb6.2.1, I tb6.2.2]), .ret (.agg [I tb10.1, I tb10.2.1, I tb10.2.2]), .ret (.agg [I tb11.1, I tb11.2.1, I tb11.2.2]), .ret (.agg [I tb12.1, I tb12.2.1, I tb12.2.2]), .br true, .no], [], [0, 1, 2, 4, 7, 8, 11, 12], [0, 1, 2, 3, 9, 18, 19, 27, 30, 80], round_of (ob := [inI64 (sb.1 + 1), room cx 152 ((sb.2).length + 1), inI64 ((sa * a5) + sb.1), inI64 (sa * a5), Computes cx 89 [.agg [I tb2.1, I tb2.2.1, I tb2.2.2], .agg [I tb11.1, I tb11.2.1, I tb11.2.2]] (.agg [I tb12.1, I tb12.2.1, I tb12.2.2]), Computes cx 89 [.agg [I tb6.1, I tb6.2.1, I tb6.2.2], .agg [I tb10.1, I tb10.2.1, I tb10.2.2]] (.agg [I tb11.1, I tb11.2.1, I tb11.2.2]), Computes cx 90 [I (((2 * sa) + 1) - a5), .agg [I t1.2.2.2.2.2.2.2.1, I t1.2.2.2.2.2.2.2.2.1, I t1.2.2.2.2.2.2.2.2.2]] (.agg [I tb10.1, I tb10.2.1, I tb10.2.2]), inI64 (((2 * sa) + 1) - a5), inI64 ((2 * sa) + 1), inI64 (2 * sa), Computes cx 90 [I (((2 * sb.1) + 1) - a5), .agg [I t1.2.2.2.2.1, I t1.2.2.2.2.2.1, I t1.2.2.2.2.2.2.1]] (.agg [I tb6.1, I tb6.2.1, I tb6.2.2]), inI64 (((2 * sb.1) + 1) - a5), inI64 ((2 * sb.1) + 1), inI64 (2 * sb.1), Computes cx 90 [I a5, .agg [I t1.2.1, I t1.2.2.1, I t1.2.2.2.1]] (.agg [I tb2.1, I tb2.2.1, I tb2.2.2]), (decide (sb.1 < a5)) = true]) (by kernel_rfl) ⟨hb16, (room_of (b := 32) (by kernel_rfl) (by decide) hb15), hb14, hb13, (c_field_plus hb12), (c_field_plus hb11), (c_field_times hb10), hb9, hb8, hb7, (c_field_times hb6), hb5, hb4, hb3, (c_field_times hb2), (decide_eq_true hb1), trivial⟩⟩
    · replace h := ite_f h hb1
      replace h := Option.some.inj h
      subst h
      exact ⟨⟨100, 81, [.br false], [], [0, 1, 2, 7, 8], [0, 1, 2, 3, 9, 18, 19, 27, 30, 80], round_of (ob := [(decide (sb.1 < a5)) = false]) (by kernel_rfl) ⟨(decide_eq_false hb1), trivial⟩⟩, nofun⟩
def F_field_blocked_L3 (n : Nat) (a0 : List D) (a1 : Int) (a2 : Int) (a3 : Int) (a4 : Int) (a5 : Int) (t1 : ByteArray × Int × Int × Int × Int × Int × Int × Int × Int × Int) (sa : Int × List D) (sb : (Int × List D)) : Option (((Int × List D)) ⊕ ((List D))) :=
 if sb.1 < a5 then
  (F_field_times n a5 t1.2.1 t1.2.2.1 t1.2.2.2.1).bind fun tb2 =>
  if inI64 (2 * sb.1) then
  if inI64 ((2 * sb.1) + 1) then
  if inI64 (((2 * sb.1) + 1) - a5) then
  (F_field_times n (((2 * sb.1) + 1) - a5) t1.2.2.2.2.1 t1.2.2.2.2.2.1 t1.2.2.2.2.2.2.1).bind fun tb6 =>
  if inI64 (2 * sa.1) then
  if inI64 ((2 * sa.1) + 1) then
  if inI64 (((2 * sa.1) + 1) - a5) then
  (F_field_times n (((2 * sa.1) + 1) - a5) t1.2.2.2.2.2.2.2.1 t1.2.2.2.2.2.2.2.2.1 t1.2.2.2.2.2.2.2.2.2).bind fun tb10 =>
  (F_field_plus n tb6.1 tb6.2.1 tb6.2.2 tb10.1 tb10.2.1 tb10.2.2).bind fun tb11 =>
  (F_field_plus n tb2.1 tb2.2.1 tb2.2.2 tb11.1 tb11.2.1 tb11.2.2).bind fun tb12 =>
  if inI64 (sa.1 * a5) then
  if inI64 ((sa.1 * a5) + sb.1) then
  if roomP 32 ((sb.2).length + 1) then
  if inI64 (sb.1 + 1) then
  some (.inl ((sb.1 + 1), (sb.2 ++ ([.agg [I ((sa.1 * a5) + sb.1), I tb12.1, I tb12.2.1, I tb12.2.2]] : List D))))
  else none
  else none
  else none
  else none
  else none
  else none
  else none
  else none
  else none
  else none
 else
 some (.inr sb.2)
noncomputable def T_field_blocked_L3 (a0 : List D) (a1 : Int) (a2 : Int) (a3 : Int) (a4 : Int) (a5 : Int) (t1 : ByteArray × Int × Int × Int × Int × Int × Int × Int × Int × Int) (sa : Int × List D) (sb : (Int × List D)) : List (Nat × AV) := [(0, .own 30 0), (1, .ptr 19 0 0 0 0), (2, .ptr 18 0 0 0 0), (4, .d (I sa.1)), (7, .d (I a5)), (8, .d (I sa.1)), (11, .d (I a5)), (12, .d (I sb.1))]
noncomputable def H_field_blocked_L3 (a0 : List D) (a1 : Int) (a2 : Int) (a3 : Int) (a4 : Int) (a5 : Int) (t1 : ByteArray × Int × Int × Int × Int × Int × Int × Int × Int × Int) (sa : Int × List D) (sb : (Int × List D)) : List (Nat × Blk) := [(0, .box (.d (.lst false 10 a0))), (1, .box (.d (I a1))), (2, .box (.d (.agg [I a2, I a3, I a4]))), (3, .box (.d (I a5))), (9, .box (.d (.agg [.v (.string t1.1), I t1.2.1, I t1.2.2.1, I t1.2.2.2.1, I t1.2.2.2.2.1, I t1.2.2.2.2.2.1, I t1.2.2.2.2.2.2.1, I t1.2.2.2.2.2.2.2.1, I t1.2.2.2.2.2.2.2.2.1, I t1.2.2.2.2.2.2.2.2.2]))), (18, .box (.d (.agg [.v (.string t1.1), I t1.2.1, I t1.2.2.1, I t1.2.2.2.1, I t1.2.2.2.2.1, I t1.2.2.2.2.2.1, I t1.2.2.2.2.2.2.1, I t1.2.2.2.2.2.2.2.1, I t1.2.2.2.2.2.2.2.2.1, I t1.2.2.2.2.2.2.2.2.2]))), (19, .box (.d (I a5))), (27, .box (.own 80 0)), (30, .loop true [(6, .fn (.func 137) [] [.ptr 19 0 0 0 0, .ptr 18 0 0 0 0]), (4, .d (.lst true 0 [])), (2, .ptr 27 0 0 0 0), (1, .fn (.func 137) [] [.ptr 19 0 0 0 0, .ptr 18 0 0 0 0]), (0, .d (.lst true 0 []))] [7] (rangeAt cx.P 136 0).1 (rangeAt cx.P 136 0).2 13), (80, .row 0 4 sb.2)]
noncomputable def X_field_blocked_L3 (a0 : List D) (a1 : Int) (a2 : Int) (a3 : Int) (a4 : Int) (a5 : Int) (t1 : ByteArray × Int × Int × Int × Int × Int × Int × Int × Int × Int) (sa : Int × List D) (e : (List D)) : Ex := (.exit 2)
noncomputable def XT_field_blocked_L3 (a0 : List D) (a1 : Int) (a2 : Int) (a3 : Int) (a4 : Int) (a5 : Int) (t1 : ByteArray × Int × Int × Int × Int × Int × Int × Int × Int × Int) (sa : Int × List D) (e : (List D)) : List (Nat × AV) := [(0, .own 30 0), (1, .ptr 19 0 0 0 0), (2, .ptr 18 0 0 0 0), (7, .d (I a5)), (8, .d (I sa.1))]
noncomputable def XH_field_blocked_L3 (a0 : List D) (a1 : Int) (a2 : Int) (a3 : Int) (a4 : Int) (a5 : Int) (t1 : ByteArray × Int × Int × Int × Int × Int × Int × Int × Int × Int) (sa : Int × List D) (e : (List D)) : List (Nat × Blk) := [(0, .box (.d (.lst false 10 a0))), (1, .box (.d (I a1))), (2, .box (.d (.agg [I a2, I a3, I a4]))), (3, .box (.d (I a5))), (9, .box (.d (.agg [.v (.string t1.1), I t1.2.1, I t1.2.2.1, I t1.2.2.2.1, I t1.2.2.2.2.1, I t1.2.2.2.2.2.1, I t1.2.2.2.2.2.2.1, I t1.2.2.2.2.2.2.2.1, I t1.2.2.2.2.2.2.2.2.1, I t1.2.2.2.2.2.2.2.2.2]))), (18, .box (.d (.agg [.v (.string t1.1), I t1.2.1, I t1.2.2.1, I t1.2.2.2.1, I t1.2.2.2.2.1, I t1.2.2.2.2.2.1, I t1.2.2.2.2.2.2.1, I t1.2.2.2.2.2.2.2.1, I t1.2.2.2.2.2.2.2.2.1, I t1.2.2.2.2.2.2.2.2.2]))), (19, .box (.d (I a5))), (27, .box (.own 80 0)), (30, .loop true [(6, .fn (.func 137) [] [.ptr 19 0 0 0 0, .ptr 18 0 0 0 0]), (4, .d (.lst true 0 [])), (2, .ptr 27 0 0 0 0), (1, .fn (.func 137) [] [.ptr 19 0 0 0 0, .ptr 18 0 0 0 0]), (0, .d (.lst true 0 []))] [7] (rangeAt cx.P 136 0).1 (rangeAt cx.P 136 0).2 13), (80, .row 0 4 e)]
theorem R_field_blocked_L3 {n : Nat} {a0 : List D} {a1 : Int} {a2 : Int} {a3 : Int} {a4 : Int} {a5 : Int} {t1 : ByteArray × Int × Int × Int × Int × Int × Int × Int × Int × Int} {sa : Int × List D} (sb : (Int × List D)) (r) (h : F_field_blocked_L3 n a0 a1 a2 a3 a4 a5 t1 sa sb = some r) : Rd cx (loopAt cx.P 137 1) 49 31 false (T_field_blocked_L3 a0 a1 a2 a3 a4 a5 t1 sa) (H_field_blocked_L3 a0 a1 a2 a3 a4 a5 t1 sa) (X_field_blocked_L3 a0 a1 a2 a3 a4 a5 t1 sa) (XT_field_blocked_L3 a0 a1 a2 a3 a4 a5 t1 sa) (XH_field_blocked_L3 a0 a1 a2 a3 a4 a5 t1 sa) sb r := by
  unfold F_field_blocked_L3 at h
  by_cases hb1 : sb.1 < a5
  · replace h := ite_t h hb1
    obtain ⟨tb2, hb2, h⟩ := bnd_of h
    obtain ⟨hb3, h⟩ := grd_of h
    obtain ⟨hb4, h⟩ := grd_of h
    obtain ⟨hb5, h⟩ := grd_of h
    obtain ⟨tb6, hb6, h⟩ := bnd_of h
    obtain ⟨hb7, h⟩ := grd_of h
    obtain ⟨hb8, h⟩ := grd_of h
    obtain ⟨hb9, h⟩ := grd_of h
    obtain ⟨tb10, hb10, h⟩ := bnd_of h
    obtain ⟨tb11, hb11, h⟩ := bnd_of h
    obtain ⟨tb12, hb12, h⟩ := bnd_of h
    obtain ⟨hb13, h⟩ := grd_of h
    obtain ⟨hb14, h⟩ := grd_of h
    obtain ⟨hb15, h⟩ := grd_of h
    obtain ⟨hb16, h⟩ := grd_of h
    replace h := Option.some.inj h
    subst h
    exact ⟨100, 86, [.br true, .ret (.agg [I tb2.1, I tb2.2.1, I tb2.2.2]), .ret (.agg [I tb6.1, I tb6.2.1, I tb6.2.2]), .ret (.agg [I tb10.1, I tb10.2.1, I tb10.2.2]), .ret (.agg [I tb11.1, I tb11.2.1, I tb11.2.2]), .ret (.agg [I tb12.1, I tb12.2.1, I tb12.2.2]), .br true, .no], [], [0, 1, 2, 4, 7, 8, 11, 12], [0, 1, 2, 3, 9, 18, 19, 27, 30, 80], round_of (ob := [inI64 (sb.1 + 1), room cx 152 ((sb.2).length + 1), inI64 ((sa.1 * a5) + sb.1), inI64 (sa.1 * a5), Computes cx 89 [.agg [I tb2.1, I tb2.2.1, I tb2.2.2], .agg [I tb11.1, I tb11.2.1, I tb11.2.2]] (.agg [I tb12.1, I tb12.2.1, I tb12.2.2]), Computes cx 89 [.agg [I tb6.1, I tb6.2.1, I tb6.2.2], .agg [I tb10.1, I tb10.2.1, I tb10.2.2]] (.agg [I tb11.1, I tb11.2.1, I tb11.2.2]), Computes cx 90 [I (((2 * sa.1) + 1) - a5), .agg [I t1.2.2.2.2.2.2.2.1, I t1.2.2.2.2.2.2.2.2.1, I t1.2.2.2.2.2.2.2.2.2]] (.agg [I tb10.1, I tb10.2.1, I tb10.2.2]), inI64 (((2 * sa.1) + 1) - a5), inI64 ((2 * sa.1) + 1), inI64 (2 * sa.1), Computes cx 90 [I (((2 * sb.1) + 1) - a5), .agg [I t1.2.2.2.2.1, I t1.2.2.2.2.2.1, I t1.2.2.2.2.2.2.1]] (.agg [I tb6.1, I tb6.2.1, I tb6.2.2]), inI64 (((2 * sb.1) + 1) - a5), inI64 ((2 * sb.1) + 1), inI64 (2 * sb.1), Computes cx 90 [I a5, .agg [I t1.2.1, I t1.2.2.1, I t1.2.2.2.1]] (.agg [I tb2.1, I tb2.2.1, I tb2.2.2]), (decide (sb.1 < a5)) = true]) (by kernel_rfl) ⟨hb16, (room_of (b := 32) (by kernel_rfl) (by decide) hb15), hb14, hb13, (c_field_plus hb12), (c_field_plus hb11), (c_field_times hb10), hb9, hb8, hb7, (c_field_times hb6), hb5, hb4, hb3, (c_field_times hb2), (decide_eq_true hb1), trivial⟩⟩
  · replace h := ite_f h hb1
    replace h := Option.some.inj h
    subst h
    exact ⟨⟨100, 86, [.br false], [], [0, 1, 2, 7, 8], [0, 1, 2, 3, 9, 18, 19, 27, 30, 80], round_of (ob := [(decide (sb.1 < a5)) = false]) (by kernel_rfl) ⟨(decide_eq_false hb1), trivial⟩⟩, nofun⟩
def F_field_blocked_L4 (n : Nat) (a0 : List D) (a1 : Int) (a2 : Int) (a3 : Int) (a4 : Int) (a5 : Int) (t1 : ByteArray × Int × Int × Int × Int × Int × Int × Int × Int × Int) (sa : (Int) ⊕ (Int × List D)) : Option (((Int) ⊕ (Int × List D)) ⊕ ((Unit) ⊕ (List D))) := match sa with
 | (.inl sa) => (
  if sa < a5 then
  (loopF (F_field_blocked_L2 n a0 a1 a2 a3 a4 a5 t1 sa) n (.inl ())).bind fun ta2 => match ta2 with
   | (.inl ta2) => (
   if inI64 (sa + 1) then
   some (.inl (.inl (sa + 1)))
   else none)
   | (.inr ta2) => (
   if inI64 (sa + 1) then
   some (.inl (.inr ((sa + 1), ta2)))
   else none)
  else
  some (.inr (.inl ())))
 | (.inr sa) => (
  if sa.1 < a5 then
  (loopF (F_field_blocked_L3 n a0 a1 a2 a3 a4 a5 t1 sa) n (0, sa.2)).bind fun ta2 =>
  if inI64 (sa.1 + 1) then
  some (.inl (.inr ((sa.1 + 1), ta2)))
  else none
  else
  some (.inr (.inr sa.2)))
noncomputable def T_field_blocked_L4 (a0 : List D) (a1 : Int) (a2 : Int) (a3 : Int) (a4 : Int) (a5 : Int) (t1 : ByteArray × Int × Int × Int × Int × Int × Int × Int × Int × Int) (sa : (Int) ⊕ (Int × List D)) : List (Nat × AV) := match sa with
  | (.inl sa) => [(0, .own 30 0), (1, .ptr 19 0 0 0 0), (2, .ptr 18 0 0 0 0), (7, .d (I a5)), (8, .d (I sa))]
  | (.inr sa) => [(0, .own 30 0), (1, .ptr 19 0 0 0 0), (2, .ptr 18 0 0 0 0), (7, .d (I a5)), (8, .d (I sa.1))]
noncomputable def H_field_blocked_L4 (a0 : List D) (a1 : Int) (a2 : Int) (a3 : Int) (a4 : Int) (a5 : Int) (t1 : ByteArray × Int × Int × Int × Int × Int × Int × Int × Int × Int) (sa : (Int) ⊕ (Int × List D)) : List (Nat × Blk) := match sa with
  | (.inl sa) => [(0, .box (.d (.lst false 10 a0))), (1, .box (.d (I a1))), (2, .box (.d (.agg [I a2, I a3, I a4]))), (3, .box (.d (I a5))), (9, .box (.d (.agg [.v (.string t1.1), I t1.2.1, I t1.2.2.1, I t1.2.2.2.1, I t1.2.2.2.2.1, I t1.2.2.2.2.2.1, I t1.2.2.2.2.2.2.1, I t1.2.2.2.2.2.2.2.1, I t1.2.2.2.2.2.2.2.2.1, I t1.2.2.2.2.2.2.2.2.2]))), (18, .box (.d (.agg [.v (.string t1.1), I t1.2.1, I t1.2.2.1, I t1.2.2.2.1, I t1.2.2.2.2.1, I t1.2.2.2.2.2.1, I t1.2.2.2.2.2.2.1, I t1.2.2.2.2.2.2.2.1, I t1.2.2.2.2.2.2.2.2.1, I t1.2.2.2.2.2.2.2.2.2]))), (19, .box (.d (I a5))), (27, .box (.d (.lst true 0 []))), (30, .loop true [(6, .fn (.func 137) [] [.ptr 19 0 0 0 0, .ptr 18 0 0 0 0]), (4, .d (.lst true 0 [])), (2, .ptr 27 0 0 0 0), (1, .fn (.func 137) [] [.ptr 19 0 0 0 0, .ptr 18 0 0 0 0]), (0, .d (.lst true 0 []))] [7] (rangeAt cx.P 136 0).1 (rangeAt cx.P 136 0).2 13)]
  | (.inr sa) => [(0, .box (.d (.lst false 10 a0))), (1, .box (.d (I a1))), (2, .box (.d (.agg [I a2, I a3, I a4]))), (3, .box (.d (I a5))), (9, .box (.d (.agg [.v (.string t1.1), I t1.2.1, I t1.2.2.1, I t1.2.2.2.1, I t1.2.2.2.2.1, I t1.2.2.2.2.2.1, I t1.2.2.2.2.2.2.1, I t1.2.2.2.2.2.2.2.1, I t1.2.2.2.2.2.2.2.2.1, I t1.2.2.2.2.2.2.2.2.2]))), (18, .box (.d (.agg [.v (.string t1.1), I t1.2.1, I t1.2.2.1, I t1.2.2.2.1, I t1.2.2.2.2.1, I t1.2.2.2.2.2.1, I t1.2.2.2.2.2.2.1, I t1.2.2.2.2.2.2.2.1, I t1.2.2.2.2.2.2.2.2.1, I t1.2.2.2.2.2.2.2.2.2]))), (19, .box (.d (I a5))), (27, .box (.own 80 0)), (30, .loop true [(6, .fn (.func 137) [] [.ptr 19 0 0 0 0, .ptr 18 0 0 0 0]), (4, .d (.lst true 0 [])), (2, .ptr 27 0 0 0 0), (1, .fn (.func 137) [] [.ptr 19 0 0 0 0, .ptr 18 0 0 0 0]), (0, .d (.lst true 0 []))] [7] (rangeAt cx.P 136 0).1 (rangeAt cx.P 136 0).2 13), (80, .row 0 4 sa.2)]
noncomputable def X_field_blocked_L4 (a0 : List D) (a1 : Int) (a2 : Int) (a3 : Int) (a4 : Int) (a5 : Int) (t1 : ByteArray × Int × Int × Int × Int × Int × Int × Int × Int × Int) (e : (Unit) ⊕ (List D)) : Ex := match e with
  | (.inl e) => (.exit 0)
  | (.inr e) => (.exit 0)
noncomputable def XT_field_blocked_L4 (a0 : List D) (a1 : Int) (a2 : Int) (a3 : Int) (a4 : Int) (a5 : Int) (t1 : ByteArray × Int × Int × Int × Int × Int × Int × Int × Int × Int) (e : (Unit) ⊕ (List D)) : List (Nat × AV) := match e with
  | (.inl e) => []
  | (.inr e) => []
noncomputable def XH_field_blocked_L4 (a0 : List D) (a1 : Int) (a2 : Int) (a3 : Int) (a4 : Int) (a5 : Int) (t1 : ByteArray × Int × Int × Int × Int × Int × Int × Int × Int × Int) (e : (Unit) ⊕ (List D)) : List (Nat × Blk) := match e with
  | (.inl e) => [(0, .box (.d (.lst false 10 a0))), (1, .box (.d (I a1))), (2, .box (.d (.agg [I a2, I a3, I a4]))), (3, .box (.d (I a5))), (9, .box (.d (.agg [.v (.string t1.1), I t1.2.1, I t1.2.2.1, I t1.2.2.2.1, I t1.2.2.2.2.1, I t1.2.2.2.2.2.1, I t1.2.2.2.2.2.2.1, I t1.2.2.2.2.2.2.2.1, I t1.2.2.2.2.2.2.2.2.1, I t1.2.2.2.2.2.2.2.2.2]))), (18, .box (.d (.agg [.v (.string t1.1), I t1.2.1, I t1.2.2.1, I t1.2.2.2.1, I t1.2.2.2.2.1, I t1.2.2.2.2.2.1, I t1.2.2.2.2.2.2.1, I t1.2.2.2.2.2.2.2.1, I t1.2.2.2.2.2.2.2.2.1, I t1.2.2.2.2.2.2.2.2.2]))), (19, .box (.d (I a5))), (27, .box (.d (.lst true 0 []))), (30, .loop true [(6, .fn (.func 137) [] [.ptr 19 0 0 0 0, .ptr 18 0 0 0 0]), (4, .d (.lst true 0 [])), (2, .ptr 27 0 0 0 0), (1, .fn (.func 137) [] [.ptr 19 0 0 0 0, .ptr 18 0 0 0 0]), (0, .d (.lst true 0 []))] [7] (rangeAt cx.P 136 0).1 (rangeAt cx.P 136 0).2 13)]
  | (.inr e) => [(0, .box (.d (.lst false 10 a0))), (1, .box (.d (I a1))), (2, .box (.d (.agg [I a2, I a3, I a4]))), (3, .box (.d (I a5))), (9, .box (.d (.agg [.v (.string t1.1), I t1.2.1, I t1.2.2.1, I t1.2.2.2.1, I t1.2.2.2.2.1, I t1.2.2.2.2.2.1, I t1.2.2.2.2.2.2.1, I t1.2.2.2.2.2.2.2.1, I t1.2.2.2.2.2.2.2.2.1, I t1.2.2.2.2.2.2.2.2.2]))), (18, .box (.d (.agg [.v (.string t1.1), I t1.2.1, I t1.2.2.1, I t1.2.2.2.1, I t1.2.2.2.2.1, I t1.2.2.2.2.2.1, I t1.2.2.2.2.2.2.1, I t1.2.2.2.2.2.2.2.1, I t1.2.2.2.2.2.2.2.2.1, I t1.2.2.2.2.2.2.2.2.2]))), (19, .box (.d (I a5))), (27, .box (.own 80 0)), (30, .loop true [(6, .fn (.func 137) [] [.ptr 19 0 0 0 0, .ptr 18 0 0 0 0]), (4, .d (.lst true 0 [])), (2, .ptr 27 0 0 0 0), (1, .fn (.func 137) [] [.ptr 19 0 0 0 0, .ptr 18 0 0 0 0]), (0, .d (.lst true 0 []))] [7] (rangeAt cx.P 136 0).1 (rangeAt cx.P 136 0).2 13), (80, .row 0 4 e)]
theorem R_field_blocked_L4 {n : Nat} {a0 : List D} {a1 : Int} {a2 : Int} {a3 : Int} {a4 : Int} {a5 : Int} {t1 : ByteArray × Int × Int × Int × Int × Int × Int × Int × Int × Int} (sa : (Int) ⊕ (Int × List D)) (r) (h : F_field_blocked_L4 n a0 a1 a2 a3 a4 a5 t1 sa = some r) : Rd cx (loopAt cx.P 137 0) 49 31 false (T_field_blocked_L4 a0 a1 a2 a3 a4 a5 t1) (H_field_blocked_L4 a0 a1 a2 a3 a4 a5 t1) (X_field_blocked_L4 a0 a1 a2 a3 a4 a5 t1) (XT_field_blocked_L4 a0 a1 a2 a3 a4 a5 t1) (XH_field_blocked_L4 a0 a1 a2 a3 a4 a5 t1) sa r := by
  unfold F_field_blocked_L4 at h
  rcases sa with sa | sa
  · by_cases ha1 : sa < a5
    · replace h := ite_t h ha1
      obtain ⟨ta2, ha2, h⟩ := bnd_of h
      rcases ta2 with ta2 | ta2
      · obtain ⟨ha3, h⟩ := grd_of h
        replace h := Option.some.inj h
        subst h
        exact ⟨100, 33, [.br true, .lp [] [0, 1, 2, 4, 7, 8, 11, 12] [0, 1, 2, 3, 9, 18, 19, 27, 30] (.exit 2) [(0, .own 30 0), (1, .ptr 19 0 0 0 0), (2, .ptr 18 0 0 0 0), (7, .d (I a5)), (8, .d (I sa))] [(0, .box (.d (.lst false 10 a0))), (1, .box (.d (I a1))), (2, .box (.d (.agg [I a2, I a3, I a4]))), (3, .box (.d (I a5))), (9, .box (.d (.agg [.v (.string t1.1), I t1.2.1, I t1.2.2.1, I t1.2.2.2.1, I t1.2.2.2.2.1, I t1.2.2.2.2.2.1, I t1.2.2.2.2.2.2.1, I t1.2.2.2.2.2.2.2.1, I t1.2.2.2.2.2.2.2.2.1, I t1.2.2.2.2.2.2.2.2.2]))), (18, .box (.d (.agg [.v (.string t1.1), I t1.2.1, I t1.2.2.1, I t1.2.2.2.1, I t1.2.2.2.2.1, I t1.2.2.2.2.2.1, I t1.2.2.2.2.2.2.1, I t1.2.2.2.2.2.2.2.1, I t1.2.2.2.2.2.2.2.2.1, I t1.2.2.2.2.2.2.2.2.2]))), (19, .box (.d (I a5))), (27, .box (.d (.lst true 0 []))), (30, .loop true [(6, .fn (.func 137) [] [.ptr 19 0 0 0 0, .ptr 18 0 0 0 0]), (4, .d (.lst true 0 [])), (2, .ptr 27 0 0 0 0), (1, .fn (.func 137) [] [.ptr 19 0 0 0 0, .ptr 18 0 0 0 0]), (0, .d (.lst true 0 []))] [7] (rangeAt cx.P 136 0).1 (rangeAt cx.P 136 0).2 13)] 138], [], [0, 1, 2, 7, 8], [0, 1, 2, 3, 9, 18, 19, 27, 30], round_of (ob := [inI64 (sa + 1), LoopN cx (loopAt cx.P 137 1) 49 31 false [(0, .own 30 0), (1, .ptr 19 0 0 0 0), (2, .ptr 18 0 0 0 0), (4, .d (I sa)), (7, .d (I a5)), (8, .d (I sa)), (11, .d (I a5)), (12, .d (I 0))] [(0, .box (.d (.lst false 10 a0))), (1, .box (.d (I a1))), (2, .box (.d (.agg [I a2, I a3, I a4]))), (3, .box (.d (I a5))), (9, .box (.d (.agg [.v (.string t1.1), I t1.2.1, I t1.2.2.1, I t1.2.2.2.1, I t1.2.2.2.2.1, I t1.2.2.2.2.2.1, I t1.2.2.2.2.2.2.1, I t1.2.2.2.2.2.2.2.1, I t1.2.2.2.2.2.2.2.2.1, I t1.2.2.2.2.2.2.2.2.2]))), (18, .box (.d (.agg [.v (.string t1.1), I t1.2.1, I t1.2.2.1, I t1.2.2.2.1, I t1.2.2.2.2.1, I t1.2.2.2.2.2.1, I t1.2.2.2.2.2.2.1, I t1.2.2.2.2.2.2.2.1, I t1.2.2.2.2.2.2.2.2.1, I t1.2.2.2.2.2.2.2.2.2]))), (19, .box (.d (I a5))), (27, .box (.d (.lst true 0 []))), (30, .loop true [(6, .fn (.func 137) [] [.ptr 19 0 0 0 0, .ptr 18 0 0 0 0]), (4, .d (.lst true 0 [])), (2, .ptr 27 0 0 0 0), (1, .fn (.func 137) [] [.ptr 19 0 0 0 0, .ptr 18 0 0 0 0]), (0, .d (.lst true 0 []))] [7] (rangeAt cx.P 136 0).1 (rangeAt cx.P 136 0).2 13)] (.exit 2) [(0, .own 30 0), (1, .ptr 19 0 0 0 0), (2, .ptr 18 0 0 0 0), (7, .d (I a5)), (8, .d (I sa))] [(0, .box (.d (.lst false 10 a0))), (1, .box (.d (I a1))), (2, .box (.d (.agg [I a2, I a3, I a4]))), (3, .box (.d (I a5))), (9, .box (.d (.agg [.v (.string t1.1), I t1.2.1, I t1.2.2.1, I t1.2.2.2.1, I t1.2.2.2.2.1, I t1.2.2.2.2.2.1, I t1.2.2.2.2.2.2.1, I t1.2.2.2.2.2.2.2.1, I t1.2.2.2.2.2.2.2.2.1, I t1.2.2.2.2.2.2.2.2.2]))), (18, .box (.d (.agg [.v (.string t1.1), I t1.2.1, I t1.2.2.1, I t1.2.2.2.1, I t1.2.2.2.2.1, I t1.2.2.2.2.2.1, I t1.2.2.2.2.2.2.1, I t1.2.2.2.2.2.2.2.1, I t1.2.2.2.2.2.2.2.2.1, I t1.2.2.2.2.2.2.2.2.2]))), (19, .box (.d (I a5))), (27, .box (.d (.lst true 0 []))), (30, .loop true [(6, .fn (.func 137) [] [.ptr 19 0 0 0 0, .ptr 18 0 0 0 0]), (4, .d (.lst true 0 [])), (2, .ptr 27 0 0 0 0), (1, .fn (.func 137) [] [.ptr 19 0 0 0 0, .ptr 18 0 0 0 0]), (0, .d (.lst true 0 []))] [7] (rangeAt cx.P 136 0).1 (rangeAt cx.P 136 0).2 13)], (decide (sa < a5)) = true]) (by kernel_rfl) ⟨ha3, (loopF_to R_field_blocked_L2 ha2), (decide_eq_true ha1), trivial⟩⟩
      · obtain ⟨ha3, h⟩ := grd_of h
        replace h := Option.some.inj h
        subst h
        exact ⟨100, 33, [.br true, .lp [] [0, 1, 2, 4, 7, 8, 11, 12] [0, 1, 2, 3, 9, 18, 19, 27, 30] (.exit 2) [(0, .own 30 0), (1, .ptr 19 0 0 0 0), (2, .ptr 18 0 0 0 0), (7, .d (I a5)), (8, .d (I sa))] [(0, .box (.d (.lst false 10 a0))), (1, .box (.d (I a1))), (2, .box (.d (.agg [I a2, I a3, I a4]))), (3, .box (.d (I a5))), (9, .box (.d (.agg [.v (.string t1.1), I t1.2.1, I t1.2.2.1, I t1.2.2.2.1, I t1.2.2.2.2.1, I t1.2.2.2.2.2.1, I t1.2.2.2.2.2.2.1, I t1.2.2.2.2.2.2.2.1, I t1.2.2.2.2.2.2.2.2.1, I t1.2.2.2.2.2.2.2.2.2]))), (18, .box (.d (.agg [.v (.string t1.1), I t1.2.1, I t1.2.2.1, I t1.2.2.2.1, I t1.2.2.2.2.1, I t1.2.2.2.2.2.1, I t1.2.2.2.2.2.2.1, I t1.2.2.2.2.2.2.2.1, I t1.2.2.2.2.2.2.2.2.1, I t1.2.2.2.2.2.2.2.2.2]))), (19, .box (.d (I a5))), (27, .box (.own 80 0)), (30, .loop true [(6, .fn (.func 137) [] [.ptr 19 0 0 0 0, .ptr 18 0 0 0 0]), (4, .d (.lst true 0 [])), (2, .ptr 27 0 0 0 0), (1, .fn (.func 137) [] [.ptr 19 0 0 0 0, .ptr 18 0 0 0 0]), (0, .d (.lst true 0 []))] [7] (rangeAt cx.P 136 0).1 (rangeAt cx.P 136 0).2 13), (80, .row 0 4 ta2)] 138], [], [0, 1, 2, 7, 8], [0, 1, 2, 3, 9, 18, 19, 27, 30, 80], round_of (ob := [inI64 (sa + 1), LoopN cx (loopAt cx.P 137 1) 49 31 false [(0, .own 30 0), (1, .ptr 19 0 0 0 0), (2, .ptr 18 0 0 0 0), (4, .d (I sa)), (7, .d (I a5)), (8, .d (I sa)), (11, .d (I a5)), (12, .d (I 0))] [(0, .box (.d (.lst false 10 a0))), (1, .box (.d (I a1))), (2, .box (.d (.agg [I a2, I a3, I a4]))), (3, .box (.d (I a5))), (9, .box (.d (.agg [.v (.string t1.1), I t1.2.1, I t1.2.2.1, I t1.2.2.2.1, I t1.2.2.2.2.1, I t1.2.2.2.2.2.1, I t1.2.2.2.2.2.2.1, I t1.2.2.2.2.2.2.2.1, I t1.2.2.2.2.2.2.2.2.1, I t1.2.2.2.2.2.2.2.2.2]))), (18, .box (.d (.agg [.v (.string t1.1), I t1.2.1, I t1.2.2.1, I t1.2.2.2.1, I t1.2.2.2.2.1, I t1.2.2.2.2.2.1, I t1.2.2.2.2.2.2.1, I t1.2.2.2.2.2.2.2.1, I t1.2.2.2.2.2.2.2.2.1, I t1.2.2.2.2.2.2.2.2.2]))), (19, .box (.d (I a5))), (27, .box (.d (.lst true 0 []))), (30, .loop true [(6, .fn (.func 137) [] [.ptr 19 0 0 0 0, .ptr 18 0 0 0 0]), (4, .d (.lst true 0 [])), (2, .ptr 27 0 0 0 0), (1, .fn (.func 137) [] [.ptr 19 0 0 0 0, .ptr 18 0 0 0 0]), (0, .d (.lst true 0 []))] [7] (rangeAt cx.P 136 0).1 (rangeAt cx.P 136 0).2 13)] (.exit 2) [(0, .own 30 0), (1, .ptr 19 0 0 0 0), (2, .ptr 18 0 0 0 0), (7, .d (I a5)), (8, .d (I sa))] [(0, .box (.d (.lst false 10 a0))), (1, .box (.d (I a1))), (2, .box (.d (.agg [I a2, I a3, I a4]))), (3, .box (.d (I a5))), (9, .box (.d (.agg [.v (.string t1.1), I t1.2.1, I t1.2.2.1, I t1.2.2.2.1, I t1.2.2.2.2.1, I t1.2.2.2.2.2.1, I t1.2.2.2.2.2.2.1, I t1.2.2.2.2.2.2.2.1, I t1.2.2.2.2.2.2.2.2.1, I t1.2.2.2.2.2.2.2.2.2]))), (18, .box (.d (.agg [.v (.string t1.1), I t1.2.1, I t1.2.2.1, I t1.2.2.2.1, I t1.2.2.2.2.1, I t1.2.2.2.2.2.1, I t1.2.2.2.2.2.2.1, I t1.2.2.2.2.2.2.2.1, I t1.2.2.2.2.2.2.2.2.1, I t1.2.2.2.2.2.2.2.2.2]))), (19, .box (.d (I a5))), (27, .box (.own 80 0)), (30, .loop true [(6, .fn (.func 137) [] [.ptr 19 0 0 0 0, .ptr 18 0 0 0 0]), (4, .d (.lst true 0 [])), (2, .ptr 27 0 0 0 0), (1, .fn (.func 137) [] [.ptr 19 0 0 0 0, .ptr 18 0 0 0 0]), (0, .d (.lst true 0 []))] [7] (rangeAt cx.P 136 0).1 (rangeAt cx.P 136 0).2 13), (80, .row 0 4 ta2)], (decide (sa < a5)) = true]) (by kernel_rfl) ⟨ha3, (loopF_to R_field_blocked_L2 ha2), (decide_eq_true ha1), trivial⟩⟩
    · replace h := ite_f h ha1
      replace h := Option.some.inj h
      subst h
      exact ⟨⟨100, 33, [.br false], [], [], [0, 1, 2, 3, 9, 18, 19, 27, 30], round_of (ob := [(decide (sa < a5)) = false]) (by kernel_rfl) ⟨(decide_eq_false ha1), trivial⟩⟩, nofun⟩
  · by_cases ha1 : sa.1 < a5
    · replace h := ite_t h ha1
      obtain ⟨ta2, ha2, h⟩ := bnd_of h
      obtain ⟨ha3, h⟩ := grd_of h
      replace h := Option.some.inj h
      subst h
      exact ⟨100, 81, [.br true, .lp [] [0, 1, 2, 4, 7, 8, 11, 12] [0, 1, 2, 3, 9, 18, 19, 27, 30, 80] (.exit 2) [(0, .own 30 0), (1, .ptr 19 0 0 0 0), (2, .ptr 18 0 0 0 0), (7, .d (I a5)), (8, .d (I sa.1))] [(0, .box (.d (.lst false 10 a0))), (1, .box (.d (I a1))), (2, .box (.d (.agg [I a2, I a3, I a4]))), (3, .box (.d (I a5))), (9, .box (.d (.agg [.v (.string t1.1), I t1.2.1, I t1.2.2.1, I t1.2.2.2.1, I t1.2.2.2.2.1, I t1.2.2.2.2.2.1, I t1.2.2.2.2.2.2.1, I t1.2.2.2.2.2.2.2.1, I t1.2.2.2.2.2.2.2.2.1, I t1.2.2.2.2.2.2.2.2.2]))), (18, .box (.d (.agg [.v (.string t1.1), I t1.2.1, I t1.2.2.1, I t1.2.2.2.1, I t1.2.2.2.2.1, I t1.2.2.2.2.2.1, I t1.2.2.2.2.2.2.1, I t1.2.2.2.2.2.2.2.1, I t1.2.2.2.2.2.2.2.2.1, I t1.2.2.2.2.2.2.2.2.2]))), (19, .box (.d (I a5))), (27, .box (.own 80 0)), (30, .loop true [(6, .fn (.func 137) [] [.ptr 19 0 0 0 0, .ptr 18 0 0 0 0]), (4, .d (.lst true 0 [])), (2, .ptr 27 0 0 0 0), (1, .fn (.func 137) [] [.ptr 19 0 0 0 0, .ptr 18 0 0 0 0]), (0, .d (.lst true 0 []))] [7] (rangeAt cx.P 136 0).1 (rangeAt cx.P 136 0).2 13), (80, .row 0 4 ta2)] 143], [], [0, 1, 2, 7, 8], [0, 1, 2, 3, 9, 18, 19, 27, 30, 80], round_of (ob := [inI64 (sa.1 + 1), LoopN cx (loopAt cx.P 137 1) 49 31 false [(0, .own 30 0), (1, .ptr 19 0 0 0 0), (2, .ptr 18 0 0 0 0), (4, .d (I sa.1)), (7, .d (I a5)), (8, .d (I sa.1)), (11, .d (I a5)), (12, .d (I 0))] [(0, .box (.d (.lst false 10 a0))), (1, .box (.d (I a1))), (2, .box (.d (.agg [I a2, I a3, I a4]))), (3, .box (.d (I a5))), (9, .box (.d (.agg [.v (.string t1.1), I t1.2.1, I t1.2.2.1, I t1.2.2.2.1, I t1.2.2.2.2.1, I t1.2.2.2.2.2.1, I t1.2.2.2.2.2.2.1, I t1.2.2.2.2.2.2.2.1, I t1.2.2.2.2.2.2.2.2.1, I t1.2.2.2.2.2.2.2.2.2]))), (18, .box (.d (.agg [.v (.string t1.1), I t1.2.1, I t1.2.2.1, I t1.2.2.2.1, I t1.2.2.2.2.1, I t1.2.2.2.2.2.1, I t1.2.2.2.2.2.2.1, I t1.2.2.2.2.2.2.2.1, I t1.2.2.2.2.2.2.2.2.1, I t1.2.2.2.2.2.2.2.2.2]))), (19, .box (.d (I a5))), (27, .box (.own 80 0)), (30, .loop true [(6, .fn (.func 137) [] [.ptr 19 0 0 0 0, .ptr 18 0 0 0 0]), (4, .d (.lst true 0 [])), (2, .ptr 27 0 0 0 0), (1, .fn (.func 137) [] [.ptr 19 0 0 0 0, .ptr 18 0 0 0 0]), (0, .d (.lst true 0 []))] [7] (rangeAt cx.P 136 0).1 (rangeAt cx.P 136 0).2 13), (80, .row 0 4 sa.2)] (.exit 2) [(0, .own 30 0), (1, .ptr 19 0 0 0 0), (2, .ptr 18 0 0 0 0), (7, .d (I a5)), (8, .d (I sa.1))] [(0, .box (.d (.lst false 10 a0))), (1, .box (.d (I a1))), (2, .box (.d (.agg [I a2, I a3, I a4]))), (3, .box (.d (I a5))), (9, .box (.d (.agg [.v (.string t1.1), I t1.2.1, I t1.2.2.1, I t1.2.2.2.1, I t1.2.2.2.2.1, I t1.2.2.2.2.2.1, I t1.2.2.2.2.2.2.1, I t1.2.2.2.2.2.2.2.1, I t1.2.2.2.2.2.2.2.2.1, I t1.2.2.2.2.2.2.2.2.2]))), (18, .box (.d (.agg [.v (.string t1.1), I t1.2.1, I t1.2.2.1, I t1.2.2.2.1, I t1.2.2.2.2.1, I t1.2.2.2.2.2.1, I t1.2.2.2.2.2.2.1, I t1.2.2.2.2.2.2.2.1, I t1.2.2.2.2.2.2.2.2.1, I t1.2.2.2.2.2.2.2.2.2]))), (19, .box (.d (I a5))), (27, .box (.own 80 0)), (30, .loop true [(6, .fn (.func 137) [] [.ptr 19 0 0 0 0, .ptr 18 0 0 0 0]), (4, .d (.lst true 0 [])), (2, .ptr 27 0 0 0 0), (1, .fn (.func 137) [] [.ptr 19 0 0 0 0, .ptr 18 0 0 0 0]), (0, .d (.lst true 0 []))] [7] (rangeAt cx.P 136 0).1 (rangeAt cx.P 136 0).2 13), (80, .row 0 4 ta2)], (decide (sa.1 < a5)) = true]) (by kernel_rfl) ⟨ha3, (loopF_to R_field_blocked_L3 ha2), (decide_eq_true ha1), trivial⟩⟩
    · replace h := ite_f h ha1
      replace h := Option.some.inj h
      subst h
      exact ⟨⟨100, 81, [.br false], [], [], [0, 1, 2, 3, 9, 18, 19, 27, 30, 80], round_of (ob := [(decide (sa.1 < a5)) = false]) (by kernel_rfl) ⟨(decide_eq_false ha1), trivial⟩⟩, nofun⟩
def F_field_blocked_L5 (n : Nat) (a0 : List D) (a1 : Int) (a2 : Int) (a3 : Int) (a4 : Int) (a5 : Int) (t1 : ByteArray × Int × Int × Int × Int × Int × Int × Int × Int × Int) (t2 : List D) (sa : (Int × List D)) : Option (((Int × List D)) ⊕ ((List D))) :=
 if sa.1 < ((t2).length : Int) then
  if 0 ≤ sa.1 ∧ sa.1 < ((t2).length : Int) then
  ((nth (t2) (Int.toNat sa.1)).bind un_Ai4Z).bind fun ta3 =>
  (F_field_times n a5 a2 a3 a4).bind fun ta4 =>
  (F_field_times n (-1) ta3.2.1 ta3.2.2.1 ta3.2.2.2).bind fun ta5 =>
  (F_field_plus n ta4.1 ta4.2.1 ta4.2.2 ta5.1 ta5.2.1 ta5.2.2).bind fun ta6 =>
  (F_field_Mirror_normal n t1.1 t1.2.1 t1.2.2.1 t1.2.2.2.1 t1.2.2.2.2.1 t1.2.2.2.2.2.1 t1.2.2.2.2.2.2.1 t1.2.2.2.2.2.2.2.1 t1.2.2.2.2.2.2.2.2.1 t1.2.2.2.2.2.2.2.2.2).bind fun ta7 =>
  (F_field_dot n ta7.1 ta7.2.1 ta7.2.2 ta6.1 ta6.2.1 ta6.2.2).bind fun ta8 =>
  if ta8 ≤ 0 then
  if roomP 1 ((sa.2).length + 1) then
  if inI64 (sa.1 + 1) then
  some (.inl ((sa.1 + 1), (sa.2 ++ ([B true] : List D))))
  else none
  else none
  else
  (F_field_met n a0 a1 a5 ta3.2.1 ta3.2.2.1 ta3.2.2.2 ta6.1 ta6.2.1 ta6.2.2 true).bind fun ta10 =>
  if roomP 1 ((sa.2).length + 1) then
  if inI64 (sa.1 + 1) then
  some (.inl ((sa.1 + 1), (sa.2 ++ ([B ta10] : List D))))
  else none
  else none
  else none
 else
 some (.inr sa.2)
noncomputable def T_field_blocked_L5 (a0 : List D) (a1 : Int) (a2 : Int) (a3 : Int) (a4 : Int) (a5 : Int) (t1 : ByteArray × Int × Int × Int × Int × Int × Int × Int × Int × Int) (t2 : List D) (sa : (Int × List D)) : List (Nat × AV) := [(1, .fn (.func 161) [] [.ptr 3 0 0 0 0, .ptr 2 0 0 0 0, .ptr 9 0 0 0 0, .ptr 0 0 0 0 0, .ptr 1 0 0 0 0]), (5, .own 163 0), (8, .own 80 0), (9, .d (I ((t2).length : Int))), (10, .d (I sa.1))]
noncomputable def H_field_blocked_L5 (a0 : List D) (a1 : Int) (a2 : Int) (a3 : Int) (a4 : Int) (a5 : Int) (t1 : ByteArray × Int × Int × Int × Int × Int × Int × Int × Int × Int) (t2 : List D) (sa : (Int × List D)) : List (Nat × Blk) := [(0, .box (.d (.lst false 10 a0))), (1, .box (.d (I a1))), (2, .box (.d (.agg [I a2, I a3, I a4]))), (3, .box (.d (I a5))), (9, .box (.d (.agg [.v (.string t1.1), I t1.2.1, I t1.2.2.1, I t1.2.2.2.1, I t1.2.2.2.2.1, I t1.2.2.2.2.2.1, I t1.2.2.2.2.2.2.1, I t1.2.2.2.2.2.2.2.1, I t1.2.2.2.2.2.2.2.2.1, I t1.2.2.2.2.2.2.2.2.2]))), (18, .box (.d (.agg [.v (.string t1.1), I t1.2.1, I t1.2.2.1, I t1.2.2.2.1, I t1.2.2.2.2.1, I t1.2.2.2.2.2.1, I t1.2.2.2.2.2.2.1, I t1.2.2.2.2.2.2.2.1, I t1.2.2.2.2.2.2.2.2.1, I t1.2.2.2.2.2.2.2.2.2]))), (19, .box (.d (I a5))), (27, .box (.own 80 0)), (30, .dead), (80, .row 0 4 t2), (163, .row 0 1 sa.2)]
noncomputable def X_field_blocked_L5 (a0 : List D) (a1 : Int) (a2 : Int) (a3 : Int) (a4 : Int) (a5 : Int) (t1 : ByteArray × Int × Int × Int × Int × Int × Int × Int × Int × Int) (t2 : List D) (e : (List D)) : Ex := (.exit 0)
noncomputable def XT_field_blocked_L5 (a0 : List D) (a1 : Int) (a2 : Int) (a3 : Int) (a4 : Int) (a5 : Int) (t1 : ByteArray × Int × Int × Int × Int × Int × Int × Int × Int × Int) (t2 : List D) (e : (List D)) : List (Nat × AV) := [(5, .own 163 0)]
noncomputable def XH_field_blocked_L5 (a0 : List D) (a1 : Int) (a2 : Int) (a3 : Int) (a4 : Int) (a5 : Int) (t1 : ByteArray × Int × Int × Int × Int × Int × Int × Int × Int × Int) (t2 : List D) (e : (List D)) : List (Nat × Blk) := [(0, .box (.d (.lst false 10 a0))), (1, .box (.d (I a1))), (2, .box (.d (.agg [I a2, I a3, I a4]))), (3, .box (.d (I a5))), (9, .box (.d (.agg [.v (.string t1.1), I t1.2.1, I t1.2.2.1, I t1.2.2.2.1, I t1.2.2.2.2.1, I t1.2.2.2.2.2.1, I t1.2.2.2.2.2.2.1, I t1.2.2.2.2.2.2.2.1, I t1.2.2.2.2.2.2.2.2.1, I t1.2.2.2.2.2.2.2.2.2]))), (18, .box (.d (.agg [.v (.string t1.1), I t1.2.1, I t1.2.2.1, I t1.2.2.2.1, I t1.2.2.2.2.1, I t1.2.2.2.2.2.1, I t1.2.2.2.2.2.2.1, I t1.2.2.2.2.2.2.2.1, I t1.2.2.2.2.2.2.2.2.1, I t1.2.2.2.2.2.2.2.2.2]))), (19, .box (.d (I a5))), (27, .box (.own 80 0)), (30, .dead), (80, .row 0 4 t2), (163, .row 0 1 e)]
theorem R_field_blocked_L5 {n : Nat} {a0 : List D} {a1 : Int} {a2 : Int} {a3 : Int} {a4 : Int} {a5 : Int} {t1 : ByteArray × Int × Int × Int × Int × Int × Int × Int × Int × Int} {t2 : List D} (sa : (Int × List D)) (r) (h : F_field_blocked_L5 n a0 a1 a2 a3 a4 a5 t1 t2 sa = some r) : Rd cx (loopAt cx.P 138 0) 22 158 false (T_field_blocked_L5 a0 a1 a2 a3 a4 a5 t1 t2) (H_field_blocked_L5 a0 a1 a2 a3 a4 a5 t1 t2) (X_field_blocked_L5 a0 a1 a2 a3 a4 a5 t1 t2) (XT_field_blocked_L5 a0 a1 a2 a3 a4 a5 t1 t2) (XH_field_blocked_L5 a0 a1 a2 a3 a4 a5 t1 t2) sa r := by
  unfold F_field_blocked_L5 at h
  by_cases ha1 : sa.1 < ((t2).length : Int)
  · replace h := ite_t h ha1
    obtain ⟨ha2, h⟩ := grd_of h
    obtain ⟨ta3, ha3, h⟩ := bnd_of h
    obtain ⟨ta4, ha4, h⟩ := bnd_of h
    obtain ⟨ta5, ha5, h⟩ := bnd_of h
    obtain ⟨ta6, ha6, h⟩ := bnd_of h
    obtain ⟨ta7, ha7, h⟩ := bnd_of h
    obtain ⟨ta8, ha8, h⟩ := bnd_of h
    by_cases ha9 : ta8 ≤ 0
    · replace h := ite_t h ha9
      obtain ⟨ha10, h⟩ := grd_of h
      obtain ⟨ha11, h⟩ := grd_of h
      replace h := Option.some.inj h
      subst h
      exact ⟨100, 164, [.br true, .br true, .el (.agg [I ta3.1, I ta3.2.1, I ta3.2.2.1, I ta3.2.2.2]), .br true, .ret (.agg [I ta4.1, I ta4.2.1, I ta4.2.2]), .ret (.agg [I ta5.1, I ta5.2.1, I ta5.2.2]), .ret (.agg [I ta6.1, I ta6.2.1, I ta6.2.2]), .ret (.agg [I ta7.1, I ta7.2.1, I ta7.2.2]), .ret (I ta8), .br true, .br true], [], [1, 5, 8, 9, 10], [0, 1, 2, 3, 9, 18, 19, 27, 30, 80, 163], round_of (ob := [inI64 (sa.1 + 1), room cx 4 ((sa.2).length + 1), (decide (ta8 ≤ 0)) = true, Computes cx 62 [.agg [I ta7.1, I ta7.2.1, I ta7.2.2], .agg [I ta6.1, I ta6.2.1, I ta6.2.2]] (I ta8), Computes cx 63 [.agg [.v (.string t1.1), I t1.2.1, I t1.2.2.1, I t1.2.2.2.1, I t1.2.2.2.2.1, I t1.2.2.2.2.2.1, I t1.2.2.2.2.2.2.1, I t1.2.2.2.2.2.2.2.1, I t1.2.2.2.2.2.2.2.2.1, I t1.2.2.2.2.2.2.2.2.2]] (.agg [I ta7.1, I ta7.2.1, I ta7.2.2]), Computes cx 89 [.agg [I ta4.1, I ta4.2.1, I ta4.2.2], .agg [I ta5.1, I ta5.2.1, I ta5.2.2]] (.agg [I ta6.1, I ta6.2.1, I ta6.2.2]), Computes cx 90 [I (-1), .agg [I ta3.2.1, I ta3.2.2.1, I ta3.2.2.2]] (.agg [I ta5.1, I ta5.2.1, I ta5.2.2]), Computes cx 90 [I a5, .agg [I a2, I a3, I a4]] (.agg [I ta4.1, I ta4.2.1, I ta4.2.2]), nth (t2) (Int.toNat sa.1) = some (.agg [I ta3.1, I ta3.2.1, I ta3.2.2.1, I ta3.2.2.2]), 0 ≤ sa.1 ∧ sa.1 < ((t2).length : Int), (decide (sa.1 < ((t2).length : Int))) = true]) (by kernel_rfl) ⟨ha11, (room_of (b := 1) (by kernel_rfl) (by decide) ha10), (decide_eq_true ha9), (c_field_dot ha8), (c_field_Mirror_normal ha7), (c_field_plus ha6), (c_field_times ha5), (c_field_times ha4), nel_ok un_Ai4Z_ok ha3, ha2, (decide_eq_true ha1), trivial⟩⟩
    · replace h := ite_f h ha9
      obtain ⟨ta10, ha10, h⟩ := bnd_of h
      obtain ⟨ha11, h⟩ := grd_of h
      obtain ⟨ha12, h⟩ := grd_of h
      replace h := Option.some.inj h
      subst h
      exact ⟨100, 164, [.br true, .br true, .el (.agg [I ta3.1, I ta3.2.1, I ta3.2.2.1, I ta3.2.2.2]), .br true, .ret (.agg [I ta4.1, I ta4.2.1, I ta4.2.2]), .ret (.agg [I ta5.1, I ta5.2.1, I ta5.2.2]), .ret (.agg [I ta6.1, I ta6.2.1, I ta6.2.2]), .ret (.agg [I ta7.1, I ta7.2.1, I ta7.2.2]), .ret (I ta8), .br false, .ret (B ta10), .br true], [], [1, 5, 8, 9, 10], [0, 1, 2, 3, 9, 18, 19, 27, 30, 80, 163], round_of (ob := [inI64 (sa.1 + 1), room cx 4 ((sa.2).length + 1), Computes cx 140 [.lst false 10 a0, I a1, I a5, .agg [I ta3.2.1, I ta3.2.2.1, I ta3.2.2.2, I ta6.1, I ta6.2.1, I ta6.2.2, B true]] (B ta10), (decide (ta8 ≤ 0)) = false, Computes cx 62 [.agg [I ta7.1, I ta7.2.1, I ta7.2.2], .agg [I ta6.1, I ta6.2.1, I ta6.2.2]] (I ta8), Computes cx 63 [.agg [.v (.string t1.1), I t1.2.1, I t1.2.2.1, I t1.2.2.2.1, I t1.2.2.2.2.1, I t1.2.2.2.2.2.1, I t1.2.2.2.2.2.2.1, I t1.2.2.2.2.2.2.2.1, I t1.2.2.2.2.2.2.2.2.1, I t1.2.2.2.2.2.2.2.2.2]] (.agg [I ta7.1, I ta7.2.1, I ta7.2.2]), Computes cx 89 [.agg [I ta4.1, I ta4.2.1, I ta4.2.2], .agg [I ta5.1, I ta5.2.1, I ta5.2.2]] (.agg [I ta6.1, I ta6.2.1, I ta6.2.2]), Computes cx 90 [I (-1), .agg [I ta3.2.1, I ta3.2.2.1, I ta3.2.2.2]] (.agg [I ta5.1, I ta5.2.1, I ta5.2.2]), Computes cx 90 [I a5, .agg [I a2, I a3, I a4]] (.agg [I ta4.1, I ta4.2.1, I ta4.2.2]), nth (t2) (Int.toNat sa.1) = some (.agg [I ta3.1, I ta3.2.1, I ta3.2.2.1, I ta3.2.2.2]), 0 ≤ sa.1 ∧ sa.1 < ((t2).length : Int), (decide (sa.1 < ((t2).length : Int))) = true]) (by kernel_rfl) ⟨ha12, (room_of (b := 1) (by kernel_rfl) (by decide) ha11), (c_field_met ha10), (decide_eq_false ha9), (c_field_dot ha8), (c_field_Mirror_normal ha7), (c_field_plus ha6), (c_field_times ha5), (c_field_times ha4), nel_ok un_Ai4Z_ok ha3, ha2, (decide_eq_true ha1), trivial⟩⟩
  · replace h := ite_f h ha1
    replace h := Option.some.inj h
    subst h
    exact ⟨⟨100, 164, [.br false], [], [5], [0, 1, 2, 3, 9, 18, 19, 27, 30, 80, 163], round_of (ob := [(decide (sa.1 < ((t2).length : Int))) = false]) (by kernel_rfl) ⟨(decide_eq_false ha1), trivial⟩⟩, nofun⟩
def F_field_blocked (n : Nat) (a0 : List D) (a1 : Int) (a2 : Int) (a3 : Int) (a4 : Int) (a5 : Int) : Option (List D) :=
 (el un_Asi9Z a0 a1).bind fun t1 =>
 (loopF (F_field_blocked_L4 n a0 a1 a2 a3 a4 a5 t1) n (.inl 0)).bind fun t2 => match t2 with
  | (.inl t2) => (
  some [])
  | (.inr t2) => (
  (loopF (F_field_blocked_L5 n a0 a1 a2 a3 a4 a5 t1 t2) n (0, [])).bind fun t3 =>
  some t3)
theorem c_field_blocked {n : Nat} {a0 : List D} {a1 : Int} {a2 : Int} {a3 : Int} {a4 : Int} {a5 : Int} {r : List D} (h : F_field_blocked n a0 a1 a2 a3 a4 a5 = some r) : Computes cx 129 [.lst false 10 a0, I a1, .agg [I a2, I a3, I a4], I a5] (.lst false 1 r) := by
  unfold F_field_blocked at h
  obtain ⟨t1, h1, h⟩ := bnd_of h
  obtain ⟨t2, h2, h⟩ := bnd_of h
  rcases t2 with t2 | t2
  · replace h := Option.some.inj h
    subst h
    exact (run (n := 100) (f := 129) (args := [.lst false 10 a0, I a1, .agg [I a2, I a3, I a4], I a5]) (orc := [.el (.agg [.v (.string t1.1), I t1.2.1, I t1.2.2.1, I t1.2.2.2.1, I t1.2.2.2.2.1, I t1.2.2.2.2.2.1, I t1.2.2.2.2.2.2.1, I t1.2.2.2.2.2.2.2.1, I t1.2.2.2.2.2.2.2.2.1, I t1.2.2.2.2.2.2.2.2.2]), .br true, .br true, .br true, .lp [] [0, 1, 2, 7, 8] [0, 1, 2, 3, 9, 18, 19, 27, 30] (.exit 0) [] [(0, .box (.d (.lst false 10 a0))), (1, .box (.d (I a1))), (2, .box (.d (.agg [I a2, I a3, I a4]))), (3, .box (.d (I a5))), (9, .box (.d (.agg [.v (.string t1.1), I t1.2.1, I t1.2.2.1, I t1.2.2.2.1, I t1.2.2.2.2.1, I t1.2.2.2.2.2.1, I t1.2.2.2.2.2.2.1, I t1.2.2.2.2.2.2.2.1, I t1.2.2.2.2.2.2.2.2.1, I t1.2.2.2.2.2.2.2.2.2]))), (18, .box (.d (.agg [.v (.string t1.1), I t1.2.1, I t1.2.2.1, I t1.2.2.2.1, I t1.2.2.2.2.1, I t1.2.2.2.2.2.1, I t1.2.2.2.2.2.2.1, I t1.2.2.2.2.2.2.2.1, I t1.2.2.2.2.2.2.2.2.1, I t1.2.2.2.2.2.2.2.2.2]))), (19, .box (.d (I a5))), (27, .box (.d (.lst true 0 []))), (30, .loop true [(6, .fn (.func 137) [] [.ptr 19 0 0 0 0, .ptr 18 0 0 0 0]), (4, .d (.lst true 0 [])), (2, .ptr 27 0 0 0 0), (1, .fn (.func 137) [] [.ptr 19 0 0 0 0, .ptr 18 0 0 0 0]), (0, .d (.lst true 0 []))] [7] (rangeAt cx.P 136 0).1 (rangeAt cx.P 136 0).2 13)] 156, .br true, .no, .no]) (r := .lst true 0 []) (ob := [LoopN cx (loopAt cx.P 137 0) 49 31 false [(0, .own 30 0), (1, .ptr 19 0 0 0 0), (2, .ptr 18 0 0 0 0), (7, .d (I a5)), (8, .d (I 0))] [(0, .box (.d (.lst false 10 a0))), (1, .box (.d (I a1))), (2, .box (.d (.agg [I a2, I a3, I a4]))), (3, .box (.d (I a5))), (9, .box (.d (.agg [.v (.string t1.1), I t1.2.1, I t1.2.2.1, I t1.2.2.2.1, I t1.2.2.2.2.1, I t1.2.2.2.2.2.1, I t1.2.2.2.2.2.2.1, I t1.2.2.2.2.2.2.2.1, I t1.2.2.2.2.2.2.2.2.1, I t1.2.2.2.2.2.2.2.2.2]))), (18, .box (.d (.agg [.v (.string t1.1), I t1.2.1, I t1.2.2.1, I t1.2.2.2.1, I t1.2.2.2.2.1, I t1.2.2.2.2.2.1, I t1.2.2.2.2.2.2.1, I t1.2.2.2.2.2.2.2.1, I t1.2.2.2.2.2.2.2.2.1, I t1.2.2.2.2.2.2.2.2.2]))), (19, .box (.d (I a5))), (27, .box (.d (.lst true 0 []))), (30, .loop true [(6, .fn (.func 137) [] [.ptr 19 0 0 0 0, .ptr 18 0 0 0 0]), (4, .d (.lst true 0 [])), (2, .ptr 27 0 0 0 0), (1, .fn (.func 137) [] [.ptr 19 0 0 0 0, .ptr 18 0 0 0 0]), (0, .d (.lst true 0 []))] [7] (rangeAt cx.P 136 0).1 (rangeAt cx.P 136 0).2 13)] (.exit 0) [] [(0, .box (.d (.lst false 10 a0))), (1, .box (.d (I a1))), (2, .box (.d (.agg [I a2, I a3, I a4]))), (3, .box (.d (I a5))), (9, .box (.d (.agg [.v (.string t1.1), I t1.2.1, I t1.2.2.1, I t1.2.2.2.1, I t1.2.2.2.2.1, I t1.2.2.2.2.2.1, I t1.2.2.2.2.2.2.1, I t1.2.2.2.2.2.2.2.1, I t1.2.2.2.2.2.2.2.2.1, I t1.2.2.2.2.2.2.2.2.2]))), (18, .box (.d (.agg [.v (.string t1.1), I t1.2.1, I t1.2.2.1, I t1.2.2.2.1, I t1.2.2.2.2.1, I t1.2.2.2.2.2.1, I t1.2.2.2.2.2.2.1, I t1.2.2.2.2.2.2.2.1, I t1.2.2.2.2.2.2.2.2.1, I t1.2.2.2.2.2.2.2.2.2]))), (19, .box (.d (I a5))), (27, .box (.d (.lst true 0 []))), (30, .loop true [(6, .fn (.func 137) [] [.ptr 19 0 0 0 0, .ptr 18 0 0 0 0]), (4, .d (.lst true 0 [])), (2, .ptr 27 0 0 0 0), (1, .fn (.func 137) [] [.ptr 19 0 0 0 0, .ptr 18 0 0 0 0]), (0, .d (.lst true 0 []))] [7] (rangeAt cx.P 136 0).1 (rangeAt cx.P 136 0).2 13)], (0 : Int) ≤ a1, nth (a0) (Int.toNat a1) = some (.agg [.v (.string t1.1), I t1.2.1, I t1.2.2.1, I t1.2.2.2.1, I t1.2.2.2.2.1, I t1.2.2.2.2.2.1, I t1.2.2.2.2.2.2.1, I t1.2.2.2.2.2.2.2.1, I t1.2.2.2.2.2.2.2.2.1, I t1.2.2.2.2.2.2.2.2.2])]) (by kernel_rfl) ⟨(loopF_to R_field_blocked_L4 h2), (el_ok un_Asi9Z_ok h1).1, (el_ok un_Asi9Z_ok h1).2, trivial⟩).le (LEs.refl _) (.lst _ _ _ _ _ nofun (.inl rfl))
  · obtain ⟨t3, h3, h⟩ := bnd_of h
    replace h := Option.some.inj h
    subst h
    exact run (n := 100) (f := 129) (args := [.lst false 10 a0, I a1, .agg [I a2, I a3, I a4], I a5]) (orc := [.el (.agg [.v (.string t1.1), I t1.2.1, I t1.2.2.1, I t1.2.2.2.1, I t1.2.2.2.2.1, I t1.2.2.2.2.2.1, I t1.2.2.2.2.2.2.1, I t1.2.2.2.2.2.2.2.1, I t1.2.2.2.2.2.2.2.2.1, I t1.2.2.2.2.2.2.2.2.2]), .br true, .br true, .br true, .lp [] [0, 1, 2, 7, 8] [0, 1, 2, 3, 9, 18, 19, 27, 30] (.exit 0) [] [(0, .box (.d (.lst false 10 a0))), (1, .box (.d (I a1))), (2, .box (.d (.agg [I a2, I a3, I a4]))), (3, .box (.d (I a5))), (9, .box (.d (.agg [.v (.string t1.1), I t1.2.1, I t1.2.2.1, I t1.2.2.2.1, I t1.2.2.2.2.1, I t1.2.2.2.2.2.1, I t1.2.2.2.2.2.2.1, I t1.2.2.2.2.2.2.2.1, I t1.2.2.2.2.2.2.2.2.1, I t1.2.2.2.2.2.2.2.2.2]))), (18, .box (.d (.agg [.v (.string t1.1), I t1.2.1, I t1.2.2.1, I t1.2.2.2.1, I t1.2.2.2.2.1, I t1.2.2.2.2.2.1, I t1.2.2.2.2.2.2.1, I t1.2.2.2.2.2.2.2.1, I t1.2.2.2.2.2.2.2.2.1, I t1.2.2.2.2.2.2.2.2.2]))), (19, .box (.d (I a5))), (27, .box (.own 80 0)), (30, .loop true [(6, .fn (.func 137) [] [.ptr 19 0 0 0 0, .ptr 18 0 0 0 0]), (4, .d (.lst true 0 [])), (2, .ptr 27 0 0 0 0), (1, .fn (.func 137) [] [.ptr 19 0 0 0 0, .ptr 18 0 0 0 0]), (0, .d (.lst true 0 []))] [7] (rangeAt cx.P 136 0).1 (rangeAt cx.P 136 0).2 13), (80, .row 0 4 t2)] 156, .br true, .lp [5, 1] [1, 5, 8, 9, 10] [0, 1, 2, 3, 9, 18, 19, 27, 30, 80, 163] (.exit 0) [(5, .own 163 0)] [(0, .box (.d (.lst false 10 a0))), (1, .box (.d (I a1))), (2, .box (.d (.agg [I a2, I a3, I a4]))), (3, .box (.d (I a5))), (9, .box (.d (.agg [.v (.string t1.1), I t1.2.1, I t1.2.2.1, I t1.2.2.2.1, I t1.2.2.2.2.1, I t1.2.2.2.2.2.1, I t1.2.2.2.2.2.2.1, I t1.2.2.2.2.2.2.2.1, I t1.2.2.2.2.2.2.2.2.1, I t1.2.2.2.2.2.2.2.2.2]))), (18, .box (.d (.agg [.v (.string t1.1), I t1.2.1, I t1.2.2.1, I t1.2.2.2.1, I t1.2.2.2.2.1, I t1.2.2.2.2.2.1, I t1.2.2.2.2.2.2.1, I t1.2.2.2.2.2.2.2.1, I t1.2.2.2.2.2.2.2.2.1, I t1.2.2.2.2.2.2.2.2.2]))), (19, .box (.d (I a5))), (27, .box (.own 80 0)), (30, .dead), (80, .row 0 4 t2), (163, .row 0 1 t3)] 216]) (r := .lst false 1 t3) (ob := [LoopN cx (loopAt cx.P 138 0) 22 158 false [(1, .fn (.func 161) [] [.ptr 3 0 0 0 0, .ptr 2 0 0 0 0, .ptr 9 0 0 0 0, .ptr 0 0 0 0 0, .ptr 1 0 0 0 0]), (5, .own 163 0), (8, .own 80 0), (9, .d (I ((t2).length : Int))), (10, .d (I 0))] [(0, .box (.d (.lst false 10 a0))), (1, .box (.d (I a1))), (2, .box (.d (.agg [I a2, I a3, I a4]))), (3, .box (.d (I a5))), (9, .box (.d (.agg [.v (.string t1.1), I t1.2.1, I t1.2.2.1, I t1.2.2.2.1, I t1.2.2.2.2.1, I t1.2.2.2.2.2.1, I t1.2.2.2.2.2.2.1, I t1.2.2.2.2.2.2.2.1, I t1.2.2.2.2.2.2.2.2.1, I t1.2.2.2.2.2.2.2.2.2]))), (18, .box (.d (.agg [.v (.string t1.1), I t1.2.1, I t1.2.2.1, I t1.2.2.2.1, I t1.2.2.2.2.1, I t1.2.2.2.2.2.1, I t1.2.2.2.2.2.2.1, I t1.2.2.2.2.2.2.2.1, I t1.2.2.2.2.2.2.2.2.1, I t1.2.2.2.2.2.2.2.2.2]))), (19, .box (.d (I a5))), (27, .box (.own 80 0)), (30, .dead), (80, .row 0 4 t2), (163, .row 0 1 [])] (.exit 0) [(5, .own 163 0)] [(0, .box (.d (.lst false 10 a0))), (1, .box (.d (I a1))), (2, .box (.d (.agg [I a2, I a3, I a4]))), (3, .box (.d (I a5))), (9, .box (.d (.agg [.v (.string t1.1), I t1.2.1, I t1.2.2.1, I t1.2.2.2.1, I t1.2.2.2.2.1, I t1.2.2.2.2.2.1, I t1.2.2.2.2.2.2.1, I t1.2.2.2.2.2.2.2.1, I t1.2.2.2.2.2.2.2.2.1, I t1.2.2.2.2.2.2.2.2.2]))), (18, .box (.d (.agg [.v (.string t1.1), I t1.2.1, I t1.2.2.1, I t1.2.2.2.1, I t1.2.2.2.2.1, I t1.2.2.2.2.2.1, I t1.2.2.2.2.2.2.1, I t1.2.2.2.2.2.2.2.1, I t1.2.2.2.2.2.2.2.2.1, I t1.2.2.2.2.2.2.2.2.2]))), (19, .box (.d (I a5))), (27, .box (.own 80 0)), (30, .dead), (80, .row 0 4 t2), (163, .row 0 1 t3)], LoopN cx (loopAt cx.P 137 0) 49 31 false [(0, .own 30 0), (1, .ptr 19 0 0 0 0), (2, .ptr 18 0 0 0 0), (7, .d (I a5)), (8, .d (I 0))] [(0, .box (.d (.lst false 10 a0))), (1, .box (.d (I a1))), (2, .box (.d (.agg [I a2, I a3, I a4]))), (3, .box (.d (I a5))), (9, .box (.d (.agg [.v (.string t1.1), I t1.2.1, I t1.2.2.1, I t1.2.2.2.1, I t1.2.2.2.2.1, I t1.2.2.2.2.2.1, I t1.2.2.2.2.2.2.1, I t1.2.2.2.2.2.2.2.1, I t1.2.2.2.2.2.2.2.2.1, I t1.2.2.2.2.2.2.2.2.2]))), (18, .box (.d (.agg [.v (.string t1.1), I t1.2.1, I t1.2.2.1, I t1.2.2.2.1, I t1.2.2.2.2.1, I t1.2.2.2.2.2.1, I t1.2.2.2.2.2.2.1, I t1.2.2.2.2.2.2.2.1, I t1.2.2.2.2.2.2.2.2.1, I t1.2.2.2.2.2.2.2.2.2]))), (19, .box (.d (I a5))), (27, .box (.d (.lst true 0 []))), (30, .loop true [(6, .fn (.func 137) [] [.ptr 19 0 0 0 0, .ptr 18 0 0 0 0]), (4, .d (.lst true 0 [])), (2, .ptr 27 0 0 0 0), (1, .fn (.func 137) [] [.ptr 19 0 0 0 0, .ptr 18 0 0 0 0]), (0, .d (.lst true 0 []))] [7] (rangeAt cx.P 136 0).1 (rangeAt cx.P 136 0).2 13)] (.exit 0) [] [(0, .box (.d (.lst false 10 a0))), (1, .box (.d (I a1))), (2, .box (.d (.agg [I a2, I a3, I a4]))), (3, .box (.d (I a5))), (9, .box (.d (.agg [.v (.string t1.1), I t1.2.1, I t1.2.2.1, I t1.2.2.2.1, I t1.2.2.2.2.1, I t1.2.2.2.2.2.1, I t1.2.2.2.2.2.2.1, I t1.2.2.2.2.2.2.2.1, I t1.2.2.2.2.2.2.2.2.1, I t1.2.2.2.2.2.2.2.2.2]))), (18, .box (.d (.agg [.v (.string t1.1), I t1.2.1, I t1.2.2.1, I t1.2.2.2.1, I t1.2.2.2.2.1, I t1.2.2.2.2.2.1, I t1.2.2.2.2.2.2.1, I t1.2.2.2.2.2.2.2.1, I t1.2.2.2.2.2.2.2.2.1, I t1.2.2.2.2.2.2.2.2.2]))), (19, .box (.d (I a5))), (27, .box (.own 80 0)), (30, .loop true [(6, .fn (.func 137) [] [.ptr 19 0 0 0 0, .ptr 18 0 0 0 0]), (4, .d (.lst true 0 [])), (2, .ptr 27 0 0 0 0), (1, .fn (.func 137) [] [.ptr 19 0 0 0 0, .ptr 18 0 0 0 0]), (0, .d (.lst true 0 []))] [7] (rangeAt cx.P 136 0).1 (rangeAt cx.P 136 0).2 13), (80, .row 0 4 t2)], (0 : Int) ≤ a1, nth (a0) (Int.toNat a1) = some (.agg [.v (.string t1.1), I t1.2.1, I t1.2.2.1, I t1.2.2.2.1, I t1.2.2.2.2.1, I t1.2.2.2.2.2.1, I t1.2.2.2.2.2.2.1, I t1.2.2.2.2.2.2.2.1, I t1.2.2.2.2.2.2.2.2.1, I t1.2.2.2.2.2.2.2.2.2])]) (by kernel_rfl) ⟨(loopF_to R_field_blocked_L5 h3), (loopF_to R_field_blocked_L4 h2), (el_ok un_Asi9Z_ok h1).1, (el_ok un_Asi9Z_ok h1).2, trivial⟩
def F_field_lit_L1 (n : Nat) (t1 : List D) (t2 : List D) (sa : (Int × Int × Int × Int)) : Option (((Int × Int × Int × Int)) ⊕ ((Int × Int × Int))) :=
 if sa.1 < ((t2).length : Int) then
  (el un_b t2 sa.1).bind fun ta2 =>
  if ta2 = true then
  if inI64 (sa.2.1 + 1) then
  if inI64 (sa.1 + 1) then
  some (.inl ((sa.1 + 1), (sa.2.1 + 1), sa.2.2.1, sa.2.2.2))
  else none
  else none
  else
  (el un_b t1 sa.1).bind fun ta4 =>
  if ta4 = true then
  if inI64 (sa.2.2.1 + 1) then
  if inI64 (sa.1 + 1) then
  some (.inl ((sa.1 + 1), sa.2.1, (sa.2.2.1 + 1), sa.2.2.2))
  else none
  else none
  else
  if inI64 (sa.2.2.2 + 1) then
  if inI64 (sa.1 + 1) then
  some (.inl ((sa.1 + 1), sa.2.1, sa.2.2.1, (sa.2.2.2 + 1)))
  else none
  else none
 else
 some (.inr (sa.2.1, sa.2.2.1, sa.2.2.2))
noncomputable def T_field_lit_L1 (t1 : List D) (t2 : List D) (sa : (Int × Int × Int × Int)) : List (Nat × AV) := [(10, .ptr 2 0 0 0 0), (11, .ptr 3 0 0 0 0), (12, .d (.lst false 1 t1)), (24, .d (.lst false 1 t2)), (25, .d (I ((t2).length : Int))), (26, .d (I sa.1))]
noncomputable def H_field_lit_L1 (t1 : List D) (t2 : List D) (sa : (Int × Int × Int × Int)) : List (Nat × Blk) := [(2, .box (.d (.agg [I 0, I 0, I 0]))), (3, .box (.d (.agg [I sa.2.1, I sa.2.2.1, I sa.2.2.2])))]
noncomputable def X_field_lit_L1 (t1 : List D) (t2 : List D) (e : (Int × Int × Int)) : Ex := (.exit 0)
noncomputable def XT_field_lit_L1 (t1 : List D) (t2 : List D) (e : (Int × Int × Int)) : List (Nat × AV) := [(10, .ptr 2 0 0 0 0), (11, .ptr 3 0 0 0 0)]
noncomputable def XH_field_lit_L1 (t1 : List D) (t2 : List D) (e : (Int × Int × Int)) : List (Nat × Blk) := [(2, .box (.d (.agg [I 0, I 0, I 0]))), (3, .box (.d (.agg [I e.1, I e.2.1, I e.2.2])))]
theorem R_field_lit_L1 {n : Nat} {t1 : List D} {t2 : List D} (sa : (Int × Int × Int × Int)) (r) (h : F_field_lit_L1 n t1 t2 sa = some r) : Rd cx (loopAt cx.P 83 0) 52 0 false (T_field_lit_L1 t1 t2) (H_field_lit_L1 t1 t2) (X_field_lit_L1 t1 t2) (XT_field_lit_L1 t1 t2) (XH_field_lit_L1 t1 t2) sa r := by
  unfold F_field_lit_L1 at h
  by_cases ha1 : sa.1 < ((t2).length : Int)
  · replace h := ite_t h ha1
    obtain ⟨ta2, ha2, h⟩ := bnd_of h
    by_cases ha3 : ta2 = true
    · replace h := ite_t h ha3
      obtain ⟨ha4, h⟩ := grd_of h
      obtain ⟨ha5, h⟩ := grd_of h
      replace h := Option.some.inj h
      subst h
      exact ⟨100, 17, [.br true, .el (B ta2), .br true], [], [10, 11, 12, 24, 25, 26], [2, 3], round_of (ob := [inI64 (sa.1 + 1), inI64 (sa.2.1 + 1), ta2 = true, (0 : Int) ≤ sa.1, nth (t2) (Int.toNat sa.1) = some (B ta2), (decide (sa.1 < ((t2).length : Int))) = true]) (by kernel_rfl) ⟨ha5, ha4, ha3, (el_ok un_b_ok ha2).1, (el_ok un_b_ok ha2).2, (decide_eq_true ha1), trivial⟩⟩
    · replace h := ite_f h ha3
      obtain ⟨ta4, ha4, h⟩ := bnd_of h
      by_cases ha5 : ta4 = true
      · replace h := ite_t h ha5
        obtain ⟨ha6, h⟩ := grd_of h
        obtain ⟨ha7, h⟩ := grd_of h
        replace h := Option.some.inj h
        subst h
        exact ⟨100, 17, [.br true, .el (B ta2), .br false, .el (B ta4), .br true], [], [10, 11, 12, 24, 25, 26], [2, 3], round_of (ob := [inI64 (sa.1 + 1), inI64 (sa.2.2.1 + 1), ta4 = true, (0 : Int) ≤ sa.1, nth (t1) (Int.toNat sa.1) = some (B ta4), ta2 = false, (0 : Int) ≤ sa.1, nth (t2) (Int.toNat sa.1) = some (B ta2), (decide (sa.1 < ((t2).length : Int))) = true]) (by kernel_rfl) ⟨ha7, ha6, ha5, (el_ok un_b_ok ha4).1, (el_ok un_b_ok ha4).2, (bfalse ha3), (el_ok un_b_ok ha2).1, (el_ok un_b_ok ha2).2, (decide_eq_true ha1), trivial⟩⟩
      · replace h := ite_f h ha5
        obtain ⟨ha6, h⟩ := grd_of h
        obtain ⟨ha7, h⟩ := grd_of h
        replace h := Option.some.inj h
        subst h
        exact ⟨100, 17, [.br true, .el (B ta2), .br false, .el (B ta4), .br false], [], [10, 11, 12, 24, 25, 26], [2, 3], round_of (ob := [inI64 (sa.1 + 1), inI64 (sa.2.2.2 + 1), ta4 = false, (0 : Int) ≤ sa.1, nth (t1) (Int.toNat sa.1) = some (B ta4), ta2 = false, (0 : Int) ≤ sa.1, nth (t2) (Int.toNat sa.1) = some (B ta2), (decide (sa.1 < ((t2).length : Int))) = true]) (by kernel_rfl) ⟨ha7, ha6, (bfalse ha5), (el_ok un_b_ok ha4).1, (el_ok un_b_ok ha4).2, (bfalse ha3), (el_ok un_b_ok ha2).1, (el_ok un_b_ok ha2).2, (decide_eq_true ha1), trivial⟩⟩
  · replace h := ite_f h ha1
    replace h := Option.some.inj h
    subst h
    exact ⟨⟨100, 17, [.br false], [], [10, 11], [2, 3], round_of (ob := [(decide (sa.1 < ((t2).length : Int))) = false]) (by kernel_rfl) ⟨(decide_eq_false ha1), trivial⟩⟩, nofun⟩
def F_field_lit (n : Nat) (a0 : List D) (a1 : Int) (a2 : Int) (a3 : Int) (a4 : Int) (a5 : Int) (a6 : Int) (a7 : Int) (a8 : Int) : Option (Int × Int × Int) :=
 (F_field_blocked n a0 a1 a5 a6 a7 a8).bind fun t1 =>
 (F_field_dark n a0 a1 a2 a3 a4 a8).bind fun t2 =>
 (loopF (F_field_lit_L1 n t1 t2) n (0, 0, 0, 0)).bind fun t3 =>
 some (t3.1, t3.2.1, t3.2.2)
theorem c_field_lit {n : Nat} {a0 : List D} {a1 : Int} {a2 : Int} {a3 : Int} {a4 : Int} {a5 : Int} {a6 : Int} {a7 : Int} {a8 : Int} {r : Int × Int × Int} (h : F_field_lit n a0 a1 a2 a3 a4 a5 a6 a7 a8 = some r) : Computes cx 83 [.lst false 10 a0, I a1, .agg [I a2, I a3, I a4], .agg [I a5, I a6, I a7], I a8] (.agg [I r.1, I r.2.1, I r.2.2]) := by
  unfold F_field_lit at h
  obtain ⟨t1, h1, h⟩ := bnd_of h
  obtain ⟨t2, h2, h⟩ := bnd_of h
  obtain ⟨t3, h3, h⟩ := bnd_of h
  replace h := Option.some.inj h
  subst h
  exact run (n := 100) (f := 83) (args := [.lst false 10 a0, I a1, .agg [I a2, I a3, I a4], .agg [I a5, I a6, I a7], I a8]) (orc := [.ret (.lst false 1 t1), .ret (.lst false 1 t2), .lp [] [10, 11, 12, 24, 25, 26] [2, 3] (.exit 0) [(10, .ptr 2 0 0 0 0), (11, .ptr 3 0 0 0 0)] [(2, .box (.d (.agg [I 0, I 0, I 0]))), (3, .box (.d (.agg [I t3.1, I t3.2.1, I t3.2.2])))] 48]) (r := .agg [I t3.1, I t3.2.1, I t3.2.2]) (ob := [LoopN cx (loopAt cx.P 83 0) 52 0 false [(10, .ptr 2 0 0 0 0), (11, .ptr 3 0 0 0 0), (12, .d (.lst false 1 t1)), (24, .d (.lst false 1 t2)), (25, .d (I ((t2).length : Int))), (26, .d (I 0))] [(2, .box (.d (.agg [I 0, I 0, I 0]))), (3, .box (.d (.agg [I 0, I 0, I 0])))] (.exit 0) [(10, .ptr 2 0 0 0 0), (11, .ptr 3 0 0 0 0)] [(2, .box (.d (.agg [I 0, I 0, I 0]))), (3, .box (.d (.agg [I t3.1, I t3.2.1, I t3.2.2])))], Computes cx 97 [.lst false 10 a0, I a1, .agg [I a2, I a3, I a4], I a8] (.lst false 1 t2), Computes cx 129 [.lst false 10 a0, I a1, .agg [I a5, I a6, I a7], I a8] (.lst false 1 t1)]) (by kernel_rfl) ⟨(loopF_to R_field_lit_L1 h3), (c_field_dark h2), (c_field_blocked h1), trivial⟩
def F_field_Lit (n : Nat) (a0 : List D) (a1 : Int) (a2 : Int) (a3 : Int) (a4 : Int) (a5 : Int) (a6 : Int) (a7 : Int) (a8 : Int) : Option (Int × Int × Int × Int) :=
 (F_field_checkIndex n a0 a1).bind fun t1 =>
 (F_field_checkDirection n a2 a3 a4 1024).bind fun t2 =>
 (F_field_checkParts n a5 a6 a7 4096).bind fun t3 =>
 (F_field_checkK n a8).bind fun t4 =>
 (F_field_first n ([I t1, I t2, I t3, I t4])).bind fun t5 =>
 if t5 = 0 then
  (F_field_lit n a0 a1 a2 a3 a4 a5 a6 a7 a8).bind fun t7 =>
  some (t7.1, t7.2.1, t7.2.2, 0)
 else
 some (0, 0, 0, t5)
theorem c_field_Lit {n : Nat} {a0 : List D} {a1 : Int} {a2 : Int} {a3 : Int} {a4 : Int} {a5 : Int} {a6 : Int} {a7 : Int} {a8 : Int} {r : Int × Int × Int × Int} (h : F_field_Lit n a0 a1 a2 a3 a4 a5 a6 a7 a8 = some r) : Computes cx 21 [.lst false 10 a0, I a1, .agg [I a2, I a3, I a4], .agg [I a5, I a6, I a7], I a8] (.tup [.agg [I r.1, I r.2.1, I r.2.2.1], I r.2.2.2]) := by
  unfold F_field_Lit at h
  obtain ⟨t1, h1, h⟩ := bnd_of h
  obtain ⟨t2, h2, h⟩ := bnd_of h
  obtain ⟨t3, h3, h⟩ := bnd_of h
  obtain ⟨t4, h4, h⟩ := bnd_of h
  obtain ⟨t5, h5, h⟩ := bnd_of h
  by_cases h6 : t5 = 0
  · replace h := ite_t h h6
    obtain ⟨t7, h7, h⟩ := bnd_of h
    replace h := Option.some.inj h
    subst h
    exact run (n := 100) (f := 21) (args := [.lst false 10 a0, I a1, .agg [I a2, I a3, I a4], .agg [I a5, I a6, I a7], I a8]) (orc := [.ret (I t1), .ret (I t2), .ret (I t3), .ret (I t4), .ret (I t5), .br false, .ret (.agg [I t7.1, I t7.2.1, I t7.2.2])]) (r := .tup [.agg [I t7.1, I t7.2.1, I t7.2.2], I 0]) (ob := [Computes cx 83 [.lst false 10 a0, I a1, .agg [I a2, I a3, I a4], .agg [I a5, I a6, I a7], I a8] (.agg [I t7.1, I t7.2.1, I t7.2.2]), (t5 != 0) = false, Computes cx 59 [.lst true 1 [I t1, I t2, I t3, I t4]] (I t5), Computes cx 82 [I a8] (I t4), Computes cx 81 [.agg [I a5, I a6, I a7], I 4096] (I t3), Computes cx 61 [.agg [I a2, I a3, I a4], I 1024] (I t2), Computes cx 80 [.lst false 10 a0, I a1] (I t1)]) (by kernel_rfl) ⟨(c_field_lit h7), (nef h6), ((c_field_first h5).le (.cons (.full _ _ _) (.nil)) (.refl _)), (c_field_checkK h4), (c_field_checkParts h3), (c_field_checkDirection h2), (c_field_checkIndex h1), trivial⟩
  · replace h := ite_f h h6
    replace h := Option.some.inj h
    subst h
    exact run (n := 100) (f := 21) (args := [.lst false 10 a0, I a1, .agg [I a2, I a3, I a4], .agg [I a5, I a6, I a7], I a8]) (orc := [.ret (I t1), .ret (I t2), .ret (I t3), .ret (I t4), .ret (I t5), .br true]) (r := .tup [.agg [I 0, I 0, I 0], I t5]) (ob := [(t5 != 0) = true, Computes cx 59 [.lst true 1 [I t1, I t2, I t3, I t4]] (I t5), Computes cx 82 [I a8] (I t4), Computes cx 81 [.agg [I a5, I a6, I a7], I 4096] (I t3), Computes cx 61 [.agg [I a2, I a3, I a4], I 1024] (I t2), Computes cx 80 [.lst false 10 a0, I a1] (I t1)]) (by kernel_rfl) ⟨(net h6), ((c_field_first h5).le (.cons (.full _ _ _) (.nil)) (.refl _)), (c_field_checkK h4), (c_field_checkParts h3), (c_field_checkDirection h2), (c_field_checkIndex h1), trivial⟩
def F_field_Cosine (n : Nat) (a0 : ByteArray) (a1 : Int) (a2 : Int) (a3 : Int) (a4 : Int) (a5 : Int) (a6 : Int) (a7 : Int) (a8 : Int) (a9 : Int) (a10 : Int) (a11 : Int) (a12 : Int) : Option (Int × Int × Int × Int) :=
 (F_field_Mirror_check n a0 a1 a2 a3 a4 a5 a6 a7 a8 a9).bind fun t1 =>
 (F_field_checkDirection n a10 a11 a12 1024).bind fun t2 =>
 (F_field_first n ([I t1, I t2])).bind fun t3 =>
 if t3 = 0 then
  (F_field_Mirror_normal n a0 a1 a2 a3 a4 a5 a6 a7 a8 a9).bind fun t5 =>
  (F_field_dot n t5.1 t5.2.1 t5.2.2 a10 a11 a12).bind fun t6 =>
  (F_cmp_Compare_g n t6 0).bind fun t7 =>
  if inI64 (t6 * t6) then
  (F_field_dot n t5.1 t5.2.1 t5.2.2 t5.1 t5.2.1 t5.2.2).bind fun t9 =>
  (F_field_dot n a10 a11 a12 a10 a11 a12).bind fun t10 =>
  if inI64 (t9 * t10) then
  (F_field_lowest n (t6 * t6) (t9 * t10)).bind fun t12 =>
  some (t7, t12.1, t12.2, 0)
  else none
  else none
 else
 some (0, 0, 0, t3)
theorem c_field_Cosine {n : Nat} {a0 : ByteArray} {a1 : Int} {a2 : Int} {a3 : Int} {a4 : Int} {a5 : Int} {a6 : Int} {a7 : Int} {a8 : Int} {a9 : Int} {a10 : Int} {a11 : Int} {a12 : Int} {r : Int × Int × Int × Int} (h : F_field_Cosine n a0 a1 a2 a3 a4 a5 a6 a7 a8 a9 a10 a11 a12 = some r) : Computes cx 11 [.agg [.v (.string a0), I a1, I a2, I a3, I a4, I a5, I a6, I a7, I a8, I a9], .agg [I a10, I a11, I a12]] (.tup [I r.1, .agg [I r.2.1, I r.2.2.1], I r.2.2.2]) := by
  unfold F_field_Cosine at h
  obtain ⟨t1, h1, h⟩ := bnd_of h
  obtain ⟨t2, h2, h⟩ := bnd_of h
  obtain ⟨t3, h3, h⟩ := bnd_of h
  by_cases h4 : t3 = 0
  · replace h := ite_t h h4
    obtain ⟨t5, h5, h⟩ := bnd_of h
    obtain ⟨t6, h6, h⟩ := bnd_of h
    obtain ⟨t7, h7, h⟩ := bnd_of h
    obtain ⟨h8, h⟩ := grd_of h
    obtain ⟨t9, h9, h⟩ := bnd_of h
    obtain ⟨t10, h10, h⟩ := bnd_of h
    obtain ⟨h11, h⟩ := grd_of h
    obtain ⟨t12, h12, h⟩ := bnd_of h
    replace h := Option.some.inj h
    subst h
    exact run (n := 100) (f := 11) (args := [.agg [.v (.string a0), I a1, I a2, I a3, I a4, I a5, I a6, I a7, I a8, I a9], .agg [I a10, I a11, I a12]]) (orc := [.ret (I t1), .ret (I t2), .ret (I t3), .br false, .ret (.agg [I t5.1, I t5.2.1, I t5.2.2]), .ret (I t6), .ret (I t7), .ret (.agg [I t5.1, I t5.2.1, I t5.2.2]), .ret (.agg [I t5.1, I t5.2.1, I t5.2.2]), .ret (I t9), .ret (I t10), .ret (.agg [I t12.1, I t12.2])]) (r := .tup [I t7, .agg [I t12.1, I t12.2], I 0]) (ob := [Computes cx 65 [I (t6 * t6), I (t9 * t10)] (.agg [I t12.1, I t12.2]), inI64 (t9 * t10), Computes cx 62 [.agg [I a10, I a11, I a12], .agg [I a10, I a11, I a12]] (I t10), Computes cx 62 [.agg [I t5.1, I t5.2.1, I t5.2.2], .agg [I t5.1, I t5.2.1, I t5.2.2]] (I t9), Computes cx 63 [.agg [.v (.string a0), I a1, I a2, I a3, I a4, I a5, I a6, I a7, I a8, I a9]] (.agg [I t5.1, I t5.2.1, I t5.2.2]), Computes cx 63 [.agg [.v (.string a0), I a1, I a2, I a3, I a4, I a5, I a6, I a7, I a8, I a9]] (.agg [I t5.1, I t5.2.1, I t5.2.2]), inI64 (t6 * t6), Computes cx 64 [I t6, I 0] (I t7), Computes cx 62 [.agg [I t5.1, I t5.2.1, I t5.2.2], .agg [I a10, I a11, I a12]] (I t6), Computes cx 63 [.agg [.v (.string a0), I a1, I a2, I a3, I a4, I a5, I a6, I a7, I a8, I a9]] (.agg [I t5.1, I t5.2.1, I t5.2.2]), (t3 != 0) = false, Computes cx 59 [.lst true 1 [I t1, I t2]] (I t3), Computes cx 61 [.agg [I a10, I a11, I a12], I 1024] (I t2), Computes cx 60 [.agg [.v (.string a0), I a1, I a2, I a3, I a4, I a5, I a6, I a7, I a8, I a9]] (I t1)]) (by kernel_rfl) ⟨(c_field_lowest h12), h11, (c_field_dot h10), (c_field_dot h9), (c_field_Mirror_normal h5), (c_field_Mirror_normal h5), h8, (c_cmp_Compare_g h7), (c_field_dot h6), (c_field_Mirror_normal h5), (nef h4), ((c_field_first h3).le (.cons (.full _ _ _) (.nil)) (.refl _)), (c_field_checkDirection h2), (c_field_Mirror_check h1), trivial⟩
  · replace h := ite_f h h4
    replace h := Option.some.inj h
    subst h
    exact run (n := 100) (f := 11) (args := [.agg [.v (.string a0), I a1, I a2, I a3, I a4, I a5, I a6, I a7, I a8, I a9], .agg [I a10, I a11, I a12]]) (orc := [.ret (I t1), .ret (I t2), .ret (I t3), .br true]) (r := .tup [I 0, .agg [I 0, I 0], I t3]) (ob := [(t3 != 0) = true, Computes cx 59 [.lst true 1 [I t1, I t2]] (I t3), Computes cx 61 [.agg [I a10, I a11, I a12], I 1024] (I t2), Computes cx 60 [.agg [.v (.string a0), I a1, I a2, I a3, I a4, I a5, I a6, I a7, I a8, I a9]] (I t1)]) (by kernel_rfl) ⟨(net h4), ((c_field_first h3).le (.cons (.full _ _ _) (.nil)) (.refl _)), (c_field_checkDirection h2), (c_field_Mirror_check h1), trivial⟩
def enc_Ai3Z (x : Int × Int × Int) : D := .agg [I x.1, I x.2.1, I x.2.2]
def un_Ai3Z : D → Option (Int × Int × Int)
  | .agg [c0, c1, c2] => (un_int .i64 c0).bind fun y0 => (un_int .i64 c1).bind fun y1 => (un_int .i64 c2).bind fun y2 => some (y0, y1, y2)
  | _ => none
theorem un_Ai3Z_ok {d : D} {x : Int × Int × Int} (h : un_Ai3Z d = some x) : d = enc_Ai3Z x := by
  unfold un_Ai3Z at h
  split at h
  case h_2 => cases h
  obtain ⟨y0, h0, h⟩ := bnd_of h
  obtain ⟨y1, h1, h⟩ := bnd_of h
  obtain ⟨y2, h2, h⟩ := bnd_of h
  cases h
  have e0 := un_int_ok h0
  have e1 := un_int_ok h1
  have e2 := un_int_ok h2
  rw [e0, e1, e2]; rfl
def F_field_Shadow (n : Nat) (a0 : ByteArray) (a1 : Int) (a2 : Int) (a3 : Int) (a4 : Int) (a5 : Int) (a6 : Int) (a7 : Int) (a8 : Int) (a9 : Int) (a10 : Int) (a11 : Int) (a12 : Int) : Option (List D × Int) :=
 (F_field_Mirror_check n a0 a1 a2 a3 a4 a5 a6 a7 a8 a9).bind fun t1 =>
 (F_field_checkDirection n a10 a11 a12 1024).bind fun t2 =>
 (F_field_when n (decide (a12 < 1)) 21).bind fun t3 =>
 (F_field_first n ([I t1, I t2, I t3])).bind fun t4 =>
 if t4 = 0 then
  (F_field_times n (-1) a4 a5 a6).bind fun t6 =>
  (F_field_times n (-1) a7 a8 a9).bind fun t7 =>
  (F_field_plus n t6.1 t6.2.1 t6.2.2 t7.1 t7.2.1 t7.2.2).bind fun t8 =>
  (F_field_plus n a1 a2 a3 t8.1 t8.2.1 t8.2.2).bind fun t9 =>
  (F_field_times n 1 a4 a5 a6).bind fun t10 =>
  (F_field_plus n t10.1 t10.2.1 t10.2.2 t7.1 t7.2.1 t7.2.2).bind fun t11 =>
  (F_field_plus n a1 a2 a3 t11.1 t11.2.1 t11.2.2).bind fun t12 =>
  (F_field_times n 1 a7 a8 a9).bind fun t13 =>
  (F_field_plus n t10.1 t10.2.1 t10.2.2 t13.1 t13.2.1 t13.2.2).bind fun t14 =>
  (F_field_plus n a1 a2 a3 t14.1 t14.2.1 t14.2.2).bind fun t15 =>
  (F_field_plus n t6.1 t6.2.1 t6.2.2 t13.1 t13.2.1 t13.2.2).bind fun t16 =>
  (F_field_plus n a1 a2 a3 t16.1 t16.2.1 t16.2.2).bind fun t17 =>
  if (((t9.1 == 0) && ((t9.2.1 == 0) && ((t9.2.2 == 0) && true))) && (((t12.1 == 0) && ((t12.2.1 == 0) && ((t12.2.2 == 0) && true))) && (((t15.1 == 0) && ((t15.2.1 == 0) && ((t15.2.2 == 0) && true))) && (((t17.1 == 0) && ((t17.2.1 == 0) && ((t17.2.2 == 0) && true))) && true)))) = true then
  some ([], 17)
  else
  if inI64 (t9.1 * a12) then
  if inI64 (t9.2.2 * a10) then
  if inI64 ((t9.1 * a12) - (t9.2.2 * a10)) then
  if inI64 (t9.2.1 * a12) then
  if inI64 (t9.2.2 * a11) then
  if inI64 ((t9.2.1 * a12) - (t9.2.2 * a11)) then
  if inI64 (t12.1 * a12) then
  if inI64 (t12.2.2 * a10) then
  if inI64 ((t12.1 * a12) - (t12.2.2 * a10)) then
  if inI64 (t12.2.1 * a12) then
  if inI64 (t12.2.2 * a11) then
  if inI64 ((t12.2.1 * a12) - (t12.2.2 * a11)) then
  if inI64 (t15.1 * a12) then
  if inI64 (t15.2.2 * a10) then
  if inI64 ((t15.1 * a12) - (t15.2.2 * a10)) then
  if inI64 (t15.2.1 * a12) then
  if inI64 (t15.2.2 * a11) then
  if inI64 ((t15.2.1 * a12) - (t15.2.2 * a11)) then
  if inI64 (t17.1 * a12) then
  if inI64 (t17.2.2 * a10) then
  if inI64 ((t17.1 * a12) - (t17.2.2 * a10)) then
  if inI64 (t17.2.1 * a12) then
  if inI64 (t17.2.2 * a11) then
  if inI64 ((t17.2.1 * a12) - (t17.2.2 * a11)) then
  (F_field_left n ((t9.1 * a12) - (t9.2.2 * a10)) ((t9.2.1 * a12) - (t9.2.2 * a11)) ((t12.1 * a12) - (t12.2.2 * a10)) ((t12.2.1 * a12) - (t12.2.2 * a11)) ((t15.1 * a12) - (t15.2.2 * a10)) ((t15.2.1 * a12) - (t15.2.2 * a11))).bind fun t43 =>
  if t43 = 0 then
  some ([], 17)
  else
  if t43 < 0 then
  some ([.agg [I ((t9.1 * a12) - (t9.2.2 * a10)), I ((t9.2.1 * a12) - (t9.2.2 * a11))], .agg [I ((t17.1 * a12) - (t17.2.2 * a10)), I ((t17.2.1 * a12) - (t17.2.2 * a11))], .agg [I ((t15.1 * a12) - (t15.2.2 * a10)), I ((t15.2.1 * a12) - (t15.2.2 * a11))], .agg [I ((t12.1 * a12) - (t12.2.2 * a10)), I ((t12.2.1 * a12) - (t12.2.2 * a11))]], 0)
  else
  some ([.agg [I ((t9.1 * a12) - (t9.2.2 * a10)), I ((t9.2.1 * a12) - (t9.2.2 * a11))], .agg [I ((t12.1 * a12) - (t12.2.2 * a10)), I ((t12.2.1 * a12) - (t12.2.2 * a11))], .agg [I ((t15.1 * a12) - (t15.2.2 * a10)), I ((t15.2.1 * a12) - (t15.2.2 * a11))], .agg [I ((t17.1 * a12) - (t17.2.2 * a10)), I ((t17.2.1 * a12) - (t17.2.2 * a11))]], 0)
  else none
  else none
  else none
  else none
  else none
  else none
  else none
  else none
  else none
  else none
  else none
  else none
  else none
  else none
  else none
  else none
  else none
  else none
  else none
  else none
  else none
  else none
  else none
  else none
 else
 some ([], t4)
theorem c_field_Shadow {n : Nat} {a0 : ByteArray} {a1 : Int} {a2 : Int} {a3 : Int} {a4 : Int} {a5 : Int} {a6 : Int} {a7 : Int} {a8 : Int} {a9 : Int} {a10 : Int} {a11 : Int} {a12 : Int} {r : List D × Int} (h : F_field_Shadow n a0 a1 a2 a3 a4 a5 a6 a7 a8 a9 a10 a11 a12 = some r) : Computes cx 12 [.agg [.v (.string a0), I a1, I a2, I a3, I a4, I a5, I a6, I a7, I a8, I a9], .agg [I a10, I a11, I a12]] (.tup [.lst false 2 r.1, I r.2]) := by
  unfold F_field_Shadow at h
  obtain ⟨t1, h1, h⟩ := bnd_of h
  obtain ⟨t2, h2, h⟩ := bnd_of h
  obtain ⟨t3, h3, h⟩ := bnd_of h
  obtain ⟨t4, h4, h⟩ := bnd_of h
  by_cases h5 : t4 = 0
  · replace h := ite_t h h5
    obtain ⟨t6, h6, h⟩ := bnd_of h
    obtain ⟨t7, h7, h⟩ := bnd_of h
    obtain ⟨t8, h8, h⟩ := bnd_of h
    obtain ⟨t9, h9, h⟩ := bnd_of h
    obtain ⟨t10, h10, h⟩ := bnd_of h
    obtain ⟨t11, h11, h⟩ := bnd_of h
    obtain ⟨t12, h12, h⟩ := bnd_of h
    obtain ⟨t13, h13, h⟩ := bnd_of h
    obtain ⟨t14, h14, h⟩ := bnd_of h
    obtain ⟨t15, h15, h⟩ := bnd_of h
    obtain ⟨t16, h16, h⟩ := bnd_of h
    obtain ⟨t17, h17, h⟩ := bnd_of h
    by_cases h18 : (((t9.1 == 0) && ((t9.2.1 == 0) && ((t9.2.2 == 0) && true))) && (((t12.1 == 0) && ((t12.2.1 == 0) && ((t12.2.2 == 0) && true))) && (((t15.1 == 0) && ((t15.2.1 == 0) && ((t15.2.2 == 0) && true))) && (((t17.1 == 0) && ((t17.2.1 == 0) && ((t17.2.2 == 0) && true))) && true)))) = true
    · replace h := ite_t h h18
      replace h := Option.some.inj h
      subst h
      exact (run (n := 100) (f := 12) (args := [.agg [.v (.string a0), I a1, I a2, I a3, I a4, I a5, I a6, I a7, I a8, I a9], .agg [I a10, I a11, I a12]]) (orc := [.ret (I t1), .ret (I t2), .ret (I t3), .ret (I t4), .br false, .br true, .no, .no, .ret (.agg [I t6.1, I t6.2.1, I t6.2.2]), .ret (.agg [I t7.1, I t7.2.1, I t7.2.2]), .ret (.agg [I t8.1, I t8.2.1, I t8.2.2]), .ret (.agg [I t9.1, I t9.2.1, I t9.2.2]), .no, .no, .ret (.agg [I t10.1, I t10.2.1, I t10.2.2]), .ret (.agg [I t7.1, I t7.2.1, I t7.2.2]), .ret (.agg [I t11.1, I t11.2.1, I t11.2.2]), .ret (.agg [I t12.1, I t12.2.1, I t12.2.2]), .no, .no, .ret (.agg [I t10.1, I t10.2.1, I t10.2.2]), .ret (.agg [I t13.1, I t13.2.1, I t13.2.2]), .ret (.agg [I t14.1, I t14.2.1, I t14.2.2]), .ret (.agg [I t15.1, I t15.2.1, I t15.2.2]), .no, .no, .ret (.agg [I t6.1, I t6.2.1, I t6.2.2]), .ret (.agg [I t13.1, I t13.2.1, I t13.2.2]), .ret (.agg [I t16.1, I t16.2.1, I t16.2.2]), .ret (.agg [I t17.1, I t17.2.1, I t17.2.2]), .no, .no, .br true]) (r := .tup [.lst true 0 [], I 17]) (ob := [(((t9.1 == 0) && ((t9.2.1 == 0) && ((t9.2.2 == 0) && true))) && (((t12.1 == 0) && ((t12.2.1 == 0) && ((t12.2.2 == 0) && true))) && (((t15.1 == 0) && ((t15.2.1 == 0) && ((t15.2.2 == 0) && true))) && (((t17.1 == 0) && ((t17.2.1 == 0) && ((t17.2.2 == 0) && true))) && true)))) = true, inI64 4, Computes cx 89 [.agg [I a1, I a2, I a3], .agg [I t16.1, I t16.2.1, I t16.2.2]] (.agg [I t17.1, I t17.2.1, I t17.2.2]), Computes cx 89 [.agg [I t6.1, I t6.2.1, I t6.2.2], .agg [I t13.1, I t13.2.1, I t13.2.2]] (.agg [I t16.1, I t16.2.1, I t16.2.2]), Computes cx 90 [I 1, .agg [I a7, I a8, I a9]] (.agg [I t13.1, I t13.2.1, I t13.2.2]), Computes cx 90 [I (-1), .agg [I a4, I a5, I a6]] (.agg [I t6.1, I t6.2.1, I t6.2.2]), inI64 3, Computes cx 89 [.agg [I a1, I a2, I a3], .agg [I t14.1, I t14.2.1, I t14.2.2]] (.agg [I t15.1, I t15.2.1, I t15.2.2]), Computes cx 89 [.agg [I t10.1, I t10.2.1, I t10.2.2], .agg [I t13.1, I t13.2.1, I t13.2.2]] (.agg [I t14.1, I t14.2.1, I t14.2.2]), Computes cx 90 [I 1, .agg [I a7, I a8, I a9]] (.agg [I t13.1, I t13.2.1, I t13.2.2]), Computes cx 90 [I 1, .agg [I a4, I a5, I a6]] (.agg [I t10.1, I t10.2.1, I t10.2.2]), inI64 2, Computes cx 89 [.agg [I a1, I a2, I a3], .agg [I t11.1, I t11.2.1, I t11.2.2]] (.agg [I t12.1, I t12.2.1, I t12.2.2]), Computes cx 89 [.agg [I t10.1, I t10.2.1, I t10.2.2], .agg [I t7.1, I t7.2.1, I t7.2.2]] (.agg [I t11.1, I t11.2.1, I t11.2.2]), Computes cx 90 [I (-1), .agg [I a7, I a8, I a9]] (.agg [I t7.1, I t7.2.1, I t7.2.2]), Computes cx 90 [I 1, .agg [I a4, I a5, I a6]] (.agg [I t10.1, I t10.2.1, I t10.2.2]), inI64 1, Computes cx 89 [.agg [I a1, I a2, I a3], .agg [I t8.1, I t8.2.1, I t8.2.2]] (.agg [I t9.1, I t9.2.1, I t9.2.2]), Computes cx 89 [.agg [I t6.1, I t6.2.1, I t6.2.2], .agg [I t7.1, I t7.2.1, I t7.2.2]] (.agg [I t8.1, I t8.2.1, I t8.2.2]), Computes cx 90 [I (-1), .agg [I a7, I a8, I a9]] (.agg [I t7.1, I t7.2.1, I t7.2.2]), Computes cx 90 [I (-1), .agg [I a4, I a5, I a6]] (.agg [I t6.1, I t6.2.1, I t6.2.2]), (t4 != 0) = false, Computes cx 59 [.lst true 1 [I t1, I t2, I t3]] (I t4), Computes cx 66 [B (decide (a12 < 1)), I 21] (I t3), Computes cx 61 [.agg [I a10, I a11, I a12], I 1024] (I t2), Computes cx 60 [.agg [.v (.string a0), I a1, I a2, I a3, I a4, I a5, I a6, I a7, I a8, I a9]] (I t1)]) (by kernel_rfl) ⟨h18, (by unfold inI64; omega), (c_field_plus h17), (c_field_plus h16), (c_field_times h13), (c_field_times h6), (by unfold inI64; omega), (c_field_plus h15), (c_field_plus h14), (c_field_times h13), (c_field_times h10), (by unfold inI64; omega), (c_field_plus h12), (c_field_plus h11), (c_field_times h7), (c_field_times h10), (by unfold inI64; omega), (c_field_plus h9), (c_field_plus h8), (c_field_times h7), (c_field_times h6), (nef h5), ((c_field_first h4).le (.cons (.full _ _ _) (.nil)) (.refl _)), (c_field_when h3), (c_field_checkDirection h2), (c_field_Mirror_check h1), trivial⟩).le (LEs.refl _) (.tups (.cons (.lst _ _ _ _ _ nofun (.inl rfl)) (.cons (.refl _) (.nil))))
    · replace h := ite_f h h18
      obtain ⟨h19, h⟩ := grd_of h
      obtain ⟨h20, h⟩ := grd_of h
      obtain ⟨h21, h⟩ := grd_of h
      obtain ⟨h22, h⟩ := grd_of h
      obtain ⟨h23, h⟩ := grd_of h
      obtain ⟨h24, h⟩ := grd_of h
      obtain ⟨h25, h⟩ := grd_of h
      obtain ⟨h26, h⟩ := grd_of h
      obtain ⟨h27, h⟩ := grd_of h
      obtain ⟨h28, h⟩ := grd_of h
      obtain ⟨h29, h⟩ := grd_of h
      obtain ⟨h30, h⟩ := grd_of h
      obtain ⟨h31, h⟩ := grd_of h
      obtain ⟨h32, h⟩ := grd_of h
      obtain ⟨h33, h⟩ := grd_of h
      obtain ⟨h34, h⟩ := grd_of h
      obtain ⟨h35, h⟩ := grd_of h
      obtain ⟨h36, h⟩ := grd_of h
      obtain ⟨h37, h⟩ := grd_of h
      obtain ⟨h38, h⟩ := grd_of h
      obtain ⟨h39, h⟩ := grd_of h
      obtain ⟨h40, h⟩ := grd_of h
      obtain ⟨h41, h⟩ := grd_of h
      obtain ⟨h42, h⟩ := grd_of h
      obtain ⟨t43, h43, h⟩ := bnd_of h
      by_cases h44 : t43 = 0
      · replace h := ite_t h h44
        replace h := Option.some.inj h
        subst h
        exact (run (n := 100) (f := 12) (args := [.agg [.v (.string a0), I a1, I a2, I a3, I a4, I a5, I a6, I a7, I a8, I a9], .agg [I a10, I a11, I a12]]) (orc := [.ret (I t1), .ret (I t2), .ret (I t3), .ret (I t4), .br false, .br true, .no, .no, .ret (.agg [I t6.1, I t6.2.1, I t6.2.2]), .ret (.agg [I t7.1, I t7.2.1, I t7.2.2]), .ret (.agg [I t8.1, I t8.2.1, I t8.2.2]), .ret (.agg [I t9.1, I t9.2.1, I t9.2.2]), .no, .no, .ret (.agg [I t10.1, I t10.2.1, I t10.2.2]), .ret (.agg [I t7.1, I t7.2.1, I t7.2.2]), .ret (.agg [I t11.1, I t11.2.1, I t11.2.2]), .ret (.agg [I t12.1, I t12.2.1, I t12.2.2]), .no, .no, .ret (.agg [I t10.1, I t10.2.1, I t10.2.2]), .ret (.agg [I t13.1, I t13.2.1, I t13.2.2]), .ret (.agg [I t14.1, I t14.2.1, I t14.2.2]), .ret (.agg [I t15.1, I t15.2.1, I t15.2.2]), .no, .no, .ret (.agg [I t6.1, I t6.2.1, I t6.2.2]), .ret (.agg [I t13.1, I t13.2.1, I t13.2.2]), .ret (.agg [I t16.1, I t16.2.1, I t16.2.2]), .ret (.agg [I t17.1, I t17.2.1, I t17.2.2]), .no, .no, .br false, .br true, .no, .no, .no, .br true, .no, .no, .no, .no, .no, .br true, .no, .no, .no, .no, .br true, .no, .no, .no, .no, .br true, .no, .no, .no, .no, .no, .no, .no, .no, .no, .ret (I t43), .br true]) (r := .tup [.lst true 0 [], I 17]) (ob := [(t43 == 0) = true, Computes cx 70 [.agg [I ((t9.1 * a12) - (t9.2.2 * a10)), I ((t9.2.1 * a12) - (t9.2.2 * a11))], .agg [I ((t12.1 * a12) - (t12.2.2 * a10)), I ((t12.2.1 * a12) - (t12.2.2 * a11))], .agg [I ((t15.1 * a12) - (t15.2.2 * a10)), I ((t15.2.1 * a12) - (t15.2.2 * a11))]] (I t43), inI64 4, inI64 ((t17.2.1 * a12) - (t17.2.2 * a11)), inI64 (t17.2.2 * a11), inI64 (t17.2.1 * a12), inI64 ((t17.1 * a12) - (t17.2.2 * a10)), inI64 (t17.2.2 * a10), inI64 (t17.1 * a12), inI64 3, inI64 ((t15.2.1 * a12) - (t15.2.2 * a11)), inI64 (t15.2.2 * a11), inI64 (t15.2.1 * a12), inI64 ((t15.1 * a12) - (t15.2.2 * a10)), inI64 (t15.2.2 * a10), inI64 (t15.1 * a12), inI64 2, inI64 ((t12.2.1 * a12) - (t12.2.2 * a11)), inI64 (t12.2.2 * a11), inI64 (t12.2.1 * a12), inI64 ((t12.1 * a12) - (t12.2.2 * a10)), inI64 (t12.2.2 * a10), inI64 (t12.1 * a12), inI64 1, inI64 ((t9.2.1 * a12) - (t9.2.2 * a11)), inI64 (t9.2.2 * a11), inI64 (t9.2.1 * a12), inI64 ((t9.1 * a12) - (t9.2.2 * a10)), inI64 (t9.2.2 * a10), inI64 (t9.1 * a12), (((t9.1 == 0) && ((t9.2.1 == 0) && ((t9.2.2 == 0) && true))) && (((t12.1 == 0) && ((t12.2.1 == 0) && ((t12.2.2 == 0) && true))) && (((t15.1 == 0) && ((t15.2.1 == 0) && ((t15.2.2 == 0) && true))) && (((t17.1 == 0) && ((t17.2.1 == 0) && ((t17.2.2 == 0) && true))) && true)))) = false, inI64 4, Computes cx 89 [.agg [I a1, I a2, I a3], .agg [I t16.1, I t16.2.1, I t16.2.2]] (.agg [I t17.1, I t17.2.1, I t17.2.2]), Computes cx 89 [.agg [I t6.1, I t6.2.1, I t6.2.2], .agg [I t13.1, I t13.2.1, I t13.2.2]] (.agg [I t16.1, I t16.2.1, I t16.2.2]), Computes cx 90 [I 1, .agg [I a7, I a8, I a9]] (.agg [I t13.1, I t13.2.1, I t13.2.2]), Computes cx 90 [I (-1), .agg [I a4, I a5, I a6]] (.agg [I t6.1, I t6.2.1, I t6.2.2]), inI64 3, Computes cx 89 [.agg [I a1, I a2, I a3], .agg [I t14.1, I t14.2.1, I t14.2.2]] (.agg [I t15.1, I t15.2.1, I t15.2.2]), Computes cx 89 [.agg [I t10.1, I t10.2.1, I t10.2.2], .agg [I t13.1, I t13.2.1, I t13.2.2]] (.agg [I t14.1, I t14.2.1, I t14.2.2]), Computes cx 90 [I 1, .agg [I a7, I a8, I a9]] (.agg [I t13.1, I t13.2.1, I t13.2.2]), Computes cx 90 [I 1, .agg [I a4, I a5, I a6]] (.agg [I t10.1, I t10.2.1, I t10.2.2]), inI64 2, Computes cx 89 [.agg [I a1, I a2, I a3], .agg [I t11.1, I t11.2.1, I t11.2.2]] (.agg [I t12.1, I t12.2.1, I t12.2.2]), Computes cx 89 [.agg [I t10.1, I t10.2.1, I t10.2.2], .agg [I t7.1, I t7.2.1, I t7.2.2]] (.agg [I t11.1, I t11.2.1, I t11.2.2]), Computes cx 90 [I (-1), .agg [I a7, I a8, I a9]] (.agg [I t7.1, I t7.2.1, I t7.2.2]), Computes cx 90 [I 1, .agg [I a4, I a5, I a6]] (.agg [I t10.1, I t10.2.1, I t10.2.2]), inI64 1, Computes cx 89 [.agg [I a1, I a2, I a3], .agg [I t8.1, I t8.2.1, I t8.2.2]] (.agg [I t9.1, I t9.2.1, I t9.2.2]), Computes cx 89 [.agg [I t6.1, I t6.2.1, I t6.2.2], .agg [I t7.1, I t7.2.1, I t7.2.2]] (.agg [I t8.1, I t8.2.1, I t8.2.2]), Computes cx 90 [I (-1), .agg [I a7, I a8, I a9]] (.agg [I t7.1, I t7.2.1, I t7.2.2]), Computes cx 90 [I (-1), .agg [I a4, I a5, I a6]] (.agg [I t6.1, I t6.2.1, I t6.2.2]), (t4 != 0) = false, Computes cx 59 [.lst true 1 [I t1, I t2, I t3]] (I t4), Computes cx 66 [B (decide (a12 < 1)), I 21] (I t3), Computes cx 61 [.agg [I a10, I a11, I a12], I 1024] (I t2), Computes cx 60 [.agg [.v (.string a0), I a1, I a2, I a3, I a4, I a5, I a6, I a7, I a8, I a9]] (I t1)]) (by kernel_rfl) ⟨(eqt h44), (c_field_left h43), (by unfold inI64; omega), h42, h41, h40, h39, h38, h37, (by unfold inI64; omega), h36, h35, h34, h33, h32, h31, (by unfold inI64; omega), h30, h29, h28, h27, h26, h25, (by unfold inI64; omega), h24, h23, h22, h21, h20, h19, (bfalse h18), (by unfold inI64; omega), (c_field_plus h17), (c_field_plus h16), (c_field_times h13), (c_field_times h6), (by unfold inI64; omega), (c_field_plus h15), (c_field_plus h14), (c_field_times h13), (c_field_times h10), (by unfold inI64; omega), (c_field_plus h12), (c_field_plus h11), (c_field_times h7), (c_field_times h10), (by unfold inI64; omega), (c_field_plus h9), (c_field_plus h8), (c_field_times h7), (c_field_times h6), (nef h5), ((c_field_first h4).le (.cons (.full _ _ _) (.nil)) (.refl _)), (c_field_when h3), (c_field_checkDirection h2), (c_field_Mirror_check h1), trivial⟩).le (LEs.refl _) (.tups (.cons (.lst _ _ _ _ _ nofun (.inl rfl)) (.cons (.refl _) (.nil))))
      · replace h := ite_f h h44
        by_cases h45 : t43 < 0
        · replace h := ite_t h h45
          replace h := Option.some.inj h
          subst h
          exact run (n := 100) (f := 12) (args := [.agg [.v (.string a0), I a1, I a2, I a3, I a4, I a5, I a6, I a7, I a8, I a9], .agg [I a10, I a11, I a12]]) (orc := [.ret (I t1), .ret (I t2), .ret (I t3), .ret (I t4), .br false, .br true, .no, .no, .ret (.agg [I t6.1, I t6.2.1, I t6.2.2]), .ret (.agg [I t7.1, I t7.2.1, I t7.2.2]), .ret (.agg [I t8.1, I t8.2.1, I t8.2.2]), .ret (.agg [I t9.1, I t9.2.1, I t9.2.2]), .no, .no, .ret (.agg [I t10.1, I t10.2.1, I t10.2.2]), .ret (.agg [I t7.1, I t7.2.1, I t7.2.2]), .ret (.agg [I t11.1, I t11.2.1, I t11.2.2]), .ret (.agg [I t12.1, I t12.2.1, I t12.2.2]), .no, .no, .ret (.agg [I t10.1, I t10.2.1, I t10.2.2]), .ret (.agg [I t13.1, I t13.2.1, I t13.2.2]), .ret (.agg [I t14.1, I t14.2.1, I t14.2.2]), .ret (.agg [I t15.1, I t15.2.1, I t15.2.2]), .no, .no, .ret (.agg [I t6.1, I t6.2.1, I t6.2.2]), .ret (.agg [I t13.1, I t13.2.1, I t13.2.2]), .ret (.agg [I t16.1, I t16.2.1, I t16.2.2]), .ret (.agg [I t17.1, I t17.2.1, I t17.2.2]), .no, .no, .br false, .br true, .no, .no, .no, .br true, .no, .no, .no, .no, .no, .br true, .no, .no, .no, .no, .br true, .no, .no, .no, .no, .br true, .no, .no, .no, .no, .no, .no, .no, .no, .no, .ret (I t43), .br false, .br true, .ix 0, .br true, .no, .no, .no, .no, .no, .no, .no, .no]) (r := .tup [.lst false 2 [.agg [I ((t9.1 * a12) - (t9.2.2 * a10)), I ((t9.2.1 * a12) - (t9.2.2 * a11))], .agg [I ((t17.1 * a12) - (t17.2.2 * a10)), I ((t17.2.1 * a12) - (t17.2.2 * a11))], .agg [I ((t15.1 * a12) - (t15.2.2 * a10)), I ((t15.2.1 * a12) - (t15.2.2 * a11))], .agg [I ((t12.1 * a12) - (t12.2.2 * a10)), I ((t12.2.1 * a12) - (t12.2.2 * a11))]], I 0]) (ob := [inI64 1, inI64 1, inI64 2, (decide (t43 < 0)) = true, (t43 == 0) = false, Computes cx 70 [.agg [I ((t9.1 * a12) - (t9.2.2 * a10)), I ((t9.2.1 * a12) - (t9.2.2 * a11))], .agg [I ((t12.1 * a12) - (t12.2.2 * a10)), I ((t12.2.1 * a12) - (t12.2.2 * a11))], .agg [I ((t15.1 * a12) - (t15.2.2 * a10)), I ((t15.2.1 * a12) - (t15.2.2 * a11))]] (I t43), inI64 4, inI64 ((t17.2.1 * a12) - (t17.2.2 * a11)), inI64 (t17.2.2 * a11), inI64 (t17.2.1 * a12), inI64 ((t17.1 * a12) - (t17.2.2 * a10)), inI64 (t17.2.2 * a10), inI64 (t17.1 * a12), inI64 3, inI64 ((t15.2.1 * a12) - (t15.2.2 * a11)), inI64 (t15.2.2 * a11), inI64 (t15.2.1 * a12), inI64 ((t15.1 * a12) - (t15.2.2 * a10)), inI64 (t15.2.2 * a10), inI64 (t15.1 * a12), inI64 2, inI64 ((t12.2.1 * a12) - (t12.2.2 * a11)), inI64 (t12.2.2 * a11), inI64 (t12.2.1 * a12), inI64 ((t12.1 * a12) - (t12.2.2 * a10)), inI64 (t12.2.2 * a10), inI64 (t12.1 * a12), inI64 1, inI64 ((t9.2.1 * a12) - (t9.2.2 * a11)), inI64 (t9.2.2 * a11), inI64 (t9.2.1 * a12), inI64 ((t9.1 * a12) - (t9.2.2 * a10)), inI64 (t9.2.2 * a10), inI64 (t9.1 * a12), (((t9.1 == 0) && ((t9.2.1 == 0) && ((t9.2.2 == 0) && true))) && (((t12.1 == 0) && ((t12.2.1 == 0) && ((t12.2.2 == 0) && true))) && (((t15.1 == 0) && ((t15.2.1 == 0) && ((t15.2.2 == 0) && true))) && (((t17.1 == 0) && ((t17.2.1 == 0) && ((t17.2.2 == 0) && true))) && true)))) = false, inI64 4, Computes cx 89 [.agg [I a1, I a2, I a3], .agg [I t16.1, I t16.2.1, I t16.2.2]] (.agg [I t17.1, I t17.2.1, I t17.2.2]), Computes cx 89 [.agg [I t6.1, I t6.2.1, I t6.2.2], .agg [I t13.1, I t13.2.1, I t13.2.2]] (.agg [I t16.1, I t16.2.1, I t16.2.2]), Computes cx 90 [I 1, .agg [I a7, I a8, I a9]] (.agg [I t13.1, I t13.2.1, I t13.2.2]), Computes cx 90 [I (-1), .agg [I a4, I a5, I a6]] (.agg [I t6.1, I t6.2.1, I t6.2.2]), inI64 3, Computes cx 89 [.agg [I a1, I a2, I a3], .agg [I t14.1, I t14.2.1, I t14.2.2]] (.agg [I t15.1, I t15.2.1, I t15.2.2]), Computes cx 89 [.agg [I t10.1, I t10.2.1, I t10.2.2], .agg [I t13.1, I t13.2.1, I t13.2.2]] (.agg [I t14.1, I t14.2.1, I t14.2.2]), Computes cx 90 [I 1, .agg [I a7, I a8, I a9]] (.agg [I t13.1, I t13.2.1, I t13.2.2]), Computes cx 90 [I 1, .agg [I a4, I a5, I a6]] (.agg [I t10.1, I t10.2.1, I t10.2.2]), inI64 2, Computes cx 89 [.agg [I a1, I a2, I a3], .agg [I t11.1, I t11.2.1, I t11.2.2]] (.agg [I t12.1, I t12.2.1, I t12.2.2]), Computes cx 89 [.agg [I t10.1, I t10.2.1, I t10.2.2], .agg [I t7.1, I t7.2.1, I t7.2.2]] (.agg [I t11.1, I t11.2.1, I t11.2.2]), Computes cx 90 [I (-1), .agg [I a7, I a8, I a9]] (.agg [I t7.1, I t7.2.1, I t7.2.2]), Computes cx 90 [I 1, .agg [I a4, I a5, I a6]] (.agg [I t10.1, I t10.2.1, I t10.2.2]), inI64 1, Computes cx 89 [.agg [I a1, I a2, I a3], .agg [I t8.1, I t8.2.1, I t8.2.2]] (.agg [I t9.1, I t9.2.1, I t9.2.2]), Computes cx 89 [.agg [I t6.1, I t6.2.1, I t6.2.2], .agg [I t7.1, I t7.2.1, I t7.2.2]] (.agg [I t8.1, I t8.2.1, I t8.2.2]), Computes cx 90 [I (-1), .agg [I a7, I a8, I a9]] (.agg [I t7.1, I t7.2.1, I t7.2.2]), Computes cx 90 [I (-1), .agg [I a4, I a5, I a6]] (.agg [I t6.1, I t6.2.1, I t6.2.2]), (t4 != 0) = false, Computes cx 59 [.lst true 1 [I t1, I t2, I t3]] (I t4), Computes cx 66 [B (decide (a12 < 1)), I 21] (I t3), Computes cx 61 [.agg [I a10, I a11, I a12], I 1024] (I t2), Computes cx 60 [.agg [.v (.string a0), I a1, I a2, I a3, I a4, I a5, I a6, I a7, I a8, I a9]] (I t1)]) (by kernel_rfl) ⟨(by unfold inI64; omega), (by unfold inI64; omega), (by unfold inI64; omega), (decide_eq_true h45), (eqf h44), (c_field_left h43), (by unfold inI64; omega), h42, h41, h40, h39, h38, h37, (by unfold inI64; omega), h36, h35, h34, h33, h32, h31, (by unfold inI64; omega), h30, h29, h28, h27, h26, h25, (by unfold inI64; omega), h24, h23, h22, h21, h20, h19, (bfalse h18), (by unfold inI64; omega), (c_field_plus h17), (c_field_plus h16), (c_field_times h13), (c_field_times h6), (by unfold inI64; omega), (c_field_plus h15), (c_field_plus h14), (c_field_times h13), (c_field_times h10), (by unfold inI64; omega), (c_field_plus h12), (c_field_plus h11), (c_field_times h7), (c_field_times h10), (by unfold inI64; omega), (c_field_plus h9), (c_field_plus h8), (c_field_times h7), (c_field_times h6), (nef h5), ((c_field_first h4).le (.cons (.full _ _ _) (.nil)) (.refl _)), (c_field_when h3), (c_field_checkDirection h2), (c_field_Mirror_check h1), trivial⟩
        · replace h := ite_f h h45
          replace h := Option.some.inj h
          subst h
          exact run (n := 100) (f := 12) (args := [.agg [.v (.string a0), I a1, I a2, I a3, I a4, I a5, I a6, I a7, I a8, I a9], .agg [I a10, I a11, I a12]]) (orc := [.ret (I t1), .ret (I t2), .ret (I t3), .ret (I t4), .br false, .br true, .no, .no, .ret (.agg [I t6.1, I t6.2.1, I t6.2.2]), .ret (.agg [I t7.1, I t7.2.1, I t7.2.2]), .ret (.agg [I t8.1, I t8.2.1, I t8.2.2]), .ret (.agg [I t9.1, I t9.2.1, I t9.2.2]), .no, .no, .ret (.agg [I t10.1, I t10.2.1, I t10.2.2]), .ret (.agg [I t7.1, I t7.2.1, I t7.2.2]), .ret (.agg [I t11.1, I t11.2.1, I t11.2.2]), .ret (.agg [I t12.1, I t12.2.1, I t12.2.2]), .no, .no, .ret (.agg [I t10.1, I t10.2.1, I t10.2.2]), .ret (.agg [I t13.1, I t13.2.1, I t13.2.2]), .ret (.agg [I t14.1, I t14.2.1, I t14.2.2]), .ret (.agg [I t15.1, I t15.2.1, I t15.2.2]), .no, .no, .ret (.agg [I t6.1, I t6.2.1, I t6.2.2]), .ret (.agg [I t13.1, I t13.2.1, I t13.2.2]), .ret (.agg [I t16.1, I t16.2.1, I t16.2.2]), .ret (.agg [I t17.1, I t17.2.1, I t17.2.2]), .no, .no, .br false, .br true, .no, .no, .no, .br true, .no, .no, .no, .no, .no, .br true, .no, .no, .no, .no, .br true, .no, .no, .no, .no, .br true, .no, .no, .no, .no, .no, .no, .no, .no, .no, .ret (I t43), .br false, .br false]) (r := .tup [.lst false 2 [.agg [I ((t9.1 * a12) - (t9.2.2 * a10)), I ((t9.2.1 * a12) - (t9.2.2 * a11))], .agg [I ((t12.1 * a12) - (t12.2.2 * a10)), I ((t12.2.1 * a12) - (t12.2.2 * a11))], .agg [I ((t15.1 * a12) - (t15.2.2 * a10)), I ((t15.2.1 * a12) - (t15.2.2 * a11))], .agg [I ((t17.1 * a12) - (t17.2.2 * a10)), I ((t17.2.1 * a12) - (t17.2.2 * a11))]], I 0]) (ob := [(decide (t43 < 0)) = false, (t43 == 0) = false, Computes cx 70 [.agg [I ((t9.1 * a12) - (t9.2.2 * a10)), I ((t9.2.1 * a12) - (t9.2.2 * a11))], .agg [I ((t12.1 * a12) - (t12.2.2 * a10)), I ((t12.2.1 * a12) - (t12.2.2 * a11))], .agg [I ((t15.1 * a12) - (t15.2.2 * a10)), I ((t15.2.1 * a12) - (t15.2.2 * a11))]] (I t43), inI64 4, inI64 ((t17.2.1 * a12) - (t17.2.2 * a11)), inI64 (t17.2.2 * a11), inI64 (t17.2.1 * a12), inI64 ((t17.1 * a12) - (t17.2.2 * a10)), inI64 (t17.2.2 * a10), inI64 (t17.1 * a12), inI64 3, inI64 ((t15.2.1 * a12) - (t15.2.2 * a11)), inI64 (t15.2.2 * a11), inI64 (t15.2.1 * a12), inI64 ((t15.1 * a12) - (t15.2.2 * a10)), inI64 (t15.2.2 * a10), inI64 (t15.1 * a12), inI64 2, inI64 ((t12.2.1 * a12) - (t12.2.2 * a11)), inI64 (t12.2.2 * a11), inI64 (t12.2.1 * a12), inI64 ((t12.1 * a12) - (t12.2.2 * a10)), inI64 (t12.2.2 * a10), inI64 (t12.1 * a12), inI64 1, inI64 ((t9.2.1 * a12) - (t9.2.2 * a11)), inI64 (t9.2.2 * a11), inI64 (t9.2.1 * a12), inI64 ((t9.1 * a12) - (t9.2.2 * a10)), inI64 (t9.2.2 * a10), inI64 (t9.1 * a12), (((t9.1 == 0) && ((t9.2.1 == 0) && ((t9.2.2 == 0) && true))) && (((t12.1 == 0) && ((t12.2.1 == 0) && ((t12.2.2 == 0) && true))) && (((t15.1 == 0) && ((t15.2.1 == 0) && ((t15.2.2 == 0) && true))) && (((t17.1 == 0) && ((t17.2.1 == 0) && ((t17.2.2 == 0) && true))) && true)))) = false, inI64 4, Computes cx 89 [.agg [I a1, I a2, I a3], .agg [I t16.1, I t16.2.1, I t16.2.2]] (.agg [I t17.1, I t17.2.1, I t17.2.2]), Computes cx 89 [.agg [I t6.1, I t6.2.1, I t6.2.2], .agg [I t13.1, I t13.2.1, I t13.2.2]] (.agg [I t16.1, I t16.2.1, I t16.2.2]), Computes cx 90 [I 1, .agg [I a7, I a8, I a9]] (.agg [I t13.1, I t13.2.1, I t13.2.2]), Computes cx 90 [I (-1), .agg [I a4, I a5, I a6]] (.agg [I t6.1, I t6.2.1, I t6.2.2]), inI64 3, Computes cx 89 [.agg [I a1, I a2, I a3], .agg [I t14.1, I t14.2.1, I t14.2.2]] (.agg [I t15.1, I t15.2.1, I t15.2.2]), Computes cx 89 [.agg [I t10.1, I t10.2.1, I t10.2.2], .agg [I t13.1, I t13.2.1, I t13.2.2]] (.agg [I t14.1, I t14.2.1, I t14.2.2]), Computes cx 90 [I 1, .agg [I a7, I a8, I a9]] (.agg [I t13.1, I t13.2.1, I t13.2.2]), Computes cx 90 [I 1, .agg [I a4, I a5, I a6]] (.agg [I t10.1, I t10.2.1, I t10.2.2]), inI64 2, Computes cx 89 [.agg [I a1, I a2, I a3], .agg [I t11.1, I t11.2.1, I t11.2.2]] (.agg [I t12.1, I t12.2.1, I t12.2.2]), Computes cx 89 [.agg [I t10.1, I t10.2.1, I t10.2.2], .agg [I t7.1, I t7.2.1, I t7.2.2]] (.agg [I t11.1, I t11.2.1, I t11.2.2]), Computes cx 90 [I (-1), .agg [I a7, I a8, I a9]] (.agg [I t7.1, I t7.2.1, I t7.2.2]), Computes cx 90 [I 1, .agg [I a4, I a5, I a6]] (.agg [I t10.1, I t10.2.1, I t10.2.2]), inI64 1, Computes cx 89 [.agg [I a1, I a2, I a3], .agg [I t8.1, I t8.2.1, I t8.2.2]] (.agg [I t9.1, I t9.2.1, I t9.2.2]), Computes cx 89 [.agg [I t6.1, I t6.2.1, I t6.2.2], .agg [I t7.1, I t7.2.1, I t7.2.2]] (.agg [I t8.1, I t8.2.1, I t8.2.2]), Computes cx 90 [I (-1), .agg [I a7, I a8, I a9]] (.agg [I t7.1, I t7.2.1, I t7.2.2]), Computes cx 90 [I (-1), .agg [I a4, I a5, I a6]] (.agg [I t6.1, I t6.2.1, I t6.2.2]), (t4 != 0) = false, Computes cx 59 [.lst true 1 [I t1, I t2, I t3]] (I t4), Computes cx 66 [B (decide (a12 < 1)), I 21] (I t3), Computes cx 61 [.agg [I a10, I a11, I a12], I 1024] (I t2), Computes cx 60 [.agg [.v (.string a0), I a1, I a2, I a3, I a4, I a5, I a6, I a7, I a8, I a9]] (I t1)]) (by kernel_rfl) ⟨(decide_eq_false h45), (eqf h44), (c_field_left h43), (by unfold inI64; omega), h42, h41, h40, h39, h38, h37, (by unfold inI64; omega), h36, h35, h34, h33, h32, h31, (by unfold inI64; omega), h30, h29, h28, h27, h26, h25, (by unfold inI64; omega), h24, h23, h22, h21, h20, h19, (bfalse h18), (by unfold inI64; omega), (c_field_plus h17), (c_field_plus h16), (c_field_times h13), (c_field_times h6), (by unfold inI64; omega), (c_field_plus h15), (c_field_plus h14), (c_field_times h13), (c_field_times h10), (by unfold inI64; omega), (c_field_plus h12), (c_field_plus h11), (c_field_times h7), (c_field_times h10), (by unfold inI64; omega), (c_field_plus h9), (c_field_plus h8), (c_field_times h7), (c_field_times h6), (nef h5), ((c_field_first h4).le (.cons (.full _ _ _) (.nil)) (.refl _)), (c_field_when h3), (c_field_checkDirection h2), (c_field_Mirror_check h1), trivial⟩
  · replace h := ite_f h h5
    replace h := Option.some.inj h
    subst h
    exact (run (n := 100) (f := 12) (args := [.agg [.v (.string a0), I a1, I a2, I a3, I a4, I a5, I a6, I a7, I a8, I a9], .agg [I a10, I a11, I a12]]) (orc := [.ret (I t1), .ret (I t2), .ret (I t3), .ret (I t4), .br true]) (r := .tup [.lst true 0 [], I t4]) (ob := [(t4 != 0) = true, Computes cx 59 [.lst true 1 [I t1, I t2, I t3]] (I t4), Computes cx 66 [B (decide (a12 < 1)), I 21] (I t3), Computes cx 61 [.agg [I a10, I a11, I a12], I 1024] (I t2), Computes cx 60 [.agg [.v (.string a0), I a1, I a2, I a3, I a4, I a5, I a6, I a7, I a8, I a9]] (I t1)]) (by kernel_rfl) ⟨(net h5), ((c_field_first h4).le (.cons (.full _ _ _) (.nil)) (.refl _)), (c_field_when h3), (c_field_checkDirection h2), (c_field_Mirror_check h1), trivial⟩).le (LEs.refl _) (.tups (.cons (.lst _ _ _ _ _ nofun (.inl rfl)) (.cons (.refl _) (.nil))))
def enc_Ai2Z (x : Int × Int) : D := .agg [I x.1, I x.2]
def un_Ai2Z : D → Option (Int × Int)
  | .agg [c0, c1] => (un_int .i64 c0).bind fun y0 => (un_int .i64 c1).bind fun y1 => some (y0, y1)
  | _ => none
theorem un_Ai2Z_ok {d : D} {x : Int × Int} (h : un_Ai2Z d = some x) : d = enc_Ai2Z x := by
  unfold un_Ai2Z at h
  split at h
  case h_2 => cases h
  obtain ⟨y0, h0, h⟩ := bnd_of h
  obtain ⟨y1, h1, h⟩ := bnd_of h
  cases h
  have e0 := un_int_ok h0
  have e1 := un_int_ok h1
  rw [e0, e1]; rfl
def F_ref04_CheckPoint (n : Nat) (a0 : Int) (a1 : Int) : Option (Int) :=
 (F_ref01_CheckRange n a0 (-16777216) 16777216).bind fun t1 =>
 (F_ref01_CheckRange n a1 (-16777216) 16777216).bind fun t2 =>
 (F_ref01_First n ([I t1, I t2])).bind fun t3 =>
 some t3
theorem c_ref04_CheckPoint {n : Nat} {a0 : Int} {a1 : Int} {r : Int} (h : F_ref04_CheckPoint n a0 a1 = some r) : Computes cx 36 [.agg [I a0, I a1]] (I r) := by
  unfold F_ref04_CheckPoint at h
  obtain ⟨t1, h1, h⟩ := bnd_of h
  obtain ⟨t2, h2, h⟩ := bnd_of h
  obtain ⟨t3, h3, h⟩ := bnd_of h
  replace h := Option.some.inj h
  subst h
  exact run (n := 100) (f := 36) (args := [.agg [I a0, I a1]]) (orc := [.ret (I t1), .ret (I t2), .ret (I t3)]) (r := I t3) (ob := [Computes cx 13 [.lst true 1 [I t1, I t2]] (I t3), Computes cx 32 [I a1, I (-16777216), I 16777216] (I t2), Computes cx 32 [I a0, I (-16777216), I 16777216] (I t1)]) (by kernel_rfl) ⟨((c_ref01_First h3).le (.cons (.full _ _ _) (.nil)) (.refl _)), (c_ref01_CheckRange h2), (c_ref01_CheckRange h1), trivial⟩
end Go.Proofs.YtojmcpnpojdnmaaGreatDoor
