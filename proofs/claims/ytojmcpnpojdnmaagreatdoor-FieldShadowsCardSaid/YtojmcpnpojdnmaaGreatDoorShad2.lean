/-
  Printed by gsx.py: functions of the program as Lean functions, and that the code computes them.
-/
import Derived.Test.YtojmcpnpojdnmaaGreatDoorShad1
set_option linter.unusedVariables false
set_option maxRecDepth 10000
namespace Go.Proofs.YtojmcpnpojdnmaaGreatDoor
open Go.SX
def F_field_Facets_L3 (n : Nat) (a0 : ByteArray) (a1 : Int) (a2 : Int) (a3 : Int) (a4 : Int) (a5 : Int) (a6 : Int) (a7 : Int) (a8 : Int) (a9 : Int) (a10 : Int) (sa : Int × List D) (sb : (Int × List D)) : Option (((Int × List D)) ⊕ ((List D))) :=
 if sb.1 < a10 then
  (F_field_times n a10 a1 a2 a3).bind fun tb2 =>
  if inI64 (2 * sb.1) then
  if inI64 ((2 * sb.1) + 1) then
  if inI64 (((2 * sb.1) + 1) - a10) then
  (F_field_times n (((2 * sb.1) + 1) - a10) a4 a5 a6).bind fun tb6 =>
  if inI64 (2 * sa.1) then
  if inI64 ((2 * sa.1) + 1) then
  if inI64 (((2 * sa.1) + 1) - a10) then
  (F_field_times n (((2 * sa.1) + 1) - a10) a7 a8 a9).bind fun tb10 =>
  (F_field_plus n tb6.1 tb6.2.1 tb6.2.2 tb10.1 tb10.2.1 tb10.2.2).bind fun tb11 =>
  (F_field_plus n tb2.1 tb2.2.1 tb2.2.2 tb11.1 tb11.2.1 tb11.2.2).bind fun tb12 =>
  if inI64 (sa.1 * a10) then
  if inI64 ((sa.1 * a10) + sb.1) then
  if roomP 32 ((sb.2).length + 1) then
  if inI64 (sb.1 + 1) then
  some (.inl ((sb.1 + 1), (sb.2 ++ ([.agg [I ((sa.1 * a10) + sb.1), I tb12.1, I tb12.2.1, I tb12.2.2]] : List D))))
  else none
  else none
  else none
  else none
  else none
  else none
  else none
  else none
  else none
  else none
 else
 some (.inr sb.2)
noncomputable def T_field_Facets_L3 (a0 : ByteArray) (a1 : Int) (a2 : Int) (a3 : Int) (a4 : Int) (a5 : Int) (a6 : Int) (a7 : Int) (a8 : Int) (a9 : Int) (a10 : Int) (sa : Int × List D) (sb : (Int × List D)) : List (Nat × AV) := [(0, .own 31 0), (1, .ptr 20 0 0 0 0), (2, .ptr 19 0 0 0 0), (4, .d (I sa.1)), (7, .d (I a10)), (8, .d (I sa.1)), (11, .d (I a10)), (12, .d (I sb.1))]
noncomputable def H_field_Facets_L3 (a0 : ByteArray) (a1 : Int) (a2 : Int) (a3 : Int) (a4 : Int) (a5 : Int) (a6 : Int) (a7 : Int) (a8 : Int) (a9 : Int) (a10 : Int) (sa : Int × List D) (sb : (Int × List D)) : List (Nat × Blk) := [(0, .box (.d (.agg [.v (.string a0), I a1, I a2, I a3, I a4, I a5, I a6, I a7, I a8, I a9]))), (19, .box (.d (.agg [.v (.string a0), I a1, I a2, I a3, I a4, I a5, I a6, I a7, I a8, I a9]))), (20, .box (.d (I a10))), (28, .box (.own 81 0)), (31, .loop true [(6, .fn (.func 137) [] [.ptr 20 0 0 0 0, .ptr 19 0 0 0 0]), (4, .d (.lst true 0 [])), (2, .ptr 28 0 0 0 0), (1, .fn (.func 137) [] [.ptr 20 0 0 0 0, .ptr 19 0 0 0 0]), (0, .d (.lst true 0 []))] [7] (rangeAt cx.P 136 0).1 (rangeAt cx.P 136 0).2 13), (81, .row 0 4 sb.2)]
noncomputable def X_field_Facets_L3 (a0 : ByteArray) (a1 : Int) (a2 : Int) (a3 : Int) (a4 : Int) (a5 : Int) (a6 : Int) (a7 : Int) (a8 : Int) (a9 : Int) (a10 : Int) (sa : Int × List D) (e : (List D)) : Ex := (.exit 2)
noncomputable def XT_field_Facets_L3 (a0 : ByteArray) (a1 : Int) (a2 : Int) (a3 : Int) (a4 : Int) (a5 : Int) (a6 : Int) (a7 : Int) (a8 : Int) (a9 : Int) (a10 : Int) (sa : Int × List D) (e : (List D)) : List (Nat × AV) := [(0, .own 31 0), (1, .ptr 20 0 0 0 0), (2, .ptr 19 0 0 0 0), (7, .d (I a10)), (8, .d (I sa.1))]
noncomputable def XH_field_Facets_L3 (a0 : ByteArray) (a1 : Int) (a2 : Int) (a3 : Int) (a4 : Int) (a5 : Int) (a6 : Int) (a7 : Int) (a8 : Int) (a9 : Int) (a10 : Int) (sa : Int × List D) (e : (List D)) : List (Nat × Blk) := [(0, .box (.d (.agg [.v (.string a0), I a1, I a2, I a3, I a4, I a5, I a6, I a7, I a8, I a9]))), (19, .box (.d (.agg [.v (.string a0), I a1, I a2, I a3, I a4, I a5, I a6, I a7, I a8, I a9]))), (20, .box (.d (I a10))), (28, .box (.own 81 0)), (31, .loop true [(6, .fn (.func 137) [] [.ptr 20 0 0 0 0, .ptr 19 0 0 0 0]), (4, .d (.lst true 0 [])), (2, .ptr 28 0 0 0 0), (1, .fn (.func 137) [] [.ptr 20 0 0 0 0, .ptr 19 0 0 0 0]), (0, .d (.lst true 0 []))] [7] (rangeAt cx.P 136 0).1 (rangeAt cx.P 136 0).2 13), (81, .row 0 4 e)]
theorem R_field_Facets_L3 {n : Nat} {a0 : ByteArray} {a1 : Int} {a2 : Int} {a3 : Int} {a4 : Int} {a5 : Int} {a6 : Int} {a7 : Int} {a8 : Int} {a9 : Int} {a10 : Int} {sa : Int × List D} (sb : (Int × List D)) (r) (h : F_field_Facets_L3 n a0 a1 a2 a3 a4 a5 a6 a7 a8 a9 a10 sa sb = some r) : Rd cx (loopAt cx.P 137 1) 49 32 false (T_field_Facets_L3 a0 a1 a2 a3 a4 a5 a6 a7 a8 a9 a10 sa) (H_field_Facets_L3 a0 a1 a2 a3 a4 a5 a6 a7 a8 a9 a10 sa) (X_field_Facets_L3 a0 a1 a2 a3 a4 a5 a6 a7 a8 a9 a10 sa) (XT_field_Facets_L3 a0 a1 a2 a3 a4 a5 a6 a7 a8 a9 a10 sa) (XH_field_Facets_L3 a0 a1 a2 a3 a4 a5 a6 a7 a8 a9 a10 sa) sb r := by
  unfold F_field_Facets_L3 at h
  by_cases hb1 : sb.1 < a10
  · replace h := ite_t h hb1
    obtain ⟨tb2, hb2, h⟩ := bnd_of h
    obtain ⟨hb3, h⟩ := grd_of h
    obtain ⟨hb4, h⟩ := grd_of h
    obtain ⟨hb5, h⟩ := grd_of h
    obtain ⟨tb6, hb6, h⟩ := bnd_of h
    obtain ⟨hb7, h⟩ := grd_of h
    obtain ⟨hb8, h⟩ := grd_of h
    obtain ⟨hb9, h⟩ := grd_of h
    obtain ⟨tb10, hb10, h⟩ := bnd_of h
    obtain ⟨tb11, hb11, h⟩ := bnd_of h
    obtain ⟨tb12, hb12, h⟩ := bnd_of h
    obtain ⟨hb13, h⟩ := grd_of h
    obtain ⟨hb14, h⟩ := grd_of h
    obtain ⟨hb15, h⟩ := grd_of h
    obtain ⟨hb16, h⟩ := grd_of h
    replace h := Option.some.inj h
    subst h
    exact ⟨100, 87, [.br true, .ret (.agg [I tb2.1, I tb2.2.1, I tb2.2.2]), .ret (.agg [I tb6.1, I tb6.2.1, I tb6.2.2]), .ret (.agg [I tb10.1, I tb10.2.1, I tb10.2.2]), .ret (.agg [I tb11.1, I tb11.2.1, I tb11.2.2]), .ret (.agg [I tb12.1, I tb12.2.1, I tb12.2.2]), .br true, .no], [], [0, 1, 2, 4, 7, 8, 11, 12], [0, 19, 20, 28, 31, 81], round_of (ob := [inI64 (sb.1 + 1), room cx 152 ((sb.2).length + 1), inI64 ((sa.1 * a10) + sb.1), inI64 (sa.1 * a10), Computes cx 89 [.agg [I tb2.1, I tb2.2.1, I tb2.2.2], .agg [I tb11.1, I tb11.2.1, I tb11.2.2]] (.agg [I tb12.1, I tb12.2.1, I tb12.2.2]), Computes cx 89 [.agg [I tb6.1, I tb6.2.1, I tb6.2.2], .agg [I tb10.1, I tb10.2.1, I tb10.2.2]] (.agg [I tb11.1, I tb11.2.1, I tb11.2.2]), Computes cx 90 [I (((2 * sa.1) + 1) - a10), .agg [I a7, I a8, I a9]] (.agg [I tb10.1, I tb10.2.1, I tb10.2.2]), inI64 (((2 * sa.1) + 1) - a10), inI64 ((2 * sa.1) + 1), inI64 (2 * sa.1), Computes cx 90 [I (((2 * sb.1) + 1) - a10), .agg [I a4, I a5, I a6]] (.agg [I tb6.1, I tb6.2.1, I tb6.2.2]), inI64 (((2 * sb.1) + 1) - a10), inI64 ((2 * sb.1) + 1), inI64 (2 * sb.1), Computes cx 90 [I a10, .agg [I a1, I a2, I a3]] (.agg [I tb2.1, I tb2.2.1, I tb2.2.2]), (decide (sb.1 < a10)) = true]) (by kernel_rfl) ⟨hb16, (room_of (b := 32) (by kernel_rfl) (by decide) hb15), hb14, hb13, (c_field_plus hb12), (c_field_plus hb11), (c_field_times hb10), hb9, hb8, hb7, (c_field_times hb6), hb5, hb4, hb3, (c_field_times hb2), (decide_eq_true hb1), trivial⟩⟩
  · replace h := ite_f h hb1
    replace h := Option.some.inj h
    subst h
    exact ⟨⟨100, 87, [.br false], [], [0, 1, 2, 7, 8], [0, 19, 20, 28, 31, 81], round_of (ob := [(decide (sb.1 < a10)) = false]) (by kernel_rfl) ⟨(decide_eq_false hb1), trivial⟩⟩, nofun⟩
def F_field_Facets_L4 (n : Nat) (a0 : ByteArray) (a1 : Int) (a2 : Int) (a3 : Int) (a4 : Int) (a5 : Int) (a6 : Int) (a7 : Int) (a8 : Int) (a9 : Int) (a10 : Int) (sa : (Int) ⊕ (Int × List D)) : Option (((Int) ⊕ (Int × List D)) ⊕ ((Unit) ⊕ (List D))) := match sa with
 | (.inl sa) => (
  if sa < a10 then
  (loopF (F_field_Facets_L2 n a0 a1 a2 a3 a4 a5 a6 a7 a8 a9 a10 sa) n (.inl ())).bind fun ta2 => match ta2 with
   | (.inl ta2) => (
   if inI64 (sa + 1) then
   some (.inl (.inl (sa + 1)))
   else none)
   | (.inr ta2) => (
   if inI64 (sa + 1) then
   some (.inl (.inr ((sa + 1), ta2)))
   else none)
  else
  some (.inr (.inl ())))
 | (.inr sa) => (
  if sa.1 < a10 then
  (loopF (F_field_Facets_L3 n a0 a1 a2 a3 a4 a5 a6 a7 a8 a9 a10 sa) n (0, sa.2)).bind fun ta2 =>
  if inI64 (sa.1 + 1) then
  some (.inl (.inr ((sa.1 + 1), ta2)))
  else none
  else
  some (.inr (.inr sa.2)))
noncomputable def T_field_Facets_L4 (a0 : ByteArray) (a1 : Int) (a2 : Int) (a3 : Int) (a4 : Int) (a5 : Int) (a6 : Int) (a7 : Int) (a8 : Int) (a9 : Int) (a10 : Int) (sa : (Int) ⊕ (Int × List D)) : List (Nat × AV) := match sa with
  | (.inl sa) => [(0, .own 31 0), (1, .ptr 20 0 0 0 0), (2, .ptr 19 0 0 0 0), (7, .d (I a10)), (8, .d (I sa))]
  | (.inr sa) => [(0, .own 31 0), (1, .ptr 20 0 0 0 0), (2, .ptr 19 0 0 0 0), (7, .d (I a10)), (8, .d (I sa.1))]
noncomputable def H_field_Facets_L4 (a0 : ByteArray) (a1 : Int) (a2 : Int) (a3 : Int) (a4 : Int) (a5 : Int) (a6 : Int) (a7 : Int) (a8 : Int) (a9 : Int) (a10 : Int) (sa : (Int) ⊕ (Int × List D)) : List (Nat × Blk) := match sa with
  | (.inl sa) => [(0, .box (.d (.agg [.v (.string a0), I a1, I a2, I a3, I a4, I a5, I a6, I a7, I a8, I a9]))), (19, .box (.d (.agg [.v (.string a0), I a1, I a2, I a3, I a4, I a5, I a6, I a7, I a8, I a9]))), (20, .box (.d (I a10))), (28, .box (.d (.lst true 0 []))), (31, .loop true [(6, .fn (.func 137) [] [.ptr 20 0 0 0 0, .ptr 19 0 0 0 0]), (4, .d (.lst true 0 [])), (2, .ptr 28 0 0 0 0), (1, .fn (.func 137) [] [.ptr 20 0 0 0 0, .ptr 19 0 0 0 0]), (0, .d (.lst true 0 []))] [7] (rangeAt cx.P 136 0).1 (rangeAt cx.P 136 0).2 13)]
  | (.inr sa) => [(0, .box (.d (.agg [.v (.string a0), I a1, I a2, I a3, I a4, I a5, I a6, I a7, I a8, I a9]))), (19, .box (.d (.agg [.v (.string a0), I a1, I a2, I a3, I a4, I a5, I a6, I a7, I a8, I a9]))), (20, .box (.d (I a10))), (28, .box (.own 81 0)), (31, .loop true [(6, .fn (.func 137) [] [.ptr 20 0 0 0 0, .ptr 19 0 0 0 0]), (4, .d (.lst true 0 [])), (2, .ptr 28 0 0 0 0), (1, .fn (.func 137) [] [.ptr 20 0 0 0 0, .ptr 19 0 0 0 0]), (0, .d (.lst true 0 []))] [7] (rangeAt cx.P 136 0).1 (rangeAt cx.P 136 0).2 13), (81, .row 0 4 sa.2)]
noncomputable def X_field_Facets_L4 (a0 : ByteArray) (a1 : Int) (a2 : Int) (a3 : Int) (a4 : Int) (a5 : Int) (a6 : Int) (a7 : Int) (a8 : Int) (a9 : Int) (a10 : Int) (e : (Unit) ⊕ (List D)) : Ex := match e with
  | (.inl e) => (.exit 0)
  | (.inr e) => (.exit 0)
noncomputable def XT_field_Facets_L4 (a0 : ByteArray) (a1 : Int) (a2 : Int) (a3 : Int) (a4 : Int) (a5 : Int) (a6 : Int) (a7 : Int) (a8 : Int) (a9 : Int) (a10 : Int) (e : (Unit) ⊕ (List D)) : List (Nat × AV) := match e with
  | (.inl e) => []
  | (.inr e) => []
noncomputable def XH_field_Facets_L4 (a0 : ByteArray) (a1 : Int) (a2 : Int) (a3 : Int) (a4 : Int) (a5 : Int) (a6 : Int) (a7 : Int) (a8 : Int) (a9 : Int) (a10 : Int) (e : (Unit) ⊕ (List D)) : List (Nat × Blk) := match e with
  | (.inl e) => [(0, .box (.d (.agg [.v (.string a0), I a1, I a2, I a3, I a4, I a5, I a6, I a7, I a8, I a9]))), (19, .box (.d (.agg [.v (.string a0), I a1, I a2, I a3, I a4, I a5, I a6, I a7, I a8, I a9]))), (20, .box (.d (I a10))), (28, .box (.d (.lst true 0 []))), (31, .loop true [(6, .fn (.func 137) [] [.ptr 20 0 0 0 0, .ptr 19 0 0 0 0]), (4, .d (.lst true 0 [])), (2, .ptr 28 0 0 0 0), (1, .fn (.func 137) [] [.ptr 20 0 0 0 0, .ptr 19 0 0 0 0]), (0, .d (.lst true 0 []))] [7] (rangeAt cx.P 136 0).1 (rangeAt cx.P 136 0).2 13)]
  | (.inr e) => [(0, .box (.d (.agg [.v (.string a0), I a1, I a2, I a3, I a4, I a5, I a6, I a7, I a8, I a9]))), (19, .box (.d (.agg [.v (.string a0), I a1, I a2, I a3, I a4, I a5, I a6, I a7, I a8, I a9]))), (20, .box (.d (I a10))), (28, .box (.own 81 0)), (31, .loop true [(6, .fn (.func 137) [] [.ptr 20 0 0 0 0, .ptr 19 0 0 0 0]), (4, .d (.lst true 0 [])), (2, .ptr 28 0 0 0 0), (1, .fn (.func 137) [] [.ptr 20 0 0 0 0, .ptr 19 0 0 0 0]), (0, .d (.lst true 0 []))] [7] (rangeAt cx.P 136 0).1 (rangeAt cx.P 136 0).2 13), (81, .row 0 4 e)]
theorem R_field_Facets_L4 {n : Nat} {a0 : ByteArray} {a1 : Int} {a2 : Int} {a3 : Int} {a4 : Int} {a5 : Int} {a6 : Int} {a7 : Int} {a8 : Int} {a9 : Int} {a10 : Int} (sa : (Int) ⊕ (Int × List D)) (r) (h : F_field_Facets_L4 n a0 a1 a2 a3 a4 a5 a6 a7 a8 a9 a10 sa = some r) : Rd cx (loopAt cx.P 137 0) 49 32 false (T_field_Facets_L4 a0 a1 a2 a3 a4 a5 a6 a7 a8 a9 a10) (H_field_Facets_L4 a0 a1 a2 a3 a4 a5 a6 a7 a8 a9 a10) (X_field_Facets_L4 a0 a1 a2 a3 a4 a5 a6 a7 a8 a9 a10) (XT_field_Facets_L4 a0 a1 a2 a3 a4 a5 a6 a7 a8 a9 a10) (XH_field_Facets_L4 a0 a1 a2 a3 a4 a5 a6 a7 a8 a9 a10) sa r := by
  unfold F_field_Facets_L4 at h
  rcases sa with sa | sa
  · by_cases ha1 : sa < a10
    · replace h := ite_t h ha1
      obtain ⟨ta2, ha2, h⟩ := bnd_of h
      rcases ta2 with ta2 | ta2
      · obtain ⟨ha3, h⟩ := grd_of h
        replace h := Option.some.inj h
        subst h
        exact ⟨100, 34, [.br true, .lp [] [0, 1, 2, 4, 7, 8, 11, 12] [0, 19, 20, 28, 31] (.exit 2) [(0, .own 31 0), (1, .ptr 20 0 0 0 0), (2, .ptr 19 0 0 0 0), (7, .d (I a10)), (8, .d (I sa))] [(0, .box (.d (.agg [.v (.string a0), I a1, I a2, I a3, I a4, I a5, I a6, I a7, I a8, I a9]))), (19, .box (.d (.agg [.v (.string a0), I a1, I a2, I a3, I a4, I a5, I a6, I a7, I a8, I a9]))), (20, .box (.d (I a10))), (28, .box (.d (.lst true 0 []))), (31, .loop true [(6, .fn (.func 137) [] [.ptr 20 0 0 0 0, .ptr 19 0 0 0 0]), (4, .d (.lst true 0 [])), (2, .ptr 28 0 0 0 0), (1, .fn (.func 137) [] [.ptr 20 0 0 0 0, .ptr 19 0 0 0 0]), (0, .d (.lst true 0 []))] [7] (rangeAt cx.P 136 0).1 (rangeAt cx.P 136 0).2 13)] 139], [], [0, 1, 2, 7, 8], [0, 19, 20, 28, 31], round_of (ob := [inI64 (sa + 1), LoopN cx (loopAt cx.P 137 1) 49 32 false [(0, .own 31 0), (1, .ptr 20 0 0 0 0), (2, .ptr 19 0 0 0 0), (4, .d (I sa)), (7, .d (I a10)), (8, .d (I sa)), (11, .d (I a10)), (12, .d (I 0))] [(0, .box (.d (.agg [.v (.string a0), I a1, I a2, I a3, I a4, I a5, I a6, I a7, I a8, I a9]))), (19, .box (.d (.agg [.v (.string a0), I a1, I a2, I a3, I a4, I a5, I a6, I a7, I a8, I a9]))), (20, .box (.d (I a10))), (28, .box (.d (.lst true 0 []))), (31, .loop true [(6, .fn (.func 137) [] [.ptr 20 0 0 0 0, .ptr 19 0 0 0 0]), (4, .d (.lst true 0 [])), (2, .ptr 28 0 0 0 0), (1, .fn (.func 137) [] [.ptr 20 0 0 0 0, .ptr 19 0 0 0 0]), (0, .d (.lst true 0 []))] [7] (rangeAt cx.P 136 0).1 (rangeAt cx.P 136 0).2 13)] (.exit 2) [(0, .own 31 0), (1, .ptr 20 0 0 0 0), (2, .ptr 19 0 0 0 0), (7, .d (I a10)), (8, .d (I sa))] [(0, .box (.d (.agg [.v (.string a0), I a1, I a2, I a3, I a4, I a5, I a6, I a7, I a8, I a9]))), (19, .box (.d (.agg [.v (.string a0), I a1, I a2, I a3, I a4, I a5, I a6, I a7, I a8, I a9]))), (20, .box (.d (I a10))), (28, .box (.d (.lst true 0 []))), (31, .loop true [(6, .fn (.func 137) [] [.ptr 20 0 0 0 0, .ptr 19 0 0 0 0]), (4, .d (.lst true 0 [])), (2, .ptr 28 0 0 0 0), (1, .fn (.func 137) [] [.ptr 20 0 0 0 0, .ptr 19 0 0 0 0]), (0, .d (.lst true 0 []))] [7] (rangeAt cx.P 136 0).1 (rangeAt cx.P 136 0).2 13)], (decide (sa < a10)) = true]) (by kernel_rfl) ⟨ha3, (loopF_to R_field_Facets_L2 ha2), (decide_eq_true ha1), trivial⟩⟩
      · obtain ⟨ha3, h⟩ := grd_of h
        replace h := Option.some.inj h
        subst h
        exact ⟨100, 34, [.br true, .lp [] [0, 1, 2, 4, 7, 8, 11, 12] [0, 19, 20, 28, 31] (.exit 2) [(0, .own 31 0), (1, .ptr 20 0 0 0 0), (2, .ptr 19 0 0 0 0), (7, .d (I a10)), (8, .d (I sa))] [(0, .box (.d (.agg [.v (.string a0), I a1, I a2, I a3, I a4, I a5, I a6, I a7, I a8, I a9]))), (19, .box (.d (.agg [.v (.string a0), I a1, I a2, I a3, I a4, I a5, I a6, I a7, I a8, I a9]))), (20, .box (.d (I a10))), (28, .box (.own 81 0)), (31, .loop true [(6, .fn (.func 137) [] [.ptr 20 0 0 0 0, .ptr 19 0 0 0 0]), (4, .d (.lst true 0 [])), (2, .ptr 28 0 0 0 0), (1, .fn (.func 137) [] [.ptr 20 0 0 0 0, .ptr 19 0 0 0 0]), (0, .d (.lst true 0 []))] [7] (rangeAt cx.P 136 0).1 (rangeAt cx.P 136 0).2 13), (81, .row 0 4 ta2)] 139], [], [0, 1, 2, 7, 8], [0, 19, 20, 28, 31, 81], round_of (ob := [inI64 (sa + 1), LoopN cx (loopAt cx.P 137 1) 49 32 false [(0, .own 31 0), (1, .ptr 20 0 0 0 0), (2, .ptr 19 0 0 0 0), (4, .d (I sa)), (7, .d (I a10)), (8, .d (I sa)), (11, .d (I a10)), (12, .d (I 0))] [(0, .box (.d (.agg [.v (.string a0), I a1, I a2, I a3, I a4, I a5, I a6, I a7, I a8, I a9]))), (19, .box (.d (.agg [.v (.string a0), I a1, I a2, I a3, I a4, I a5, I a6, I a7, I a8, I a9]))), (20, .box (.d (I a10))), (28, .box (.d (.lst true 0 []))), (31, .loop true [(6, .fn (.func 137) [] [.ptr 20 0 0 0 0, .ptr 19 0 0 0 0]), (4, .d (.lst true 0 [])), (2, .ptr 28 0 0 0 0), (1, .fn (.func 137) [] [.ptr 20 0 0 0 0, .ptr 19 0 0 0 0]), (0, .d (.lst true 0 []))] [7] (rangeAt cx.P 136 0).1 (rangeAt cx.P 136 0).2 13)] (.exit 2) [(0, .own 31 0), (1, .ptr 20 0 0 0 0), (2, .ptr 19 0 0 0 0), (7, .d (I a10)), (8, .d (I sa))] [(0, .box (.d (.agg [.v (.string a0), I a1, I a2, I a3, I a4, I a5, I a6, I a7, I a8, I a9]))), (19, .box (.d (.agg [.v (.string a0), I a1, I a2, I a3, I a4, I a5, I a6, I a7, I a8, I a9]))), (20, .box (.d (I a10))), (28, .box (.own 81 0)), (31, .loop true [(6, .fn (.func 137) [] [.ptr 20 0 0 0 0, .ptr 19 0 0 0 0]), (4, .d (.lst true 0 [])), (2, .ptr 28 0 0 0 0), (1, .fn (.func 137) [] [.ptr 20 0 0 0 0, .ptr 19 0 0 0 0]), (0, .d (.lst true 0 []))] [7] (rangeAt cx.P 136 0).1 (rangeAt cx.P 136 0).2 13), (81, .row 0 4 ta2)], (decide (sa < a10)) = true]) (by kernel_rfl) ⟨ha3, (loopF_to R_field_Facets_L2 ha2), (decide_eq_true ha1), trivial⟩⟩
    · replace h := ite_f h ha1
      replace h := Option.some.inj h
      subst h
      exact ⟨⟨100, 34, [.br false], [], [], [0, 19, 20, 28, 31], round_of (ob := [(decide (sa < a10)) = false]) (by kernel_rfl) ⟨(decide_eq_false ha1), trivial⟩⟩, nofun⟩
  · by_cases ha1 : sa.1 < a10
    · replace h := ite_t h ha1
      obtain ⟨ta2, ha2, h⟩ := bnd_of h
      obtain ⟨ha3, h⟩ := grd_of h
      replace h := Option.some.inj h
      subst h
      exact ⟨100, 82, [.br true, .lp [] [0, 1, 2, 4, 7, 8, 11, 12] [0, 19, 20, 28, 31, 81] (.exit 2) [(0, .own 31 0), (1, .ptr 20 0 0 0 0), (2, .ptr 19 0 0 0 0), (7, .d (I a10)), (8, .d (I sa.1))] [(0, .box (.d (.agg [.v (.string a0), I a1, I a2, I a3, I a4, I a5, I a6, I a7, I a8, I a9]))), (19, .box (.d (.agg [.v (.string a0), I a1, I a2, I a3, I a4, I a5, I a6, I a7, I a8, I a9]))), (20, .box (.d (I a10))), (28, .box (.own 81 0)), (31, .loop true [(6, .fn (.func 137) [] [.ptr 20 0 0 0 0, .ptr 19 0 0 0 0]), (4, .d (.lst true 0 [])), (2, .ptr 28 0 0 0 0), (1, .fn (.func 137) [] [.ptr 20 0 0 0 0, .ptr 19 0 0 0 0]), (0, .d (.lst true 0 []))] [7] (rangeAt cx.P 136 0).1 (rangeAt cx.P 136 0).2 13), (81, .row 0 4 ta2)] 144], [], [0, 1, 2, 7, 8], [0, 19, 20, 28, 31, 81], round_of (ob := [inI64 (sa.1 + 1), LoopN cx (loopAt cx.P 137 1) 49 32 false [(0, .own 31 0), (1, .ptr 20 0 0 0 0), (2, .ptr 19 0 0 0 0), (4, .d (I sa.1)), (7, .d (I a10)), (8, .d (I sa.1)), (11, .d (I a10)), (12, .d (I 0))] [(0, .box (.d (.agg [.v (.string a0), I a1, I a2, I a3, I a4, I a5, I a6, I a7, I a8, I a9]))), (19, .box (.d (.agg [.v (.string a0), I a1, I a2, I a3, I a4, I a5, I a6, I a7, I a8, I a9]))), (20, .box (.d (I a10))), (28, .box (.own 81 0)), (31, .loop true [(6, .fn (.func 137) [] [.ptr 20 0 0 0 0, .ptr 19 0 0 0 0]), (4, .d (.lst true 0 [])), (2, .ptr 28 0 0 0 0), (1, .fn (.func 137) [] [.ptr 20 0 0 0 0, .ptr 19 0 0 0 0]), (0, .d (.lst true 0 []))] [7] (rangeAt cx.P 136 0).1 (rangeAt cx.P 136 0).2 13), (81, .row 0 4 sa.2)] (.exit 2) [(0, .own 31 0), (1, .ptr 20 0 0 0 0), (2, .ptr 19 0 0 0 0), (7, .d (I a10)), (8, .d (I sa.1))] [(0, .box (.d (.agg [.v (.string a0), I a1, I a2, I a3, I a4, I a5, I a6, I a7, I a8, I a9]))), (19, .box (.d (.agg [.v (.string a0), I a1, I a2, I a3, I a4, I a5, I a6, I a7, I a8, I a9]))), (20, .box (.d (I a10))), (28, .box (.own 81 0)), (31, .loop true [(6, .fn (.func 137) [] [.ptr 20 0 0 0 0, .ptr 19 0 0 0 0]), (4, .d (.lst true 0 [])), (2, .ptr 28 0 0 0 0), (1, .fn (.func 137) [] [.ptr 20 0 0 0 0, .ptr 19 0 0 0 0]), (0, .d (.lst true 0 []))] [7] (rangeAt cx.P 136 0).1 (rangeAt cx.P 136 0).2 13), (81, .row 0 4 ta2)], (decide (sa.1 < a10)) = true]) (by kernel_rfl) ⟨ha3, (loopF_to R_field_Facets_L3 ha2), (decide_eq_true ha1), trivial⟩⟩
    · replace h := ite_f h ha1
      replace h := Option.some.inj h
      subst h
      exact ⟨⟨100, 82, [.br false], [], [], [0, 19, 20, 28, 31, 81], round_of (ob := [(decide (sa.1 < a10)) = false]) (by kernel_rfl) ⟨(decide_eq_false ha1), trivial⟩⟩, nofun⟩
def F_field_Facets_L5 (n : Nat) (a0 : ByteArray) (a1 : Int) (a2 : Int) (a3 : Int) (a4 : Int) (a5 : Int) (a6 : Int) (a7 : Int) (a8 : Int) (a9 : Int) (a10 : Int) (t5 : List D) (sa : (Int × List D)) : Option (((Int × List D)) ⊕ ((List D))) :=
 if sa.1 < ((t5).length : Int) then
  if 0 ≤ sa.1 ∧ sa.1 < ((t5).length : Int) then
  ((nth (t5) (Int.toNat sa.1)).bind un_Ai4Z).bind fun ta3 =>
  (F_field_Facets_c1 n ta3.1 ta3.2.1 ta3.2.2.1 ta3.2.2.2).bind fun ta4 =>
  if roomP 24 ((sa.2).length + 1) then
  if inI64 (sa.1 + 1) then
  some (.inl ((sa.1 + 1), (sa.2 ++ ([.agg [I ta4.1, I ta4.2.1, I ta4.2.2]] : List D))))
  else none
  else none
  else none
 else
 some (.inr sa.2)
noncomputable def T_field_Facets_L5 (a0 : ByteArray) (a1 : Int) (a2 : Int) (a3 : Int) (a4 : Int) (a5 : Int) (a6 : Int) (a7 : Int) (a8 : Int) (a9 : Int) (a10 : Int) (t5 : List D) (sa : (Int × List D)) : List (Nat × AV) := [(1, .d (.fn (.func 96) [] [])), (5, .own 164 0), (8, .own 81 0), (9, .d (I ((t5).length : Int))), (10, .d (I sa.1))]
noncomputable def H_field_Facets_L5 (a0 : ByteArray) (a1 : Int) (a2 : Int) (a3 : Int) (a4 : Int) (a5 : Int) (a6 : Int) (a7 : Int) (a8 : Int) (a9 : Int) (a10 : Int) (t5 : List D) (sa : (Int × List D)) : List (Nat × Blk) := [(0, .box (.d (.agg [.v (.string a0), I a1, I a2, I a3, I a4, I a5, I a6, I a7, I a8, I a9]))), (19, .box (.d (.agg [.v (.string a0), I a1, I a2, I a3, I a4, I a5, I a6, I a7, I a8, I a9]))), (20, .box (.d (I a10))), (28, .box (.own 81 0)), (31, .dead), (81, .row 0 4 t5), (164, .row 0 3 sa.2)]
noncomputable def X_field_Facets_L5 (a0 : ByteArray) (a1 : Int) (a2 : Int) (a3 : Int) (a4 : Int) (a5 : Int) (a6 : Int) (a7 : Int) (a8 : Int) (a9 : Int) (a10 : Int) (t5 : List D) (e : (List D)) : Ex := (.exit 0)
noncomputable def XT_field_Facets_L5 (a0 : ByteArray) (a1 : Int) (a2 : Int) (a3 : Int) (a4 : Int) (a5 : Int) (a6 : Int) (a7 : Int) (a8 : Int) (a9 : Int) (a10 : Int) (t5 : List D) (e : (List D)) : List (Nat × AV) := [(5, .own 164 0)]
noncomputable def XH_field_Facets_L5 (a0 : ByteArray) (a1 : Int) (a2 : Int) (a3 : Int) (a4 : Int) (a5 : Int) (a6 : Int) (a7 : Int) (a8 : Int) (a9 : Int) (a10 : Int) (t5 : List D) (e : (List D)) : List (Nat × Blk) := [(0, .box (.d (.agg [.v (.string a0), I a1, I a2, I a3, I a4, I a5, I a6, I a7, I a8, I a9]))), (19, .box (.d (.agg [.v (.string a0), I a1, I a2, I a3, I a4, I a5, I a6, I a7, I a8, I a9]))), (20, .box (.d (I a10))), (28, .box (.own 81 0)), (31, .dead), (81, .row 0 4 t5), (164, .row 0 3 e)]
theorem R_field_Facets_L5 {n : Nat} {a0 : ByteArray} {a1 : Int} {a2 : Int} {a3 : Int} {a4 : Int} {a5 : Int} {a6 : Int} {a7 : Int} {a8 : Int} {a9 : Int} {a10 : Int} {t5 : List D} (sa : (Int × List D)) (r) (h : F_field_Facets_L5 n a0 a1 a2 a3 a4 a5 a6 a7 a8 a9 a10 t5 sa = some r) : Rd cx (loopAt cx.P 93 0) 22 159 false (T_field_Facets_L5 a0 a1 a2 a3 a4 a5 a6 a7 a8 a9 a10 t5) (H_field_Facets_L5 a0 a1 a2 a3 a4 a5 a6 a7 a8 a9 a10 t5) (X_field_Facets_L5 a0 a1 a2 a3 a4 a5 a6 a7 a8 a9 a10 t5) (XT_field_Facets_L5 a0 a1 a2 a3 a4 a5 a6 a7 a8 a9 a10 t5) (XH_field_Facets_L5 a0 a1 a2 a3 a4 a5 a6 a7 a8 a9 a10 t5) sa r := by
  unfold F_field_Facets_L5 at h
  by_cases ha1 : sa.1 < ((t5).length : Int)
  · replace h := ite_t h ha1
    obtain ⟨ha2, h⟩ := grd_of h
    obtain ⟨ta3, ha3, h⟩ := bnd_of h
    obtain ⟨ta4, ha4, h⟩ := bnd_of h
    obtain ⟨ha5, h⟩ := grd_of h
    obtain ⟨ha6, h⟩ := grd_of h
    replace h := Option.some.inj h
    subst h
    exact ⟨100, 165, [.br true, .br true, .el (.agg [I ta3.1, I ta3.2.1, I ta3.2.2.1, I ta3.2.2.2]), .ret (.agg [I ta4.1, I ta4.2.1, I ta4.2.2]), .br true], [], [1, 5, 8, 9, 10], [0, 19, 20, 28, 31, 81, 164], round_of (ob := [inI64 (sa.1 + 1), room cx 23 ((sa.2).length + 1), Computes cx 96 [.agg [I ta3.1, I ta3.2.1, I ta3.2.2.1, I ta3.2.2.2]] (.agg [I ta4.1, I ta4.2.1, I ta4.2.2]), nth (t5) (Int.toNat sa.1) = some (.agg [I ta3.1, I ta3.2.1, I ta3.2.2.1, I ta3.2.2.2]), 0 ≤ sa.1 ∧ sa.1 < ((t5).length : Int), (decide (sa.1 < ((t5).length : Int))) = true]) (by kernel_rfl) ⟨ha6, (room_of (b := 24) (by kernel_rfl) (by decide) ha5), (c_field_Facets_c1 ha4), nel_ok un_Ai4Z_ok ha3, ha2, (decide_eq_true ha1), trivial⟩⟩
  · replace h := ite_f h ha1
    replace h := Option.some.inj h
    subst h
    exact ⟨⟨100, 165, [.br false], [], [5], [0, 19, 20, 28, 31, 81, 164], round_of (ob := [(decide (sa.1 < ((t5).length : Int))) = false]) (by kernel_rfl) ⟨(decide_eq_false ha1), trivial⟩⟩, nofun⟩
def F_field_Facets (n : Nat) (a0 : ByteArray) (a1 : Int) (a2 : Int) (a3 : Int) (a4 : Int) (a5 : Int) (a6 : Int) (a7 : Int) (a8 : Int) (a9 : Int) (a10 : Int) : Option (List D × Int) :=
 (F_field_Mirror_check n a0 a1 a2 a3 a4 a5 a6 a7 a8 a9).bind fun t1 =>
 (F_field_checkK n a10).bind fun t2 =>
 (F_field_first n ([I t1, I t2])).bind fun t3 =>
 if t3 = 0 then
  (loopF (F_field_Facets_L4 n a0 a1 a2 a3 a4 a5 a6 a7 a8 a9 a10) n (.inl 0)).bind fun t5 => match t5 with
  | (.inl t5) => (
   some ([], 0))
  | (.inr t5) => (
   (loopF (F_field_Facets_L5 n a0 a1 a2 a3 a4 a5 a6 a7 a8 a9 a10 t5) n (0, [])).bind fun t6 =>
   some (t6, 0))
 else
 some ([], t3)
theorem c_field_Facets {n : Nat} {a0 : ByteArray} {a1 : Int} {a2 : Int} {a3 : Int} {a4 : Int} {a5 : Int} {a6 : Int} {a7 : Int} {a8 : Int} {a9 : Int} {a10 : Int} {r : List D × Int} (h : F_field_Facets n a0 a1 a2 a3 a4 a5 a6 a7 a8 a9 a10 = some r) : Computes cx 34 [.agg [.v (.string a0), I a1, I a2, I a3, I a4, I a5, I a6, I a7, I a8, I a9], I a10] (.tup [.lst false 3 r.1, I r.2]) := by
  unfold F_field_Facets at h
  obtain ⟨t1, h1, h⟩ := bnd_of h
  obtain ⟨t2, h2, h⟩ := bnd_of h
  obtain ⟨t3, h3, h⟩ := bnd_of h
  by_cases h4 : t3 = 0
  · replace h := ite_t h h4
    obtain ⟨t5, h5, h⟩ := bnd_of h
    rcases t5 with t5 | t5
    · replace h := Option.some.inj h
      subst h
      exact (run (n := 100) (f := 34) (args := [.agg [.v (.string a0), I a1, I a2, I a3, I a4, I a5, I a6, I a7, I a8, I a9], I a10]) (orc := [.ret (I t1), .ret (I t2), .ret (I t3), .br false, .br true, .br true, .br true, .lp [] [0, 1, 2, 7, 8] [0, 19, 20, 28, 31] (.exit 0) [] [(0, .box (.d (.agg [.v (.string a0), I a1, I a2, I a3, I a4, I a5, I a6, I a7, I a8, I a9]))), (19, .box (.d (.agg [.v (.string a0), I a1, I a2, I a3, I a4, I a5, I a6, I a7, I a8, I a9]))), (20, .box (.d (I a10))), (28, .box (.d (.lst true 0 []))), (31, .loop true [(6, .fn (.func 137) [] [.ptr 20 0 0 0 0, .ptr 19 0 0 0 0]), (4, .d (.lst true 0 [])), (2, .ptr 28 0 0 0 0), (1, .fn (.func 137) [] [.ptr 20 0 0 0 0, .ptr 19 0 0 0 0]), (0, .d (.lst true 0 []))] [7] (rangeAt cx.P 136 0).1 (rangeAt cx.P 136 0).2 13)] 157, .br true, .no, .no]) (r := .tup [.lst true 0 [], I 0]) (ob := [LoopN cx (loopAt cx.P 137 0) 49 32 false [(0, .own 31 0), (1, .ptr 20 0 0 0 0), (2, .ptr 19 0 0 0 0), (7, .d (I a10)), (8, .d (I 0))] [(0, .box (.d (.agg [.v (.string a0), I a1, I a2, I a3, I a4, I a5, I a6, I a7, I a8, I a9]))), (19, .box (.d (.agg [.v (.string a0), I a1, I a2, I a3, I a4, I a5, I a6, I a7, I a8, I a9]))), (20, .box (.d (I a10))), (28, .box (.d (.lst true 0 []))), (31, .loop true [(6, .fn (.func 137) [] [.ptr 20 0 0 0 0, .ptr 19 0 0 0 0]), (4, .d (.lst true 0 [])), (2, .ptr 28 0 0 0 0), (1, .fn (.func 137) [] [.ptr 20 0 0 0 0, .ptr 19 0 0 0 0]), (0, .d (.lst true 0 []))] [7] (rangeAt cx.P 136 0).1 (rangeAt cx.P 136 0).2 13)] (.exit 0) [] [(0, .box (.d (.agg [.v (.string a0), I a1, I a2, I a3, I a4, I a5, I a6, I a7, I a8, I a9]))), (19, .box (.d (.agg [.v (.string a0), I a1, I a2, I a3, I a4, I a5, I a6, I a7, I a8, I a9]))), (20, .box (.d (I a10))), (28, .box (.d (.lst true 0 []))), (31, .loop true [(6, .fn (.func 137) [] [.ptr 20 0 0 0 0, .ptr 19 0 0 0 0]), (4, .d (.lst true 0 [])), (2, .ptr 28 0 0 0 0), (1, .fn (.func 137) [] [.ptr 20 0 0 0 0, .ptr 19 0 0 0 0]), (0, .d (.lst true 0 []))] [7] (rangeAt cx.P 136 0).1 (rangeAt cx.P 136 0).2 13)], (t3 != 0) = false, Computes cx 59 [.lst true 1 [I t1, I t2]] (I t3), Computes cx 82 [I a10] (I t2), Computes cx 60 [.agg [.v (.string a0), I a1, I a2, I a3, I a4, I a5, I a6, I a7, I a8, I a9]] (I t1)]) (by kernel_rfl) ⟨(loopF_to R_field_Facets_L4 h5), (nef h4), ((c_field_first h3).le (.cons (.full _ _ _) (.nil)) (.refl _)), (c_field_checkK h2), (c_field_Mirror_check h1), trivial⟩).le (LEs.refl _) (.tups (.cons (.lst _ _ _ _ _ nofun (.inl rfl)) (.cons (.refl _) (.nil))))
    · obtain ⟨t6, h6, h⟩ := bnd_of h
      replace h := Option.some.inj h
      subst h
      exact run (n := 100) (f := 34) (args := [.agg [.v (.string a0), I a1, I a2, I a3, I a4, I a5, I a6, I a7, I a8, I a9], I a10]) (orc := [.ret (I t1), .ret (I t2), .ret (I t3), .br false, .br true, .br true, .br true, .lp [] [0, 1, 2, 7, 8] [0, 19, 20, 28, 31] (.exit 0) [] [(0, .box (.d (.agg [.v (.string a0), I a1, I a2, I a3, I a4, I a5, I a6, I a7, I a8, I a9]))), (19, .box (.d (.agg [.v (.string a0), I a1, I a2, I a3, I a4, I a5, I a6, I a7, I a8, I a9]))), (20, .box (.d (I a10))), (28, .box (.own 81 0)), (31, .loop true [(6, .fn (.func 137) [] [.ptr 20 0 0 0 0, .ptr 19 0 0 0 0]), (4, .d (.lst true 0 [])), (2, .ptr 28 0 0 0 0), (1, .fn (.func 137) [] [.ptr 20 0 0 0 0, .ptr 19 0 0 0 0]), (0, .d (.lst true 0 []))] [7] (rangeAt cx.P 136 0).1 (rangeAt cx.P 136 0).2 13), (81, .row 0 4 t5)] 157, .br true, .lp [5, 3] [1, 5, 8, 9, 10] [0, 19, 20, 28, 31, 81, 164] (.exit 0) [(5, .own 164 0)] [(0, .box (.d (.agg [.v (.string a0), I a1, I a2, I a3, I a4, I a5, I a6, I a7, I a8, I a9]))), (19, .box (.d (.agg [.v (.string a0), I a1, I a2, I a3, I a4, I a5, I a6, I a7, I a8, I a9]))), (20, .box (.d (I a10))), (28, .box (.own 81 0)), (31, .dead), (81, .row 0 4 t5), (164, .row 0 3 t6)] 190]) (r := .tup [.lst false 3 t6, I 0]) (ob := [LoopN cx (loopAt cx.P 93 0) 22 159 false [(1, .d (.fn (.func 96) [] [])), (5, .own 164 0), (8, .own 81 0), (9, .d (I ((t5).length : Int))), (10, .d (I 0))] [(0, .box (.d (.agg [.v (.string a0), I a1, I a2, I a3, I a4, I a5, I a6, I a7, I a8, I a9]))), (19, .box (.d (.agg [.v (.string a0), I a1, I a2, I a3, I a4, I a5, I a6, I a7, I a8, I a9]))), (20, .box (.d (I a10))), (28, .box (.own 81 0)), (31, .dead), (81, .row 0 4 t5), (164, .row 0 3 [])] (.exit 0) [(5, .own 164 0)] [(0, .box (.d (.agg [.v (.string a0), I a1, I a2, I a3, I a4, I a5, I a6, I a7, I a8, I a9]))), (19, .box (.d (.agg [.v (.string a0), I a1, I a2, I a3, I a4, I a5, I a6, I a7, I a8, I a9]))), (20, .box (.d (I a10))), (28, .box (.own 81 0)), (31, .dead), (81, .row 0 4 t5), (164, .row 0 3 t6)], LoopN cx (loopAt cx.P 137 0) 49 32 false [(0, .own 31 0), (1, .ptr 20 0 0 0 0), (2, .ptr 19 0 0 0 0), (7, .d (I a10)), (8, .d (I 0))] [(0, .box (.d (.agg [.v (.string a0), I a1, I a2, I a3, I a4, I a5, I a6, I a7, I a8, I a9]))), (19, .box (.d (.agg [.v (.string a0), I a1, I a2, I a3, I a4, I a5, I a6, I a7, I a8, I a9]))), (20, .box (.d (I a10))), (28, .box (.d (.lst true 0 []))), (31, .loop true [(6, .fn (.func 137) [] [.ptr 20 0 0 0 0, .ptr 19 0 0 0 0]), (4, .d (.lst true 0 [])), (2, .ptr 28 0 0 0 0), (1, .fn (.func 137) [] [.ptr 20 0 0 0 0, .ptr 19 0 0 0 0]), (0, .d (.lst true 0 []))] [7] (rangeAt cx.P 136 0).1 (rangeAt cx.P 136 0).2 13)] (.exit 0) [] [(0, .box (.d (.agg [.v (.string a0), I a1, I a2, I a3, I a4, I a5, I a6, I a7, I a8, I a9]))), (19, .box (.d (.agg [.v (.string a0), I a1, I a2, I a3, I a4, I a5, I a6, I a7, I a8, I a9]))), (20, .box (.d (I a10))), (28, .box (.own 81 0)), (31, .loop true [(6, .fn (.func 137) [] [.ptr 20 0 0 0 0, .ptr 19 0 0 0 0]), (4, .d (.lst true 0 [])), (2, .ptr 28 0 0 0 0), (1, .fn (.func 137) [] [.ptr 20 0 0 0 0, .ptr 19 0 0 0 0]), (0, .d (.lst true 0 []))] [7] (rangeAt cx.P 136 0).1 (rangeAt cx.P 136 0).2 13), (81, .row 0 4 t5)], (t3 != 0) = false, Computes cx 59 [.lst true 1 [I t1, I t2]] (I t3), Computes cx 82 [I a10] (I t2), Computes cx 60 [.agg [.v (.string a0), I a1, I a2, I a3, I a4, I a5, I a6, I a7, I a8, I a9]] (I t1)]) (by kernel_rfl) ⟨(loopF_to R_field_Facets_L5 h6), (loopF_to R_field_Facets_L4 h5), (nef h4), ((c_field_first h3).le (.cons (.full _ _ _) (.nil)) (.refl _)), (c_field_checkK h2), (c_field_Mirror_check h1), trivial⟩
  · replace h := ite_f h h4
    replace h := Option.some.inj h
    subst h
    exact (run (n := 100) (f := 34) (args := [.agg [.v (.string a0), I a1, I a2, I a3, I a4, I a5, I a6, I a7, I a8, I a9], I a10]) (orc := [.ret (I t1), .ret (I t2), .ret (I t3), .br true]) (r := .tup [.lst true 0 [], I t3]) (ob := [(t3 != 0) = true, Computes cx 59 [.lst true 1 [I t1, I t2]] (I t3), Computes cx 82 [I a10] (I t2), Computes cx 60 [.agg [.v (.string a0), I a1, I a2, I a3, I a4, I a5, I a6, I a7, I a8, I a9]] (I t1)]) (by kernel_rfl) ⟨(net h4), ((c_field_first h3).le (.cons (.full _ _ _) (.nil)) (.refl _)), (c_field_checkK h2), (c_field_Mirror_check h1), trivial⟩).le (LEs.refl _) (.tups (.cons (.lst _ _ _ _ _ nofun (.inl rfl)) (.cons (.refl _) (.nil))))
def F_law04_own_L1 (n : Nat) (a0 : List D) (sa : (Int × List D)) : Option (((Int × List D)) ⊕ ((List D))) :=
 if sa.1 < ((a0).length : Int) then
  (el un_Asi9Z a0 sa.1).bind fun ta2 =>
  if roomP 88 ((sa.2).length + 1) then
  if inI64 (sa.1 + 1) then
  some (.inl ((sa.1 + 1), (sa.2 ++ ([.agg [.v (.string ta2.1), I ta2.2.1, I ta2.2.2.1, I ta2.2.2.2.1, I ta2.2.2.2.2.1, I ta2.2.2.2.2.2.1, I ta2.2.2.2.2.2.2.1, I ta2.2.2.2.2.2.2.2.1, I ta2.2.2.2.2.2.2.2.2.1, I ta2.2.2.2.2.2.2.2.2.2]] : List D))))
  else none
  else none
 else
 some (.inr sa.2)
noncomputable def T_law04_own_L1 (a0 : List D) (sa : (Int × List D)) : List (Nat × AV) := [(3, .own 5 0), (6, .d (.lst false 10 a0)), (7, .d (I ((a0).length : Int))), (8, .d (I sa.1))]
noncomputable def H_law04_own_L1 (a0 : List D) (sa : (Int × List D)) : List (Nat × Blk) := [(5, .row 0 10 sa.2)]
noncomputable def X_law04_own_L1 (a0 : List D) (e : (List D)) : Ex := (.exit 0)
noncomputable def XT_law04_own_L1 (a0 : List D) (e : (List D)) : List (Nat × AV) := [(3, .own 5 0)]
noncomputable def XH_law04_own_L1 (a0 : List D) (e : (List D)) : List (Nat × Blk) := [(5, .row 0 10 e)]
theorem R_law04_own_L1 {n : Nat} {a0 : List D} (sa : (Int × List D)) (r) (h : F_law04_own_L1 n a0 sa = some r) : Rd cx (loopAt cx.P 22 0) 18 0 false (T_law04_own_L1 a0) (H_law04_own_L1 a0) (X_law04_own_L1 a0) (XT_law04_own_L1 a0) (XH_law04_own_L1 a0) sa r := by
  unfold F_law04_own_L1 at h
  by_cases ha1 : sa.1 < ((a0).length : Int)
  · replace h := ite_t h ha1
    obtain ⟨ta2, ha2, h⟩ := bnd_of h
    obtain ⟨ha3, h⟩ := grd_of h
    obtain ⟨ha4, h⟩ := grd_of h
    replace h := Option.some.inj h
    subst h
    exact ⟨100, 6, [.br true, .el (.agg [.v (.string ta2.1), I ta2.2.1, I ta2.2.2.1, I ta2.2.2.2.1, I ta2.2.2.2.2.1, I ta2.2.2.2.2.2.1, I ta2.2.2.2.2.2.2.1, I ta2.2.2.2.2.2.2.2.1, I ta2.2.2.2.2.2.2.2.2.1, I ta2.2.2.2.2.2.2.2.2.2]), .br true], [], [3, 6, 7, 8], [5], round_of (ob := [inI64 (sa.1 + 1), room cx 33 ((sa.2).length + 1), (0 : Int) ≤ sa.1, nth (a0) (Int.toNat sa.1) = some (.agg [.v (.string ta2.1), I ta2.2.1, I ta2.2.2.1, I ta2.2.2.2.1, I ta2.2.2.2.2.1, I ta2.2.2.2.2.2.1, I ta2.2.2.2.2.2.2.1, I ta2.2.2.2.2.2.2.2.1, I ta2.2.2.2.2.2.2.2.2.1, I ta2.2.2.2.2.2.2.2.2.2]), (decide (sa.1 < ((a0).length : Int))) = true]) (by kernel_rfl) ⟨ha4, (room_of (b := 88) (by kernel_rfl) (by decide) ha3), (el_ok un_Asi9Z_ok ha2).1, (el_ok un_Asi9Z_ok ha2).2, (decide_eq_true ha1), trivial⟩⟩
  · replace h := ite_f h ha1
    replace h := Option.some.inj h
    subst h
    exact ⟨⟨100, 6, [.br false], [], [3], [5], round_of (ob := [(decide (sa.1 < ((a0).length : Int))) = false]) (by kernel_rfl) ⟨(decide_eq_false ha1), trivial⟩⟩, nofun⟩
def F_law04_own (n : Nat) (a0 : List D) : Option (List D) :=
 (loopF (F_law04_own_L1 n a0) n (0, [])).bind fun t1 =>
 some t1
theorem c_law04_own {n : Nat} {a0 : List D} {r : List D} (h : F_law04_own n a0 = some r) : Computes cx 22 [.lst false 10 a0] (.lst false 10 r) := by
  unfold F_law04_own at h
  obtain ⟨t1, h1, h⟩ := bnd_of h
  replace h := Option.some.inj h
  subst h
  exact run (n := 100) (f := 22) (args := [.lst false 10 a0]) (orc := [.lp [3, 10] [3, 6, 7, 8] [5] (.exit 0) [(3, .own 5 0)] [(5, .row 0 10 t1)] 29]) (r := .lst false 10 t1) (ob := [LoopN cx (loopAt cx.P 22 0) 18 0 false [(3, .own 5 0), (6, .d (.lst false 10 a0)), (7, .d (I ((a0).length : Int))), (8, .d (I 0))] [(5, .row 0 10 [])] (.exit 0) [(3, .own 5 0)] [(5, .row 0 10 t1)]]) (by kernel_rfl) ⟨(loopF_to R_law04_own_L1 h1), trivial⟩
def enc_b (x : Bool) : D := B x
def un_b (d : D) : Option (Bool) := un_bool d
theorem un_b_ok {d : D} {x : Bool} (h : un_b d = some x) : d = enc_b x := un_bool_ok h
def F_field_when_3 (n : Nat)  : Option (Int) :=
 some 0
theorem c_field_when_3 {n : Nat}  {r : Int} (h : F_field_when_3 n  = some r) : Computes cx 66 [B false, I 9] (I r) := by
  unfold F_field_when_3 at h
  replace h := Option.some.inj h
  subst h
  exact run (n := 100) (f := 66) (args := [B false, I 9]) (orc := [.no]) (r := I 0) (ob := []) (by kernel_rfl) trivial
def F_field_CheckMirrors_L1 (n : Nat) (a0 : List D) (sa : (Int × List D)) : Option (((Int × List D)) ⊕ ((Int) ⊕ (Unit))) :=
 if sa.1 < ((a0).length : Int) then
  (el un_Asi9Z a0 sa.1).bind fun ta2 =>
  (F_field_Mirror_check n ta2.1 ta2.2.1 ta2.2.2.1 ta2.2.2.2.1 ta2.2.2.2.2.1 ta2.2.2.2.2.2.1 ta2.2.2.2.2.2.2.1 ta2.2.2.2.2.2.2.2.1 ta2.2.2.2.2.2.2.2.2.1 ta2.2.2.2.2.2.2.2.2.2).bind fun ta3 =>
  if mok (.string ta2.1) (sa.2 : List D) = true then
  if (mfind (.string ta2.1) (sa.2 : List D)).isSome = true then
  ((mfind (.string ta2.1) (sa.2 : List D)).bind un_b).bind fun ta6 =>
  (F_field_when n ta6 9).bind fun ta7 =>
  (F_field_first n ([I ta3, I ta7])).bind fun ta8 =>
  if ta8 = 0 then
   if inI64 (sa.1 + 1) then
   some (.inl ((sa.1 + 1), (mput (.string ta2.1) (B true) (sa.2 : List D))))
   else none
  else
  some (.inr (.inl ta8))
  else
  (F_field_when_3 n).bind fun ta6 =>
  (F_field_first n ([I ta3, I ta6])).bind fun ta7 =>
  if ta7 = 0 then
  if inI64 (sa.1 + 1) then
  some (.inl ((sa.1 + 1), (mput (.string ta2.1) (B true) (sa.2 : List D))))
  else none
  else
  some (.inr (.inl ta7))
  else none
 else
 some (.inr (.inr ()))
noncomputable def T_field_CheckMirrors_L1 (a0 : List D) (sa : (Int × List D)) : List (Nat × AV) := [(3, .own 4 0), (11, .d (.lst false 10 a0)), (12, .d (I ((a0).length : Int))), (13, .d (I sa.1))]
noncomputable def H_field_CheckMirrors_L1 (a0 : List D) (sa : (Int × List D)) : List (Nat × Blk) := [(4, .mp sa.2)]
noncomputable def X_field_CheckMirrors_L1 (a0 : List D) (e : (Int) ⊕ (Unit)) : Ex := match e with
  | (.inl e) => .ret
  | (.inr e) => (.exit 0)
noncomputable def XT_field_CheckMirrors_L1 (a0 : List D) (e : (Int) ⊕ (Unit)) : List (Nat × AV) := match e with
  | (.inl e) => [(2, .d (I e))]
  | (.inr e) => []
noncomputable def XH_field_CheckMirrors_L1 (a0 : List D) (e : (Int) ⊕ (Unit)) : List (Nat × Blk) := match e with
  | (.inl e) => []
  | (.inr e) => []
theorem R_field_CheckMirrors_L1 {n : Nat} {a0 : List D} (sa : (Int × List D)) (r) (h : F_field_CheckMirrors_L1 n a0 sa = some r) : Rd cx (loopAt cx.P 84 0) 33 0 false (T_field_CheckMirrors_L1 a0) (H_field_CheckMirrors_L1 a0) (X_field_CheckMirrors_L1 a0) (XT_field_CheckMirrors_L1 a0) (XH_field_CheckMirrors_L1 a0) sa r := by
  unfold F_field_CheckMirrors_L1 at h
  by_cases ha1 : sa.1 < ((a0).length : Int)
  · replace h := ite_t h ha1
    obtain ⟨ta2, ha2, h⟩ := bnd_of h
    obtain ⟨ta3, ha3, h⟩ := bnd_of h
    obtain ⟨ha4, h⟩ := grd_of h
    by_cases ha5 : (mfind (.string ta2.1) (sa.2 : List D)).isSome = true
    · replace h := ite_t h ha5
      obtain ⟨ta6, ha6, h⟩ := bnd_of h
      obtain ⟨ta7, ha7, h⟩ := bnd_of h
      obtain ⟨ta8, ha8, h⟩ := bnd_of h
      by_cases ha9 : ta8 = 0
      · replace h := ite_t h ha9
        obtain ⟨ha10, h⟩ := grd_of h
        replace h := Option.some.inj h
        subst h
        exact ⟨100, 9, [.br true, .el (.agg [.v (.string ta2.1), I ta2.2.1, I ta2.2.2.1, I ta2.2.2.2.1, I ta2.2.2.2.2.1, I ta2.2.2.2.2.2.1, I ta2.2.2.2.2.2.2.1, I ta2.2.2.2.2.2.2.2.1, I ta2.2.2.2.2.2.2.2.2.1, I ta2.2.2.2.2.2.2.2.2.2]), .ret (I ta3), .el (B ta6), .ret (I ta7), .ret (I ta8), .br false, .br true], [], [3, 11, 12, 13], [4], round_of (ob := [inI64 (sa.1 + 1), mok (.string ta2.1) (sa.2 : List D) = true, (ta8 != 0) = false, Computes cx 59 [.lst true 1 [I ta3, I ta7]] (I ta8), Computes cx 66 [B ta6, I 9] (I ta7), mlook false (.string ta2.1) (B false) (sa.2 : List D) = some (B ta6), Computes cx 60 [.agg [.v (.string ta2.1), I ta2.2.1, I ta2.2.2.1, I ta2.2.2.2.1, I ta2.2.2.2.2.1, I ta2.2.2.2.2.2.1, I ta2.2.2.2.2.2.2.1, I ta2.2.2.2.2.2.2.2.1, I ta2.2.2.2.2.2.2.2.2.1, I ta2.2.2.2.2.2.2.2.2.2]] (I ta3), (0 : Int) ≤ sa.1, nth (a0) (Int.toNat sa.1) = some (.agg [.v (.string ta2.1), I ta2.2.1, I ta2.2.2.1, I ta2.2.2.2.1, I ta2.2.2.2.2.1, I ta2.2.2.2.2.2.1, I ta2.2.2.2.2.2.2.1, I ta2.2.2.2.2.2.2.2.1, I ta2.2.2.2.2.2.2.2.2.1, I ta2.2.2.2.2.2.2.2.2.2]), (decide (sa.1 < ((a0).length : Int))) = true]) (by kernel_rfl) ⟨ha10, ha4, (nef ha9), ((c_field_first ha8).le (.cons (.full _ _ _) (.nil)) (.refl _)), (c_field_when ha7), (mlook_hit1 ha4 (mel_ok un_b_ok ha6)), (c_field_Mirror_check ha3), (el_ok un_Asi9Z_ok ha2).1, (el_ok un_Asi9Z_ok ha2).2, (decide_eq_true ha1), trivial⟩⟩
      · replace h := ite_f h ha9
        replace h := Option.some.inj h
        subst h
        exact ⟨⟨100, 9, [.br true, .el (.agg [.v (.string ta2.1), I ta2.2.1, I ta2.2.2.1, I ta2.2.2.2.1, I ta2.2.2.2.2.1, I ta2.2.2.2.2.2.1, I ta2.2.2.2.2.2.2.1, I ta2.2.2.2.2.2.2.2.1, I ta2.2.2.2.2.2.2.2.2.1, I ta2.2.2.2.2.2.2.2.2.2]), .ret (I ta3), .el (B ta6), .ret (I ta7), .ret (I ta8), .br true], [], [2], [], round_of (ob := [(ta8 != 0) = true, Computes cx 59 [.lst true 1 [I ta3, I ta7]] (I ta8), Computes cx 66 [B ta6, I 9] (I ta7), mlook false (.string ta2.1) (B false) (sa.2 : List D) = some (B ta6), Computes cx 60 [.agg [.v (.string ta2.1), I ta2.2.1, I ta2.2.2.1, I ta2.2.2.2.1, I ta2.2.2.2.2.1, I ta2.2.2.2.2.2.1, I ta2.2.2.2.2.2.2.1, I ta2.2.2.2.2.2.2.2.1, I ta2.2.2.2.2.2.2.2.2.1, I ta2.2.2.2.2.2.2.2.2.2]] (I ta3), (0 : Int) ≤ sa.1, nth (a0) (Int.toNat sa.1) = some (.agg [.v (.string ta2.1), I ta2.2.1, I ta2.2.2.1, I ta2.2.2.2.1, I ta2.2.2.2.2.1, I ta2.2.2.2.2.2.1, I ta2.2.2.2.2.2.2.1, I ta2.2.2.2.2.2.2.2.1, I ta2.2.2.2.2.2.2.2.2.1, I ta2.2.2.2.2.2.2.2.2.2]), (decide (sa.1 < ((a0).length : Int))) = true]) (by kernel_rfl) ⟨(net ha9), ((c_field_first ha8).le (.cons (.full _ _ _) (.nil)) (.refl _)), (c_field_when ha7), (mlook_hit1 ha4 (mel_ok un_b_ok ha6)), (c_field_Mirror_check ha3), (el_ok un_Asi9Z_ok ha2).1, (el_ok un_Asi9Z_ok ha2).2, (decide_eq_true ha1), trivial⟩⟩, nofun⟩
    · replace h := ite_f h ha5
      obtain ⟨ta6, ha6, h⟩ := bnd_of h
      obtain ⟨ta7, ha7, h⟩ := bnd_of h
      by_cases ha8 : ta7 = 0
      · replace h := ite_t h ha8
        obtain ⟨ha9, h⟩ := grd_of h
        replace h := Option.some.inj h
        subst h
        exact ⟨100, 9, [.br true, .el (.agg [.v (.string ta2.1), I ta2.2.1, I ta2.2.2.1, I ta2.2.2.2.1, I ta2.2.2.2.2.1, I ta2.2.2.2.2.2.1, I ta2.2.2.2.2.2.2.1, I ta2.2.2.2.2.2.2.2.1, I ta2.2.2.2.2.2.2.2.2.1, I ta2.2.2.2.2.2.2.2.2.2]), .ret (I ta3), .el (B false), .ret (I ta6), .ret (I ta7), .br false, .br true], [], [3, 11, 12, 13], [4], round_of (ob := [inI64 (sa.1 + 1), mok (.string ta2.1) (sa.2 : List D) = true, (ta7 != 0) = false, Computes cx 59 [.lst true 1 [I ta3, I ta6]] (I ta7), Computes cx 66 [B false, I 9] (I ta6), mlook false (.string ta2.1) (B false) (sa.2 : List D) = some (B false), Computes cx 60 [.agg [.v (.string ta2.1), I ta2.2.1, I ta2.2.2.1, I ta2.2.2.2.1, I ta2.2.2.2.2.1, I ta2.2.2.2.2.2.1, I ta2.2.2.2.2.2.2.1, I ta2.2.2.2.2.2.2.2.1, I ta2.2.2.2.2.2.2.2.2.1, I ta2.2.2.2.2.2.2.2.2.2]] (I ta3), (0 : Int) ≤ sa.1, nth (a0) (Int.toNat sa.1) = some (.agg [.v (.string ta2.1), I ta2.2.1, I ta2.2.2.1, I ta2.2.2.2.1, I ta2.2.2.2.2.1, I ta2.2.2.2.2.2.1, I ta2.2.2.2.2.2.2.1, I ta2.2.2.2.2.2.2.2.1, I ta2.2.2.2.2.2.2.2.2.1, I ta2.2.2.2.2.2.2.2.2.2]), (decide (sa.1 < ((a0).length : Int))) = true]) (by kernel_rfl) ⟨ha9, ha4, (nef ha8), ((c_field_first ha7).le (.cons (.full _ _ _) (.nil)) (.refl _)), (c_field_when_3 ha6), (mlook_miss1 ha4 (mno ha5)), (c_field_Mirror_check ha3), (el_ok un_Asi9Z_ok ha2).1, (el_ok un_Asi9Z_ok ha2).2, (decide_eq_true ha1), trivial⟩⟩
      · replace h := ite_f h ha8
        replace h := Option.some.inj h
        subst h
        exact ⟨⟨100, 9, [.br true, .el (.agg [.v (.string ta2.1), I ta2.2.1, I ta2.2.2.1, I ta2.2.2.2.1, I ta2.2.2.2.2.1, I ta2.2.2.2.2.2.1, I ta2.2.2.2.2.2.2.1, I ta2.2.2.2.2.2.2.2.1, I ta2.2.2.2.2.2.2.2.2.1, I ta2.2.2.2.2.2.2.2.2.2]), .ret (I ta3), .el (B false), .ret (I ta6), .ret (I ta7), .br true], [], [2], [], round_of (ob := [(ta7 != 0) = true, Computes cx 59 [.lst true 1 [I ta3, I ta6]] (I ta7), Computes cx 66 [B false, I 9] (I ta6), mlook false (.string ta2.1) (B false) (sa.2 : List D) = some (B false), Computes cx 60 [.agg [.v (.string ta2.1), I ta2.2.1, I ta2.2.2.1, I ta2.2.2.2.1, I ta2.2.2.2.2.1, I ta2.2.2.2.2.2.1, I ta2.2.2.2.2.2.2.1, I ta2.2.2.2.2.2.2.2.1, I ta2.2.2.2.2.2.2.2.2.1, I ta2.2.2.2.2.2.2.2.2.2]] (I ta3), (0 : Int) ≤ sa.1, nth (a0) (Int.toNat sa.1) = some (.agg [.v (.string ta2.1), I ta2.2.1, I ta2.2.2.1, I ta2.2.2.2.1, I ta2.2.2.2.2.1, I ta2.2.2.2.2.2.1, I ta2.2.2.2.2.2.2.1, I ta2.2.2.2.2.2.2.2.1, I ta2.2.2.2.2.2.2.2.2.1, I ta2.2.2.2.2.2.2.2.2.2]), (decide (sa.1 < ((a0).length : Int))) = true]) (by kernel_rfl) ⟨(net ha8), ((c_field_first ha7).le (.cons (.full _ _ _) (.nil)) (.refl _)), (c_field_when_3 ha6), (mlook_miss1 ha4 (mno ha5)), (c_field_Mirror_check ha3), (el_ok un_Asi9Z_ok ha2).1, (el_ok un_Asi9Z_ok ha2).2, (decide_eq_true ha1), trivial⟩⟩, nofun⟩
  · replace h := ite_f h ha1
    replace h := Option.some.inj h
    subst h
    exact ⟨⟨100, 9, [.br false], [], [], [], round_of (ob := [(decide (sa.1 < ((a0).length : Int))) = false]) (by kernel_rfl) ⟨(decide_eq_false ha1), trivial⟩⟩, nofun⟩
def F_field_CheckMirrors (n : Nat) (a0 : List D) : Option (Int) :=
 if ((a0).length : Int) > 64 then
  some 5
 else
 (loopF (F_field_CheckMirrors_L1 n a0) n (0, [])).bind fun t2 => match t2 with
  | (.inl t2) => (
  some t2)
  | (.inr t2) => (
  some 0)
theorem c_field_CheckMirrors {n : Nat} {a0 : List D} {r : Int} (h : F_field_CheckMirrors n a0 = some r) : Computes cx 84 [.lst false 10 a0] (I r) := by
  unfold F_field_CheckMirrors at h
  by_cases h1 : ((a0).length : Int) > 64
  · replace h := ite_t h h1
    replace h := Option.some.inj h
    subst h
    exact run (n := 100) (f := 84) (args := [.lst false 10 a0]) (orc := [.br true]) (r := I 5) (ob := [(decide (((a0).length : Int) > 64)) = true]) (by kernel_rfl) ⟨(decide_eq_true h1), trivial⟩
  · replace h := ite_f h h1
    obtain ⟨t2, h2, h⟩ := bnd_of h
    rcases t2 with t2 | t2
    · replace h := Option.some.inj h
      subst h
      exact run (n := 100) (f := 84) (args := [.lst false 10 a0]) (orc := [.br false, .lp [] [3, 11, 12, 13] [4] .ret [(2, .d (I t2))] [] 43]) (r := I t2) (ob := [LoopN cx (loopAt cx.P 84 0) 33 0 false [(3, .own 4 0), (11, .d (.lst false 10 a0)), (12, .d (I ((a0).length : Int))), (13, .d (I 0))] [(4, .mp [])] .ret [(2, .d (I t2))] [], (decide (((a0).length : Int) > 64)) = false]) (by kernel_rfl) ⟨(loopF_to R_field_CheckMirrors_L1 h2), (decide_eq_false h1), trivial⟩
    · replace h := Option.some.inj h
      subst h
      exact run (n := 100) (f := 84) (args := [.lst false 10 a0]) (orc := [.br false, .lp [] [3, 11, 12, 13] [4] (.exit 0) [] [] 43]) (r := I 0) (ob := [LoopN cx (loopAt cx.P 84 0) 33 0 false [(3, .own 4 0), (11, .d (.lst false 10 a0)), (12, .d (I ((a0).length : Int))), (13, .d (I 0))] [(4, .mp [])] (.exit 0) [] [], (decide (((a0).length : Int) > 64)) = false]) (by kernel_rfl) ⟨(loopF_to R_field_CheckMirrors_L1 h2), (decide_eq_false h1), trivial⟩
def F_field_when_4 (n : Nat)  : Option (Int) :=
 some 10
theorem c_field_when_4 {n : Nat}  {r : Int} (h : F_field_when_4 n  = some r) : Computes cx 66 [B true, I 10] (I r) := by
  unfold F_field_when_4 at h
  replace h := Option.some.inj h
  subst h
  exact run (n := 100) (f := 66) (args := [B true, I 10]) (orc := [.no]) (r := I 10) (ob := []) (by kernel_rfl) trivial
def F_field_checkIndex (n : Nat) (a0 : List D) (a1 : Int) : Option (Int) :=
 (F_field_CheckMirrors n a0).bind fun t1 =>
 if a1 < 0 then
  (F_field_when_4 n).bind fun t3 =>
  (F_field_first n ([I t1, I t3])).bind fun t4 =>
  some t4
 else
 (F_field_when n (decide (a1 ≥ ((a0).length : Int))) 10).bind fun t3 =>
 (F_field_first n ([I t1, I t3])).bind fun t4 =>
 some t4
theorem c_field_checkIndex {n : Nat} {a0 : List D} {a1 : Int} {r : Int} (h : F_field_checkIndex n a0 a1 = some r) : Computes cx 80 [.lst false 10 a0, I a1] (I r) := by
  unfold F_field_checkIndex at h
  obtain ⟨t1, h1, h⟩ := bnd_of h
  by_cases h2 : a1 < 0
  · replace h := ite_t h h2
    obtain ⟨t3, h3, h⟩ := bnd_of h
    obtain ⟨t4, h4, h⟩ := bnd_of h
    replace h := Option.some.inj h
    subst h
    exact run (n := 100) (f := 80) (args := [.lst false 10 a0, I a1]) (orc := [.ret (I t1), .br true, .ret (I t3), .ret (I t4)]) (r := I t4) (ob := [Computes cx 59 [.lst true 1 [I t1, I t3]] (I t4), Computes cx 66 [B true, I 10] (I t3), (decide (a1 < 0)) = true, Computes cx 84 [.lst false 10 a0] (I t1)]) (by kernel_rfl) ⟨((c_field_first h4).le (.cons (.full _ _ _) (.nil)) (.refl _)), (c_field_when_4 h3), (decide_eq_true h2), (c_field_CheckMirrors h1), trivial⟩
  · replace h := ite_f h h2
    obtain ⟨t3, h3, h⟩ := bnd_of h
    obtain ⟨t4, h4, h⟩ := bnd_of h
    replace h := Option.some.inj h
    subst h
    exact run (n := 100) (f := 80) (args := [.lst false 10 a0, I a1]) (orc := [.ret (I t1), .br false, .ret (I t3), .ret (I t4)]) (r := I t4) (ob := [Computes cx 59 [.lst true 1 [I t1, I t3]] (I t4), Computes cx 66 [B (decide (a1 ≥ ((a0).length : Int))), I 10] (I t3), (decide (a1 < 0)) = false, Computes cx 84 [.lst false 10 a0] (I t1)]) (by kernel_rfl) ⟨((c_field_first h4).le (.cons (.full _ _ _) (.nil)) (.refl _)), (c_field_when h3), (decide_eq_false h2), (c_field_CheckMirrors h1), trivial⟩
def F_field_checkDirection (n : Nat) (a0 : Int) (a1 : Int) (a2 : Int) (a3 : Int) : Option (Int) :=
 (F_field_checkParts n a0 a1 a2 a3).bind fun t1 =>
 (F_field_when n ((a0 == 0) && ((a1 == 0) && ((a2 == 0) && true))) 6).bind fun t2 =>
 (F_field_first n ([I t1, I t2])).bind fun t3 =>
 some t3
theorem c_field_checkDirection {n : Nat} {a0 : Int} {a1 : Int} {a2 : Int} {a3 : Int} {r : Int} (h : F_field_checkDirection n a0 a1 a2 a3 = some r) : Computes cx 61 [.agg [I a0, I a1, I a2], I a3] (I r) := by
  unfold F_field_checkDirection at h
  obtain ⟨t1, h1, h⟩ := bnd_of h
  obtain ⟨t2, h2, h⟩ := bnd_of h
  obtain ⟨t3, h3, h⟩ := bnd_of h
  replace h := Option.some.inj h
  subst h
  exact run (n := 100) (f := 61) (args := [.agg [I a0, I a1, I a2], I a3]) (orc := [.ret (I t1), .ret (I t2), .ret (I t3)]) (r := I t3) (ob := [Computes cx 59 [.lst true 1 [I t1, I t2]] (I t3), Computes cx 66 [B ((a0 == 0) && ((a1 == 0) && ((a2 == 0) && true))), I 6] (I t2), Computes cx 81 [.agg [I a0, I a1, I a2], I a3] (I t1)]) (by kernel_rfl) ⟨((c_field_first h3).le (.cons (.full _ _ _) (.nil)) (.refl _)), (c_field_when h2), (c_field_checkParts h1), trivial⟩
def F_field_met_L1 (n : Nat) (a0 : List D) (a1 : Int) (a2 : Int) (a3 : Int) (a4 : Int) (a5 : Int) (a6 : Int) (a7 : Int) (a8 : Int) (a9 : Bool) (sa : (Int)) : Option (((Int)) ⊕ ((Unit) ⊕ (Unit))) :=
 if sa < ((a0).length : Int) then
  (el un_Asi9Z a0 sa).bind fun ta2 =>
  if sa = a1 then
  if inI64 (sa + 1) then
  some (.inl (sa + 1))
  else none
  else
  (F_field_Mirror_meets n ta2.1 ta2.2.1 ta2.2.2.1 ta2.2.2.2.1 ta2.2.2.2.2.1 ta2.2.2.2.2.2.1 ta2.2.2.2.2.2.2.1 ta2.2.2.2.2.2.2.2.1 ta2.2.2.2.2.2.2.2.2.1 ta2.2.2.2.2.2.2.2.2.2 a2 a3 a4 a5 a6 a7 a8 a9).bind fun ta4 =>
  if ta4 = true then
  some (.inr (.inl ()))
  else
  if inI64 (sa + 1) then
  some (.inl (sa + 1))
  else none
 else
 some (.inr (.inr ()))
noncomputable def T_field_met_L1 (a0 : List D) (a1 : Int) (a2 : Int) (a3 : Int) (a4 : Int) (a5 : Int) (a6 : Int) (a7 : Int) (a8 : Int) (a9 : Bool) (sa : (Int)) : List (Nat × AV) := [(1, .d (I a1)), (2, .d (I a2)), (7, .ptr 0 0 0 0 0), (11, .d (.lst false 10 a0)), (12, .d (I ((a0).length : Int))), (13, .d (I sa))]
noncomputable def H_field_met_L1 (a0 : List D) (a1 : Int) (a2 : Int) (a3 : Int) (a4 : Int) (a5 : Int) (a6 : Int) (a7 : Int) (a8 : Int) (a9 : Bool) (sa : (Int)) : List (Nat × Blk) := [(0, .box (.d (.agg [I a3, I a4, I a5, I a6, I a7, I a8, B a9])))]
noncomputable def X_field_met_L1 (a0 : List D) (a1 : Int) (a2 : Int) (a3 : Int) (a4 : Int) (a5 : Int) (a6 : Int) (a7 : Int) (a8 : Int) (a9 : Bool) (e : (Unit) ⊕ (Unit)) : Ex := match e with
  | (.inl e) => .ret
  | (.inr e) => (.exit 0)
noncomputable def XT_field_met_L1 (a0 : List D) (a1 : Int) (a2 : Int) (a3 : Int) (a4 : Int) (a5 : Int) (a6 : Int) (a7 : Int) (a8 : Int) (a9 : Bool) (e : (Unit) ⊕ (Unit)) : List (Nat × AV) := match e with
  | (.inl e) => [(8, .d (B true))]
  | (.inr e) => []
noncomputable def XH_field_met_L1 (a0 : List D) (a1 : Int) (a2 : Int) (a3 : Int) (a4 : Int) (a5 : Int) (a6 : Int) (a7 : Int) (a8 : Int) (a9 : Bool) (e : (Unit) ⊕ (Unit)) : List (Nat × Blk) := match e with
  | (.inl e) => []
  | (.inr e) => []
theorem R_field_met_L1 {n : Nat} {a0 : List D} {a1 : Int} {a2 : Int} {a3 : Int} {a4 : Int} {a5 : Int} {a6 : Int} {a7 : Int} {a8 : Int} {a9 : Bool} (sa : (Int)) (r) (h : F_field_met_L1 n a0 a1 a2 a3 a4 a5 a6 a7 a8 a9 sa = some r) : Rd cx (loopAt cx.P 140 0) 28 0 false (T_field_met_L1 a0 a1 a2 a3 a4 a5 a6 a7 a8 a9) (H_field_met_L1 a0 a1 a2 a3 a4 a5 a6 a7 a8 a9) (X_field_met_L1 a0 a1 a2 a3 a4 a5 a6 a7 a8 a9) (XT_field_met_L1 a0 a1 a2 a3 a4 a5 a6 a7 a8 a9) (XH_field_met_L1 a0 a1 a2 a3 a4 a5 a6 a7 a8 a9) sa r := by
  unfold F_field_met_L1 at h
  by_cases ha1 : sa < ((a0).length : Int)
  · replace h := ite_t h ha1
    obtain ⟨ta2, ha2, h⟩ := bnd_of h
    by_cases ha3 : sa = a1
    · replace h := ite_t h ha3
      obtain ⟨ha4, h⟩ := grd_of h
      replace h := Option.some.inj h
      subst h
      exact ⟨100, 5, [.br true, .el (.agg [.v (.string ta2.1), I ta2.2.1, I ta2.2.2.1, I ta2.2.2.2.1, I ta2.2.2.2.2.1, I ta2.2.2.2.2.2.1, I ta2.2.2.2.2.2.2.1, I ta2.2.2.2.2.2.2.2.1, I ta2.2.2.2.2.2.2.2.2.1, I ta2.2.2.2.2.2.2.2.2.2]), .br false, .no], [], [1, 2, 7, 11, 12, 13], [0], round_of (ob := [inI64 (sa + 1), (sa != a1) = false, (0 : Int) ≤ sa, nth (a0) (Int.toNat sa) = some (.agg [.v (.string ta2.1), I ta2.2.1, I ta2.2.2.1, I ta2.2.2.2.1, I ta2.2.2.2.2.1, I ta2.2.2.2.2.2.1, I ta2.2.2.2.2.2.2.1, I ta2.2.2.2.2.2.2.2.1, I ta2.2.2.2.2.2.2.2.2.1, I ta2.2.2.2.2.2.2.2.2.2]), (decide (sa < ((a0).length : Int))) = true]) (by kernel_rfl) ⟨ha4, (nef ha3), (el_ok un_Asi9Z_ok ha2).1, (el_ok un_Asi9Z_ok ha2).2, (decide_eq_true ha1), trivial⟩⟩
    · replace h := ite_f h ha3
      obtain ⟨ta4, ha4, h⟩ := bnd_of h
      by_cases ha5 : ta4 = true
      · replace h := ite_t h ha5
        replace h := Option.some.inj h
        subst h
        exact ⟨⟨100, 5, [.br true, .el (.agg [.v (.string ta2.1), I ta2.2.1, I ta2.2.2.1, I ta2.2.2.2.1, I ta2.2.2.2.2.1, I ta2.2.2.2.2.2.1, I ta2.2.2.2.2.2.2.1, I ta2.2.2.2.2.2.2.2.1, I ta2.2.2.2.2.2.2.2.2.1, I ta2.2.2.2.2.2.2.2.2.2]), .br true, .ret (B ta4), .br true], [], [8], [], round_of (ob := [ta4 = true, Computes cx 120 [.agg [.v (.string ta2.1), I ta2.2.1, I ta2.2.2.1, I ta2.2.2.2.1, I ta2.2.2.2.2.1, I ta2.2.2.2.2.2.1, I ta2.2.2.2.2.2.2.1, I ta2.2.2.2.2.2.2.2.1, I ta2.2.2.2.2.2.2.2.2.1, I ta2.2.2.2.2.2.2.2.2.2], I a2, .agg [I a3, I a4, I a5, I a6, I a7, I a8, B a9]] (B ta4), (sa != a1) = true, (0 : Int) ≤ sa, nth (a0) (Int.toNat sa) = some (.agg [.v (.string ta2.1), I ta2.2.1, I ta2.2.2.1, I ta2.2.2.2.1, I ta2.2.2.2.2.1, I ta2.2.2.2.2.2.1, I ta2.2.2.2.2.2.2.1, I ta2.2.2.2.2.2.2.2.1, I ta2.2.2.2.2.2.2.2.2.1, I ta2.2.2.2.2.2.2.2.2.2]), (decide (sa < ((a0).length : Int))) = true]) (by kernel_rfl) ⟨ha5, (c_field_Mirror_meets ha4), (net ha3), (el_ok un_Asi9Z_ok ha2).1, (el_ok un_Asi9Z_ok ha2).2, (decide_eq_true ha1), trivial⟩⟩, nofun⟩
      · replace h := ite_f h ha5
        obtain ⟨ha6, h⟩ := grd_of h
        replace h := Option.some.inj h
        subst h
        exact ⟨100, 5, [.br true, .el (.agg [.v (.string ta2.1), I ta2.2.1, I ta2.2.2.1, I ta2.2.2.2.1, I ta2.2.2.2.2.1, I ta2.2.2.2.2.2.1, I ta2.2.2.2.2.2.2.1, I ta2.2.2.2.2.2.2.2.1, I ta2.2.2.2.2.2.2.2.2.1, I ta2.2.2.2.2.2.2.2.2.2]), .br true, .ret (B ta4), .br false], [], [1, 2, 7, 11, 12, 13], [0], round_of (ob := [inI64 (sa + 1), ta4 = false, Computes cx 120 [.agg [.v (.string ta2.1), I ta2.2.1, I ta2.2.2.1, I ta2.2.2.2.1, I ta2.2.2.2.2.1, I ta2.2.2.2.2.2.1, I ta2.2.2.2.2.2.2.1, I ta2.2.2.2.2.2.2.2.1, I ta2.2.2.2.2.2.2.2.2.1, I ta2.2.2.2.2.2.2.2.2.2], I a2, .agg [I a3, I a4, I a5, I a6, I a7, I a8, B a9]] (B ta4), (sa != a1) = true, (0 : Int) ≤ sa, nth (a0) (Int.toNat sa) = some (.agg [.v (.string ta2.1), I ta2.2.1, I ta2.2.2.1, I ta2.2.2.2.1, I ta2.2.2.2.2.1, I ta2.2.2.2.2.2.1, I ta2.2.2.2.2.2.2.1, I ta2.2.2.2.2.2.2.2.1, I ta2.2.2.2.2.2.2.2.2.1, I ta2.2.2.2.2.2.2.2.2.2]), (decide (sa < ((a0).length : Int))) = true]) (by kernel_rfl) ⟨ha6, (bfalse ha5), (c_field_Mirror_meets ha4), (net ha3), (el_ok un_Asi9Z_ok ha2).1, (el_ok un_Asi9Z_ok ha2).2, (decide_eq_true ha1), trivial⟩⟩
  · replace h := ite_f h ha1
    replace h := Option.some.inj h
    subst h
    exact ⟨⟨100, 5, [.br false], [], [], [], round_of (ob := [(decide (sa < ((a0).length : Int))) = false]) (by kernel_rfl) ⟨(decide_eq_false ha1), trivial⟩⟩, nofun⟩
def F_field_met (n : Nat) (a0 : List D) (a1 : Int) (a2 : Int) (a3 : Int) (a4 : Int) (a5 : Int) (a6 : Int) (a7 : Int) (a8 : Int) (a9 : Bool) : Option (Bool) :=
 (loopF (F_field_met_L1 n a0 a1 a2 a3 a4 a5 a6 a7 a8 a9) n 0).bind fun t1 => match t1 with
  | (.inl t1) => (
  some true)
  | (.inr t1) => (
  some false)
theorem c_field_met {n : Nat} {a0 : List D} {a1 : Int} {a2 : Int} {a3 : Int} {a4 : Int} {a5 : Int} {a6 : Int} {a7 : Int} {a8 : Int} {a9 : Bool} {r : Bool} (h : F_field_met n a0 a1 a2 a3 a4 a5 a6 a7 a8 a9 = some r) : Computes cx 140 [.lst false 10 a0, I a1, I a2, .agg [I a3, I a4, I a5, I a6, I a7, I a8, B a9]] (B r) := by
  unfold F_field_met at h
  obtain ⟨t1, h1, h⟩ := bnd_of h
  rcases t1 with t1 | t1
  · replace h := Option.some.inj h
    subst h
    exact run (n := 100) (f := 140) (args := [.lst false 10 a0, I a1, I a2, .agg [I a3, I a4, I a5, I a6, I a7, I a8, B a9]]) (orc := [.lp [] [1, 2, 7, 11, 12, 13] [0] .ret [(8, .d (B true))] [] 34]) (r := B true) (ob := [LoopN cx (loopAt cx.P 140 0) 28 0 false [(1, .d (I a1)), (2, .d (I a2)), (7, .ptr 0 0 0 0 0), (11, .d (.lst false 10 a0)), (12, .d (I ((a0).length : Int))), (13, .d (I 0))] [(0, .box (.d (.agg [I a3, I a4, I a5, I a6, I a7, I a8, B a9])))] .ret [(8, .d (B true))] []]) (by kernel_rfl) ⟨(loopF_to R_field_met_L1 h1), trivial⟩
  · replace h := Option.some.inj h
    subst h
    exact run (n := 100) (f := 140) (args := [.lst false 10 a0, I a1, I a2, .agg [I a3, I a4, I a5, I a6, I a7, I a8, B a9]]) (orc := [.lp [] [1, 2, 7, 11, 12, 13] [0] (.exit 0) [] [] 34]) (r := B false) (ob := [LoopN cx (loopAt cx.P 140 0) 28 0 false [(1, .d (I a1)), (2, .d (I a2)), (7, .ptr 0 0 0 0 0), (11, .d (.lst false 10 a0)), (12, .d (I ((a0).length : Int))), (13, .d (I 0))] [(0, .box (.d (.agg [I a3, I a4, I a5, I a6, I a7, I a8, B a9])))] (.exit 0) [] []]) (by kernel_rfl) ⟨(loopF_to R_field_met_L1 h1), trivial⟩
def F_field_dark_L2 (n : Nat) (a0 : List D) (a1 : Int) (a2 : Int) (a3 : Int) (a4 : Int) (a5 : Int) (t1 : ByteArray × Int × Int × Int × Int × Int × Int × Int × Int × Int) (t3 : Int) (sa : Int) (sb : (Unit) ⊕ (Int × List D)) : Option (((Unit) ⊕ (Int × List D)) ⊕ ((Unit) ⊕ (List D))) := match sb with
 | (.inl sb) => (
  if 0 < a5 then
  (F_field_times n a5 t1.2.1 t1.2.2.1 t1.2.2.2.1).bind fun tb2 =>
  if inI64 (1 - a5) then
  (F_field_times n (1 - a5) t1.2.2.2.2.1 t1.2.2.2.2.2.1 t1.2.2.2.2.2.2.1).bind fun tb4 =>
  if inI64 (2 * sa) then
  if inI64 ((2 * sa) + 1) then
  if inI64 (((2 * sa) + 1) - a5) then
  (F_field_times n (((2 * sa) + 1) - a5) t1.2.2.2.2.2.2.2.1 t1.2.2.2.2.2.2.2.2.1 t1.2.2.2.2.2.2.2.2.2).bind fun tb8 =>
  (F_field_plus n tb4.1 tb4.2.1 tb4.2.2 tb8.1 tb8.2.1 tb8.2.2).bind fun tb9 =>
  (F_field_plus n tb2.1 tb2.2.1 tb2.2.2 tb9.1 tb9.2.1 tb9.2.2).bind fun tb10 =>
  if inI64 (sa * a5) then
  if inI64 ((sa * a5) + 0) then
  some (.inl (.inr (1, [.agg [I ((sa * a5) + 0), I tb10.1, I tb10.2.1, I tb10.2.2]])))
  else none
  else none
  else none
  else none
  else none
  else none
  else
  some (.inr (.inl ())))
 | (.inr sb) => (
  if sb.1 < a5 then
  (F_field_times n a5 t1.2.1 t1.2.2.1 t1.2.2.2.1).bind fun tb2 =>
  if inI64 (2 * sb.1) then
  if inI64 ((2 * sb.1) + 1) then
  if inI64 (((2 * sb.1) + 1) - a5) then
  (F_field_times n (((2 * sb.1) + 1) - a5) t1.2.2.2.2.1 t1.2.2.2.2.2.1 t1.2.2.2.2.2.2.1).bind fun tb6 =>
  if inI64 (2 * sa) then
  if inI64 ((2 * sa) + 1) then
  if inI64 (((2 * sa) + 1) - a5) then
  (F_field_times n (((2 * sa) + 1) - a5) t1.2.2.2.2.2.2.2.1 t1.2.2.2.2.2.2.2.2.1 t1.2.2.2.2.2.2.2.2.2).bind fun tb10 =>
  (F_field_plus n tb6.1 tb6.2.1 tb6.2.2 tb10.1 tb10.2.1 tb10.2.2).bind fun tb11 =>
  (F_field_plus n tb2.1 tb2.2.1 tb2.2.2 tb11.1 tb11.2.1 tb11.2.2).bind fun tb12 =>
  if inI64 (sa * a5) then
  if inI64 ((sa * a5) + sb.1) then
  if roomP 32 ((sb.2).length + 1) then
  if inI64 (sb.1 + 1) then
  some (.inl (.inr ((sb.1 + 1), (sb.2 ++ ([.agg [I ((sa * a5) + sb.1), I tb12.1, I tb12.2.1, I tb12.2.2]] : List D)))))
  else none
  else none
  else none
  else none
  else none
  else none
  else none
  else none
  else none
  else none
  else
  some (.inr (.inr sb.2)))
noncomputable def T_field_dark_L2 (a0 : List D) (a1 : Int) (a2 : Int) (a3 : Int) (a4 : Int) (a5 : Int) (t1 : ByteArray × Int × Int × Int × Int × Int × Int × Int × Int × Int) (t3 : Int) (sa : Int) (sb : (Unit) ⊕ (Int × List D)) : List (Nat × AV) := match sb with
  | (.inl sb) => [(0, .own 37 0), (1, .ptr 26 0 0 0 0), (2, .ptr 25 0 0 0 0), (4, .d (I sa)), (7, .d (I a5)), (8, .d (I sa)), (11, .d (I a5)), (12, .d (I 0))]
  | (.inr sb) => [(0, .own 37 0), (1, .ptr 26 0 0 0 0), (2, .ptr 25 0 0 0 0), (4, .d (I sa)), (7, .d (I a5)), (8, .d (I sa)), (11, .d (I a5)), (12, .d (I sb.1))]
noncomputable def H_field_dark_L2 (a0 : List D) (a1 : Int) (a2 : Int) (a3 : Int) (a4 : Int) (a5 : Int) (t1 : ByteArray × Int × Int × Int × Int × Int × Int × Int × Int × Int) (t3 : Int) (sa : Int) (sb : (Unit) ⊕ (Int × List D)) : List (Nat × Blk) := match sb with
  | (.inl sb) => [(0, .box (.d (.lst false 10 a0))), (1, .box (.d (I a1))), (2, .box (.d (.agg [I a2, I a3, I a4]))), (3, .box (.d (I a5))), (9, .box (.d (.agg [.v (.string t1.1), I t1.2.1, I t1.2.2.1, I t1.2.2.2.1, I t1.2.2.2.2.1, I t1.2.2.2.2.2.1, I t1.2.2.2.2.2.2.1, I t1.2.2.2.2.2.2.2.1, I t1.2.2.2.2.2.2.2.2.1, I t1.2.2.2.2.2.2.2.2.2]))), (16, .box (.d (B (decide (t3 > 0))))), (25, .box (.d (.agg [.v (.string t1.1), I t1.2.1, I t1.2.2.1, I t1.2.2.2.1, I t1.2.2.2.2.1, I t1.2.2.2.2.2.1, I t1.2.2.2.2.2.2.1, I t1.2.2.2.2.2.2.2.1, I t1.2.2.2.2.2.2.2.2.1, I t1.2.2.2.2.2.2.2.2.2]))), (26, .box (.d (I a5))), (34, .box (.d (.lst true 0 []))), (37, .loop true [(6, .fn (.func 137) [] [.ptr 26 0 0 0 0, .ptr 25 0 0 0 0]), (4, .d (.lst true 0 [])), (2, .ptr 34 0 0 0 0), (1, .fn (.func 137) [] [.ptr 26 0 0 0 0, .ptr 25 0 0 0 0]), (0, .d (.lst true 0 []))] [7] (rangeAt cx.P 136 0).1 (rangeAt cx.P 136 0).2 13)]
  | (.inr sb) => [(0, .box (.d (.lst false 10 a0))), (1, .box (.d (I a1))), (2, .box (.d (.agg [I a2, I a3, I a4]))), (3, .box (.d (I a5))), (9, .box (.d (.agg [.v (.string t1.1), I t1.2.1, I t1.2.2.1, I t1.2.2.2.1, I t1.2.2.2.2.1, I t1.2.2.2.2.2.1, I t1.2.2.2.2.2.2.1, I t1.2.2.2.2.2.2.2.1, I t1.2.2.2.2.2.2.2.2.1, I t1.2.2.2.2.2.2.2.2.2]))), (16, .box (.d (B (decide (t3 > 0))))), (25, .box (.d (.agg [.v (.string t1.1), I t1.2.1, I t1.2.2.1, I t1.2.2.2.1, I t1.2.2.2.2.1, I t1.2.2.2.2.2.1, I t1.2.2.2.2.2.2.1, I t1.2.2.2.2.2.2.2.1, I t1.2.2.2.2.2.2.2.2.1, I t1.2.2.2.2.2.2.2.2.2]))), (26, .box (.d (I a5))), (34, .box (.own 87 0)), (37, .loop true [(6, .fn (.func 137) [] [.ptr 26 0 0 0 0, .ptr 25 0 0 0 0]), (4, .d (.lst true 0 [])), (2, .ptr 34 0 0 0 0), (1, .fn (.func 137) [] [.ptr 26 0 0 0 0, .ptr 25 0 0 0 0]), (0, .d (.lst true 0 []))] [7] (rangeAt cx.P 136 0).1 (rangeAt cx.P 136 0).2 13), (87, .row 0 4 sb.2)]
noncomputable def X_field_dark_L2 (a0 : List D) (a1 : Int) (a2 : Int) (a3 : Int) (a4 : Int) (a5 : Int) (t1 : ByteArray × Int × Int × Int × Int × Int × Int × Int × Int × Int) (t3 : Int) (sa : Int) (e : (Unit) ⊕ (List D)) : Ex := match e with
  | (.inl e) => (.exit 2)
  | (.inr e) => (.exit 2)
noncomputable def XT_field_dark_L2 (a0 : List D) (a1 : Int) (a2 : Int) (a3 : Int) (a4 : Int) (a5 : Int) (t1 : ByteArray × Int × Int × Int × Int × Int × Int × Int × Int × Int) (t3 : Int) (sa : Int) (e : (Unit) ⊕ (List D)) : List (Nat × AV) := match e with
  | (.inl e) => [(0, .own 37 0), (1, .ptr 26 0 0 0 0), (2, .ptr 25 0 0 0 0), (7, .d (I a5)), (8, .d (I sa))]
  | (.inr e) => [(0, .own 37 0), (1, .ptr 26 0 0 0 0), (2, .ptr 25 0 0 0 0), (7, .d (I a5)), (8, .d (I sa))]
noncomputable def XH_field_dark_L2 (a0 : List D) (a1 : Int) (a2 : Int) (a3 : Int) (a4 : Int) (a5 : Int) (t1 : ByteArray × Int × Int × Int × Int × Int × Int × Int × Int × Int) (t3 : Int) (sa : Int) (e : (Unit) ⊕ (List D)) : List (Nat × Blk) := match e with
  | (.inl e) => [(0, .box (.d (.lst false 10 a0))), (1, .box (.d (I a1))), (2, .box (.d (.agg [I a2, I a3, I a4]))), (3, .box (.d (I a5))), (9, .box (.d (.agg [.v (.string t1.1), I t1.2.1, I t1.2.2.1, I t1.2.2.2.1, I t1.2.2.2.2.1, I t1.2.2.2.2.2.1, I t1.2.2.2.2.2.2.1, I t1.2.2.2.2.2.2.2.1, I t1.2.2.2.2.2.2.2.2.1, I t1.2.2.2.2.2.2.2.2.2]))), (16, .box (.d (B (decide (t3 > 0))))), (25, .box (.d (.agg [.v (.string t1.1), I t1.2.1, I t1.2.2.1, I t1.2.2.2.1, I t1.2.2.2.2.1, I t1.2.2.2.2.2.1, I t1.2.2.2.2.2.2.1, I t1.2.2.2.2.2.2.2.1, I t1.2.2.2.2.2.2.2.2.1, I t1.2.2.2.2.2.2.2.2.2]))), (26, .box (.d (I a5))), (34, .box (.d (.lst true 0 []))), (37, .loop true [(6, .fn (.func 137) [] [.ptr 26 0 0 0 0, .ptr 25 0 0 0 0]), (4, .d (.lst true 0 [])), (2, .ptr 34 0 0 0 0), (1, .fn (.func 137) [] [.ptr 26 0 0 0 0, .ptr 25 0 0 0 0]), (0, .d (.lst true 0 []))] [7] (rangeAt cx.P 136 0).1 (rangeAt cx.P 136 0).2 13)]
  | (.inr e) => [(0, .box (.d (.lst false 10 a0))), (1, .box (.d (I a1))), (2, .box (.d (.agg [I a2, I a3, I a4]))), (3, .box (.d (I a5))), (9, .box (.d (.agg [.v (.string t1.1), I t1.2.1, I t1.2.2.1, I t1.2.2.2.1, I t1.2.2.2.2.1, I t1.2.2.2.2.2.1, I t1.2.2.2.2.2.2.1, I t1.2.2.2.2.2.2.2.1, I t1.2.2.2.2.2.2.2.2.1, I t1.2.2.2.2.2.2.2.2.2]))), (16, .box (.d (B (decide (t3 > 0))))), (25, .box (.d (.agg [.v (.string t1.1), I t1.2.1, I t1.2.2.1, I t1.2.2.2.1, I t1.2.2.2.2.1, I t1.2.2.2.2.2.1, I t1.2.2.2.2.2.2.1, I t1.2.2.2.2.2.2.2.1, I t1.2.2.2.2.2.2.2.2.1, I t1.2.2.2.2.2.2.2.2.2]))), (26, .box (.d (I a5))), (34, .box (.own 87 0)), (37, .loop true [(6, .fn (.func 137) [] [.ptr 26 0 0 0 0, .ptr 25 0 0 0 0]), (4, .d (.lst true 0 [])), (2, .ptr 34 0 0 0 0), (1, .fn (.func 137) [] [.ptr 26 0 0 0 0, .ptr 25 0 0 0 0]), (0, .d (.lst true 0 []))] [7] (rangeAt cx.P 136 0).1 (rangeAt cx.P 136 0).2 13), (87, .row 0 4 e)]
theorem R_field_dark_L2 {n : Nat} {a0 : List D} {a1 : Int} {a2 : Int} {a3 : Int} {a4 : Int} {a5 : Int} {t1 : ByteArray × Int × Int × Int × Int × Int × Int × Int × Int × Int} {t3 : Int} {sa : Int} (sb : (Unit) ⊕ (Int × List D)) (r) (h : F_field_dark_L2 n a0 a1 a2 a3 a4 a5 t1 t3 sa sb = some r) : Rd cx (loopAt cx.P 137 1) 49 38 false (T_field_dark_L2 a0 a1 a2 a3 a4 a5 t1 t3 sa) (H_field_dark_L2 a0 a1 a2 a3 a4 a5 t1 t3 sa) (X_field_dark_L2 a0 a1 a2 a3 a4 a5 t1 t3 sa) (XT_field_dark_L2 a0 a1 a2 a3 a4 a5 t1 t3 sa) (XH_field_dark_L2 a0 a1 a2 a3 a4 a5 t1 t3 sa) sb r := by
  unfold F_field_dark_L2 at h
  rcases sb with sb | sb
  · by_cases hb1 : 0 < a5
    · replace h := ite_t h hb1
      obtain ⟨tb2, hb2, h⟩ := bnd_of h
      obtain ⟨hb3, h⟩ := grd_of h
      obtain ⟨tb4, hb4, h⟩ := bnd_of h
      obtain ⟨hb5, h⟩ := grd_of h
      obtain ⟨hb6, h⟩ := grd_of h
      obtain ⟨hb7, h⟩ := grd_of h
      obtain ⟨tb8, hb8, h⟩ := bnd_of h
      obtain ⟨tb9, hb9, h⟩ := bnd_of h
      obtain ⟨tb10, hb10, h⟩ := bnd_of h
      obtain ⟨hb11, h⟩ := grd_of h
      obtain ⟨hb12, h⟩ := grd_of h
      replace h := Option.some.inj h
      subst h
      exact ⟨100, 45, [.br true, .ret (.agg [I tb2.1, I tb2.2.1, I tb2.2.2]), .ret (.agg [I tb4.1, I tb4.2.1, I tb4.2.2]), .ret (.agg [I tb8.1, I tb8.2.1, I tb8.2.2]), .ret (.agg [I tb9.1, I tb9.2.1, I tb9.2.2]), .ret (.agg [I tb10.1, I tb10.2.1, I tb10.2.2]), .no, .no, .no], [], [0, 1, 2, 4, 7, 8, 11, 12], [0, 1, 2, 3, 9, 16, 25, 26, 34, 37, 87], round_of (ob := [inI64 1, inI64 ((sa * a5) + 0), inI64 (sa * a5), Computes cx 89 [.agg [I tb2.1, I tb2.2.1, I tb2.2.2], .agg [I tb9.1, I tb9.2.1, I tb9.2.2]] (.agg [I tb10.1, I tb10.2.1, I tb10.2.2]), Computes cx 89 [.agg [I tb4.1, I tb4.2.1, I tb4.2.2], .agg [I tb8.1, I tb8.2.1, I tb8.2.2]] (.agg [I tb9.1, I tb9.2.1, I tb9.2.2]), Computes cx 90 [I (((2 * sa) + 1) - a5), .agg [I t1.2.2.2.2.2.2.2.1, I t1.2.2.2.2.2.2.2.2.1, I t1.2.2.2.2.2.2.2.2.2]] (.agg [I tb8.1, I tb8.2.1, I tb8.2.2]), inI64 (((2 * sa) + 1) - a5), inI64 ((2 * sa) + 1), inI64 (2 * sa), Computes cx 90 [I (1 - a5), .agg [I t1.2.2.2.2.1, I t1.2.2.2.2.2.1, I t1.2.2.2.2.2.2.1]] (.agg [I tb4.1, I tb4.2.1, I tb4.2.2]), inI64 (1 - a5), inI64 1, inI64 0, Computes cx 90 [I a5, .agg [I t1.2.1, I t1.2.2.1, I t1.2.2.2.1]] (.agg [I tb2.1, I tb2.2.1, I tb2.2.2]), (decide (0 < a5)) = true]) (by kernel_rfl) ⟨(by unfold inI64; omega), hb12, hb11, (c_field_plus hb10), (c_field_plus hb9), (c_field_times hb8), hb7, hb6, hb5, (c_field_times hb4), hb3, (by unfold inI64; omega), (by unfold inI64; omega), (c_field_times hb2), (decide_eq_true hb1), trivial⟩⟩
    · replace h := ite_f h hb1
      replace h := Option.some.inj h
      subst h
      exact ⟨⟨100, 45, [.br false], [], [0, 1, 2, 7, 8], [0, 1, 2, 3, 9, 16, 25, 26, 34, 37], round_of (ob := [(decide (0 < a5)) = false]) (by kernel_rfl) ⟨(decide_eq_false hb1), trivial⟩⟩, nofun⟩
  · by_cases hb1 : sb.1 < a5
    · replace h := ite_t h hb1
      obtain ⟨tb2, hb2, h⟩ := bnd_of h
      obtain ⟨hb3, h⟩ := grd_of h
      obtain ⟨hb4, h⟩ := grd_of h
      obtain ⟨hb5, h⟩ := grd_of h
      obtain ⟨tb6, hb6, h⟩ := bnd_of h
      obtain ⟨hb7, h⟩ := grd_of h
      obtain ⟨hb8, h⟩ := grd_of h
      obtain ⟨hb9, h⟩ := grd_of h
      obtain ⟨tb10, hb10, h⟩ := bnd_of h
      obtain ⟨tb11, hb11, h⟩ := bnd_of h
      obtain ⟨tb12, hb12, h⟩ := bnd_of h
      obtain ⟨hb13, h⟩ := grd_of h
      obtain ⟨hb14, h⟩ := grd_of h
      obtain ⟨hb15, h⟩ := grd_of h
      obtain ⟨hb16, h⟩ := grd_of h
      replace h := Option.some.inj h
      subst h
      exact ⟨100, 88, [.br true, .ret (.agg [I tb2.1, I tb2.2.1, I tb2.2.2]), .ret (.agg [I tb6.1, I tb6.2.1, I tb6.2.2]), .ret (.agg [I tb10.1, I tb10.2.1, I tb10.2.2]), .ret (.agg [I tb11.1, I tb11.2.1, I tb11.2.2]), .ret (.agg [I tb12.1, I tb12.2.1, I tb12.2.2]), .br true, .no], [], [0, 1, 2, 4, 7, 8, 11, 12], [0, 1, 2, 3, 9, 16, 25, 26, 34, 37, 87], round_of (ob := [inI64 (sb.1 + 1), room cx 152 ((sb.2).length + 1), inI64 ((sa * a5) + sb.1), inI64 (sa * a5), Computes cx 89 [.agg [I tb2.1, I tb2.2.1, I tb2.2.2], .agg [I tb11.1, I tb11.2.1, I tb11.2.2]] (.agg [I tb12.1, I tb12.2.1, I tb12.2.2]), Computes cx 89 [.agg [I tb6.1, I tb6.2.1, I tb6.2.2], .agg [I tb10.1, I tb10.2.1, I tb10.2.2]] (.agg [I tb11.1, I tb11.2.1, I tb11.2.2]), Computes cx 90 [I (((2 * sa) + 1) - a5), .agg [I t1.2.2.2.2.2.2.2.1, I t1.2.2.2.2.2.2.2.2.1, I t1.2.2.2.2.2.2.2.2.2]] (.agg [I tb10.1, I tb10.2.1, I tb10.2.2]), inI64 (((2 * sa) + 1) - a5), inI64 ((2 * sa) + 1), inI64 (2 * sa), Computes cx 90 [I (((2 * sb.1) + 1) - a5), .agg [I t1.2.2.2.2.1, I t1.2.2.2.2.2.1, I t1.2.2.2.2.2.2.1]] (.agg [I tb6.1, I tb6.2.1, I tb6.2.2]), inI64 (((2 * sb.1) + 1) - a5), inI64 ((2 * sb.1) + 1), inI64 (2 * sb.1), Computes cx 90 [I a5, .agg [I t1.2.1, I t1.2.2.1, I t1.2.2.2.1]] (.agg [I tb2.1, I tb2.2.1, I tb2.2.2]), (decide (sb.1 < a5)) = true]) (by kernel_rfl) ⟨hb16, (room_of (b := 32) (by kernel_rfl) (by decide) hb15), hb14, hb13, (c_field_plus hb12), (c_field_plus hb11), (c_field_times hb10), hb9, hb8, hb7, (c_field_times hb6), hb5, hb4, hb3, (c_field_times hb2), (decide_eq_true hb1), trivial⟩⟩
    · replace h := ite_f h hb1
      replace h := Option.some.inj h
      subst h
      exact ⟨⟨100, 88, [.br false], [], [0, 1, 2, 7, 8], [0, 1, 2, 3, 9, 16, 25, 26, 34, 37, 87], round_of (ob := [(decide (sb.1 < a5)) = false]) (by kernel_rfl) ⟨(decide_eq_false hb1), trivial⟩⟩, nofun⟩
def F_field_dark_L3 (n : Nat) (a0 : List D) (a1 : Int) (a2 : Int) (a3 : Int) (a4 : Int) (a5 : Int) (t1 : ByteArray × Int × Int × Int × Int × Int × Int × Int × Int × Int) (t3 : Int) (sa : Int × List D) (sb : (Int × List D)) : Option (((Int × List D)) ⊕ ((List D))) :=
 if sb.1 < a5 then
  (F_field_times n a5 t1.2.1 t1.2.2.1 t1.2.2.2.1).bind fun tb2 =>
  if inI64 (2 * sb.1) then
  if inI64 ((2 * sb.1) + 1) then
  if inI64 (((2 * sb.1) + 1) - a5) then
  (F_field_times n (((2 * sb.1) + 1) - a5) t1.2.2.2.2.1 t1.2.2.2.2.2.1 t1.2.2.2.2.2.2.1).bind fun tb6 =>
  if inI64 (2 * sa.1) then
  if inI64 ((2 * sa.1) + 1) then
  if inI64 (((2 * sa.1) + 1) - a5) then
  (F_field_times n (((2 * sa.1) + 1) - a5) t1.2.2.2.2.2.2.2.1 t1.2.2.2.2.2.2.2.2.1 t1.2.2.2.2.2.2.2.2.2).bind fun tb10 =>
  (F_field_plus n tb6.1 tb6.2.1 tb6.2.2 tb10.1 tb10.2.1 tb10.2.2).bind fun tb11 =>
  (F_field_plus n tb2.1 tb2.2.1 tb2.2.2 tb11.1 tb11.2.1 tb11.2.2).bind fun tb12 =>
  if inI64 (sa.1 * a5) then
  if inI64 ((sa.1 * a5) + sb.1) then
  if roomP 32 ((sb.2).length + 1) then
  if inI64 (sb.1 + 1) then
  some (.inl ((sb.1 + 1), (sb.2 ++ ([.agg [I ((sa.1 * a5) + sb.1), I tb12.1, I tb12.2.1, I tb12.2.2]] : List D))))
  else none
  else none
  else none
  else none
  else none
  else none
  else none
  else none
  else none
  else none
 else
 some (.inr sb.2)
noncomputable def T_field_dark_L3 (a0 : List D) (a1 : Int) (a2 : Int) (a3 : Int) (a4 : Int) (a5 : Int) (t1 : ByteArray × Int × Int × Int × Int × Int × Int × Int × Int × Int) (t3 : Int) (sa : Int × List D) (sb : (Int × List D)) : List (Nat × AV) := [(0, .own 37 0), (1, .ptr 26 0 0 0 0), (2, .ptr 25 0 0 0 0), (4, .d (I sa.1)), (7, .d (I a5)), (8, .d (I sa.1)), (11, .d (I a5)), (12, .d (I sb.1))]
noncomputable def H_field_dark_L3 (a0 : List D) (a1 : Int) (a2 : Int) (a3 : Int) (a4 : Int) (a5 : Int) (t1 : ByteArray × Int × Int × Int × Int × Int × Int × Int × Int × Int) (t3 : Int) (sa : Int × List D) (sb : (Int × List D)) : List (Nat × Blk) := [(0, .box (.d (.lst false 10 a0))), (1, .box (.d (I a1))), (2, .box (.d (.agg [I a2, I a3, I a4]))), (3, .box (.d (I a5))), (9, .box (.d (.agg [.v (.string t1.1), I t1.2.1, I t1.2.2.1, I t1.2.2.2.1, I t1.2.2.2.2.1, I t1.2.2.2.2.2.1, I t1.2.2.2.2.2.2.1, I t1.2.2.2.2.2.2.2.1, I t1.2.2.2.2.2.2.2.2.1, I t1.2.2.2.2.2.2.2.2.2]))), (16, .box (.d (B (decide (t3 > 0))))), (25, .box (.d (.agg [.v (.string t1.1), I t1.2.1, I t1.2.2.1, I t1.2.2.2.1, I t1.2.2.2.2.1, I t1.2.2.2.2.2.1, I t1.2.2.2.2.2.2.1, I t1.2.2.2.2.2.2.2.1, I t1.2.2.2.2.2.2.2.2.1, I t1.2.2.2.2.2.2.2.2.2]))), (26, .box (.d (I a5))), (34, .box (.own 87 0)), (37, .loop true [(6, .fn (.func 137) [] [.ptr 26 0 0 0 0, .ptr 25 0 0 0 0]), (4, .d (.lst true 0 [])), (2, .ptr 34 0 0 0 0), (1, .fn (.func 137) [] [.ptr 26 0 0 0 0, .ptr 25 0 0 0 0]), (0, .d (.lst true 0 []))] [7] (rangeAt cx.P 136 0).1 (rangeAt cx.P 136 0).2 13), (87, .row 0 4 sb.2)]
noncomputable def X_field_dark_L3 (a0 : List D) (a1 : Int) (a2 : Int) (a3 : Int) (a4 : Int) (a5 : Int) (t1 : ByteArray × Int × Int × Int × Int × Int × Int × Int × Int × Int) (t3 : Int) (sa : Int × List D) (e : (List D)) : Ex := (.exit 2)
noncomputable def XT_field_dark_L3 (a0 : List D) (a1 : Int) (a2 : Int) (a3 : Int) (a4 : Int) (a5 : Int) (t1 : ByteArray × Int × Int × Int × Int × Int × Int × Int × Int × Int) (t3 : Int) (sa : Int × List D) (e : (List D)) : List (Nat × AV) := [(0, .own 37 0), (1, .ptr 26 0 0 0 0), (2, .ptr 25 0 0 0 0), (7, .d (I a5)), (8, .d (I sa.1))]
noncomputable def XH_field_dark_L3 (a0 : List D) (a1 : Int) (a2 : Int) (a3 : Int) (a4 : Int) (a5 : Int) (t1 : ByteArray × Int × Int × Int × Int × Int × Int × Int × Int × Int) (t3 : Int) (sa : Int × List D) (e : (List D)) : List (Nat × Blk) := [(0, .box (.d (.lst false 10 a0))), (1, .box (.d (I a1))), (2, .box (.d (.agg [I a2, I a3, I a4]))), (3, .box (.d (I a5))), (9, .box (.d (.agg [.v (.string t1.1), I t1.2.1, I t1.2.2.1, I t1.2.2.2.1, I t1.2.2.2.2.1, I t1.2.2.2.2.2.1, I t1.2.2.2.2.2.2.1, I t1.2.2.2.2.2.2.2.1, I t1.2.2.2.2.2.2.2.2.1, I t1.2.2.2.2.2.2.2.2.2]))), (16, .box (.d (B (decide (t3 > 0))))), (25, .box (.d (.agg [.v (.string t1.1), I t1.2.1, I t1.2.2.1, I t1.2.2.2.1, I t1.2.2.2.2.1, I t1.2.2.2.2.2.1, I t1.2.2.2.2.2.2.1, I t1.2.2.2.2.2.2.2.1, I t1.2.2.2.2.2.2.2.2.1, I t1.2.2.2.2.2.2.2.2.2]))), (26, .box (.d (I a5))), (34, .box (.own 87 0)), (37, .loop true [(6, .fn (.func 137) [] [.ptr 26 0 0 0 0, .ptr 25 0 0 0 0]), (4, .d (.lst true 0 [])), (2, .ptr 34 0 0 0 0), (1, .fn (.func 137) [] [.ptr 26 0 0 0 0, .ptr 25 0 0 0 0]), (0, .d (.lst true 0 []))] [7] (rangeAt cx.P 136 0).1 (rangeAt cx.P 136 0).2 13), (87, .row 0 4 e)]
theorem R_field_dark_L3 {n : Nat} {a0 : List D} {a1 : Int} {a2 : Int} {a3 : Int} {a4 : Int} {a5 : Int} {t1 : ByteArray × Int × Int × Int × Int × Int × Int × Int × Int × Int} {t3 : Int} {sa : Int × List D} (sb : (Int × List D)) (r) (h : F_field_dark_L3 n a0 a1 a2 a3 a4 a5 t1 t3 sa sb = some r) : Rd cx (loopAt cx.P 137 1) 49 38 false (T_field_dark_L3 a0 a1 a2 a3 a4 a5 t1 t3 sa) (H_field_dark_L3 a0 a1 a2 a3 a4 a5 t1 t3 sa) (X_field_dark_L3 a0 a1 a2 a3 a4 a5 t1 t3 sa) (XT_field_dark_L3 a0 a1 a2 a3 a4 a5 t1 t3 sa) (XH_field_dark_L3 a0 a1 a2 a3 a4 a5 t1 t3 sa) sb r := by
  unfold F_field_dark_L3 at h
  by_cases hb1 : sb.1 < a5
  · replace h := ite_t h hb1
    obtain ⟨tb2, hb2, h⟩ := bnd_of h
    obtain ⟨hb3, h⟩ := grd_of h
    obtain ⟨hb4, h⟩ := grd_of h
    obtain ⟨hb5, h⟩ := grd_of h
    obtain ⟨tb6, hb6, h⟩ := bnd_of h
    obtain ⟨hb7, h⟩ := grd_of h
    obtain ⟨hb8, h⟩ := grd_of h
    obtain ⟨hb9, h⟩ := grd_of h
    obtain ⟨tb10, hb10, h⟩ := bnd_of h
    obtain ⟨tb11, hb11, h⟩ := bnd_of h
    obtain ⟨tb12, hb12, h⟩ := bnd_of h
    obtain ⟨hb13, h⟩ := grd_of h
    obtain ⟨hb14, h⟩ := grd_of h
    obtain ⟨hb15, h⟩ := grd_of h
    obtain ⟨hb16, h⟩ := grd_of h
    replace h := Option.some.inj h
    subst h
    exact ⟨100, 93, [.br true, .ret (.agg [I tb2.1, I tb2.2.1, I tb2.2.2]), .ret (.agg [I tb6.1, I tb6.2.1, I tb6.2.2]), .ret (.agg [I tb10.1, I tb10.2.1, I tb10.2.2]), .ret (.agg [I tb11.1, I tb11.2.1, I tb11.2.2]), .ret (.agg [I tb12.1, I tb12.2.1, I tb12.2.2]), .br true, .no], [], [0, 1, 2, 4, 7, 8, 11, 12], [0, 1, 2, 3, 9, 16, 25, 26, 34, 37, 87], round_of (ob := [inI64 (sb.1 + 1), room cx 152 ((sb.2).length + 1), inI64 ((sa.1 * a5) + sb.1), inI64 (sa.1 * a5), Computes cx 89 [.agg [I tb2.1, I tb2.2.1, I tb2.2.2], .agg [I tb11.1, I tb11.2.1, I tb11.2.2]] (.agg [I tb12.1, I tb12.2.1, I tb12.2.2]), Computes cx 89 [.agg [I tb6.1, I tb6.2.1, I tb6.2.2], .agg [I tb10.1, I tb10.2.1, I tb10.2.2]] (.agg [I tb11.1, I tb11.2.1, I tb11.2.2]), Computes cx 90 [I (((2 * sa.1) + 1) - a5), .agg [I t1.2.2.2.2.2.2.2.1, I t1.2.2.2.2.2.2.2.2.1, I t1.2.2.2.2.2.2.2.2.2]] (.agg [I tb10.1, I tb10.2.1, I tb10.2.2]), inI64 (((2 * sa.1) + 1) - a5), inI64 ((2 * sa.1) + 1), inI64 (2 * sa.1), Computes cx 90 [I (((2 * sb.1) + 1) - a5), .agg [I t1.2.2.2.2.1, I t1.2.2.2.2.2.1, I t1.2.2.2.2.2.2.1]] (.agg [I tb6.1, I tb6.2.1, I tb6.2.2]), inI64 (((2 * sb.1) + 1) - a5), inI64 ((2 * sb.1) + 1), inI64 (2 * sb.1), Computes cx 90 [I a5, .agg [I t1.2.1, I t1.2.2.1, I t1.2.2.2.1]] (.agg [I tb2.1, I tb2.2.1, I tb2.2.2]), (decide (sb.1 < a5)) = true]) (by kernel_rfl) ⟨hb16, (room_of (b := 32) (by kernel_rfl) (by decide) hb15), hb14, hb13, (c_field_plus hb12), (c_field_plus hb11), (c_field_times hb10), hb9, hb8, hb7, (c_field_times hb6), hb5, hb4, hb3, (c_field_times hb2), (decide_eq_true hb1), trivial⟩⟩
  · replace h := ite_f h hb1
    replace h := Option.some.inj h
    subst h
    exact ⟨⟨100, 93, [.br false], [], [0, 1, 2, 7, 8], [0, 1, 2, 3, 9, 16, 25, 26, 34, 37, 87], round_of (ob := [(decide (sb.1 < a5)) = false]) (by kernel_rfl) ⟨(decide_eq_false hb1), trivial⟩⟩, nofun⟩
def F_field_dark_L4 (n : Nat) (a0 : List D) (a1 : Int) (a2 : Int) (a3 : Int) (a4 : Int) (a5 : Int) (t1 : ByteArray × Int × Int × Int × Int × Int × Int × Int × Int × Int) (t3 : Int) (sa : (Int) ⊕ (Int × List D)) : Option (((Int) ⊕ (Int × List D)) ⊕ ((Unit) ⊕ (List D))) := match sa with
 | (.inl sa) => (
  if sa < a5 then
  (loopF (F_field_dark_L2 n a0 a1 a2 a3 a4 a5 t1 t3 sa) n (.inl ())).bind fun ta2 => match ta2 with
   | (.inl ta2) => (
   if inI64 (sa + 1) then
   some (.inl (.inl (sa + 1)))
   else none)
   | (.inr ta2) => (
   if inI64 (sa + 1) then
   some (.inl (.inr ((sa + 1), ta2)))
   else none)
  else
  some (.inr (.inl ())))
 | (.inr sa) => (
  if sa.1 < a5 then
  (loopF (F_field_dark_L3 n a0 a1 a2 a3 a4 a5 t1 t3 sa) n (0, sa.2)).bind fun ta2 =>
  if inI64 (sa.1 + 1) then
  some (.inl (.inr ((sa.1 + 1), ta2)))
  else none
  else
  some (.inr (.inr sa.2)))
noncomputable def T_field_dark_L4 (a0 : List D) (a1 : Int) (a2 : Int) (a3 : Int) (a4 : Int) (a5 : Int) (t1 : ByteArray × Int × Int × Int × Int × Int × Int × Int × Int × Int) (t3 : Int) (sa : (Int) ⊕ (Int × List D)) : List (Nat × AV) := match sa with
  | (.inl sa) => [(0, .own 37 0), (1, .ptr 26 0 0 0 0), (2, .ptr 25 0 0 0 0), (7, .d (I a5)), (8, .d (I sa))]
  | (.inr sa) => [(0, .own 37 0), (1, .ptr 26 0 0 0 0), (2, .ptr 25 0 0 0 0), (7, .d (I a5)), (8, .d (I sa.1))]
noncomputable def H_field_dark_L4 (a0 : List D) (a1 : Int) (a2 : Int) (a3 : Int) (a4 : Int) (a5 : Int) (t1 : ByteArray × Int × Int × Int × Int × Int × Int × Int × Int × Int) (t3 : Int) (sa : (Int) ⊕ (Int × List D)) : List (Nat × Blk) := match sa with
  | (.inl sa) => [(0, .box (.d (.lst false 10 a0))), (1, .box (.d (I a1))), (2, .box (.d (.agg [I a2, I a3, I a4]))), (3, .box (.d (I a5))), (9, .box (.d (.agg [.v (.string t1.1), I t1.2.1, I t1.2.2.1, I t1.2.2.2.1, I t1.2.2.2.2.1, I t1.2.2.2.2.2.1, I t1.2.2.2.2.2.2.1, I t1.2.2.2.2.2.2.2.1, I t1.2.2.2.2.2.2.2.2.1, I t1.2.2.2.2.2.2.2.2.2]))), (16, .box (.d (B (decide (t3 > 0))))), (25, .box (.d (.agg [.v (.string t1.1), I t1.2.1, I t1.2.2.1, I t1.2.2.2.1, I t1.2.2.2.2.1, I t1.2.2.2.2.2.1, I t1.2.2.2.2.2.2.1, I t1.2.2.2.2.2.2.2.1, I t1.2.2.2.2.2.2.2.2.1, I t1.2.2.2.2.2.2.2.2.2]))), (26, .box (.d (I a5))), (34, .box (.d (.lst true 0 []))), (37, .loop true [(6, .fn (.func 137) [] [.ptr 26 0 0 0 0, .ptr 25 0 0 0 0]), (4, .d (.lst true 0 [])), (2, .ptr 34 0 0 0 0), (1, .fn (.func 137) [] [.ptr 26 0 0 0 0, .ptr 25 0 0 0 0]), (0, .d (.lst true 0 []))] [7] (rangeAt cx.P 136 0).1 (rangeAt cx.P 136 0).2 13)]
  | (.inr sa) => [(0, .box (.d (.lst false 10 a0))), (1, .box (.d (I a1))), (2, .box (.d (.agg [I a2, I a3, I a4]))), (3, .box (.d (I a5))), (9, .box (.d (.agg [.v (.string t1.1), I t1.2.1, I t1.2.2.1, I t1.2.2.2.1, I t1.2.2.2.2.1, I t1.2.2.2.2.2.1, I t1.2.2.2.2.2.2.1, I t1.2.2.2.2.2.2.2.1, I t1.2.2.2.2.2.2.2.2.1, I t1.2.2.2.2.2.2.2.2.2]))), (16, .box (.d (B (decide (t3 > 0))))), (25, .box (.d (.agg [.v (.string t1.1), I t1.2.1, I t1.2.2.1, I t1.2.2.2.1, I t1.2.2.2.2.1, I t1.2.2.2.2.2.1, I t1.2.2.2.2.2.2.1, I t1.2.2.2.2.2.2.2.1, I t1.2.2.2.2.2.2.2.2.1, I t1.2.2.2.2.2.2.2.2.2]))), (26, .box (.d (I a5))), (34, .box (.own 87 0)), (37, .loop true [(6, .fn (.func 137) [] [.ptr 26 0 0 0 0, .ptr 25 0 0 0 0]), (4, .d (.lst true 0 [])), (2, .ptr 34 0 0 0 0), (1, .fn (.func 137) [] [.ptr 26 0 0 0 0, .ptr 25 0 0 0 0]), (0, .d (.lst true 0 []))] [7] (rangeAt cx.P 136 0).1 (rangeAt cx.P 136 0).2 13), (87, .row 0 4 sa.2)]
noncomputable def X_field_dark_L4 (a0 : List D) (a1 : Int) (a2 : Int) (a3 : Int) (a4 : Int) (a5 : Int) (t1 : ByteArray × Int × Int × Int × Int × Int × Int × Int × Int × Int) (t3 : Int) (e : (Unit) ⊕ (List D)) : Ex := match e with
  | (.inl e) => (.exit 0)
  | (.inr e) => (.exit 0)
noncomputable def XT_field_dark_L4 (a0 : List D) (a1 : Int) (a2 : Int) (a3 : Int) (a4 : Int) (a5 : Int) (t1 : ByteArray × Int × Int × Int × Int × Int × Int × Int × Int × Int) (t3 : Int) (e : (Unit) ⊕ (List D)) : List (Nat × AV) := match e with
  | (.inl e) => []
  | (.inr e) => []
noncomputable def XH_field_dark_L4 (a0 : List D) (a1 : Int) (a2 : Int) (a3 : Int) (a4 : Int) (a5 : Int) (t1 : ByteArray × Int × Int × Int × Int × Int × Int × Int × Int × Int) (t3 : Int) (e : (Unit) ⊕ (List D)) : List (Nat × Blk) := match e with
  | (.inl e) => [(0, .box (.d (.lst false 10 a0))), (1, .box (.d (I a1))), (2, .box (.d (.agg [I a2, I a3, I a4]))), (3, .box (.d (I a5))), (9, .box (.d (.agg [.v (.string t1.1), I t1.2.1, I t1.2.2.1, I t1.2.2.2.1, I t1.2.2.2.2.1, I t1.2.2.2.2.2.1, I t1.2.2.2.2.2.2.1, I t1.2.2.2.2.2.2.2.1, I t1.2.2.2.2.2.2.2.2.1, I t1.2.2.2.2.2.2.2.2.2]))), (16, .box (.d (B (decide (t3 > 0))))), (25, .box (.d (.agg [.v (.string t1.1), I t1.2.1, I t1.2.2.1, I t1.2.2.2.1, I t1.2.2.2.2.1, I t1.2.2.2.2.2.1, I t1.2.2.2.2.2.2.1, I t1.2.2.2.2.2.2.2.1, I t1.2.2.2.2.2.2.2.2.1, I t1.2.2.2.2.2.2.2.2.2]))), (26, .box (.d (I a5))), (34, .box (.d (.lst true 0 []))), (37, .loop true [(6, .fn (.func 137) [] [.ptr 26 0 0 0 0, .ptr 25 0 0 0 0]), (4, .d (.lst true 0 [])), (2, .ptr 34 0 0 0 0), (1, .fn (.func 137) [] [.ptr 26 0 0 0 0, .ptr 25 0 0 0 0]), (0, .d (.lst true 0 []))] [7] (rangeAt cx.P 136 0).1 (rangeAt cx.P 136 0).2 13)]
  | (.inr e) => [(0, .box (.d (.lst false 10 a0))), (1, .box (.d (I a1))), (2, .box (.d (.agg [I a2, I a3, I a4]))), (3, .box (.d (I a5))), (9, .box (.d (.agg [.v (.string t1.1), I t1.2.1, I t1.2.2.1, I t1.2.2.2.1, I t1.2.2.2.2.1, I t1.2.2.2.2.2.1, I t1.2.2.2.2.2.2.1, I t1.2.2.2.2.2.2.2.1, I t1.2.2.2.2.2.2.2.2.1, I t1.2.2.2.2.2.2.2.2.2]))), (16, .box (.d (B (decide (t3 > 0))))), (25, .box (.d (.agg [.v (.string t1.1), I t1.2.1, I t1.2.2.1, I t1.2.2.2.1, I t1.2.2.2.2.1, I t1.2.2.2.2.2.1, I t1.2.2.2.2.2.2.1, I t1.2.2.2.2.2.2.2.1, I t1.2.2.2.2.2.2.2.2.1, I t1.2.2.2.2.2.2.2.2.2]))), (26, .box (.d (I a5))), (34, .box (.own 87 0)), (37, .loop true [(6, .fn (.func 137) [] [.ptr 26 0 0 0 0, .ptr 25 0 0 0 0]), (4, .d (.lst true 0 [])), (2, .ptr 34 0 0 0 0), (1, .fn (.func 137) [] [.ptr 26 0 0 0 0, .ptr 25 0 0 0 0]), (0, .d (.lst true 0 []))] [7] (rangeAt cx.P 136 0).1 (rangeAt cx.P 136 0).2 13), (87, .row 0 4 e)]
theorem R_field_dark_L4 {n : Nat} {a0 : List D} {a1 : Int} {a2 : Int} {a3 : Int} {a4 : Int} {a5 : Int} {t1 : ByteArray × Int × Int × Int × Int × Int × Int × Int × Int × Int} {t3 : Int} (sa : (Int) ⊕ (Int × List D)) (r) (h : F_field_dark_L4 n a0 a1 a2 a3 a4 a5 t1 t3 sa = some r) : Rd cx (loopAt cx.P 137 0) 49 38 false (T_field_dark_L4 a0 a1 a2 a3 a4 a5 t1 t3) (H_field_dark_L4 a0 a1 a2 a3 a4 a5 t1 t3) (X_field_dark_L4 a0 a1 a2 a3 a4 a5 t1 t3) (XT_field_dark_L4 a0 a1 a2 a3 a4 a5 t1 t3) (XH_field_dark_L4 a0 a1 a2 a3 a4 a5 t1 t3) sa r := by
  unfold F_field_dark_L4 at h
  rcases sa with sa | sa
  · by_cases ha1 : sa < a5
    · replace h := ite_t h ha1
      obtain ⟨ta2, ha2, h⟩ := bnd_of h
      rcases ta2 with ta2 | ta2
      · obtain ⟨ha3, h⟩ := grd_of h
        replace h := Option.some.inj h
        subst h
        exact ⟨100, 40, [.br true, .lp [] [0, 1, 2, 4, 7, 8, 11, 12] [0, 1, 2, 3, 9, 16, 25, 26, 34, 37] (.exit 2) [(0, .own 37 0), (1, .ptr 26 0 0 0 0), (2, .ptr 25 0 0 0 0), (7, .d (I a5)), (8, .d (I sa))] [(0, .box (.d (.lst false 10 a0))), (1, .box (.d (I a1))), (2, .box (.d (.agg [I a2, I a3, I a4]))), (3, .box (.d (I a5))), (9, .box (.d (.agg [.v (.string t1.1), I t1.2.1, I t1.2.2.1, I t1.2.2.2.1, I t1.2.2.2.2.1, I t1.2.2.2.2.2.1, I t1.2.2.2.2.2.2.1, I t1.2.2.2.2.2.2.2.1, I t1.2.2.2.2.2.2.2.2.1, I t1.2.2.2.2.2.2.2.2.2]))), (16, .box (.d (B (decide (t3 > 0))))), (25, .box (.d (.agg [.v (.string t1.1), I t1.2.1, I t1.2.2.1, I t1.2.2.2.1, I t1.2.2.2.2.1, I t1.2.2.2.2.2.1, I t1.2.2.2.2.2.2.1, I t1.2.2.2.2.2.2.2.1, I t1.2.2.2.2.2.2.2.2.1, I t1.2.2.2.2.2.2.2.2.2]))), (26, .box (.d (I a5))), (34, .box (.d (.lst true 0 []))), (37, .loop true [(6, .fn (.func 137) [] [.ptr 26 0 0 0 0, .ptr 25 0 0 0 0]), (4, .d (.lst true 0 [])), (2, .ptr 34 0 0 0 0), (1, .fn (.func 137) [] [.ptr 26 0 0 0 0, .ptr 25 0 0 0 0]), (0, .d (.lst true 0 []))] [7] (rangeAt cx.P 136 0).1 (rangeAt cx.P 136 0).2 13)] 145], [], [0, 1, 2, 7, 8], [0, 1, 2, 3, 9, 16, 25, 26, 34, 37], round_of (ob := [inI64 (sa + 1), LoopN cx (loopAt cx.P 137 1) 49 38 false [(0, .own 37 0), (1, .ptr 26 0 0 0 0), (2, .ptr 25 0 0 0 0), (4, .d (I sa)), (7, .d (I a5)), (8, .d (I sa)), (11, .d (I a5)), (12, .d (I 0))] [(0, .box (.d (.lst false 10 a0))), (1, .box (.d (I a1))), (2, .box (.d (.agg [I a2, I a3, I a4]))), (3, .box (.d (I a5))), (9, .box (.d (.agg [.v (.string t1.1), I t1.2.1, I t1.2.2.1, I t1.2.2.2.1, I t1.2.2.2.2.1, I t1.2.2.2.2.2.1, I t1.2.2.2.2.2.2.1, I t1.2.2.2.2.2.2.2.1, I t1.2.2.2.2.2.2.2.2.1, I t1.2.2.2.2.2.2.2.2.2]))), (16, .box (.d (B (decide (t3 > 0))))), (25, .box (.d (.agg [.v (.string t1.1), I t1.2.1, I t1.2.2.1, I t1.2.2.2.1, I t1.2.2.2.2.1, I t1.2.2.2.2.2.1, I t1.2.2.2.2.2.2.1, I t1.2.2.2.2.2.2.2.1, I t1.2.2.2.2.2.2.2.2.1, I t1.2.2.2.2.2.2.2.2.2]))), (26, .box (.d (I a5))), (34, .box (.d (.lst true 0 []))), (37, .loop true [(6, .fn (.func 137) [] [.ptr 26 0 0 0 0, .ptr 25 0 0 0 0]), (4, .d (.lst true 0 [])), (2, .ptr 34 0 0 0 0), (1, .fn (.func 137) [] [.ptr 26 0 0 0 0, .ptr 25 0 0 0 0]), (0, .d (.lst true 0 []))] [7] (rangeAt cx.P 136 0).1 (rangeAt cx.P 136 0).2 13)] (.exit 2) [(0, .own 37 0), (1, .ptr 26 0 0 0 0), (2, .ptr 25 0 0 0 0), (7, .d (I a5)), (8, .d (I sa))] [(0, .box (.d (.lst false 10 a0))), (1, .box (.d (I a1))), (2, .box (.d (.agg [I a2, I a3, I a4]))), (3, .box (.d (I a5))), (9, .box (.d (.agg [.v (.string t1.1), I t1.2.1, I t1.2.2.1, I t1.2.2.2.1, I t1.2.2.2.2.1, I t1.2.2.2.2.2.1, I t1.2.2.2.2.2.2.1, I t1.2.2.2.2.2.2.2.1, I t1.2.2.2.2.2.2.2.2.1, I t1.2.2.2.2.2.2.2.2.2]))), (16, .box (.d (B (decide (t3 > 0))))), (25, .box (.d (.agg [.v (.string t1.1), I t1.2.1, I t1.2.2.1, I t1.2.2.2.1, I t1.2.2.2.2.1, I t1.2.2.2.2.2.1, I t1.2.2.2.2.2.2.1, I t1.2.2.2.2.2.2.2.1, I t1.2.2.2.2.2.2.2.2.1, I t1.2.2.2.2.2.2.2.2.2]))), (26, .box (.d (I a5))), (34, .box (.d (.lst true 0 []))), (37, .loop true [(6, .fn (.func 137) [] [.ptr 26 0 0 0 0, .ptr 25 0 0 0 0]), (4, .d (.lst true 0 [])), (2, .ptr 34 0 0 0 0), (1, .fn (.func 137) [] [.ptr 26 0 0 0 0, .ptr 25 0 0 0 0]), (0, .d (.lst true 0 []))] [7] (rangeAt cx.P 136 0).1 (rangeAt cx.P 136 0).2 13)], (decide (sa < a5)) = true]) (by kernel_rfl) ⟨ha3, (loopF_to R_field_dark_L2 ha2), (decide_eq_true ha1), trivial⟩⟩
      · obtain ⟨ha3, h⟩ := grd_of h
        replace h := Option.some.inj h
        subst h
        exact ⟨100, 40, [.br true, .lp [] [0, 1, 2, 4, 7, 8, 11, 12] [0, 1, 2, 3, 9, 16, 25, 26, 34, 37] (.exit 2) [(0, .own 37 0), (1, .ptr 26 0 0 0 0), (2, .ptr 25 0 0 0 0), (7, .d (I a5)), (8, .d (I sa))] [(0, .box (.d (.lst false 10 a0))), (1, .box (.d (I a1))), (2, .box (.d (.agg [I a2, I a3, I a4]))), (3, .box (.d (I a5))), (9, .box (.d (.agg [.v (.string t1.1), I t1.2.1, I t1.2.2.1, I t1.2.2.2.1, I t1.2.2.2.2.1, I t1.2.2.2.2.2.1, I t1.2.2.2.2.2.2.1, I t1.2.2.2.2.2.2.2.1, I t1.2.2.2.2.2.2.2.2.1, I t1.2.2.2.2.2.2.2.2.2]))), (16, .box (.d (B (decide (t3 > 0))))), (25, .box (.d (.agg [.v (.string t1.1), I t1.2.1, I t1.2.2.1, I t1.2.2.2.1, I t1.2.2.2.2.1, I t1.2.2.2.2.2.1, I t1.2.2.2.2.2.2.1, I t1.2.2.2.2.2.2.2.1, I t1.2.2.2.2.2.2.2.2.1, I t1.2.2.2.2.2.2.2.2.2]))), (26, .box (.d (I a5))), (34, .box (.own 87 0)), (37, .loop true [(6, .fn (.func 137) [] [.ptr 26 0 0 0 0, .ptr 25 0 0 0 0]), (4, .d (.lst true 0 [])), (2, .ptr 34 0 0 0 0), (1, .fn (.func 137) [] [.ptr 26 0 0 0 0, .ptr 25 0 0 0 0]), (0, .d (.lst true 0 []))] [7] (rangeAt cx.P 136 0).1 (rangeAt cx.P 136 0).2 13), (87, .row 0 4 ta2)] 145], [], [0, 1, 2, 7, 8], [0, 1, 2, 3, 9, 16, 25, 26, 34, 37, 87], round_of (ob := [inI64 (sa + 1), LoopN cx (loopAt cx.P 137 1) 49 38 false [(0, .own 37 0), (1, .ptr 26 0 0 0 0), (2, .ptr 25 0 0 0 0), (4, .d (I sa)), (7, .d (I a5)), (8, .d (I sa)), (11, .d (I a5)), (12, .d (I 0))] [(0, .box (.d (.lst false 10 a0))), (1, .box (.d (I a1))), (2, .box (.d (.agg [I a2, I a3, I a4]))), (3, .box (.d (I a5))), (9, .box (.d (.agg [.v (.string t1.1), I t1.2.1, I t1.2.2.1, I t1.2.2.2.1, I t1.2.2.2.2.1, I t1.2.2.2.2.2.1, I t1.2.2.2.2.2.2.1, I t1.2.2.2.2.2.2.2.1, I t1.2.2.2.2.2.2.2.2.1, I t1.2.2.2.2.2.2.2.2.2]))), (16, .box (.d (B (decide (t3 > 0))))), (25, .box (.d (.agg [.v (.string t1.1), I t1.2.1, I t1.2.2.1, I t1.2.2.2.1, I t1.2.2.2.2.1, I t1.2.2.2.2.2.1, I t1.2.2.2.2.2.2.1, I t1.2.2.2.2.2.2.2.1, I t1.2.2.2.2.2.2.2.2.1, I t1.2.2.2.2.2.2.2.2.2]))), (26, .box (.d (I a5))), (34, .box (.d (.lst true 0 []))), (37, .loop true [(6, .fn (.func 137) [] [.ptr 26 0 0 0 0, .ptr 25 0 0 0 0]), (4, .d (.lst true 0 [])), (2, .ptr 34 0 0 0 0), (1, .fn (.func 137) [] [.ptr 26 0 0 0 0, .ptr 25 0 0 0 0]), (0, .d (.lst true 0 []))] [7] (rangeAt cx.P 136 0).1 (rangeAt cx.P 136 0).2 13)] (.exit 2) [(0, .own 37 0), (1, .ptr 26 0 0 0 0), (2, .ptr 25 0 0 0 0), (7, .d (I a5)), (8, .d (I sa))] [(0, .box (.d (.lst false 10 a0))), (1, .box (.d (I a1))), (2, .box (.d (.agg [I a2, I a3, I a4]))), (3, .box (.d (I a5))), (9, .box (.d (.agg [.v (.string t1.1), I t1.2.1, I t1.2.2.1, I t1.2.2.2.1, I t1.2.2.2.2.1, I t1.2.2.2.2.2.1, I t1.2.2.2.2.2.2.1, I t1.2.2.2.2.2.2.2.1, I t1.2.2.2.2.2.2.2.2.1, I t1.2.2.2.2.2.2.2.2.2]))), (16, .box (.d (B (decide (t3 > 0))))), (25, .box (.d (.agg [.v (.string t1.1), I t1.2.1, I t1.2.2.1, I t1.2.2.2.1, I t1.2.2.2.2.1, I t1.2.2.2.2.2.1, I t1.2.2.2.2.2.2.1, I t1.2.2.2.2.2.2.2.1, I t1.2.2.2.2.2.2.2.2.1, I t1.2.2.2.2.2.2.2.2.2]))), (26, .box (.d (I a5))), (34, .box (.own 87 0)), (37, .loop true [(6, .fn (.func 137) [] [.ptr 26 0 0 0 0, .ptr 25 0 0 0 0]), (4, .d (.lst true 0 [])), (2, .ptr 34 0 0 0 0), (1, .fn (.func 137) [] [.ptr 26 0 0 0 0, .ptr 25 0 0 0 0]), (0, .d (.lst true 0 []))] [7] (rangeAt cx.P 136 0).1 (rangeAt cx.P 136 0).2 13), (87, .row 0 4 ta2)], (decide (sa < a5)) = true]) (by kernel_rfl) ⟨ha3, (loopF_to R_field_dark_L2 ha2), (decide_eq_true ha1), trivial⟩⟩
    · replace h := ite_f h ha1
      replace h := Option.some.inj h
      subst h
      exact ⟨⟨100, 40, [.br false], [], [], [0, 1, 2, 3, 9, 16, 25, 26, 34, 37], round_of (ob := [(decide (sa < a5)) = false]) (by kernel_rfl) ⟨(decide_eq_false ha1), trivial⟩⟩, nofun⟩
  · by_cases ha1 : sa.1 < a5
    · replace h := ite_t h ha1
      obtain ⟨ta2, ha2, h⟩ := bnd_of h
      obtain ⟨ha3, h⟩ := grd_of h
      replace h := Option.some.inj h
      subst h
      exact ⟨100, 88, [.br true, .lp [] [0, 1, 2, 4, 7, 8, 11, 12] [0, 1, 2, 3, 9, 16, 25, 26, 34, 37, 87] (.exit 2) [(0, .own 37 0), (1, .ptr 26 0 0 0 0), (2, .ptr 25 0 0 0 0), (7, .d (I a5)), (8, .d (I sa.1))] [(0, .box (.d (.lst false 10 a0))), (1, .box (.d (I a1))), (2, .box (.d (.agg [I a2, I a3, I a4]))), (3, .box (.d (I a5))), (9, .box (.d (.agg [.v (.string t1.1), I t1.2.1, I t1.2.2.1, I t1.2.2.2.1, I t1.2.2.2.2.1, I t1.2.2.2.2.2.1, I t1.2.2.2.2.2.2.1, I t1.2.2.2.2.2.2.2.1, I t1.2.2.2.2.2.2.2.2.1, I t1.2.2.2.2.2.2.2.2.2]))), (16, .box (.d (B (decide (t3 > 0))))), (25, .box (.d (.agg [.v (.string t1.1), I t1.2.1, I t1.2.2.1, I t1.2.2.2.1, I t1.2.2.2.2.1, I t1.2.2.2.2.2.1, I t1.2.2.2.2.2.2.1, I t1.2.2.2.2.2.2.2.1, I t1.2.2.2.2.2.2.2.2.1, I t1.2.2.2.2.2.2.2.2.2]))), (26, .box (.d (I a5))), (34, .box (.own 87 0)), (37, .loop true [(6, .fn (.func 137) [] [.ptr 26 0 0 0 0, .ptr 25 0 0 0 0]), (4, .d (.lst true 0 [])), (2, .ptr 34 0 0 0 0), (1, .fn (.func 137) [] [.ptr 26 0 0 0 0, .ptr 25 0 0 0 0]), (0, .d (.lst true 0 []))] [7] (rangeAt cx.P 136 0).1 (rangeAt cx.P 136 0).2 13), (87, .row 0 4 ta2)] 150], [], [0, 1, 2, 7, 8], [0, 1, 2, 3, 9, 16, 25, 26, 34, 37, 87], round_of (ob := [inI64 (sa.1 + 1), LoopN cx (loopAt cx.P 137 1) 49 38 false [(0, .own 37 0), (1, .ptr 26 0 0 0 0), (2, .ptr 25 0 0 0 0), (4, .d (I sa.1)), (7, .d (I a5)), (8, .d (I sa.1)), (11, .d (I a5)), (12, .d (I 0))] [(0, .box (.d (.lst false 10 a0))), (1, .box (.d (I a1))), (2, .box (.d (.agg [I a2, I a3, I a4]))), (3, .box (.d (I a5))), (9, .box (.d (.agg [.v (.string t1.1), I t1.2.1, I t1.2.2.1, I t1.2.2.2.1, I t1.2.2.2.2.1, I t1.2.2.2.2.2.1, I t1.2.2.2.2.2.2.1, I t1.2.2.2.2.2.2.2.1, I t1.2.2.2.2.2.2.2.2.1, I t1.2.2.2.2.2.2.2.2.2]))), (16, .box (.d (B (decide (t3 > 0))))), (25, .box (.d (.agg [.v (.string t1.1), I t1.2.1, I t1.2.2.1, I t1.2.2.2.1, I t1.2.2.2.2.1, I t1.2.2.2.2.2.1, I t1.2.2.2.2.2.2.1, I t1.2.2.2.2.2.2.2.1, I t1.2.2.2.2.2.2.2.2.1, I t1.2.2.2.2.2.2.2.2.2]))), (26, .box (.d (I a5))), (34, .box (.own 87 0)), (37, .loop true [(6, .fn (.func 137) [] [.ptr 26 0 0 0 0, .ptr 25 0 0 0 0]), (4, .d (.lst true 0 [])), (2, .ptr 34 0 0 0 0), (1, .fn (.func 137) [] [.ptr 26 0 0 0 0, .ptr 25 0 0 0 0]), (0, .d (.lst true 0 []))] [7] (rangeAt cx.P 136 0).1 (rangeAt cx.P 136 0).2 13), (87, .row 0 4 sa.2)] (.exit 2) [(0, .own 37 0), (1, .ptr 26 0 0 0 0), (2, .ptr 25 0 0 0 0), (7, .d (I a5)), (8, .d (I sa.1))] [(0, .box (.d (.lst false 10 a0))), (1, .box (.d (I a1))), (2, .box (.d (.agg [I a2, I a3, I a4]))), (3, .box (.d (I a5))), (9, .box (.d (.agg [.v (.string t1.1), I t1.2.1, I t1.2.2.1, I t1.2.2.2.1, I t1.2.2.2.2.1, I t1.2.2.2.2.2.1, I t1.2.2.2.2.2.2.1, I t1.2.2.2.2.2.2.2.1, I t1.2.2.2.2.2.2.2.2.1, I t1.2.2.2.2.2.2.2.2.2]))), (16, .box (.d (B (decide (t3 > 0))))), (25, .box (.d (.agg [.v (.string t1.1), I t1.2.1, I t1.2.2.1, I t1.2.2.2.1, I t1.2.2.2.2.1, I t1.2.2.2.2.2.1, I t1.2.2.2.2.2.2.1, I t1.2.2.2.2.2.2.2.1, I t1.2.2.2.2.2.2.2.2.1, I t1.2.2.2.2.2.2.2.2.2]))), (26, .box (.d (I a5))), (34, .box (.own 87 0)), (37, .loop true [(6, .fn (.func 137) [] [.ptr 26 0 0 0 0, .ptr 25 0 0 0 0]), (4, .d (.lst true 0 [])), (2, .ptr 34 0 0 0 0), (1, .fn (.func 137) [] [.ptr 26 0 0 0 0, .ptr 25 0 0 0 0]), (0, .d (.lst true 0 []))] [7] (rangeAt cx.P 136 0).1 (rangeAt cx.P 136 0).2 13), (87, .row 0 4 ta2)], (decide (sa.1 < a5)) = true]) (by kernel_rfl) ⟨ha3, (loopF_to R_field_dark_L3 ha2), (decide_eq_true ha1), trivial⟩⟩
    · replace h := ite_f h ha1
      replace h := Option.some.inj h
      subst h
      exact ⟨⟨100, 88, [.br false], [], [], [0, 1, 2, 3, 9, 16, 25, 26, 34, 37, 87], round_of (ob := [(decide (sa.1 < a5)) = false]) (by kernel_rfl) ⟨(decide_eq_false ha1), trivial⟩⟩, nofun⟩
def F_field_dark_L5 (n : Nat) (a0 : List D) (a1 : Int) (a2 : Int) (a3 : Int) (a4 : Int) (a5 : Int) (t1 : ByteArray × Int × Int × Int × Int × Int × Int × Int × Int × Int) (t3 : Int) (t4 : List D) (sa : (Int × List D)) : Option (((Int × List D)) ⊕ ((List D))) :=
 if sa.1 < ((t4).length : Int) then
  if 0 ≤ sa.1 ∧ sa.1 < ((t4).length : Int) then
  ((nth (t4) (Int.toNat sa.1)).bind un_Ai4Z).bind fun ta3 =>
  if (decide (t3 > 0)) = true then
  (F_field_met n a0 a1 a5 ta3.2.1 ta3.2.2.1 ta3.2.2.2 a2 a3 a4 false).bind fun ta5 =>
  if roomP 1 ((sa.2).length + 1) then
  if inI64 (sa.1 + 1) then
  some (.inl ((sa.1 + 1), (sa.2 ++ ([B ta5] : List D))))
  else none
  else none
  else
  if roomP 1 ((sa.2).length + 1) then
  if inI64 (sa.1 + 1) then
  some (.inl ((sa.1 + 1), (sa.2 ++ ([B true] : List D))))
  else none
  else none
  else none
 else
 some (.inr sa.2)
noncomputable def T_field_dark_L5 (a0 : List D) (a1 : Int) (a2 : Int) (a3 : Int) (a4 : Int) (a5 : Int) (t1 : ByteArray × Int × Int × Int × Int × Int × Int × Int × Int × Int) (t3 : Int) (t4 : List D) (sa : (Int × List D)) : List (Nat × AV) := [(1, .fn (.func 139) [] [.ptr 16 0 0 0 0, .ptr 0 0 0 0 0, .ptr 1 0 0 0 0, .ptr 3 0 0 0 0, .ptr 2 0 0 0 0]), (5, .own 170 0), (8, .own 87 0), (9, .d (I ((t4).length : Int))), (10, .d (I sa.1))]
noncomputable def H_field_dark_L5 (a0 : List D) (a1 : Int) (a2 : Int) (a3 : Int) (a4 : Int) (a5 : Int) (t1 : ByteArray × Int × Int × Int × Int × Int × Int × Int × Int × Int) (t3 : Int) (t4 : List D) (sa : (Int × List D)) : List (Nat × Blk) := [(0, .box (.d (.lst false 10 a0))), (1, .box (.d (I a1))), (2, .box (.d (.agg [I a2, I a3, I a4]))), (3, .box (.d (I a5))), (9, .box (.d (.agg [.v (.string t1.1), I t1.2.1, I t1.2.2.1, I t1.2.2.2.1, I t1.2.2.2.2.1, I t1.2.2.2.2.2.1, I t1.2.2.2.2.2.2.1, I t1.2.2.2.2.2.2.2.1, I t1.2.2.2.2.2.2.2.2.1, I t1.2.2.2.2.2.2.2.2.2]))), (16, .box (.d (B (decide (t3 > 0))))), (25, .box (.d (.agg [.v (.string t1.1), I t1.2.1, I t1.2.2.1, I t1.2.2.2.1, I t1.2.2.2.2.1, I t1.2.2.2.2.2.1, I t1.2.2.2.2.2.2.1, I t1.2.2.2.2.2.2.2.1, I t1.2.2.2.2.2.2.2.2.1, I t1.2.2.2.2.2.2.2.2.2]))), (26, .box (.d (I a5))), (34, .box (.own 87 0)), (37, .dead), (87, .row 0 4 t4), (170, .row 0 1 sa.2)]
noncomputable def X_field_dark_L5 (a0 : List D) (a1 : Int) (a2 : Int) (a3 : Int) (a4 : Int) (a5 : Int) (t1 : ByteArray × Int × Int × Int × Int × Int × Int × Int × Int × Int) (t3 : Int) (t4 : List D) (e : (List D)) : Ex := (.exit 0)
noncomputable def XT_field_dark_L5 (a0 : List D) (a1 : Int) (a2 : Int) (a3 : Int) (a4 : Int) (a5 : Int) (t1 : ByteArray × Int × Int × Int × Int × Int × Int × Int × Int × Int) (t3 : Int) (t4 : List D) (e : (List D)) : List (Nat × AV) := [(5, .own 170 0)]
noncomputable def XH_field_dark_L5 (a0 : List D) (a1 : Int) (a2 : Int) (a3 : Int) (a4 : Int) (a5 : Int) (t1 : ByteArray × Int × Int × Int × Int × Int × Int × Int × Int × Int) (t3 : Int) (t4 : List D) (e : (List D)) : List (Nat × Blk) := [(0, .box (.d (.lst false 10 a0))), (1, .box (.d (I a1))), (2, .box (.d (.agg [I a2, I a3, I a4]))), (3, .box (.d (I a5))), (9, .box (.d (.agg [.v (.string t1.1), I t1.2.1, I t1.2.2.1, I t1.2.2.2.1, I t1.2.2.2.2.1, I t1.2.2.2.2.2.1, I t1.2.2.2.2.2.2.1, I t1.2.2.2.2.2.2.2.1, I t1.2.2.2.2.2.2.2.2.1, I t1.2.2.2.2.2.2.2.2.2]))), (16, .box (.d (B (decide (t3 > 0))))), (25, .box (.d (.agg [.v (.string t1.1), I t1.2.1, I t1.2.2.1, I t1.2.2.2.1, I t1.2.2.2.2.1, I t1.2.2.2.2.2.1, I t1.2.2.2.2.2.2.1, I t1.2.2.2.2.2.2.2.1, I t1.2.2.2.2.2.2.2.2.1, I t1.2.2.2.2.2.2.2.2.2]))), (26, .box (.d (I a5))), (34, .box (.own 87 0)), (37, .dead), (87, .row 0 4 t4), (170, .row 0 1 e)]
theorem R_field_dark_L5 {n : Nat} {a0 : List D} {a1 : Int} {a2 : Int} {a3 : Int} {a4 : Int} {a5 : Int} {t1 : ByteArray × Int × Int × Int × Int × Int × Int × Int × Int × Int} {t3 : Int} {t4 : List D} (sa : (Int × List D)) (r) (h : F_field_dark_L5 n a0 a1 a2 a3 a4 a5 t1 t3 t4 sa = some r) : Rd cx (loopAt cx.P 138 0) 22 165 false (T_field_dark_L5 a0 a1 a2 a3 a4 a5 t1 t3 t4) (H_field_dark_L5 a0 a1 a2 a3 a4 a5 t1 t3 t4) (X_field_dark_L5 a0 a1 a2 a3 a4 a5 t1 t3 t4) (XT_field_dark_L5 a0 a1 a2 a3 a4 a5 t1 t3 t4) (XH_field_dark_L5 a0 a1 a2 a3 a4 a5 t1 t3 t4) sa r := by
  unfold F_field_dark_L5 at h
  by_cases ha1 : sa.1 < ((t4).length : Int)
  · replace h := ite_t h ha1
    obtain ⟨ha2, h⟩ := grd_of h
    obtain ⟨ta3, ha3, h⟩ := bnd_of h
    by_cases ha4 : (decide (t3 > 0)) = true
    · replace h := ite_t h ha4
      obtain ⟨ta5, ha5, h⟩ := bnd_of h
      obtain ⟨ha6, h⟩ := grd_of h
      obtain ⟨ha7, h⟩ := grd_of h
      replace h := Option.some.inj h
      subst h
      exact ⟨100, 171, [.br true, .br true, .el (.agg [I ta3.1, I ta3.2.1, I ta3.2.2.1, I ta3.2.2.2]), .br true, .br false, .ret (B ta5), .br true], [], [1, 5, 8, 9, 10], [0, 1, 2, 3, 9, 16, 25, 26, 34, 37, 87, 170], round_of (ob := [inI64 (sa.1 + 1), room cx 4 ((sa.2).length + 1), Computes cx 140 [.lst false 10 a0, I a1, I a5, .agg [I ta3.2.1, I ta3.2.2.1, I ta3.2.2.2, I a2, I a3, I a4, B false]] (B ta5), (!(decide (t3 > 0))) = false, nth (t4) (Int.toNat sa.1) = some (.agg [I ta3.1, I ta3.2.1, I ta3.2.2.1, I ta3.2.2.2]), 0 ≤ sa.1 ∧ sa.1 < ((t4).length : Int), (decide (sa.1 < ((t4).length : Int))) = true]) (by kernel_rfl) ⟨ha7, (room_of (b := 1) (by kernel_rfl) (by decide) ha6), (c_field_met ha5), (notf ha4), nel_ok un_Ai4Z_ok ha3, ha2, (decide_eq_true ha1), trivial⟩⟩
    · replace h := ite_f h ha4
      obtain ⟨ha5, h⟩ := grd_of h
      obtain ⟨ha6, h⟩ := grd_of h
      replace h := Option.some.inj h
      subst h
      exact ⟨100, 171, [.br true, .br true, .el (.agg [I ta3.1, I ta3.2.1, I ta3.2.2.1, I ta3.2.2.2]), .br true, .br true, .br true], [], [1, 5, 8, 9, 10], [0, 1, 2, 3, 9, 16, 25, 26, 34, 37, 87, 170], round_of (ob := [inI64 (sa.1 + 1), room cx 4 ((sa.2).length + 1), (!(decide (t3 > 0))) = true, nth (t4) (Int.toNat sa.1) = some (.agg [I ta3.1, I ta3.2.1, I ta3.2.2.1, I ta3.2.2.2]), 0 ≤ sa.1 ∧ sa.1 < ((t4).length : Int), (decide (sa.1 < ((t4).length : Int))) = true]) (by kernel_rfl) ⟨ha6, (room_of (b := 1) (by kernel_rfl) (by decide) ha5), (nott (bfalse ha4)), nel_ok un_Ai4Z_ok ha3, ha2, (decide_eq_true ha1), trivial⟩⟩
  · replace h := ite_f h ha1
    replace h := Option.some.inj h
    subst h
    exact ⟨⟨100, 171, [.br false], [], [5], [0, 1, 2, 3, 9, 16, 25, 26, 34, 37, 87, 170], round_of (ob := [(decide (sa.1 < ((t4).length : Int))) = false]) (by kernel_rfl) ⟨(decide_eq_false ha1), trivial⟩⟩, nofun⟩
def F_field_dark (n : Nat) (a0 : List D) (a1 : Int) (a2 : Int) (a3 : Int) (a4 : Int) (a5 : Int) : Option (List D) :=
 (el un_Asi9Z a0 a1).bind fun t1 =>
 (F_field_Mirror_normal n t1.1 t1.2.1 t1.2.2.1 t1.2.2.2.1 t1.2.2.2.2.1 t1.2.2.2.2.2.1 t1.2.2.2.2.2.2.1 t1.2.2.2.2.2.2.2.1 t1.2.2.2.2.2.2.2.2.1 t1.2.2.2.2.2.2.2.2.2).bind fun t2 =>
 (F_field_dot n t2.1 t2.2.1 t2.2.2 a2 a3 a4).bind fun t3 =>
 (loopF (F_field_dark_L4 n a0 a1 a2 a3 a4 a5 t1 t3) n (.inl 0)).bind fun t4 => match t4 with
  | (.inl t4) => (
  some [])
  | (.inr t4) => (
  (loopF (F_field_dark_L5 n a0 a1 a2 a3 a4 a5 t1 t3 t4) n (0, [])).bind fun t5 =>
  some t5)
theorem c_field_dark {n : Nat} {a0 : List D} {a1 : Int} {a2 : Int} {a3 : Int} {a4 : Int} {a5 : Int} {r : List D} (h : F_field_dark n a0 a1 a2 a3 a4 a5 = some r) : Computes cx 97 [.lst false 10 a0, I a1, .agg [I a2, I a3, I a4], I a5] (.lst false 1 r) := by
  unfold F_field_dark at h
  obtain ⟨t1, h1, h⟩ := bnd_of h
  obtain ⟨t2, h2, h⟩ := bnd_of h
  obtain ⟨t3, h3, h⟩ := bnd_of h
  obtain ⟨t4, h4, h⟩ := bnd_of h
  rcases t4 with t4 | t4
  · replace h := Option.some.inj h
    subst h
    exact (run (n := 100) (f := 97) (args := [.lst false 10 a0, I a1, .agg [I a2, I a3, I a4], I a5]) (orc := [.el (.agg [.v (.string t1.1), I t1.2.1, I t1.2.2.1, I t1.2.2.2.1, I t1.2.2.2.2.1, I t1.2.2.2.2.2.1, I t1.2.2.2.2.2.2.1, I t1.2.2.2.2.2.2.2.1, I t1.2.2.2.2.2.2.2.2.1, I t1.2.2.2.2.2.2.2.2.2]), .ret (.agg [I t2.1, I t2.2.1, I t2.2.2]), .ret (I t3), .br true, .br true, .br true, .lp [] [0, 1, 2, 7, 8] [0, 1, 2, 3, 9, 16, 25, 26, 34, 37] (.exit 0) [] [(0, .box (.d (.lst false 10 a0))), (1, .box (.d (I a1))), (2, .box (.d (.agg [I a2, I a3, I a4]))), (3, .box (.d (I a5))), (9, .box (.d (.agg [.v (.string t1.1), I t1.2.1, I t1.2.2.1, I t1.2.2.2.1, I t1.2.2.2.2.1, I t1.2.2.2.2.2.1, I t1.2.2.2.2.2.2.1, I t1.2.2.2.2.2.2.2.1, I t1.2.2.2.2.2.2.2.2.1, I t1.2.2.2.2.2.2.2.2.2]))), (16, .box (.d (B (decide (t3 > 0))))), (25, .box (.d (.agg [.v (.string t1.1), I t1.2.1, I t1.2.2.1, I t1.2.2.2.1, I t1.2.2.2.2.1, I t1.2.2.2.2.2.1, I t1.2.2.2.2.2.2.1, I t1.2.2.2.2.2.2.2.1, I t1.2.2.2.2.2.2.2.2.1, I t1.2.2.2.2.2.2.2.2.2]))), (26, .box (.d (I a5))), (34, .box (.d (.lst true 0 []))), (37, .loop true [(6, .fn (.func 137) [] [.ptr 26 0 0 0 0, .ptr 25 0 0 0 0]), (4, .d (.lst true 0 [])), (2, .ptr 34 0 0 0 0), (1, .fn (.func 137) [] [.ptr 26 0 0 0 0, .ptr 25 0 0 0 0]), (0, .d (.lst true 0 []))] [7] (rangeAt cx.P 136 0).1 (rangeAt cx.P 136 0).2 13)] 163, .br true, .no, .no]) (r := .lst true 0 []) (ob := [LoopN cx (loopAt cx.P 137 0) 49 38 false [(0, .own 37 0), (1, .ptr 26 0 0 0 0), (2, .ptr 25 0 0 0 0), (7, .d (I a5)), (8, .d (I 0))] [(0, .box (.d (.lst false 10 a0))), (1, .box (.d (I a1))), (2, .box (.d (.agg [I a2, I a3, I a4]))), (3, .box (.d (I a5))), (9, .box (.d (.agg [.v (.string t1.1), I t1.2.1, I t1.2.2.1, I t1.2.2.2.1, I t1.2.2.2.2.1, I t1.2.2.2.2.2.1, I t1.2.2.2.2.2.2.1, I t1.2.2.2.2.2.2.2.1, I t1.2.2.2.2.2.2.2.2.1, I t1.2.2.2.2.2.2.2.2.2]))), (16, .box (.d (B (decide (t3 > 0))))), (25, .box (.d (.agg [.v (.string t1.1), I t1.2.1, I t1.2.2.1, I t1.2.2.2.1, I t1.2.2.2.2.1, I t1.2.2.2.2.2.1, I t1.2.2.2.2.2.2.1, I t1.2.2.2.2.2.2.2.1, I t1.2.2.2.2.2.2.2.2.1, I t1.2.2.2.2.2.2.2.2.2]))), (26, .box (.d (I a5))), (34, .box (.d (.lst true 0 []))), (37, .loop true [(6, .fn (.func 137) [] [.ptr 26 0 0 0 0, .ptr 25 0 0 0 0]), (4, .d (.lst true 0 [])), (2, .ptr 34 0 0 0 0), (1, .fn (.func 137) [] [.ptr 26 0 0 0 0, .ptr 25 0 0 0 0]), (0, .d (.lst true 0 []))] [7] (rangeAt cx.P 136 0).1 (rangeAt cx.P 136 0).2 13)] (.exit 0) [] [(0, .box (.d (.lst false 10 a0))), (1, .box (.d (I a1))), (2, .box (.d (.agg [I a2, I a3, I a4]))), (3, .box (.d (I a5))), (9, .box (.d (.agg [.v (.string t1.1), I t1.2.1, I t1.2.2.1, I t1.2.2.2.1, I t1.2.2.2.2.1, I t1.2.2.2.2.2.1, I t1.2.2.2.2.2.2.1, I t1.2.2.2.2.2.2.2.1, I t1.2.2.2.2.2.2.2.2.1, I t1.2.2.2.2.2.2.2.2.2]))), (16, .box (.d (B (decide (t3 > 0))))), (25, .box (.d (.agg [.v (.string t1.1), I t1.2.1, I t1.2.2.1, I t1.2.2.2.1, I t1.2.2.2.2.1, I t1.2.2.2.2.2.1, I t1.2.2.2.2.2.2.1, I t1.2.2.2.2.2.2.2.1, I t1.2.2.2.2.2.2.2.2.1, I t1.2.2.2.2.2.2.2.2.2]))), (26, .box (.d (I a5))), (34, .box (.d (.lst true 0 []))), (37, .loop true [(6, .fn (.func 137) [] [.ptr 26 0 0 0 0, .ptr 25 0 0 0 0]), (4, .d (.lst true 0 [])), (2, .ptr 34 0 0 0 0), (1, .fn (.func 137) [] [.ptr 26 0 0 0 0, .ptr 25 0 0 0 0]), (0, .d (.lst true 0 []))] [7] (rangeAt cx.P 136 0).1 (rangeAt cx.P 136 0).2 13)], Computes cx 62 [.agg [I t2.1, I t2.2.1, I t2.2.2], .agg [I a2, I a3, I a4]] (I t3), Computes cx 63 [.agg [.v (.string t1.1), I t1.2.1, I t1.2.2.1, I t1.2.2.2.1, I t1.2.2.2.2.1, I t1.2.2.2.2.2.1, I t1.2.2.2.2.2.2.1, I t1.2.2.2.2.2.2.2.1, I t1.2.2.2.2.2.2.2.2.1, I t1.2.2.2.2.2.2.2.2.2]] (.agg [I t2.1, I t2.2.1, I t2.2.2]), (0 : Int) ≤ a1, nth (a0) (Int.toNat a1) = some (.agg [.v (.string t1.1), I t1.2.1, I t1.2.2.1, I t1.2.2.2.1, I t1.2.2.2.2.1, I t1.2.2.2.2.2.1, I t1.2.2.2.2.2.2.1, I t1.2.2.2.2.2.2.2.1, I t1.2.2.2.2.2.2.2.2.1, I t1.2.2.2.2.2.2.2.2.2])]) (by kernel_rfl) ⟨(loopF_to R_field_dark_L4 h4), (c_field_dot h3), (c_field_Mirror_normal h2), (el_ok un_Asi9Z_ok h1).1, (el_ok un_Asi9Z_ok h1).2, trivial⟩).le (LEs.refl _) (.lst _ _ _ _ _ nofun (.inl rfl))
  · obtain ⟨t5, h5, h⟩ := bnd_of h
    replace h := Option.some.inj h
    subst h
    exact run (n := 100) (f := 97) (args := [.lst false 10 a0, I a1, .agg [I a2, I a3, I a4], I a5]) (orc := [.el (.agg [.v (.string t1.1), I t1.2.1, I t1.2.2.1, I t1.2.2.2.1, I t1.2.2.2.2.1, I t1.2.2.2.2.2.1, I t1.2.2.2.2.2.2.1, I t1.2.2.2.2.2.2.2.1, I t1.2.2.2.2.2.2.2.2.1, I t1.2.2.2.2.2.2.2.2.2]), .ret (.agg [I t2.1, I t2.2.1, I t2.2.2]), .ret (I t3), .br true, .br true, .br true, .lp [] [0, 1, 2, 7, 8] [0, 1, 2, 3, 9, 16, 25, 26, 34, 37] (.exit 0) [] [(0, .box (.d (.lst false 10 a0))), (1, .box (.d (I a1))), (2, .box (.d (.agg [I a2, I a3, I a4]))), (3, .box (.d (I a5))), (9, .box (.d (.agg [.v (.string t1.1), I t1.2.1, I t1.2.2.1, I t1.2.2.2.1, I t1.2.2.2.2.1, I t1.2.2.2.2.2.1, I t1.2.2.2.2.2.2.1, I t1.2.2.2.2.2.2.2.1, I t1.2.2.2.2.2.2.2.2.1, I t1.2.2.2.2.2.2.2.2.2]))), (16, .box (.d (B (decide (t3 > 0))))), (25, .box (.d (.agg [.v (.string t1.1), I t1.2.1, I t1.2.2.1, I t1.2.2.2.1, I t1.2.2.2.2.1, I t1.2.2.2.2.2.1, I t1.2.2.2.2.2.2.1, I t1.2.2.2.2.2.2.2.1, I t1.2.2.2.2.2.2.2.2.1, I t1.2.2.2.2.2.2.2.2.2]))), (26, .box (.d (I a5))), (34, .box (.own 87 0)), (37, .loop true [(6, .fn (.func 137) [] [.ptr 26 0 0 0 0, .ptr 25 0 0 0 0]), (4, .d (.lst true 0 [])), (2, .ptr 34 0 0 0 0), (1, .fn (.func 137) [] [.ptr 26 0 0 0 0, .ptr 25 0 0 0 0]), (0, .d (.lst true 0 []))] [7] (rangeAt cx.P 136 0).1 (rangeAt cx.P 136 0).2 13), (87, .row 0 4 t4)] 163, .br true, .lp [5, 1] [1, 5, 8, 9, 10] [0, 1, 2, 3, 9, 16, 25, 26, 34, 37, 87, 170] (.exit 0) [(5, .own 170 0)] [(0, .box (.d (.lst false 10 a0))), (1, .box (.d (I a1))), (2, .box (.d (.agg [I a2, I a3, I a4]))), (3, .box (.d (I a5))), (9, .box (.d (.agg [.v (.string t1.1), I t1.2.1, I t1.2.2.1, I t1.2.2.2.1, I t1.2.2.2.2.1, I t1.2.2.2.2.2.1, I t1.2.2.2.2.2.2.1, I t1.2.2.2.2.2.2.2.1, I t1.2.2.2.2.2.2.2.2.1, I t1.2.2.2.2.2.2.2.2.2]))), (16, .box (.d (B (decide (t3 > 0))))), (25, .box (.d (.agg [.v (.string t1.1), I t1.2.1, I t1.2.2.1, I t1.2.2.2.1, I t1.2.2.2.2.1, I t1.2.2.2.2.2.1, I t1.2.2.2.2.2.2.1, I t1.2.2.2.2.2.2.2.1, I t1.2.2.2.2.2.2.2.2.1, I t1.2.2.2.2.2.2.2.2.2]))), (26, .box (.d (I a5))), (34, .box (.own 87 0)), (37, .dead), (87, .row 0 4 t4), (170, .row 0 1 t5)] 211]) (r := .lst false 1 t5) (ob := [LoopN cx (loopAt cx.P 138 0) 22 165 false [(1, .fn (.func 139) [] [.ptr 16 0 0 0 0, .ptr 0 0 0 0 0, .ptr 1 0 0 0 0, .ptr 3 0 0 0 0, .ptr 2 0 0 0 0]), (5, .own 170 0), (8, .own 87 0), (9, .d (I ((t4).length : Int))), (10, .d (I 0))] [(0, .box (.d (.lst false 10 a0))), (1, .box (.d (I a1))), (2, .box (.d (.agg [I a2, I a3, I a4]))), (3, .box (.d (I a5))), (9, .box (.d (.agg [.v (.string t1.1), I t1.2.1, I t1.2.2.1, I t1.2.2.2.1, I t1.2.2.2.2.1, I t1.2.2.2.2.2.1, I t1.2.2.2.2.2.2.1, I t1.2.2.2.2.2.2.2.1, I t1.2.2.2.2.2.2.2.2.1, I t1.2.2.2.2.2.2.2.2.2]))), (16, .box (.d (B (decide (t3 > 0))))), (25, .box (.d (.agg [.v (.string t1.1), I t1.2.1, I t1.2.2.1, I t1.2.2.2.1, I t1.2.2.2.2.1, I t1.2.2.2.2.2.1, I t1.2.2.2.2.2.2.1, I t1.2.2.2.2.2.2.2.1, I t1.2.2.2.2.2.2.2.2.1, I t1.2.2.2.2.2.2.2.2.2]))), (26, .box (.d (I a5))), (34, .box (.own 87 0)), (37, .dead), (87, .row 0 4 t4), (170, .row 0 1 [])] (.exit 0) [(5, .own 170 0)] [(0, .box (.d (.lst false 10 a0))), (1, .box (.d (I a1))), (2, .box (.d (.agg [I a2, I a3, I a4]))), (3, .box (.d (I a5))), (9, .box (.d (.agg [.v (.string t1.1), I t1.2.1, I t1.2.2.1, I t1.2.2.2.1, I t1.2.2.2.2.1, I t1.2.2.2.2.2.1, I t1.2.2.2.2.2.2.1, I t1.2.2.2.2.2.2.2.1, I t1.2.2.2.2.2.2.2.2.1, I t1.2.2.2.2.2.2.2.2.2]))), (16, .box (.d (B (decide (t3 > 0))))), (25, .box (.d (.agg [.v (.string t1.1), I t1.2.1, I t1.2.2.1, I t1.2.2.2.1, I t1.2.2.2.2.1, I t1.2.2.2.2.2.1, I t1.2.2.2.2.2.2.1, I t1.2.2.2.2.2.2.2.1, I t1.2.2.2.2.2.2.2.2.1, I t1.2.2.2.2.2.2.2.2.2]))), (26, .box (.d (I a5))), (34, .box (.own 87 0)), (37, .dead), (87, .row 0 4 t4), (170, .row 0 1 t5)], LoopN cx (loopAt cx.P 137 0) 49 38 false [(0, .own 37 0), (1, .ptr 26 0 0 0 0), (2, .ptr 25 0 0 0 0), (7, .d (I a5)), (8, .d (I 0))] [(0, .box (.d (.lst false 10 a0))), (1, .box (.d (I a1))), (2, .box (.d (.agg [I a2, I a3, I a4]))), (3, .box (.d (I a5))), (9, .box (.d (.agg [.v (.string t1.1), I t1.2.1, I t1.2.2.1, I t1.2.2.2.1, I t1.2.2.2.2.1, I t1.2.2.2.2.2.1, I t1.2.2.2.2.2.2.1, I t1.2.2.2.2.2.2.2.1, I t1.2.2.2.2.2.2.2.2.1, I t1.2.2.2.2.2.2.2.2.2]))), (16, .box (.d (B (decide (t3 > 0))))), (25, .box (.d (.agg [.v (.string t1.1), I t1.2.1, I t1.2.2.1, I t1.2.2.2.1, I t1.2.2.2.2.1, I t1.2.2.2.2.2.1, I t1.2.2.2.2.2.2.1, I t1.2.2.2.2.2.2.2.1, I t1.2.2.2.2.2.2.2.2.1, I t1.2.2.2.2.2.2.2.2.2]))), (26, .box (.d (I a5))), (34, .box (.d (.lst true 0 []))), (37, .loop true [(6, .fn (.func 137) [] [.ptr 26 0 0 0 0, .ptr 25 0 0 0 0]), (4, .d (.lst true 0 [])), (2, .ptr 34 0 0 0 0), (1, .fn (.func 137) [] [.ptr 26 0 0 0 0, .ptr 25 0 0 0 0]), (0, .d (.lst true 0 []))] [7] (rangeAt cx.P 136 0).1 (rangeAt cx.P 136 0).2 13)] (.exit 0) [] [(0, .box (.d (.lst false 10 a0))), (1, .box (.d (I a1))), (2, .box (.d (.agg [I a2, I a3, I a4]))), (3, .box (.d (I a5))), (9, .box (.d (.agg [.v (.string t1.1), I t1.2.1, I t1.2.2.1, I t1.2.2.2.1, I t1.2.2.2.2.1, I t1.2.2.2.2.2.1, I t1.2.2.2.2.2.2.1, I t1.2.2.2.2.2.2.2.1, I t1.2.2.2.2.2.2.2.2.1, I t1.2.2.2.2.2.2.2.2.2]))), (16, .box (.d (B (decide (t3 > 0))))), (25, .box (.d (.agg [.v (.string t1.1), I t1.2.1, I t1.2.2.1, I t1.2.2.2.1, I t1.2.2.2.2.1, I t1.2.2.2.2.2.1, I t1.2.2.2.2.2.2.1, I t1.2.2.2.2.2.2.2.1, I t1.2.2.2.2.2.2.2.2.1, I t1.2.2.2.2.2.2.2.2.2]))), (26, .box (.d (I a5))), (34, .box (.own 87 0)), (37, .loop true [(6, .fn (.func 137) [] [.ptr 26 0 0 0 0, .ptr 25 0 0 0 0]), (4, .d (.lst true 0 [])), (2, .ptr 34 0 0 0 0), (1, .fn (.func 137) [] [.ptr 26 0 0 0 0, .ptr 25 0 0 0 0]), (0, .d (.lst true 0 []))] [7] (rangeAt cx.P 136 0).1 (rangeAt cx.P 136 0).2 13), (87, .row 0 4 t4)], Computes cx 62 [.agg [I t2.1, I t2.2.1, I t2.2.2], .agg [I a2, I a3, I a4]] (I t3), Computes cx 63 [.agg [.v (.string t1.1), I t1.2.1, I t1.2.2.1, I t1.2.2.2.1, I t1.2.2.2.2.1, I t1.2.2.2.2.2.1, I t1.2.2.2.2.2.2.1, I t1.2.2.2.2.2.2.2.1, I t1.2.2.2.2.2.2.2.2.1, I t1.2.2.2.2.2.2.2.2.2]] (.agg [I t2.1, I t2.2.1, I t2.2.2]), (0 : Int) ≤ a1, nth (a0) (Int.toNat a1) = some (.agg [.v (.string t1.1), I t1.2.1, I t1.2.2.1, I t1.2.2.2.1, I t1.2.2.2.2.1, I t1.2.2.2.2.2.1, I t1.2.2.2.2.2.2.1, I t1.2.2.2.2.2.2.2.1, I t1.2.2.2.2.2.2.2.2.1, I t1.2.2.2.2.2.2.2.2.2])]) (by kernel_rfl) ⟨(loopF_to R_field_dark_L5 h5), (loopF_to R_field_dark_L4 h4), (c_field_dot h3), (c_field_Mirror_normal h2), (el_ok un_Asi9Z_ok h1).1, (el_ok un_Asi9Z_ok h1).2, trivial⟩
end Go.Proofs.YtojmcpnpojdnmaaGreatDoor
