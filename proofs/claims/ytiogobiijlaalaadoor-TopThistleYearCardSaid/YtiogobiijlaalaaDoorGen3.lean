/-
  Printed by gsx.py: functions of the program as Lean functions, and that the code computes them.
-/
import Derived.Test.YtiogobiijlaalaaDoorGen2
set_option linter.unusedVariables false
set_option maxRecDepth 10000
namespace Go.Proofs.YtiogobiijlaalaaDoor
open Go.SX
def F_field_met_L1 (n : Nat) (a0 : List D) (a1 : Int) (a2 : Int) (a3 : Int) (a4 : Int) (a5 : Int) (a6 : Int) (a7 : Int) (a8 : Int) (a9 : Bool) (sa : (Int)) : Option (((Int)) ⊕ ((Unit) ⊕ (Unit))) :=
 if sa < ((a0).length : Int) then
  (el un_Asi9Z a0 sa).bind fun ta2 =>
  if sa = a1 then
  if inI64 (sa + 1) then
  some (.inl (sa + 1))
  else none
  else
  (F_field_Mirror_meets n ta2.1 ta2.2.1 ta2.2.2.1 ta2.2.2.2.1 ta2.2.2.2.2.1 ta2.2.2.2.2.2.1 ta2.2.2.2.2.2.2.1 ta2.2.2.2.2.2.2.2.1 ta2.2.2.2.2.2.2.2.2.1 ta2.2.2.2.2.2.2.2.2.2 a2 a3 a4 a5 a6 a7 a8 a9).bind fun ta4 =>
  if ta4 = true then
  some (.inr (.inl ()))
  else
  if inI64 (sa + 1) then
  some (.inl (sa + 1))
  else none
 else
 some (.inr (.inr ()))
noncomputable def T_field_met_L1 (a0 : List D) (a1 : Int) (a2 : Int) (a3 : Int) (a4 : Int) (a5 : Int) (a6 : Int) (a7 : Int) (a8 : Int) (a9 : Bool) (sa : (Int)) : List (Nat × AV) := [(1, .d (I a1)), (2, .d (I a2)), (7, .ptr 0 0 0 0 0), (11, .d (.lst false 10 a0)), (12, .d (I ((a0).length : Int))), (13, .d (I sa))]
noncomputable def H_field_met_L1 (a0 : List D) (a1 : Int) (a2 : Int) (a3 : Int) (a4 : Int) (a5 : Int) (a6 : Int) (a7 : Int) (a8 : Int) (a9 : Bool) (sa : (Int)) : List (Nat × Blk) := [(0, .box (.d (.agg [I a3, I a4, I a5, I a6, I a7, I a8, B a9])))]
noncomputable def X_field_met_L1 (a0 : List D) (a1 : Int) (a2 : Int) (a3 : Int) (a4 : Int) (a5 : Int) (a6 : Int) (a7 : Int) (a8 : Int) (a9 : Bool) (e : (Unit) ⊕ (Unit)) : Ex := match e with
  | (.inl e) => .ret
  | (.inr e) => (.exit 0)
noncomputable def XT_field_met_L1 (a0 : List D) (a1 : Int) (a2 : Int) (a3 : Int) (a4 : Int) (a5 : Int) (a6 : Int) (a7 : Int) (a8 : Int) (a9 : Bool) (e : (Unit) ⊕ (Unit)) : List (Nat × AV) := match e with
  | (.inl e) => [(8, .d (B true))]
  | (.inr e) => []
noncomputable def XH_field_met_L1 (a0 : List D) (a1 : Int) (a2 : Int) (a3 : Int) (a4 : Int) (a5 : Int) (a6 : Int) (a7 : Int) (a8 : Int) (a9 : Bool) (e : (Unit) ⊕ (Unit)) : List (Nat × Blk) := match e with
  | (.inl e) => []
  | (.inr e) => []
theorem R_field_met_L1 {n : Nat} {a0 : List D} {a1 : Int} {a2 : Int} {a3 : Int} {a4 : Int} {a5 : Int} {a6 : Int} {a7 : Int} {a8 : Int} {a9 : Bool} (sa : (Int)) (r) (h : F_field_met_L1 n a0 a1 a2 a3 a4 a5 a6 a7 a8 a9 sa = some r) : Rd cx (loopAt cx.P 100 0) 28 0 false (T_field_met_L1 a0 a1 a2 a3 a4 a5 a6 a7 a8 a9) (H_field_met_L1 a0 a1 a2 a3 a4 a5 a6 a7 a8 a9) (X_field_met_L1 a0 a1 a2 a3 a4 a5 a6 a7 a8 a9) (XT_field_met_L1 a0 a1 a2 a3 a4 a5 a6 a7 a8 a9) (XH_field_met_L1 a0 a1 a2 a3 a4 a5 a6 a7 a8 a9) sa r := by
 unfold F_field_met_L1 at h
 by_cases ha1 : sa < ((a0).length : Int)
 ·replace h := it h ha1
  obtain ⟨ta2, ha2, h⟩ := bo h
  by_cases ha3 : sa = a1
  ·replace h := it h ha3
   obtain ⟨ha4, h⟩ := gd h
   obtain rfl := oi h
   exact ⟨100, 5, [.br true, .el (enc_Asi9Z ta2), .br false, .no], [], [1, 2, 7, 11, 12, 13], [0], round_fr (allC ha4 (allC (nef ha3) (allC (el_ok un_Asi9Z_ok ha2).1 (allC (el_ok un_Asi9Z_ok ha2).2 (allC (decide_eq_true ha1) allN))))) (by kernel_rfl)⟩
  ·replace h := jf h ha3
   obtain ⟨ta4, ha4, h⟩ := bo h
   by_cases ha5 : ta4 = true
   ·replace h := it h ha5
    obtain rfl := oi h
    exact ⟨⟨100, 5, [.br true, .el (enc_Asi9Z ta2), .br true, .ret (B ta4), .br true], [], [8], [], round_fr (allC ha5 (allC (c_field_Mirror_meets ha4) (allC (net ha3) (allC (el_ok un_Asi9Z_ok ha2).1 (allC (el_ok un_Asi9Z_ok ha2).2 (allC (decide_eq_true ha1) allN)))))) (by kernel_rfl)⟩, nofun⟩
   ·replace h := jf h ha5
    obtain ⟨ha6, h⟩ := gd h
    obtain rfl := oi h
    exact ⟨100, 5, [.br true, .el (enc_Asi9Z ta2), .br true, .ret (B ta4), .br false], [], [1, 2, 7, 11, 12, 13], [0], round_fr (allC ha6 (allC (bfalse ha5) (allC (c_field_Mirror_meets ha4) (allC (net ha3) (allC (el_ok un_Asi9Z_ok ha2).1 (allC (el_ok un_Asi9Z_ok ha2).2 (allC (decide_eq_true ha1) allN))))))) (by kernel_rfl)⟩
 ·replace h := jf h ha1
  obtain rfl := oi h
  exact ⟨⟨100, 5, [.br false], [], [], [], round_fr (allC (decide_eq_false ha1) allN) (by kernel_rfl)⟩, nofun⟩
def F_field_met (n : Nat) (a0 : List D) (a1 : Int) (a2 : Int) (a3 : Int) (a4 : Int) (a5 : Int) (a6 : Int) (a7 : Int) (a8 : Int) (a9 : Bool) : Option (Bool) :=
 (loopF (F_field_met_L1 n a0 a1 a2 a3 a4 a5 a6 a7 a8 a9) n 0).bind fun t1 => match t1 with
  | (.inl t1) => (
  some true)
  | (.inr t1) => (
  some false)
theorem c_field_met {n : Nat} {a0 : List D} {a1 : Int} {a2 : Int} {a3 : Int} {a4 : Int} {a5 : Int} {a6 : Int} {a7 : Int} {a8 : Int} {a9 : Bool} {r : Bool} (h : F_field_met n a0 a1 a2 a3 a4 a5 a6 a7 a8 a9 = some r) : Computes cx 100 [.lst false 10 a0, I a1, I a2, .agg [I a3, I a4, I a5, I a6, I a7, I a8, B a9]] (B r) := by
 unfold F_field_met at h
 obtain ⟨t1, h1, h⟩ := bo h
 rcases t1 with t1 | t1
 ·obtain rfl := oi h
  exact run_fr (n := 100) (orc := [.lp [] [1, 2, 7, 11, 12, 13] [0] .ret [(8, .d (B true))] [] 34]) (allC (loopF_to R_field_met_L1 h1) allN) (by kernel_rfl)
 ·obtain rfl := oi h
  exact run_fr (n := 100) (orc := [.lp [] [1, 2, 7, 11, 12, 13] [0] (.exit 0) [] [] 34]) (allC (loopF_to R_field_met_L1 h1) allN) (by kernel_rfl)
def F_field_blocked_L2 (n : Nat) (a0 : List D) (a1 : Int) (a2 : Int) (a3 : Int) (a4 : Int) (a5 : Int) (t1 : ByteArray × Int × Int × Int × Int × Int × Int × Int × Int × Int) (sa : Int) (sb : (Unit) ⊕ (Int × List D)) : Option (((Unit) ⊕ (Int × List D)) ⊕ ((Unit) ⊕ (List D))) := match sb with
 | (.inl sb) => (
  if 0 < a5 then
  (F_field_times n a5 t1.2.1 t1.2.2.1 t1.2.2.2.1).bind fun tb2 =>
  if inI64 (1 - a5) then
  (F_field_times n (1 - a5) t1.2.2.2.2.1 t1.2.2.2.2.2.1 t1.2.2.2.2.2.2.1).bind fun tb4 =>
  if inI64 (2 * sa) then
  if inI64 ((2 * sa) + 1) then
  if inI64 (((2 * sa) + 1) - a5) then
  (F_field_times n (((2 * sa) + 1) - a5) t1.2.2.2.2.2.2.2.1 t1.2.2.2.2.2.2.2.2.1 t1.2.2.2.2.2.2.2.2.2).bind fun tb8 =>
  (F_field_plus n tb4.1 tb4.2.1 tb4.2.2 tb8.1 tb8.2.1 tb8.2.2).bind fun tb9 =>
  (F_field_plus n tb2.1 tb2.2.1 tb2.2.2 tb9.1 tb9.2.1 tb9.2.2).bind fun tb10 =>
  if inI64 (sa * a5) then
  if inI64 ((sa * a5) + 0) then
  some (.inl (.inr (1, [.agg [I ((sa * a5) + 0), I tb10.1, I tb10.2.1, I tb10.2.2]])))
  else none
  else none
  else none
  else none
  else none
  else none
  else
  some (.inr (.inl ())))
 | (.inr sb) => (
  if sb.1 < a5 then
  (F_field_times n a5 t1.2.1 t1.2.2.1 t1.2.2.2.1).bind fun tb2 =>
  if inI64 (2 * sb.1) then
  if inI64 ((2 * sb.1) + 1) then
  if inI64 (((2 * sb.1) + 1) - a5) then
  (F_field_times n (((2 * sb.1) + 1) - a5) t1.2.2.2.2.1 t1.2.2.2.2.2.1 t1.2.2.2.2.2.2.1).bind fun tb6 =>
  if inI64 (2 * sa) then
  if inI64 ((2 * sa) + 1) then
  if inI64 (((2 * sa) + 1) - a5) then
  (F_field_times n (((2 * sa) + 1) - a5) t1.2.2.2.2.2.2.2.1 t1.2.2.2.2.2.2.2.2.1 t1.2.2.2.2.2.2.2.2.2).bind fun tb10 =>
  (F_field_plus n tb6.1 tb6.2.1 tb6.2.2 tb10.1 tb10.2.1 tb10.2.2).bind fun tb11 =>
  (F_field_plus n tb2.1 tb2.2.1 tb2.2.2 tb11.1 tb11.2.1 tb11.2.2).bind fun tb12 =>
  if inI64 (sa * a5) then
  if inI64 ((sa * a5) + sb.1) then
  if roomP 32 ((sb.2).length + 1) then
  if inI64 (sb.1 + 1) then
  some (.inl (.inr ((sb.1 + 1), (sb.2 ++ ([.agg [I ((sa * a5) + sb.1), I tb12.1, I tb12.2.1, I tb12.2.2]] : List D)))))
  else none
  else none
  else none
  else none
  else none
  else none
  else none
  else none
  else none
  else none
  else
  some (.inr (.inr sb.2)))
noncomputable def T_field_blocked_L2 (a0 : List D) (a1 : Int) (a2 : Int) (a3 : Int) (a4 : Int) (a5 : Int) (t1 : ByteArray × Int × Int × Int × Int × Int × Int × Int × Int × Int) (sa : Int) (sb : (Unit) ⊕ (Int × List D)) : List (Nat × AV) := match sb with
  | (.inl sb) => [(0, .own 30 0), (1, .ptr 19 0 0 0 0), (2, .ptr 18 0 0 0 0), (4, .d (I sa)), (7, .d (I a5)), (8, .d (I sa)), (11, .d (I a5)), (12, .d (I 0))]
  | (.inr sb) => [(0, .own 30 0), (1, .ptr 19 0 0 0 0), (2, .ptr 18 0 0 0 0), (4, .d (I sa)), (7, .d (I a5)), (8, .d (I sa)), (11, .d (I a5)), (12, .d (I sb.1))]
noncomputable def H_field_blocked_L2 (a0 : List D) (a1 : Int) (a2 : Int) (a3 : Int) (a4 : Int) (a5 : Int) (t1 : ByteArray × Int × Int × Int × Int × Int × Int × Int × Int × Int) (sa : Int) (sb : (Unit) ⊕ (Int × List D)) : List (Nat × Blk) := match sb with
  | (.inl sb) => [(0, .box (.d (.lst false 10 a0))), (1, .box (.d (I a1))), (2, .box (.d (.agg [I a2, I a3, I a4]))), (3, .box (.d (I a5))), (9, .box (.d (.agg [.v (.string t1.1), I t1.2.1, I t1.2.2.1, I t1.2.2.2.1, I t1.2.2.2.2.1, I t1.2.2.2.2.2.1, I t1.2.2.2.2.2.2.1, I t1.2.2.2.2.2.2.2.1, I t1.2.2.2.2.2.2.2.2.1, I t1.2.2.2.2.2.2.2.2.2]))), (18, .box (.d (.agg [.v (.string t1.1), I t1.2.1, I t1.2.2.1, I t1.2.2.2.1, I t1.2.2.2.2.1, I t1.2.2.2.2.2.1, I t1.2.2.2.2.2.2.1, I t1.2.2.2.2.2.2.2.1, I t1.2.2.2.2.2.2.2.2.1, I t1.2.2.2.2.2.2.2.2.2]))), (19, .box (.d (I a5))), (27, .box (.d (.lst true 0 []))), (30, .loop true [(6, .fn (.func 104) [] [.ptr 19 0 0 0 0, .ptr 18 0 0 0 0]), (4, .d (.lst true 0 [])), (2, .ptr 27 0 0 0 0), (1, .fn (.func 104) [] [.ptr 19 0 0 0 0, .ptr 18 0 0 0 0]), (0, .d (.lst true 0 []))] [7] (rangeAt cx.P 103 0).1 (rangeAt cx.P 103 0).2 13)]
  | (.inr sb) => [(0, .box (.d (.lst false 10 a0))), (1, .box (.d (I a1))), (2, .box (.d (.agg [I a2, I a3, I a4]))), (3, .box (.d (I a5))), (9, .box (.d (.agg [.v (.string t1.1), I t1.2.1, I t1.2.2.1, I t1.2.2.2.1, I t1.2.2.2.2.1, I t1.2.2.2.2.2.1, I t1.2.2.2.2.2.2.1, I t1.2.2.2.2.2.2.2.1, I t1.2.2.2.2.2.2.2.2.1, I t1.2.2.2.2.2.2.2.2.2]))), (18, .box (.d (.agg [.v (.string t1.1), I t1.2.1, I t1.2.2.1, I t1.2.2.2.1, I t1.2.2.2.2.1, I t1.2.2.2.2.2.1, I t1.2.2.2.2.2.2.1, I t1.2.2.2.2.2.2.2.1, I t1.2.2.2.2.2.2.2.2.1, I t1.2.2.2.2.2.2.2.2.2]))), (19, .box (.d (I a5))), (27, .box (.own 80 0)), (30, .loop true [(6, .fn (.func 104) [] [.ptr 19 0 0 0 0, .ptr 18 0 0 0 0]), (4, .d (.lst true 0 [])), (2, .ptr 27 0 0 0 0), (1, .fn (.func 104) [] [.ptr 19 0 0 0 0, .ptr 18 0 0 0 0]), (0, .d (.lst true 0 []))] [7] (rangeAt cx.P 103 0).1 (rangeAt cx.P 103 0).2 13), (80, .row 0 4 sb.2)]
noncomputable def X_field_blocked_L2 (a0 : List D) (a1 : Int) (a2 : Int) (a3 : Int) (a4 : Int) (a5 : Int) (t1 : ByteArray × Int × Int × Int × Int × Int × Int × Int × Int × Int) (sa : Int) (e : (Unit) ⊕ (List D)) : Ex := match e with
  | (.inl e) => (.exit 2)
  | (.inr e) => (.exit 2)
noncomputable def XT_field_blocked_L2 (a0 : List D) (a1 : Int) (a2 : Int) (a3 : Int) (a4 : Int) (a5 : Int) (t1 : ByteArray × Int × Int × Int × Int × Int × Int × Int × Int × Int) (sa : Int) (e : (Unit) ⊕ (List D)) : List (Nat × AV) := match e with
  | (.inl e) => [(0, .own 30 0), (1, .ptr 19 0 0 0 0), (2, .ptr 18 0 0 0 0), (7, .d (I a5)), (8, .d (I sa))]
  | (.inr e) => [(0, .own 30 0), (1, .ptr 19 0 0 0 0), (2, .ptr 18 0 0 0 0), (7, .d (I a5)), (8, .d (I sa))]
noncomputable def XH_field_blocked_L2 (a0 : List D) (a1 : Int) (a2 : Int) (a3 : Int) (a4 : Int) (a5 : Int) (t1 : ByteArray × Int × Int × Int × Int × Int × Int × Int × Int × Int) (sa : Int) (e : (Unit) ⊕ (List D)) : List (Nat × Blk) := match e with
  | (.inl e) => [(0, .box (.d (.lst false 10 a0))), (1, .box (.d (I a1))), (2, .box (.d (.agg [I a2, I a3, I a4]))), (3, .box (.d (I a5))), (9, .box (.d (.agg [.v (.string t1.1), I t1.2.1, I t1.2.2.1, I t1.2.2.2.1, I t1.2.2.2.2.1, I t1.2.2.2.2.2.1, I t1.2.2.2.2.2.2.1, I t1.2.2.2.2.2.2.2.1, I t1.2.2.2.2.2.2.2.2.1, I t1.2.2.2.2.2.2.2.2.2]))), (18, .box (.d (.agg [.v (.string t1.1), I t1.2.1, I t1.2.2.1, I t1.2.2.2.1, I t1.2.2.2.2.1, I t1.2.2.2.2.2.1, I t1.2.2.2.2.2.2.1, I t1.2.2.2.2.2.2.2.1, I t1.2.2.2.2.2.2.2.2.1, I t1.2.2.2.2.2.2.2.2.2]))), (19, .box (.d (I a5))), (27, .box (.d (.lst true 0 []))), (30, .loop true [(6, .fn (.func 104) [] [.ptr 19 0 0 0 0, .ptr 18 0 0 0 0]), (4, .d (.lst true 0 [])), (2, .ptr 27 0 0 0 0), (1, .fn (.func 104) [] [.ptr 19 0 0 0 0, .ptr 18 0 0 0 0]), (0, .d (.lst true 0 []))] [7] (rangeAt cx.P 103 0).1 (rangeAt cx.P 103 0).2 13)]
  | (.inr e) => [(0, .box (.d (.lst false 10 a0))), (1, .box (.d (I a1))), (2, .box (.d (.agg [I a2, I a3, I a4]))), (3, .box (.d (I a5))), (9, .box (.d (.agg [.v (.string t1.1), I t1.2.1, I t1.2.2.1, I t1.2.2.2.1, I t1.2.2.2.2.1, I t1.2.2.2.2.2.1, I t1.2.2.2.2.2.2.1, I t1.2.2.2.2.2.2.2.1, I t1.2.2.2.2.2.2.2.2.1, I t1.2.2.2.2.2.2.2.2.2]))), (18, .box (.d (.agg [.v (.string t1.1), I t1.2.1, I t1.2.2.1, I t1.2.2.2.1, I t1.2.2.2.2.1, I t1.2.2.2.2.2.1, I t1.2.2.2.2.2.2.1, I t1.2.2.2.2.2.2.2.1, I t1.2.2.2.2.2.2.2.2.1, I t1.2.2.2.2.2.2.2.2.2]))), (19, .box (.d (I a5))), (27, .box (.own 80 0)), (30, .loop true [(6, .fn (.func 104) [] [.ptr 19 0 0 0 0, .ptr 18 0 0 0 0]), (4, .d (.lst true 0 [])), (2, .ptr 27 0 0 0 0), (1, .fn (.func 104) [] [.ptr 19 0 0 0 0, .ptr 18 0 0 0 0]), (0, .d (.lst true 0 []))] [7] (rangeAt cx.P 103 0).1 (rangeAt cx.P 103 0).2 13), (80, .row 0 4 e)]
theorem R_field_blocked_L2 {n : Nat} {a0 : List D} {a1 : Int} {a2 : Int} {a3 : Int} {a4 : Int} {a5 : Int} {t1 : ByteArray × Int × Int × Int × Int × Int × Int × Int × Int × Int} {sa : Int} (sb : (Unit) ⊕ (Int × List D)) (r) (h : F_field_blocked_L2 n a0 a1 a2 a3 a4 a5 t1 sa sb = some r) : Rd cx (loopAt cx.P 104 1) 49 31 false (T_field_blocked_L2 a0 a1 a2 a3 a4 a5 t1 sa) (H_field_blocked_L2 a0 a1 a2 a3 a4 a5 t1 sa) (X_field_blocked_L2 a0 a1 a2 a3 a4 a5 t1 sa) (XT_field_blocked_L2 a0 a1 a2 a3 a4 a5 t1 sa) (XH_field_blocked_L2 a0 a1 a2 a3 a4 a5 t1 sa) sb r := by
 unfold F_field_blocked_L2 at h
 rcases sb with sb | sb
 ·by_cases hb1 : 0 < a5
  ·replace h := it h hb1
   obtain ⟨tb2, hb2, h⟩ := bo h; obtain ⟨hb3, h⟩ := gd h; obtain ⟨tb4, hb4, h⟩ := bo h; obtain ⟨hb5, h⟩ := gd h; obtain ⟨hb6, h⟩ := gd h; obtain ⟨hb7, h⟩ := gd h; obtain ⟨tb8, hb8, h⟩ := bo h; obtain ⟨tb9, hb9, h⟩ := bo h; obtain ⟨tb10, hb10, h⟩ := bo h; obtain ⟨hb11, h⟩ := gd h; obtain ⟨hb12, h⟩ := gd h
   obtain rfl := oi h
   exact ⟨100, 38, [.br true, .ret (.agg [I tb2.1, I tb2.2.1, I tb2.2.2]), .ret (.agg [I tb4.1, I tb4.2.1, I tb4.2.2]), .ret (.agg [I tb8.1, I tb8.2.1, I tb8.2.2]), .ret (.agg [I tb9.1, I tb9.2.1, I tb9.2.2]), .ret (.agg [I tb10.1, I tb10.2.1, I tb10.2.2]), .no, .no, .no], [], [0, 1, 2, 4, 7, 8, 11, 12], [0, 1, 2, 3, 9, 18, 19, 27, 30, 80], round_fr (allC ((by unfold inI64; omega) : inI64 1) (allC hb12 (allC hb11 (allC (c_field_plus hb10) (allC (c_field_plus hb9) (allC (c_field_times hb8) (allC hb7 (allC hb6 (allC hb5 (allC (c_field_times hb4) (allC hb3 (allC ((by unfold inI64; omega) : inI64 1) (allC ((by unfold inI64; omega) : inI64 0) (allC (c_field_times hb2) (allC (decide_eq_true hb1) allN))))))))))))))) (by kernel_rfl)⟩
  ·replace h := jf h hb1
   obtain rfl := oi h
   exact ⟨⟨100, 38, [.br false], [], [0, 1, 2, 7, 8], [0, 1, 2, 3, 9, 18, 19, 27, 30], round_fr (allC (decide_eq_false hb1) allN) (by kernel_rfl)⟩, nofun⟩
 ·by_cases hb1 : sb.1 < a5
  ·replace h := it h hb1
   obtain ⟨tb2, hb2, h⟩ := bo h; obtain ⟨hb3, h⟩ := gd h; obtain ⟨hb4, h⟩ := gd h; obtain ⟨hb5, h⟩ := gd h; obtain ⟨tb6, hb6, h⟩ := bo h; obtain ⟨hb7, h⟩ := gd h; obtain ⟨hb8, h⟩ := gd h; obtain ⟨hb9, h⟩ := gd h; obtain ⟨tb10, hb10, h⟩ := bo h; obtain ⟨tb11, hb11, h⟩ := bo h; obtain ⟨tb12, hb12, h⟩ := bo h; obtain ⟨hb13, h⟩ := gd h; obtain ⟨hb14, h⟩ := gd h; obtain ⟨hb15, h⟩ := gd h; obtain ⟨hb16, h⟩ := gd h
   obtain rfl := oi h
   exact ⟨100, 81, [.br true, .ret (.agg [I tb2.1, I tb2.2.1, I tb2.2.2]), .ret (.agg [I tb6.1, I tb6.2.1, I tb6.2.2]), .ret (.agg [I tb10.1, I tb10.2.1, I tb10.2.2]), .ret (.agg [I tb11.1, I tb11.2.1, I tb11.2.2]), .ret (.agg [I tb12.1, I tb12.2.1, I tb12.2.2]), .br true, .no], [], [0, 1, 2, 4, 7, 8, 11, 12], [0, 1, 2, 3, 9, 18, 19, 27, 30, 80], round_fr (allC hb16 (allC ((room_of (b := 32) (by kernel_rfl) (by decide) hb15) : room cx 130 ((sb.2).length + 1)) (allC hb14 (allC hb13 (allC (c_field_plus hb12) (allC (c_field_plus hb11) (allC (c_field_times hb10) (allC hb9 (allC hb8 (allC hb7 (allC (c_field_times hb6) (allC hb5 (allC hb4 (allC hb3 (allC (c_field_times hb2) (allC (decide_eq_true hb1) allN)))))))))))))))) (by kernel_rfl)⟩
  ·replace h := jf h hb1
   obtain rfl := oi h
   exact ⟨⟨100, 81, [.br false], [], [0, 1, 2, 7, 8], [0, 1, 2, 3, 9, 18, 19, 27, 30, 80], round_fr (allC (decide_eq_false hb1) allN) (by kernel_rfl)⟩, nofun⟩
def F_field_blocked_L3 (n : Nat) (a0 : List D) (a1 : Int) (a2 : Int) (a3 : Int) (a4 : Int) (a5 : Int) (t1 : ByteArray × Int × Int × Int × Int × Int × Int × Int × Int × Int) (sa : Int × List D) (sb : (Int × List D)) : Option (((Int × List D)) ⊕ ((List D))) :=
 if sb.1 < a5 then
  (F_field_times n a5 t1.2.1 t1.2.2.1 t1.2.2.2.1).bind fun tb2 =>
  if inI64 (2 * sb.1) then
  if inI64 ((2 * sb.1) + 1) then
  if inI64 (((2 * sb.1) + 1) - a5) then
  (F_field_times n (((2 * sb.1) + 1) - a5) t1.2.2.2.2.1 t1.2.2.2.2.2.1 t1.2.2.2.2.2.2.1).bind fun tb6 =>
  if inI64 (2 * sa.1) then
  if inI64 ((2 * sa.1) + 1) then
  if inI64 (((2 * sa.1) + 1) - a5) then
  (F_field_times n (((2 * sa.1) + 1) - a5) t1.2.2.2.2.2.2.2.1 t1.2.2.2.2.2.2.2.2.1 t1.2.2.2.2.2.2.2.2.2).bind fun tb10 =>
  (F_field_plus n tb6.1 tb6.2.1 tb6.2.2 tb10.1 tb10.2.1 tb10.2.2).bind fun tb11 =>
  (F_field_plus n tb2.1 tb2.2.1 tb2.2.2 tb11.1 tb11.2.1 tb11.2.2).bind fun tb12 =>
  if inI64 (sa.1 * a5) then
  if inI64 ((sa.1 * a5) + sb.1) then
  if roomP 32 ((sb.2).length + 1) then
  if inI64 (sb.1 + 1) then
  some (.inl ((sb.1 + 1), (sb.2 ++ ([.agg [I ((sa.1 * a5) + sb.1), I tb12.1, I tb12.2.1, I tb12.2.2]] : List D))))
  else none
  else none
  else none
  else none
  else none
  else none
  else none
  else none
  else none
  else none
 else
 some (.inr sb.2)
noncomputable def T_field_blocked_L3 (a0 : List D) (a1 : Int) (a2 : Int) (a3 : Int) (a4 : Int) (a5 : Int) (t1 : ByteArray × Int × Int × Int × Int × Int × Int × Int × Int × Int) (sa : Int × List D) (sb : (Int × List D)) : List (Nat × AV) := [(0, .own 30 0), (1, .ptr 19 0 0 0 0), (2, .ptr 18 0 0 0 0), (4, .d (I sa.1)), (7, .d (I a5)), (8, .d (I sa.1)), (11, .d (I a5)), (12, .d (I sb.1))]
noncomputable def H_field_blocked_L3 (a0 : List D) (a1 : Int) (a2 : Int) (a3 : Int) (a4 : Int) (a5 : Int) (t1 : ByteArray × Int × Int × Int × Int × Int × Int × Int × Int × Int) (sa : Int × List D) (sb : (Int × List D)) : List (Nat × Blk) := [(0, .box (.d (.lst false 10 a0))), (1, .box (.d (I a1))), (2, .box (.d (.agg [I a2, I a3, I a4]))), (3, .box (.d (I a5))), (9, .box (.d (.agg [.v (.string t1.1), I t1.2.1, I t1.2.2.1, I t1.2.2.2.1, I t1.2.2.2.2.1, I t1.2.2.2.2.2.1, I t1.2.2.2.2.2.2.1, I t1.2.2.2.2.2.2.2.1, I t1.2.2.2.2.2.2.2.2.1, I t1.2.2.2.2.2.2.2.2.2]))), (18, .box (.d (.agg [.v (.string t1.1), I t1.2.1, I t1.2.2.1, I t1.2.2.2.1, I t1.2.2.2.2.1, I t1.2.2.2.2.2.1, I t1.2.2.2.2.2.2.1, I t1.2.2.2.2.2.2.2.1, I t1.2.2.2.2.2.2.2.2.1, I t1.2.2.2.2.2.2.2.2.2]))), (19, .box (.d (I a5))), (27, .box (.own 80 0)), (30, .loop true [(6, .fn (.func 104) [] [.ptr 19 0 0 0 0, .ptr 18 0 0 0 0]), (4, .d (.lst true 0 [])), (2, .ptr 27 0 0 0 0), (1, .fn (.func 104) [] [.ptr 19 0 0 0 0, .ptr 18 0 0 0 0]), (0, .d (.lst true 0 []))] [7] (rangeAt cx.P 103 0).1 (rangeAt cx.P 103 0).2 13), (80, .row 0 4 sb.2)]
noncomputable def X_field_blocked_L3 (a0 : List D) (a1 : Int) (a2 : Int) (a3 : Int) (a4 : Int) (a5 : Int) (t1 : ByteArray × Int × Int × Int × Int × Int × Int × Int × Int × Int) (sa : Int × List D) (e : (List D)) : Ex := (.exit 2)
noncomputable def XT_field_blocked_L3 (a0 : List D) (a1 : Int) (a2 : Int) (a3 : Int) (a4 : Int) (a5 : Int) (t1 : ByteArray × Int × Int × Int × Int × Int × Int × Int × Int × Int) (sa : Int × List D) (e : (List D)) : List (Nat × AV) := [(0, .own 30 0), (1, .ptr 19 0 0 0 0), (2, .ptr 18 0 0 0 0), (7, .d (I a5)), (8, .d (I sa.1))]
noncomputable def XH_field_blocked_L3 (a0 : List D) (a1 : Int) (a2 : Int) (a3 : Int) (a4 : Int) (a5 : Int) (t1 : ByteArray × Int × Int × Int × Int × Int × Int × Int × Int × Int) (sa : Int × List D) (e : (List D)) : List (Nat × Blk) := [(0, .box (.d (.lst false 10 a0))), (1, .box (.d (I a1))), (2, .box (.d (.agg [I a2, I a3, I a4]))), (3, .box (.d (I a5))), (9, .box (.d (.agg [.v (.string t1.1), I t1.2.1, I t1.2.2.1, I t1.2.2.2.1, I t1.2.2.2.2.1, I t1.2.2.2.2.2.1, I t1.2.2.2.2.2.2.1, I t1.2.2.2.2.2.2.2.1, I t1.2.2.2.2.2.2.2.2.1, I t1.2.2.2.2.2.2.2.2.2]))), (18, .box (.d (.agg [.v (.string t1.1), I t1.2.1, I t1.2.2.1, I t1.2.2.2.1, I t1.2.2.2.2.1, I t1.2.2.2.2.2.1, I t1.2.2.2.2.2.2.1, I t1.2.2.2.2.2.2.2.1, I t1.2.2.2.2.2.2.2.2.1, I t1.2.2.2.2.2.2.2.2.2]))), (19, .box (.d (I a5))), (27, .box (.own 80 0)), (30, .loop true [(6, .fn (.func 104) [] [.ptr 19 0 0 0 0, .ptr 18 0 0 0 0]), (4, .d (.lst true 0 [])), (2, .ptr 27 0 0 0 0), (1, .fn (.func 104) [] [.ptr 19 0 0 0 0, .ptr 18 0 0 0 0]), (0, .d (.lst true 0 []))] [7] (rangeAt cx.P 103 0).1 (rangeAt cx.P 103 0).2 13), (80, .row 0 4 e)]
theorem R_field_blocked_L3 {n : Nat} {a0 : List D} {a1 : Int} {a2 : Int} {a3 : Int} {a4 : Int} {a5 : Int} {t1 : ByteArray × Int × Int × Int × Int × Int × Int × Int × Int × Int} {sa : Int × List D} (sb : (Int × List D)) (r) (h : F_field_blocked_L3 n a0 a1 a2 a3 a4 a5 t1 sa sb = some r) : Rd cx (loopAt cx.P 104 1) 49 31 false (T_field_blocked_L3 a0 a1 a2 a3 a4 a5 t1 sa) (H_field_blocked_L3 a0 a1 a2 a3 a4 a5 t1 sa) (X_field_blocked_L3 a0 a1 a2 a3 a4 a5 t1 sa) (XT_field_blocked_L3 a0 a1 a2 a3 a4 a5 t1 sa) (XH_field_blocked_L3 a0 a1 a2 a3 a4 a5 t1 sa) sb r := by
 unfold F_field_blocked_L3 at h
 by_cases hb1 : sb.1 < a5
 ·replace h := it h hb1
  obtain ⟨tb2, hb2, h⟩ := bo h; obtain ⟨hb3, h⟩ := gd h; obtain ⟨hb4, h⟩ := gd h; obtain ⟨hb5, h⟩ := gd h; obtain ⟨tb6, hb6, h⟩ := bo h; obtain ⟨hb7, h⟩ := gd h; obtain ⟨hb8, h⟩ := gd h; obtain ⟨hb9, h⟩ := gd h; obtain ⟨tb10, hb10, h⟩ := bo h; obtain ⟨tb11, hb11, h⟩ := bo h; obtain ⟨tb12, hb12, h⟩ := bo h; obtain ⟨hb13, h⟩ := gd h; obtain ⟨hb14, h⟩ := gd h; obtain ⟨hb15, h⟩ := gd h; obtain ⟨hb16, h⟩ := gd h
  obtain rfl := oi h
  exact ⟨100, 86, [.br true, .ret (.agg [I tb2.1, I tb2.2.1, I tb2.2.2]), .ret (.agg [I tb6.1, I tb6.2.1, I tb6.2.2]), .ret (.agg [I tb10.1, I tb10.2.1, I tb10.2.2]), .ret (.agg [I tb11.1, I tb11.2.1, I tb11.2.2]), .ret (.agg [I tb12.1, I tb12.2.1, I tb12.2.2]), .br true, .no], [], [0, 1, 2, 4, 7, 8, 11, 12], [0, 1, 2, 3, 9, 18, 19, 27, 30, 80], round_fr (allC hb16 (allC ((room_of (b := 32) (by kernel_rfl) (by decide) hb15) : room cx 130 ((sb.2).length + 1)) (allC hb14 (allC hb13 (allC (c_field_plus hb12) (allC (c_field_plus hb11) (allC (c_field_times hb10) (allC hb9 (allC hb8 (allC hb7 (allC (c_field_times hb6) (allC hb5 (allC hb4 (allC hb3 (allC (c_field_times hb2) (allC (decide_eq_true hb1) allN)))))))))))))))) (by kernel_rfl)⟩
 ·replace h := jf h hb1
  obtain rfl := oi h
  exact ⟨⟨100, 86, [.br false], [], [0, 1, 2, 7, 8], [0, 1, 2, 3, 9, 18, 19, 27, 30, 80], round_fr (allC (decide_eq_false hb1) allN) (by kernel_rfl)⟩, nofun⟩
def F_field_blocked_L4 (n : Nat) (a0 : List D) (a1 : Int) (a2 : Int) (a3 : Int) (a4 : Int) (a5 : Int) (t1 : ByteArray × Int × Int × Int × Int × Int × Int × Int × Int × Int) (sa : (Int) ⊕ (Int × List D)) : Option (((Int) ⊕ (Int × List D)) ⊕ ((Unit) ⊕ (List D))) := match sa with
 | (.inl sa) => (
  if sa < a5 then
  (loopF (F_field_blocked_L2 n a0 a1 a2 a3 a4 a5 t1 sa) n (.inl ())).bind fun ta2 => match ta2 with
   | (.inl ta2) => (
   if inI64 (sa + 1) then
   some (.inl (.inl (sa + 1)))
   else none)
   | (.inr ta2) => (
   if inI64 (sa + 1) then
   some (.inl (.inr ((sa + 1), ta2)))
   else none)
  else
  some (.inr (.inl ())))
 | (.inr sa) => (
  if sa.1 < a5 then
  (loopF (F_field_blocked_L3 n a0 a1 a2 a3 a4 a5 t1 sa) n (0, sa.2)).bind fun ta2 =>
  if inI64 (sa.1 + 1) then
  some (.inl (.inr ((sa.1 + 1), ta2)))
  else none
  else
  some (.inr (.inr sa.2)))
noncomputable def T_field_blocked_L4 (a0 : List D) (a1 : Int) (a2 : Int) (a3 : Int) (a4 : Int) (a5 : Int) (t1 : ByteArray × Int × Int × Int × Int × Int × Int × Int × Int × Int) (sa : (Int) ⊕ (Int × List D)) : List (Nat × AV) := match sa with
  | (.inl sa) => [(0, .own 30 0), (1, .ptr 19 0 0 0 0), (2, .ptr 18 0 0 0 0), (7, .d (I a5)), (8, .d (I sa))]
  | (.inr sa) => [(0, .own 30 0), (1, .ptr 19 0 0 0 0), (2, .ptr 18 0 0 0 0), (7, .d (I a5)), (8, .d (I sa.1))]
noncomputable def H_field_blocked_L4 (a0 : List D) (a1 : Int) (a2 : Int) (a3 : Int) (a4 : Int) (a5 : Int) (t1 : ByteArray × Int × Int × Int × Int × Int × Int × Int × Int × Int) (sa : (Int) ⊕ (Int × List D)) : List (Nat × Blk) := match sa with
  | (.inl sa) => [(0, .box (.d (.lst false 10 a0))), (1, .box (.d (I a1))), (2, .box (.d (.agg [I a2, I a3, I a4]))), (3, .box (.d (I a5))), (9, .box (.d (.agg [.v (.string t1.1), I t1.2.1, I t1.2.2.1, I t1.2.2.2.1, I t1.2.2.2.2.1, I t1.2.2.2.2.2.1, I t1.2.2.2.2.2.2.1, I t1.2.2.2.2.2.2.2.1, I t1.2.2.2.2.2.2.2.2.1, I t1.2.2.2.2.2.2.2.2.2]))), (18, .box (.d (.agg [.v (.string t1.1), I t1.2.1, I t1.2.2.1, I t1.2.2.2.1, I t1.2.2.2.2.1, I t1.2.2.2.2.2.1, I t1.2.2.2.2.2.2.1, I t1.2.2.2.2.2.2.2.1, I t1.2.2.2.2.2.2.2.2.1, I t1.2.2.2.2.2.2.2.2.2]))), (19, .box (.d (I a5))), (27, .box (.d (.lst true 0 []))), (30, .loop true [(6, .fn (.func 104) [] [.ptr 19 0 0 0 0, .ptr 18 0 0 0 0]), (4, .d (.lst true 0 [])), (2, .ptr 27 0 0 0 0), (1, .fn (.func 104) [] [.ptr 19 0 0 0 0, .ptr 18 0 0 0 0]), (0, .d (.lst true 0 []))] [7] (rangeAt cx.P 103 0).1 (rangeAt cx.P 103 0).2 13)]
  | (.inr sa) => [(0, .box (.d (.lst false 10 a0))), (1, .box (.d (I a1))), (2, .box (.d (.agg [I a2, I a3, I a4]))), (3, .box (.d (I a5))), (9, .box (.d (.agg [.v (.string t1.1), I t1.2.1, I t1.2.2.1, I t1.2.2.2.1, I t1.2.2.2.2.1, I t1.2.2.2.2.2.1, I t1.2.2.2.2.2.2.1, I t1.2.2.2.2.2.2.2.1, I t1.2.2.2.2.2.2.2.2.1, I t1.2.2.2.2.2.2.2.2.2]))), (18, .box (.d (.agg [.v (.string t1.1), I t1.2.1, I t1.2.2.1, I t1.2.2.2.1, I t1.2.2.2.2.1, I t1.2.2.2.2.2.1, I t1.2.2.2.2.2.2.1, I t1.2.2.2.2.2.2.2.1, I t1.2.2.2.2.2.2.2.2.1, I t1.2.2.2.2.2.2.2.2.2]))), (19, .box (.d (I a5))), (27, .box (.own 80 0)), (30, .loop true [(6, .fn (.func 104) [] [.ptr 19 0 0 0 0, .ptr 18 0 0 0 0]), (4, .d (.lst true 0 [])), (2, .ptr 27 0 0 0 0), (1, .fn (.func 104) [] [.ptr 19 0 0 0 0, .ptr 18 0 0 0 0]), (0, .d (.lst true 0 []))] [7] (rangeAt cx.P 103 0).1 (rangeAt cx.P 103 0).2 13), (80, .row 0 4 sa.2)]
noncomputable def X_field_blocked_L4 (a0 : List D) (a1 : Int) (a2 : Int) (a3 : Int) (a4 : Int) (a5 : Int) (t1 : ByteArray × Int × Int × Int × Int × Int × Int × Int × Int × Int) (e : (Unit) ⊕ (List D)) : Ex := match e with
  | (.inl e) => (.exit 0)
  | (.inr e) => (.exit 0)
noncomputable def XT_field_blocked_L4 (a0 : List D) (a1 : Int) (a2 : Int) (a3 : Int) (a4 : Int) (a5 : Int) (t1 : ByteArray × Int × Int × Int × Int × Int × Int × Int × Int × Int) (e : (Unit) ⊕ (List D)) : List (Nat × AV) := match e with
  | (.inl e) => []
  | (.inr e) => []
noncomputable def XH_field_blocked_L4 (a0 : List D) (a1 : Int) (a2 : Int) (a3 : Int) (a4 : Int) (a5 : Int) (t1 : ByteArray × Int × Int × Int × Int × Int × Int × Int × Int × Int) (e : (Unit) ⊕ (List D)) : List (Nat × Blk) := match e with
  | (.inl e) => [(0, .box (.d (.lst false 10 a0))), (1, .box (.d (I a1))), (2, .box (.d (.agg [I a2, I a3, I a4]))), (3, .box (.d (I a5))), (9, .box (.d (.agg [.v (.string t1.1), I t1.2.1, I t1.2.2.1, I t1.2.2.2.1, I t1.2.2.2.2.1, I t1.2.2.2.2.2.1, I t1.2.2.2.2.2.2.1, I t1.2.2.2.2.2.2.2.1, I t1.2.2.2.2.2.2.2.2.1, I t1.2.2.2.2.2.2.2.2.2]))), (18, .box (.d (.agg [.v (.string t1.1), I t1.2.1, I t1.2.2.1, I t1.2.2.2.1, I t1.2.2.2.2.1, I t1.2.2.2.2.2.1, I t1.2.2.2.2.2.2.1, I t1.2.2.2.2.2.2.2.1, I t1.2.2.2.2.2.2.2.2.1, I t1.2.2.2.2.2.2.2.2.2]))), (19, .box (.d (I a5))), (27, .box (.d (.lst true 0 []))), (30, .loop true [(6, .fn (.func 104) [] [.ptr 19 0 0 0 0, .ptr 18 0 0 0 0]), (4, .d (.lst true 0 [])), (2, .ptr 27 0 0 0 0), (1, .fn (.func 104) [] [.ptr 19 0 0 0 0, .ptr 18 0 0 0 0]), (0, .d (.lst true 0 []))] [7] (rangeAt cx.P 103 0).1 (rangeAt cx.P 103 0).2 13)]
  | (.inr e) => [(0, .box (.d (.lst false 10 a0))), (1, .box (.d (I a1))), (2, .box (.d (.agg [I a2, I a3, I a4]))), (3, .box (.d (I a5))), (9, .box (.d (.agg [.v (.string t1.1), I t1.2.1, I t1.2.2.1, I t1.2.2.2.1, I t1.2.2.2.2.1, I t1.2.2.2.2.2.1, I t1.2.2.2.2.2.2.1, I t1.2.2.2.2.2.2.2.1, I t1.2.2.2.2.2.2.2.2.1, I t1.2.2.2.2.2.2.2.2.2]))), (18, .box (.d (.agg [.v (.string t1.1), I t1.2.1, I t1.2.2.1, I t1.2.2.2.1, I t1.2.2.2.2.1, I t1.2.2.2.2.2.1, I t1.2.2.2.2.2.2.1, I t1.2.2.2.2.2.2.2.1, I t1.2.2.2.2.2.2.2.2.1, I t1.2.2.2.2.2.2.2.2.2]))), (19, .box (.d (I a5))), (27, .box (.own 80 0)), (30, .loop true [(6, .fn (.func 104) [] [.ptr 19 0 0 0 0, .ptr 18 0 0 0 0]), (4, .d (.lst true 0 [])), (2, .ptr 27 0 0 0 0), (1, .fn (.func 104) [] [.ptr 19 0 0 0 0, .ptr 18 0 0 0 0]), (0, .d (.lst true 0 []))] [7] (rangeAt cx.P 103 0).1 (rangeAt cx.P 103 0).2 13), (80, .row 0 4 e)]
theorem R_field_blocked_L4 {n : Nat} {a0 : List D} {a1 : Int} {a2 : Int} {a3 : Int} {a4 : Int} {a5 : Int} {t1 : ByteArray × Int × Int × Int × Int × Int × Int × Int × Int × Int} (sa : (Int) ⊕ (Int × List D)) (r) (h : F_field_blocked_L4 n a0 a1 a2 a3 a4 a5 t1 sa = some r) : Rd cx (loopAt cx.P 104 0) 49 31 false (T_field_blocked_L4 a0 a1 a2 a3 a4 a5 t1) (H_field_blocked_L4 a0 a1 a2 a3 a4 a5 t1) (X_field_blocked_L4 a0 a1 a2 a3 a4 a5 t1) (XT_field_blocked_L4 a0 a1 a2 a3 a4 a5 t1) (XH_field_blocked_L4 a0 a1 a2 a3 a4 a5 t1) sa r := by
 unfold F_field_blocked_L4 at h
 rcases sa with sa | sa
 ·by_cases ha1 : sa < a5
  ·replace h := it h ha1
   obtain ⟨ta2, ha2, h⟩ := bo h
   rcases ta2 with ta2 | ta2
   ·obtain ⟨ha3, h⟩ := gd h
    obtain rfl := oi h
    exact ⟨100, 33, [.br true, .lp [] [0, 1, 2, 4, 7, 8, 11, 12] [0, 1, 2, 3, 9, 18, 19, 27, 30] (.exit 2) [(0, .own 30 0), (1, .ptr 19 0 0 0 0), (2, .ptr 18 0 0 0 0), (7, .d (I a5)), (8, .d (I sa))] [(0, .box (.d (.lst false 10 a0))), (1, .box (.d (I a1))), (2, .box (.d (.agg [I a2, I a3, I a4]))), (3, .box (.d (I a5))), (9, .box (.d (.agg [.v (.string t1.1), I t1.2.1, I t1.2.2.1, I t1.2.2.2.1, I t1.2.2.2.2.1, I t1.2.2.2.2.2.1, I t1.2.2.2.2.2.2.1, I t1.2.2.2.2.2.2.2.1, I t1.2.2.2.2.2.2.2.2.1, I t1.2.2.2.2.2.2.2.2.2]))), (18, .box (.d (.agg [.v (.string t1.1), I t1.2.1, I t1.2.2.1, I t1.2.2.2.1, I t1.2.2.2.2.1, I t1.2.2.2.2.2.1, I t1.2.2.2.2.2.2.1, I t1.2.2.2.2.2.2.2.1, I t1.2.2.2.2.2.2.2.2.1, I t1.2.2.2.2.2.2.2.2.2]))), (19, .box (.d (I a5))), (27, .box (.d (.lst true 0 []))), (30, .loop true [(6, .fn (.func 104) [] [.ptr 19 0 0 0 0, .ptr 18 0 0 0 0]), (4, .d (.lst true 0 [])), (2, .ptr 27 0 0 0 0), (1, .fn (.func 104) [] [.ptr 19 0 0 0 0, .ptr 18 0 0 0 0]), (0, .d (.lst true 0 []))] [7] (rangeAt cx.P 103 0).1 (rangeAt cx.P 103 0).2 13)] 138], [], [0, 1, 2, 7, 8], [0, 1, 2, 3, 9, 18, 19, 27, 30], round_fr (allC ha3 (allC (loopF_to R_field_blocked_L2 ha2) (allC (decide_eq_true ha1) allN))) (by kernel_rfl)⟩
   ·obtain ⟨ha3, h⟩ := gd h
    obtain rfl := oi h
    exact ⟨100, 33, [.br true, .lp [] [0, 1, 2, 4, 7, 8, 11, 12] [0, 1, 2, 3, 9, 18, 19, 27, 30] (.exit 2) [(0, .own 30 0), (1, .ptr 19 0 0 0 0), (2, .ptr 18 0 0 0 0), (7, .d (I a5)), (8, .d (I sa))] [(0, .box (.d (.lst false 10 a0))), (1, .box (.d (I a1))), (2, .box (.d (.agg [I a2, I a3, I a4]))), (3, .box (.d (I a5))), (9, .box (.d (.agg [.v (.string t1.1), I t1.2.1, I t1.2.2.1, I t1.2.2.2.1, I t1.2.2.2.2.1, I t1.2.2.2.2.2.1, I t1.2.2.2.2.2.2.1, I t1.2.2.2.2.2.2.2.1, I t1.2.2.2.2.2.2.2.2.1, I t1.2.2.2.2.2.2.2.2.2]))), (18, .box (.d (.agg [.v (.string t1.1), I t1.2.1, I t1.2.2.1, I t1.2.2.2.1, I t1.2.2.2.2.1, I t1.2.2.2.2.2.1, I t1.2.2.2.2.2.2.1, I t1.2.2.2.2.2.2.2.1, I t1.2.2.2.2.2.2.2.2.1, I t1.2.2.2.2.2.2.2.2.2]))), (19, .box (.d (I a5))), (27, .box (.own 80 0)), (30, .loop true [(6, .fn (.func 104) [] [.ptr 19 0 0 0 0, .ptr 18 0 0 0 0]), (4, .d (.lst true 0 [])), (2, .ptr 27 0 0 0 0), (1, .fn (.func 104) [] [.ptr 19 0 0 0 0, .ptr 18 0 0 0 0]), (0, .d (.lst true 0 []))] [7] (rangeAt cx.P 103 0).1 (rangeAt cx.P 103 0).2 13), (80, .row 0 4 ta2)] 138], [], [0, 1, 2, 7, 8], [0, 1, 2, 3, 9, 18, 19, 27, 30, 80], round_fr (allC ha3 (allC (loopF_to R_field_blocked_L2 ha2) (allC (decide_eq_true ha1) allN))) (by kernel_rfl)⟩
  ·replace h := jf h ha1
   obtain rfl := oi h
   exact ⟨⟨100, 33, [.br false], [], [], [0, 1, 2, 3, 9, 18, 19, 27, 30], round_fr (allC (decide_eq_false ha1) allN) (by kernel_rfl)⟩, nofun⟩
 ·by_cases ha1 : sa.1 < a5
  ·replace h := it h ha1
   obtain ⟨ta2, ha2, h⟩ := bo h; obtain ⟨ha3, h⟩ := gd h
   obtain rfl := oi h
   exact ⟨100, 81, [.br true, .lp [] [0, 1, 2, 4, 7, 8, 11, 12] [0, 1, 2, 3, 9, 18, 19, 27, 30, 80] (.exit 2) [(0, .own 30 0), (1, .ptr 19 0 0 0 0), (2, .ptr 18 0 0 0 0), (7, .d (I a5)), (8, .d (I sa.1))] [(0, .box (.d (.lst false 10 a0))), (1, .box (.d (I a1))), (2, .box (.d (.agg [I a2, I a3, I a4]))), (3, .box (.d (I a5))), (9, .box (.d (.agg [.v (.string t1.1), I t1.2.1, I t1.2.2.1, I t1.2.2.2.1, I t1.2.2.2.2.1, I t1.2.2.2.2.2.1, I t1.2.2.2.2.2.2.1, I t1.2.2.2.2.2.2.2.1, I t1.2.2.2.2.2.2.2.2.1, I t1.2.2.2.2.2.2.2.2.2]))), (18, .box (.d (.agg [.v (.string t1.1), I t1.2.1, I t1.2.2.1, I t1.2.2.2.1, I t1.2.2.2.2.1, I t1.2.2.2.2.2.1, I t1.2.2.2.2.2.2.1, I t1.2.2.2.2.2.2.2.1, I t1.2.2.2.2.2.2.2.2.1, I t1.2.2.2.2.2.2.2.2.2]))), (19, .box (.d (I a5))), (27, .box (.own 80 0)), (30, .loop true [(6, .fn (.func 104) [] [.ptr 19 0 0 0 0, .ptr 18 0 0 0 0]), (4, .d (.lst true 0 [])), (2, .ptr 27 0 0 0 0), (1, .fn (.func 104) [] [.ptr 19 0 0 0 0, .ptr 18 0 0 0 0]), (0, .d (.lst true 0 []))] [7] (rangeAt cx.P 103 0).1 (rangeAt cx.P 103 0).2 13), (80, .row 0 4 ta2)] 143], [], [0, 1, 2, 7, 8], [0, 1, 2, 3, 9, 18, 19, 27, 30, 80], round_fr (allC ha3 (allC (loopF_to R_field_blocked_L3 ha2) (allC (decide_eq_true ha1) allN))) (by kernel_rfl)⟩
  ·replace h := jf h ha1
   obtain rfl := oi h
   exact ⟨⟨100, 81, [.br false], [], [], [0, 1, 2, 3, 9, 18, 19, 27, 30, 80], round_fr (allC (decide_eq_false ha1) allN) (by kernel_rfl)⟩, nofun⟩
def F_field_blocked_L5 (n : Nat) (a0 : List D) (a1 : Int) (a2 : Int) (a3 : Int) (a4 : Int) (a5 : Int) (t1 : ByteArray × Int × Int × Int × Int × Int × Int × Int × Int × Int) (t2 : List D) (sa : (Int × List D)) : Option (((Int × List D)) ⊕ ((List D))) :=
 if sa.1 < ((t2).length : Int) then
  if 0 ≤ sa.1 ∧ sa.1 < ((t2).length : Int) then
  ((nth (t2) (Int.toNat sa.1)).bind un_Ai4Z).bind fun ta3 =>
  (F_field_times n a5 a2 a3 a4).bind fun ta4 =>
  (F_field_times n (-1) ta3.2.1 ta3.2.2.1 ta3.2.2.2).bind fun ta5 =>
  (F_field_plus n ta4.1 ta4.2.1 ta4.2.2 ta5.1 ta5.2.1 ta5.2.2).bind fun ta6 =>
  (F_field_Mirror_normal n t1.1 t1.2.1 t1.2.2.1 t1.2.2.2.1 t1.2.2.2.2.1 t1.2.2.2.2.2.1 t1.2.2.2.2.2.2.1 t1.2.2.2.2.2.2.2.1 t1.2.2.2.2.2.2.2.2.1 t1.2.2.2.2.2.2.2.2.2).bind fun ta7 =>
  (F_field_dot n ta7.1 ta7.2.1 ta7.2.2 ta6.1 ta6.2.1 ta6.2.2).bind fun ta8 =>
  if ta8 ≤ 0 then
  if roomP 1 ((sa.2).length + 1) then
  if inI64 (sa.1 + 1) then
  some (.inl ((sa.1 + 1), (sa.2 ++ ([B true] : List D))))
  else none
  else none
  else
  (F_field_met n a0 a1 a5 ta3.2.1 ta3.2.2.1 ta3.2.2.2 ta6.1 ta6.2.1 ta6.2.2 true).bind fun ta10 =>
  if roomP 1 ((sa.2).length + 1) then
  if inI64 (sa.1 + 1) then
  some (.inl ((sa.1 + 1), (sa.2 ++ ([B ta10] : List D))))
  else none
  else none
  else none
 else
 some (.inr sa.2)
noncomputable def T_field_blocked_L5 (a0 : List D) (a1 : Int) (a2 : Int) (a3 : Int) (a4 : Int) (a5 : Int) (t1 : ByteArray × Int × Int × Int × Int × Int × Int × Int × Int × Int) (t2 : List D) (sa : (Int × List D)) : List (Nat × AV) := [(1, .fn (.func 97) [] [.ptr 3 0 0 0 0, .ptr 2 0 0 0 0, .ptr 9 0 0 0 0, .ptr 0 0 0 0 0, .ptr 1 0 0 0 0]), (5, .own 163 0), (8, .own 80 0), (9, .d (I ((t2).length : Int))), (10, .d (I sa.1))]
noncomputable def H_field_blocked_L5 (a0 : List D) (a1 : Int) (a2 : Int) (a3 : Int) (a4 : Int) (a5 : Int) (t1 : ByteArray × Int × Int × Int × Int × Int × Int × Int × Int × Int) (t2 : List D) (sa : (Int × List D)) : List (Nat × Blk) := [(0, .box (.d (.lst false 10 a0))), (1, .box (.d (I a1))), (2, .box (.d (.agg [I a2, I a3, I a4]))), (3, .box (.d (I a5))), (9, .box (.d (.agg [.v (.string t1.1), I t1.2.1, I t1.2.2.1, I t1.2.2.2.1, I t1.2.2.2.2.1, I t1.2.2.2.2.2.1, I t1.2.2.2.2.2.2.1, I t1.2.2.2.2.2.2.2.1, I t1.2.2.2.2.2.2.2.2.1, I t1.2.2.2.2.2.2.2.2.2]))), (18, .box (.d (.agg [.v (.string t1.1), I t1.2.1, I t1.2.2.1, I t1.2.2.2.1, I t1.2.2.2.2.1, I t1.2.2.2.2.2.1, I t1.2.2.2.2.2.2.1, I t1.2.2.2.2.2.2.2.1, I t1.2.2.2.2.2.2.2.2.1, I t1.2.2.2.2.2.2.2.2.2]))), (19, .box (.d (I a5))), (27, .box (.own 80 0)), (30, .dead), (80, .row 0 4 t2), (163, .row 0 1 sa.2)]
noncomputable def X_field_blocked_L5 (a0 : List D) (a1 : Int) (a2 : Int) (a3 : Int) (a4 : Int) (a5 : Int) (t1 : ByteArray × Int × Int × Int × Int × Int × Int × Int × Int × Int) (t2 : List D) (e : (List D)) : Ex := (.exit 0)
noncomputable def XT_field_blocked_L5 (a0 : List D) (a1 : Int) (a2 : Int) (a3 : Int) (a4 : Int) (a5 : Int) (t1 : ByteArray × Int × Int × Int × Int × Int × Int × Int × Int × Int) (t2 : List D) (e : (List D)) : List (Nat × AV) := [(5, .own 163 0)]
noncomputable def XH_field_blocked_L5 (a0 : List D) (a1 : Int) (a2 : Int) (a3 : Int) (a4 : Int) (a5 : Int) (t1 : ByteArray × Int × Int × Int × Int × Int × Int × Int × Int × Int) (t2 : List D) (e : (List D)) : List (Nat × Blk) := [(0, .box (.d (.lst false 10 a0))), (1, .box (.d (I a1))), (2, .box (.d (.agg [I a2, I a3, I a4]))), (3, .box (.d (I a5))), (9, .box (.d (.agg [.v (.string t1.1), I t1.2.1, I t1.2.2.1, I t1.2.2.2.1, I t1.2.2.2.2.1, I t1.2.2.2.2.2.1, I t1.2.2.2.2.2.2.1, I t1.2.2.2.2.2.2.2.1, I t1.2.2.2.2.2.2.2.2.1, I t1.2.2.2.2.2.2.2.2.2]))), (18, .box (.d (.agg [.v (.string t1.1), I t1.2.1, I t1.2.2.1, I t1.2.2.2.1, I t1.2.2.2.2.1, I t1.2.2.2.2.2.1, I t1.2.2.2.2.2.2.1, I t1.2.2.2.2.2.2.2.1, I t1.2.2.2.2.2.2.2.2.1, I t1.2.2.2.2.2.2.2.2.2]))), (19, .box (.d (I a5))), (27, .box (.own 80 0)), (30, .dead), (80, .row 0 4 t2), (163, .row 0 1 e)]
theorem R_field_blocked_L5 {n : Nat} {a0 : List D} {a1 : Int} {a2 : Int} {a3 : Int} {a4 : Int} {a5 : Int} {t1 : ByteArray × Int × Int × Int × Int × Int × Int × Int × Int × Int} {t2 : List D} (sa : (Int × List D)) (r) (h : F_field_blocked_L5 n a0 a1 a2 a3 a4 a5 t1 t2 sa = some r) : Rd cx (loopAt cx.P 94 0) 22 158 false (T_field_blocked_L5 a0 a1 a2 a3 a4 a5 t1 t2) (H_field_blocked_L5 a0 a1 a2 a3 a4 a5 t1 t2) (X_field_blocked_L5 a0 a1 a2 a3 a4 a5 t1 t2) (XT_field_blocked_L5 a0 a1 a2 a3 a4 a5 t1 t2) (XH_field_blocked_L5 a0 a1 a2 a3 a4 a5 t1 t2) sa r := by
 unfold F_field_blocked_L5 at h
 by_cases ha1 : sa.1 < ((t2).length : Int)
 ·replace h := it h ha1
  obtain ⟨ha2, h⟩ := gd h; obtain ⟨ta3, ha3, h⟩ := bo h; obtain ⟨ta4, ha4, h⟩ := bo h; obtain ⟨ta5, ha5, h⟩ := bo h; obtain ⟨ta6, ha6, h⟩ := bo h; obtain ⟨ta7, ha7, h⟩ := bo h; obtain ⟨ta8, ha8, h⟩ := bo h
  by_cases ha9 : ta8 ≤ 0
  ·replace h := it h ha9
   obtain ⟨ha10, h⟩ := gd h; obtain ⟨ha11, h⟩ := gd h
   obtain rfl := oi h
   exact ⟨100, 164, [.br true, .br true, .el (enc_Ai4Z ta3), .br true, .ret (.agg [I ta4.1, I ta4.2.1, I ta4.2.2]), .ret (.agg [I ta5.1, I ta5.2.1, I ta5.2.2]), .ret (.agg [I ta6.1, I ta6.2.1, I ta6.2.2]), .ret (.agg [I ta7.1, I ta7.2.1, I ta7.2.2]), .ret (I ta8), .br true, .br true], [], [1, 5, 8, 9, 10], [0, 1, 2, 3, 9, 18, 19, 27, 30, 80, 163], round_fr (allC ha11 (allC ((room_of (b := 1) (by kernel_rfl) (by decide) ha10) : room cx 4 ((sa.2).length + 1)) (allC (decide_eq_true ha9) (allC (c_field_dot ha8) (allC (c_field_Mirror_normal ha7) (allC (c_field_plus ha6) (allC (c_field_times ha5) (allC (c_field_times ha4) (allC (nel_ok un_Ai4Z_ok ha3) (allC ha2 (allC (decide_eq_true ha1) allN))))))))))) (by kernel_rfl)⟩
  ·replace h := jf h ha9
   obtain ⟨ta10, ha10, h⟩ := bo h; obtain ⟨ha11, h⟩ := gd h; obtain ⟨ha12, h⟩ := gd h
   obtain rfl := oi h
   exact ⟨100, 164, [.br true, .br true, .el (enc_Ai4Z ta3), .br true, .ret (.agg [I ta4.1, I ta4.2.1, I ta4.2.2]), .ret (.agg [I ta5.1, I ta5.2.1, I ta5.2.2]), .ret (.agg [I ta6.1, I ta6.2.1, I ta6.2.2]), .ret (.agg [I ta7.1, I ta7.2.1, I ta7.2.2]), .ret (I ta8), .br false, .ret (B ta10), .br true], [], [1, 5, 8, 9, 10], [0, 1, 2, 3, 9, 18, 19, 27, 30, 80, 163], round_fr (allC ha12 (allC ((room_of (b := 1) (by kernel_rfl) (by decide) ha11) : room cx 4 ((sa.2).length + 1)) (allC (c_field_met ha10) (allC (decide_eq_false ha9) (allC (c_field_dot ha8) (allC (c_field_Mirror_normal ha7) (allC (c_field_plus ha6) (allC (c_field_times ha5) (allC (c_field_times ha4) (allC (nel_ok un_Ai4Z_ok ha3) (allC ha2 (allC (decide_eq_true ha1) allN)))))))))))) (by kernel_rfl)⟩
 ·replace h := jf h ha1
  obtain rfl := oi h
  exact ⟨⟨100, 164, [.br false], [], [5], [0, 1, 2, 3, 9, 18, 19, 27, 30, 80, 163], round_fr (allC (decide_eq_false ha1) allN) (by kernel_rfl)⟩, nofun⟩
def F_field_blocked (n : Nat) (a0 : List D) (a1 : Int) (a2 : Int) (a3 : Int) (a4 : Int) (a5 : Int) : Option (List D) :=
 (el un_Asi9Z a0 a1).bind fun t1 =>
 (loopF (F_field_blocked_L4 n a0 a1 a2 a3 a4 a5 t1) n (.inl 0)).bind fun t2 => match t2 with
  | (.inl t2) => (
  some [])
  | (.inr t2) => (
  (loopF (F_field_blocked_L5 n a0 a1 a2 a3 a4 a5 t1 t2) n (0, [])).bind fun t3 =>
  some t3)
theorem c_field_blocked {n : Nat} {a0 : List D} {a1 : Int} {a2 : Int} {a3 : Int} {a4 : Int} {a5 : Int} {r : List D} (h : F_field_blocked n a0 a1 a2 a3 a4 a5 = some r) : Computes cx 88 [.lst false 10 a0, I a1, .agg [I a2, I a3, I a4], I a5] (.lst false 1 r) := by
 unfold F_field_blocked at h
 obtain ⟨t1, h1, h⟩ := bo h; obtain ⟨t2, h2, h⟩ := bo h
 rcases t2 with t2 | t2
 ·obtain rfl := oi h
  exact (run_fr (n := 100) (r := .lst true 0 []) (orc := [.el (enc_Asi9Z t1), .br true, .br true, .br true, .lp [] [0, 1, 2, 7, 8] [0, 1, 2, 3, 9, 18, 19, 27, 30] (.exit 0) [] [(0, .box (.d (.lst false 10 a0))), (1, .box (.d (I a1))), (2, .box (.d (.agg [I a2, I a3, I a4]))), (3, .box (.d (I a5))), (9, .box (.d (.agg [.v (.string t1.1), I t1.2.1, I t1.2.2.1, I t1.2.2.2.1, I t1.2.2.2.2.1, I t1.2.2.2.2.2.1, I t1.2.2.2.2.2.2.1, I t1.2.2.2.2.2.2.2.1, I t1.2.2.2.2.2.2.2.2.1, I t1.2.2.2.2.2.2.2.2.2]))), (18, .box (.d (.agg [.v (.string t1.1), I t1.2.1, I t1.2.2.1, I t1.2.2.2.1, I t1.2.2.2.2.1, I t1.2.2.2.2.2.1, I t1.2.2.2.2.2.2.1, I t1.2.2.2.2.2.2.2.1, I t1.2.2.2.2.2.2.2.2.1, I t1.2.2.2.2.2.2.2.2.2]))), (19, .box (.d (I a5))), (27, .box (.d (.lst true 0 []))), (30, .loop true [(6, .fn (.func 104) [] [.ptr 19 0 0 0 0, .ptr 18 0 0 0 0]), (4, .d (.lst true 0 [])), (2, .ptr 27 0 0 0 0), (1, .fn (.func 104) [] [.ptr 19 0 0 0 0, .ptr 18 0 0 0 0]), (0, .d (.lst true 0 []))] [7] (rangeAt cx.P 103 0).1 (rangeAt cx.P 103 0).2 13)] 156, .br true, .no, .no]) (allC (loopF_to R_field_blocked_L4 h2) (allC (el_ok un_Asi9Z_ok h1).1 (allC (el_ok un_Asi9Z_ok h1).2 allN))) (by kernel_rfl)).le (LEs.refl _) (.lst _ _ _ _ _ nofun (.inl rfl))
 ·obtain ⟨t3, h3, h⟩ := bo h
  obtain rfl := oi h
  exact run_fr (n := 100) (orc := [.el (enc_Asi9Z t1), .br true, .br true, .br true, .lp [] [0, 1, 2, 7, 8] [0, 1, 2, 3, 9, 18, 19, 27, 30] (.exit 0) [] [(0, .box (.d (.lst false 10 a0))), (1, .box (.d (I a1))), (2, .box (.d (.agg [I a2, I a3, I a4]))), (3, .box (.d (I a5))), (9, .box (.d (.agg [.v (.string t1.1), I t1.2.1, I t1.2.2.1, I t1.2.2.2.1, I t1.2.2.2.2.1, I t1.2.2.2.2.2.1, I t1.2.2.2.2.2.2.1, I t1.2.2.2.2.2.2.2.1, I t1.2.2.2.2.2.2.2.2.1, I t1.2.2.2.2.2.2.2.2.2]))), (18, .box (.d (.agg [.v (.string t1.1), I t1.2.1, I t1.2.2.1, I t1.2.2.2.1, I t1.2.2.2.2.1, I t1.2.2.2.2.2.1, I t1.2.2.2.2.2.2.1, I t1.2.2.2.2.2.2.2.1, I t1.2.2.2.2.2.2.2.2.1, I t1.2.2.2.2.2.2.2.2.2]))), (19, .box (.d (I a5))), (27, .box (.own 80 0)), (30, .loop true [(6, .fn (.func 104) [] [.ptr 19 0 0 0 0, .ptr 18 0 0 0 0]), (4, .d (.lst true 0 [])), (2, .ptr 27 0 0 0 0), (1, .fn (.func 104) [] [.ptr 19 0 0 0 0, .ptr 18 0 0 0 0]), (0, .d (.lst true 0 []))] [7] (rangeAt cx.P 103 0).1 (rangeAt cx.P 103 0).2 13), (80, .row 0 4 t2)] 156, .br true, .lp [5, 1] [1, 5, 8, 9, 10] [0, 1, 2, 3, 9, 18, 19, 27, 30, 80, 163] (.exit 0) [(5, .own 163 0)] [(0, .box (.d (.lst false 10 a0))), (1, .box (.d (I a1))), (2, .box (.d (.agg [I a2, I a3, I a4]))), (3, .box (.d (I a5))), (9, .box (.d (.agg [.v (.string t1.1), I t1.2.1, I t1.2.2.1, I t1.2.2.2.1, I t1.2.2.2.2.1, I t1.2.2.2.2.2.1, I t1.2.2.2.2.2.2.1, I t1.2.2.2.2.2.2.2.1, I t1.2.2.2.2.2.2.2.2.1, I t1.2.2.2.2.2.2.2.2.2]))), (18, .box (.d (.agg [.v (.string t1.1), I t1.2.1, I t1.2.2.1, I t1.2.2.2.1, I t1.2.2.2.2.1, I t1.2.2.2.2.2.1, I t1.2.2.2.2.2.2.1, I t1.2.2.2.2.2.2.2.1, I t1.2.2.2.2.2.2.2.2.1, I t1.2.2.2.2.2.2.2.2.2]))), (19, .box (.d (I a5))), (27, .box (.own 80 0)), (30, .dead), (80, .row 0 4 t2), (163, .row 0 1 t3)] 216]) (allC (loopF_to R_field_blocked_L5 h3) (allC (loopF_to R_field_blocked_L4 h2) (allC (el_ok un_Asi9Z_ok h1).1 (allC (el_ok un_Asi9Z_ok h1).2 allN)))) (by kernel_rfl)
def F_field_dark_L2 (n : Nat) (a0 : List D) (a1 : Int) (a2 : Int) (a3 : Int) (a4 : Int) (a5 : Int) (t1 : ByteArray × Int × Int × Int × Int × Int × Int × Int × Int × Int) (t3 : Int) (sa : Int) (sb : (Unit) ⊕ (Int × List D)) : Option (((Unit) ⊕ (Int × List D)) ⊕ ((Unit) ⊕ (List D))) := match sb with
 | (.inl sb) => (
  if 0 < a5 then
  (F_field_times n a5 t1.2.1 t1.2.2.1 t1.2.2.2.1).bind fun tb2 =>
  if inI64 (1 - a5) then
  (F_field_times n (1 - a5) t1.2.2.2.2.1 t1.2.2.2.2.2.1 t1.2.2.2.2.2.2.1).bind fun tb4 =>
  if inI64 (2 * sa) then
  if inI64 ((2 * sa) + 1) then
  if inI64 (((2 * sa) + 1) - a5) then
  (F_field_times n (((2 * sa) + 1) - a5) t1.2.2.2.2.2.2.2.1 t1.2.2.2.2.2.2.2.2.1 t1.2.2.2.2.2.2.2.2.2).bind fun tb8 =>
  (F_field_plus n tb4.1 tb4.2.1 tb4.2.2 tb8.1 tb8.2.1 tb8.2.2).bind fun tb9 =>
  (F_field_plus n tb2.1 tb2.2.1 tb2.2.2 tb9.1 tb9.2.1 tb9.2.2).bind fun tb10 =>
  if inI64 (sa * a5) then
  if inI64 ((sa * a5) + 0) then
  some (.inl (.inr (1, [.agg [I ((sa * a5) + 0), I tb10.1, I tb10.2.1, I tb10.2.2]])))
  else none
  else none
  else none
  else none
  else none
  else none
  else
  some (.inr (.inl ())))
 | (.inr sb) => (
  if sb.1 < a5 then
  (F_field_times n a5 t1.2.1 t1.2.2.1 t1.2.2.2.1).bind fun tb2 =>
  if inI64 (2 * sb.1) then
  if inI64 ((2 * sb.1) + 1) then
  if inI64 (((2 * sb.1) + 1) - a5) then
  (F_field_times n (((2 * sb.1) + 1) - a5) t1.2.2.2.2.1 t1.2.2.2.2.2.1 t1.2.2.2.2.2.2.1).bind fun tb6 =>
  if inI64 (2 * sa) then
  if inI64 ((2 * sa) + 1) then
  if inI64 (((2 * sa) + 1) - a5) then
  (F_field_times n (((2 * sa) + 1) - a5) t1.2.2.2.2.2.2.2.1 t1.2.2.2.2.2.2.2.2.1 t1.2.2.2.2.2.2.2.2.2).bind fun tb10 =>
  (F_field_plus n tb6.1 tb6.2.1 tb6.2.2 tb10.1 tb10.2.1 tb10.2.2).bind fun tb11 =>
  (F_field_plus n tb2.1 tb2.2.1 tb2.2.2 tb11.1 tb11.2.1 tb11.2.2).bind fun tb12 =>
  if inI64 (sa * a5) then
  if inI64 ((sa * a5) + sb.1) then
  if roomP 32 ((sb.2).length + 1) then
  if inI64 (sb.1 + 1) then
  some (.inl (.inr ((sb.1 + 1), (sb.2 ++ ([.agg [I ((sa * a5) + sb.1), I tb12.1, I tb12.2.1, I tb12.2.2]] : List D)))))
  else none
  else none
  else none
  else none
  else none
  else none
  else none
  else none
  else none
  else none
  else
  some (.inr (.inr sb.2)))
noncomputable def T_field_dark_L2 (a0 : List D) (a1 : Int) (a2 : Int) (a3 : Int) (a4 : Int) (a5 : Int) (t1 : ByteArray × Int × Int × Int × Int × Int × Int × Int × Int × Int) (t3 : Int) (sa : Int) (sb : (Unit) ⊕ (Int × List D)) : List (Nat × AV) := match sb with
  | (.inl sb) => [(0, .own 37 0), (1, .ptr 26 0 0 0 0), (2, .ptr 25 0 0 0 0), (4, .d (I sa)), (7, .d (I a5)), (8, .d (I sa)), (11, .d (I a5)), (12, .d (I 0))]
  | (.inr sb) => [(0, .own 37 0), (1, .ptr 26 0 0 0 0), (2, .ptr 25 0 0 0 0), (4, .d (I sa)), (7, .d (I a5)), (8, .d (I sa)), (11, .d (I a5)), (12, .d (I sb.1))]
noncomputable def H_field_dark_L2 (a0 : List D) (a1 : Int) (a2 : Int) (a3 : Int) (a4 : Int) (a5 : Int) (t1 : ByteArray × Int × Int × Int × Int × Int × Int × Int × Int × Int) (t3 : Int) (sa : Int) (sb : (Unit) ⊕ (Int × List D)) : List (Nat × Blk) := match sb with
  | (.inl sb) => [(0, .box (.d (.lst false 10 a0))), (1, .box (.d (I a1))), (2, .box (.d (.agg [I a2, I a3, I a4]))), (3, .box (.d (I a5))), (9, .box (.d (.agg [.v (.string t1.1), I t1.2.1, I t1.2.2.1, I t1.2.2.2.1, I t1.2.2.2.2.1, I t1.2.2.2.2.2.1, I t1.2.2.2.2.2.2.1, I t1.2.2.2.2.2.2.2.1, I t1.2.2.2.2.2.2.2.2.1, I t1.2.2.2.2.2.2.2.2.2]))), (16, .box (.d (B (decide (t3 > 0))))), (25, .box (.d (.agg [.v (.string t1.1), I t1.2.1, I t1.2.2.1, I t1.2.2.2.1, I t1.2.2.2.2.1, I t1.2.2.2.2.2.1, I t1.2.2.2.2.2.2.1, I t1.2.2.2.2.2.2.2.1, I t1.2.2.2.2.2.2.2.2.1, I t1.2.2.2.2.2.2.2.2.2]))), (26, .box (.d (I a5))), (34, .box (.d (.lst true 0 []))), (37, .loop true [(6, .fn (.func 104) [] [.ptr 26 0 0 0 0, .ptr 25 0 0 0 0]), (4, .d (.lst true 0 [])), (2, .ptr 34 0 0 0 0), (1, .fn (.func 104) [] [.ptr 26 0 0 0 0, .ptr 25 0 0 0 0]), (0, .d (.lst true 0 []))] [7] (rangeAt cx.P 103 0).1 (rangeAt cx.P 103 0).2 13)]
  | (.inr sb) => [(0, .box (.d (.lst false 10 a0))), (1, .box (.d (I a1))), (2, .box (.d (.agg [I a2, I a3, I a4]))), (3, .box (.d (I a5))), (9, .box (.d (.agg [.v (.string t1.1), I t1.2.1, I t1.2.2.1, I t1.2.2.2.1, I t1.2.2.2.2.1, I t1.2.2.2.2.2.1, I t1.2.2.2.2.2.2.1, I t1.2.2.2.2.2.2.2.1, I t1.2.2.2.2.2.2.2.2.1, I t1.2.2.2.2.2.2.2.2.2]))), (16, .box (.d (B (decide (t3 > 0))))), (25, .box (.d (.agg [.v (.string t1.1), I t1.2.1, I t1.2.2.1, I t1.2.2.2.1, I t1.2.2.2.2.1, I t1.2.2.2.2.2.1, I t1.2.2.2.2.2.2.1, I t1.2.2.2.2.2.2.2.1, I t1.2.2.2.2.2.2.2.2.1, I t1.2.2.2.2.2.2.2.2.2]))), (26, .box (.d (I a5))), (34, .box (.own 87 0)), (37, .loop true [(6, .fn (.func 104) [] [.ptr 26 0 0 0 0, .ptr 25 0 0 0 0]), (4, .d (.lst true 0 [])), (2, .ptr 34 0 0 0 0), (1, .fn (.func 104) [] [.ptr 26 0 0 0 0, .ptr 25 0 0 0 0]), (0, .d (.lst true 0 []))] [7] (rangeAt cx.P 103 0).1 (rangeAt cx.P 103 0).2 13), (87, .row 0 4 sb.2)]
noncomputable def X_field_dark_L2 (a0 : List D) (a1 : Int) (a2 : Int) (a3 : Int) (a4 : Int) (a5 : Int) (t1 : ByteArray × Int × Int × Int × Int × Int × Int × Int × Int × Int) (t3 : Int) (sa : Int) (e : (Unit) ⊕ (List D)) : Ex := match e with
  | (.inl e) => (.exit 2)
  | (.inr e) => (.exit 2)
noncomputable def XT_field_dark_L2 (a0 : List D) (a1 : Int) (a2 : Int) (a3 : Int) (a4 : Int) (a5 : Int) (t1 : ByteArray × Int × Int × Int × Int × Int × Int × Int × Int × Int) (t3 : Int) (sa : Int) (e : (Unit) ⊕ (List D)) : List (Nat × AV) := match e with
  | (.inl e) => [(0, .own 37 0), (1, .ptr 26 0 0 0 0), (2, .ptr 25 0 0 0 0), (7, .d (I a5)), (8, .d (I sa))]
  | (.inr e) => [(0, .own 37 0), (1, .ptr 26 0 0 0 0), (2, .ptr 25 0 0 0 0), (7, .d (I a5)), (8, .d (I sa))]
noncomputable def XH_field_dark_L2 (a0 : List D) (a1 : Int) (a2 : Int) (a3 : Int) (a4 : Int) (a5 : Int) (t1 : ByteArray × Int × Int × Int × Int × Int × Int × Int × Int × Int) (t3 : Int) (sa : Int) (e : (Unit) ⊕ (List D)) : List (Nat × Blk) := match e with
  | (.inl e) => [(0, .box (.d (.lst false 10 a0))), (1, .box (.d (I a1))), (2, .box (.d (.agg [I a2, I a3, I a4]))), (3, .box (.d (I a5))), (9, .box (.d (.agg [.v (.string t1.1), I t1.2.1, I t1.2.2.1, I t1.2.2.2.1, I t1.2.2.2.2.1, I t1.2.2.2.2.2.1, I t1.2.2.2.2.2.2.1, I t1.2.2.2.2.2.2.2.1, I t1.2.2.2.2.2.2.2.2.1, I t1.2.2.2.2.2.2.2.2.2]))), (16, .box (.d (B (decide (t3 > 0))))), (25, .box (.d (.agg [.v (.string t1.1), I t1.2.1, I t1.2.2.1, I t1.2.2.2.1, I t1.2.2.2.2.1, I t1.2.2.2.2.2.1, I t1.2.2.2.2.2.2.1, I t1.2.2.2.2.2.2.2.1, I t1.2.2.2.2.2.2.2.2.1, I t1.2.2.2.2.2.2.2.2.2]))), (26, .box (.d (I a5))), (34, .box (.d (.lst true 0 []))), (37, .loop true [(6, .fn (.func 104) [] [.ptr 26 0 0 0 0, .ptr 25 0 0 0 0]), (4, .d (.lst true 0 [])), (2, .ptr 34 0 0 0 0), (1, .fn (.func 104) [] [.ptr 26 0 0 0 0, .ptr 25 0 0 0 0]), (0, .d (.lst true 0 []))] [7] (rangeAt cx.P 103 0).1 (rangeAt cx.P 103 0).2 13)]
  | (.inr e) => [(0, .box (.d (.lst false 10 a0))), (1, .box (.d (I a1))), (2, .box (.d (.agg [I a2, I a3, I a4]))), (3, .box (.d (I a5))), (9, .box (.d (.agg [.v (.string t1.1), I t1.2.1, I t1.2.2.1, I t1.2.2.2.1, I t1.2.2.2.2.1, I t1.2.2.2.2.2.1, I t1.2.2.2.2.2.2.1, I t1.2.2.2.2.2.2.2.1, I t1.2.2.2.2.2.2.2.2.1, I t1.2.2.2.2.2.2.2.2.2]))), (16, .box (.d (B (decide (t3 > 0))))), (25, .box (.d (.agg [.v (.string t1.1), I t1.2.1, I t1.2.2.1, I t1.2.2.2.1, I t1.2.2.2.2.1, I t1.2.2.2.2.2.1, I t1.2.2.2.2.2.2.1, I t1.2.2.2.2.2.2.2.1, I t1.2.2.2.2.2.2.2.2.1, I t1.2.2.2.2.2.2.2.2.2]))), (26, .box (.d (I a5))), (34, .box (.own 87 0)), (37, .loop true [(6, .fn (.func 104) [] [.ptr 26 0 0 0 0, .ptr 25 0 0 0 0]), (4, .d (.lst true 0 [])), (2, .ptr 34 0 0 0 0), (1, .fn (.func 104) [] [.ptr 26 0 0 0 0, .ptr 25 0 0 0 0]), (0, .d (.lst true 0 []))] [7] (rangeAt cx.P 103 0).1 (rangeAt cx.P 103 0).2 13), (87, .row 0 4 e)]
theorem R_field_dark_L2 {n : Nat} {a0 : List D} {a1 : Int} {a2 : Int} {a3 : Int} {a4 : Int} {a5 : Int} {t1 : ByteArray × Int × Int × Int × Int × Int × Int × Int × Int × Int} {t3 : Int} {sa : Int} (sb : (Unit) ⊕ (Int × List D)) (r) (h : F_field_dark_L2 n a0 a1 a2 a3 a4 a5 t1 t3 sa sb = some r) : Rd cx (loopAt cx.P 104 1) 49 38 false (T_field_dark_L2 a0 a1 a2 a3 a4 a5 t1 t3 sa) (H_field_dark_L2 a0 a1 a2 a3 a4 a5 t1 t3 sa) (X_field_dark_L2 a0 a1 a2 a3 a4 a5 t1 t3 sa) (XT_field_dark_L2 a0 a1 a2 a3 a4 a5 t1 t3 sa) (XH_field_dark_L2 a0 a1 a2 a3 a4 a5 t1 t3 sa) sb r := by
 unfold F_field_dark_L2 at h
 rcases sb with sb | sb
 ·by_cases hb1 : 0 < a5
  ·replace h := it h hb1
   obtain ⟨tb2, hb2, h⟩ := bo h; obtain ⟨hb3, h⟩ := gd h; obtain ⟨tb4, hb4, h⟩ := bo h; obtain ⟨hb5, h⟩ := gd h; obtain ⟨hb6, h⟩ := gd h; obtain ⟨hb7, h⟩ := gd h; obtain ⟨tb8, hb8, h⟩ := bo h; obtain ⟨tb9, hb9, h⟩ := bo h; obtain ⟨tb10, hb10, h⟩ := bo h; obtain ⟨hb11, h⟩ := gd h; obtain ⟨hb12, h⟩ := gd h
   obtain rfl := oi h
   exact ⟨100, 45, [.br true, .ret (.agg [I tb2.1, I tb2.2.1, I tb2.2.2]), .ret (.agg [I tb4.1, I tb4.2.1, I tb4.2.2]), .ret (.agg [I tb8.1, I tb8.2.1, I tb8.2.2]), .ret (.agg [I tb9.1, I tb9.2.1, I tb9.2.2]), .ret (.agg [I tb10.1, I tb10.2.1, I tb10.2.2]), .no, .no, .no], [], [0, 1, 2, 4, 7, 8, 11, 12], [0, 1, 2, 3, 9, 16, 25, 26, 34, 37, 87], round_fr (allC ((by unfold inI64; omega) : inI64 1) (allC hb12 (allC hb11 (allC (c_field_plus hb10) (allC (c_field_plus hb9) (allC (c_field_times hb8) (allC hb7 (allC hb6 (allC hb5 (allC (c_field_times hb4) (allC hb3 (allC ((by unfold inI64; omega) : inI64 1) (allC ((by unfold inI64; omega) : inI64 0) (allC (c_field_times hb2) (allC (decide_eq_true hb1) allN))))))))))))))) (by kernel_rfl)⟩
  ·replace h := jf h hb1
   obtain rfl := oi h
   exact ⟨⟨100, 45, [.br false], [], [0, 1, 2, 7, 8], [0, 1, 2, 3, 9, 16, 25, 26, 34, 37], round_fr (allC (decide_eq_false hb1) allN) (by kernel_rfl)⟩, nofun⟩
 ·by_cases hb1 : sb.1 < a5
  ·replace h := it h hb1
   obtain ⟨tb2, hb2, h⟩ := bo h; obtain ⟨hb3, h⟩ := gd h; obtain ⟨hb4, h⟩ := gd h; obtain ⟨hb5, h⟩ := gd h; obtain ⟨tb6, hb6, h⟩ := bo h; obtain ⟨hb7, h⟩ := gd h; obtain ⟨hb8, h⟩ := gd h; obtain ⟨hb9, h⟩ := gd h; obtain ⟨tb10, hb10, h⟩ := bo h; obtain ⟨tb11, hb11, h⟩ := bo h; obtain ⟨tb12, hb12, h⟩ := bo h; obtain ⟨hb13, h⟩ := gd h; obtain ⟨hb14, h⟩ := gd h; obtain ⟨hb15, h⟩ := gd h; obtain ⟨hb16, h⟩ := gd h
   obtain rfl := oi h
   exact ⟨100, 88, [.br true, .ret (.agg [I tb2.1, I tb2.2.1, I tb2.2.2]), .ret (.agg [I tb6.1, I tb6.2.1, I tb6.2.2]), .ret (.agg [I tb10.1, I tb10.2.1, I tb10.2.2]), .ret (.agg [I tb11.1, I tb11.2.1, I tb11.2.2]), .ret (.agg [I tb12.1, I tb12.2.1, I tb12.2.2]), .br true, .no], [], [0, 1, 2, 4, 7, 8, 11, 12], [0, 1, 2, 3, 9, 16, 25, 26, 34, 37, 87], round_fr (allC hb16 (allC ((room_of (b := 32) (by kernel_rfl) (by decide) hb15) : room cx 130 ((sb.2).length + 1)) (allC hb14 (allC hb13 (allC (c_field_plus hb12) (allC (c_field_plus hb11) (allC (c_field_times hb10) (allC hb9 (allC hb8 (allC hb7 (allC (c_field_times hb6) (allC hb5 (allC hb4 (allC hb3 (allC (c_field_times hb2) (allC (decide_eq_true hb1) allN)))))))))))))))) (by kernel_rfl)⟩
  ·replace h := jf h hb1
   obtain rfl := oi h
   exact ⟨⟨100, 88, [.br false], [], [0, 1, 2, 7, 8], [0, 1, 2, 3, 9, 16, 25, 26, 34, 37, 87], round_fr (allC (decide_eq_false hb1) allN) (by kernel_rfl)⟩, nofun⟩
def F_field_dark_L3 (n : Nat) (a0 : List D) (a1 : Int) (a2 : Int) (a3 : Int) (a4 : Int) (a5 : Int) (t1 : ByteArray × Int × Int × Int × Int × Int × Int × Int × Int × Int) (t3 : Int) (sa : Int × List D) (sb : (Int × List D)) : Option (((Int × List D)) ⊕ ((List D))) :=
 if sb.1 < a5 then
  (F_field_times n a5 t1.2.1 t1.2.2.1 t1.2.2.2.1).bind fun tb2 =>
  if inI64 (2 * sb.1) then
  if inI64 ((2 * sb.1) + 1) then
  if inI64 (((2 * sb.1) + 1) - a5) then
  (F_field_times n (((2 * sb.1) + 1) - a5) t1.2.2.2.2.1 t1.2.2.2.2.2.1 t1.2.2.2.2.2.2.1).bind fun tb6 =>
  if inI64 (2 * sa.1) then
  if inI64 ((2 * sa.1) + 1) then
  if inI64 (((2 * sa.1) + 1) - a5) then
  (F_field_times n (((2 * sa.1) + 1) - a5) t1.2.2.2.2.2.2.2.1 t1.2.2.2.2.2.2.2.2.1 t1.2.2.2.2.2.2.2.2.2).bind fun tb10 =>
  (F_field_plus n tb6.1 tb6.2.1 tb6.2.2 tb10.1 tb10.2.1 tb10.2.2).bind fun tb11 =>
  (F_field_plus n tb2.1 tb2.2.1 tb2.2.2 tb11.1 tb11.2.1 tb11.2.2).bind fun tb12 =>
  if inI64 (sa.1 * a5) then
  if inI64 ((sa.1 * a5) + sb.1) then
  if roomP 32 ((sb.2).length + 1) then
  if inI64 (sb.1 + 1) then
  some (.inl ((sb.1 + 1), (sb.2 ++ ([.agg [I ((sa.1 * a5) + sb.1), I tb12.1, I tb12.2.1, I tb12.2.2]] : List D))))
  else none
  else none
  else none
  else none
  else none
  else none
  else none
  else none
  else none
  else none
 else
 some (.inr sb.2)
noncomputable def T_field_dark_L3 (a0 : List D) (a1 : Int) (a2 : Int) (a3 : Int) (a4 : Int) (a5 : Int) (t1 : ByteArray × Int × Int × Int × Int × Int × Int × Int × Int × Int) (t3 : Int) (sa : Int × List D) (sb : (Int × List D)) : List (Nat × AV) := [(0, .own 37 0), (1, .ptr 26 0 0 0 0), (2, .ptr 25 0 0 0 0), (4, .d (I sa.1)), (7, .d (I a5)), (8, .d (I sa.1)), (11, .d (I a5)), (12, .d (I sb.1))]
noncomputable def H_field_dark_L3 (a0 : List D) (a1 : Int) (a2 : Int) (a3 : Int) (a4 : Int) (a5 : Int) (t1 : ByteArray × Int × Int × Int × Int × Int × Int × Int × Int × Int) (t3 : Int) (sa : Int × List D) (sb : (Int × List D)) : List (Nat × Blk) := [(0, .box (.d (.lst false 10 a0))), (1, .box (.d (I a1))), (2, .box (.d (.agg [I a2, I a3, I a4]))), (3, .box (.d (I a5))), (9, .box (.d (.agg [.v (.string t1.1), I t1.2.1, I t1.2.2.1, I t1.2.2.2.1, I t1.2.2.2.2.1, I t1.2.2.2.2.2.1, I t1.2.2.2.2.2.2.1, I t1.2.2.2.2.2.2.2.1, I t1.2.2.2.2.2.2.2.2.1, I t1.2.2.2.2.2.2.2.2.2]))), (16, .box (.d (B (decide (t3 > 0))))), (25, .box (.d (.agg [.v (.string t1.1), I t1.2.1, I t1.2.2.1, I t1.2.2.2.1, I t1.2.2.2.2.1, I t1.2.2.2.2.2.1, I t1.2.2.2.2.2.2.1, I t1.2.2.2.2.2.2.2.1, I t1.2.2.2.2.2.2.2.2.1, I t1.2.2.2.2.2.2.2.2.2]))), (26, .box (.d (I a5))), (34, .box (.own 87 0)), (37, .loop true [(6, .fn (.func 104) [] [.ptr 26 0 0 0 0, .ptr 25 0 0 0 0]), (4, .d (.lst true 0 [])), (2, .ptr 34 0 0 0 0), (1, .fn (.func 104) [] [.ptr 26 0 0 0 0, .ptr 25 0 0 0 0]), (0, .d (.lst true 0 []))] [7] (rangeAt cx.P 103 0).1 (rangeAt cx.P 103 0).2 13), (87, .row 0 4 sb.2)]
noncomputable def X_field_dark_L3 (a0 : List D) (a1 : Int) (a2 : Int) (a3 : Int) (a4 : Int) (a5 : Int) (t1 : ByteArray × Int × Int × Int × Int × Int × Int × Int × Int × Int) (t3 : Int) (sa : Int × List D) (e : (List D)) : Ex := (.exit 2)
noncomputable def XT_field_dark_L3 (a0 : List D) (a1 : Int) (a2 : Int) (a3 : Int) (a4 : Int) (a5 : Int) (t1 : ByteArray × Int × Int × Int × Int × Int × Int × Int × Int × Int) (t3 : Int) (sa : Int × List D) (e : (List D)) : List (Nat × AV) := [(0, .own 37 0), (1, .ptr 26 0 0 0 0), (2, .ptr 25 0 0 0 0), (7, .d (I a5)), (8, .d (I sa.1))]
noncomputable def XH_field_dark_L3 (a0 : List D) (a1 : Int) (a2 : Int) (a3 : Int) (a4 : Int) (a5 : Int) (t1 : ByteArray × Int × Int × Int × Int × Int × Int × Int × Int × Int) (t3 : Int) (sa : Int × List D) (e : (List D)) : List (Nat × Blk) := [(0, .box (.d (.lst false 10 a0))), (1, .box (.d (I a1))), (2, .box (.d (.agg [I a2, I a3, I a4]))), (3, .box (.d (I a5))), (9, .box (.d (.agg [.v (.string t1.1), I t1.2.1, I t1.2.2.1, I t1.2.2.2.1, I t1.2.2.2.2.1, I t1.2.2.2.2.2.1, I t1.2.2.2.2.2.2.1, I t1.2.2.2.2.2.2.2.1, I t1.2.2.2.2.2.2.2.2.1, I t1.2.2.2.2.2.2.2.2.2]))), (16, .box (.d (B (decide (t3 > 0))))), (25, .box (.d (.agg [.v (.string t1.1), I t1.2.1, I t1.2.2.1, I t1.2.2.2.1, I t1.2.2.2.2.1, I t1.2.2.2.2.2.1, I t1.2.2.2.2.2.2.1, I t1.2.2.2.2.2.2.2.1, I t1.2.2.2.2.2.2.2.2.1, I t1.2.2.2.2.2.2.2.2.2]))), (26, .box (.d (I a5))), (34, .box (.own 87 0)), (37, .loop true [(6, .fn (.func 104) [] [.ptr 26 0 0 0 0, .ptr 25 0 0 0 0]), (4, .d (.lst true 0 [])), (2, .ptr 34 0 0 0 0), (1, .fn (.func 104) [] [.ptr 26 0 0 0 0, .ptr 25 0 0 0 0]), (0, .d (.lst true 0 []))] [7] (rangeAt cx.P 103 0).1 (rangeAt cx.P 103 0).2 13), (87, .row 0 4 e)]
theorem R_field_dark_L3 {n : Nat} {a0 : List D} {a1 : Int} {a2 : Int} {a3 : Int} {a4 : Int} {a5 : Int} {t1 : ByteArray × Int × Int × Int × Int × Int × Int × Int × Int × Int} {t3 : Int} {sa : Int × List D} (sb : (Int × List D)) (r) (h : F_field_dark_L3 n a0 a1 a2 a3 a4 a5 t1 t3 sa sb = some r) : Rd cx (loopAt cx.P 104 1) 49 38 false (T_field_dark_L3 a0 a1 a2 a3 a4 a5 t1 t3 sa) (H_field_dark_L3 a0 a1 a2 a3 a4 a5 t1 t3 sa) (X_field_dark_L3 a0 a1 a2 a3 a4 a5 t1 t3 sa) (XT_field_dark_L3 a0 a1 a2 a3 a4 a5 t1 t3 sa) (XH_field_dark_L3 a0 a1 a2 a3 a4 a5 t1 t3 sa) sb r := by
 unfold F_field_dark_L3 at h
 by_cases hb1 : sb.1 < a5
 ·replace h := it h hb1
  obtain ⟨tb2, hb2, h⟩ := bo h; obtain ⟨hb3, h⟩ := gd h; obtain ⟨hb4, h⟩ := gd h; obtain ⟨hb5, h⟩ := gd h; obtain ⟨tb6, hb6, h⟩ := bo h; obtain ⟨hb7, h⟩ := gd h; obtain ⟨hb8, h⟩ := gd h; obtain ⟨hb9, h⟩ := gd h; obtain ⟨tb10, hb10, h⟩ := bo h; obtain ⟨tb11, hb11, h⟩ := bo h; obtain ⟨tb12, hb12, h⟩ := bo h; obtain ⟨hb13, h⟩ := gd h; obtain ⟨hb14, h⟩ := gd h; obtain ⟨hb15, h⟩ := gd h; obtain ⟨hb16, h⟩ := gd h
  obtain rfl := oi h
  exact ⟨100, 93, [.br true, .ret (.agg [I tb2.1, I tb2.2.1, I tb2.2.2]), .ret (.agg [I tb6.1, I tb6.2.1, I tb6.2.2]), .ret (.agg [I tb10.1, I tb10.2.1, I tb10.2.2]), .ret (.agg [I tb11.1, I tb11.2.1, I tb11.2.2]), .ret (.agg [I tb12.1, I tb12.2.1, I tb12.2.2]), .br true, .no], [], [0, 1, 2, 4, 7, 8, 11, 12], [0, 1, 2, 3, 9, 16, 25, 26, 34, 37, 87], round_fr (allC hb16 (allC ((room_of (b := 32) (by kernel_rfl) (by decide) hb15) : room cx 130 ((sb.2).length + 1)) (allC hb14 (allC hb13 (allC (c_field_plus hb12) (allC (c_field_plus hb11) (allC (c_field_times hb10) (allC hb9 (allC hb8 (allC hb7 (allC (c_field_times hb6) (allC hb5 (allC hb4 (allC hb3 (allC (c_field_times hb2) (allC (decide_eq_true hb1) allN)))))))))))))))) (by kernel_rfl)⟩
 ·replace h := jf h hb1
  obtain rfl := oi h
  exact ⟨⟨100, 93, [.br false], [], [0, 1, 2, 7, 8], [0, 1, 2, 3, 9, 16, 25, 26, 34, 37, 87], round_fr (allC (decide_eq_false hb1) allN) (by kernel_rfl)⟩, nofun⟩
def F_field_dark_L4 (n : Nat) (a0 : List D) (a1 : Int) (a2 : Int) (a3 : Int) (a4 : Int) (a5 : Int) (t1 : ByteArray × Int × Int × Int × Int × Int × Int × Int × Int × Int) (t3 : Int) (sa : (Int) ⊕ (Int × List D)) : Option (((Int) ⊕ (Int × List D)) ⊕ ((Unit) ⊕ (List D))) := match sa with
 | (.inl sa) => (
  if sa < a5 then
  (loopF (F_field_dark_L2 n a0 a1 a2 a3 a4 a5 t1 t3 sa) n (.inl ())).bind fun ta2 => match ta2 with
   | (.inl ta2) => (
   if inI64 (sa + 1) then
   some (.inl (.inl (sa + 1)))
   else none)
   | (.inr ta2) => (
   if inI64 (sa + 1) then
   some (.inl (.inr ((sa + 1), ta2)))
   else none)
  else
  some (.inr (.inl ())))
 | (.inr sa) => (
  if sa.1 < a5 then
  (loopF (F_field_dark_L3 n a0 a1 a2 a3 a4 a5 t1 t3 sa) n (0, sa.2)).bind fun ta2 =>
  if inI64 (sa.1 + 1) then
  some (.inl (.inr ((sa.1 + 1), ta2)))
  else none
  else
  some (.inr (.inr sa.2)))
noncomputable def T_field_dark_L4 (a0 : List D) (a1 : Int) (a2 : Int) (a3 : Int) (a4 : Int) (a5 : Int) (t1 : ByteArray × Int × Int × Int × Int × Int × Int × Int × Int × Int) (t3 : Int) (sa : (Int) ⊕ (Int × List D)) : List (Nat × AV) := match sa with
  | (.inl sa) => [(0, .own 37 0), (1, .ptr 26 0 0 0 0), (2, .ptr 25 0 0 0 0), (7, .d (I a5)), (8, .d (I sa))]
  | (.inr sa) => [(0, .own 37 0), (1, .ptr 26 0 0 0 0), (2, .ptr 25 0 0 0 0), (7, .d (I a5)), (8, .d (I sa.1))]
noncomputable def H_field_dark_L4 (a0 : List D) (a1 : Int) (a2 : Int) (a3 : Int) (a4 : Int) (a5 : Int) (t1 : ByteArray × Int × Int × Int × Int × Int × Int × Int × Int × Int) (t3 : Int) (sa : (Int) ⊕ (Int × List D)) : List (Nat × Blk) := match sa with
  | (.inl sa) => [(0, .box (.d (.lst false 10 a0))), (1, .box (.d (I a1))), (2, .box (.d (.agg [I a2, I a3, I a4]))), (3, .box (.d (I a5))), (9, .box (.d (.agg [.v (.string t1.1), I t1.2.1, I t1.2.2.1, I t1.2.2.2.1, I t1.2.2.2.2.1, I t1.2.2.2.2.2.1, I t1.2.2.2.2.2.2.1, I t1.2.2.2.2.2.2.2.1, I t1.2.2.2.2.2.2.2.2.1, I t1.2.2.2.2.2.2.2.2.2]))), (16, .box (.d (B (decide (t3 > 0))))), (25, .box (.d (.agg [.v (.string t1.1), I t1.2.1, I t1.2.2.1, I t1.2.2.2.1, I t1.2.2.2.2.1, I t1.2.2.2.2.2.1, I t1.2.2.2.2.2.2.1, I t1.2.2.2.2.2.2.2.1, I t1.2.2.2.2.2.2.2.2.1, I t1.2.2.2.2.2.2.2.2.2]))), (26, .box (.d (I a5))), (34, .box (.d (.lst true 0 []))), (37, .loop true [(6, .fn (.func 104) [] [.ptr 26 0 0 0 0, .ptr 25 0 0 0 0]), (4, .d (.lst true 0 [])), (2, .ptr 34 0 0 0 0), (1, .fn (.func 104) [] [.ptr 26 0 0 0 0, .ptr 25 0 0 0 0]), (0, .d (.lst true 0 []))] [7] (rangeAt cx.P 103 0).1 (rangeAt cx.P 103 0).2 13)]
  | (.inr sa) => [(0, .box (.d (.lst false 10 a0))), (1, .box (.d (I a1))), (2, .box (.d (.agg [I a2, I a3, I a4]))), (3, .box (.d (I a5))), (9, .box (.d (.agg [.v (.string t1.1), I t1.2.1, I t1.2.2.1, I t1.2.2.2.1, I t1.2.2.2.2.1, I t1.2.2.2.2.2.1, I t1.2.2.2.2.2.2.1, I t1.2.2.2.2.2.2.2.1, I t1.2.2.2.2.2.2.2.2.1, I t1.2.2.2.2.2.2.2.2.2]))), (16, .box (.d (B (decide (t3 > 0))))), (25, .box (.d (.agg [.v (.string t1.1), I t1.2.1, I t1.2.2.1, I t1.2.2.2.1, I t1.2.2.2.2.1, I t1.2.2.2.2.2.1, I t1.2.2.2.2.2.2.1, I t1.2.2.2.2.2.2.2.1, I t1.2.2.2.2.2.2.2.2.1, I t1.2.2.2.2.2.2.2.2.2]))), (26, .box (.d (I a5))), (34, .box (.own 87 0)), (37, .loop true [(6, .fn (.func 104) [] [.ptr 26 0 0 0 0, .ptr 25 0 0 0 0]), (4, .d (.lst true 0 [])), (2, .ptr 34 0 0 0 0), (1, .fn (.func 104) [] [.ptr 26 0 0 0 0, .ptr 25 0 0 0 0]), (0, .d (.lst true 0 []))] [7] (rangeAt cx.P 103 0).1 (rangeAt cx.P 103 0).2 13), (87, .row 0 4 sa.2)]
noncomputable def X_field_dark_L4 (a0 : List D) (a1 : Int) (a2 : Int) (a3 : Int) (a4 : Int) (a5 : Int) (t1 : ByteArray × Int × Int × Int × Int × Int × Int × Int × Int × Int) (t3 : Int) (e : (Unit) ⊕ (List D)) : Ex := match e with
  | (.inl e) => (.exit 0)
  | (.inr e) => (.exit 0)
noncomputable def XT_field_dark_L4 (a0 : List D) (a1 : Int) (a2 : Int) (a3 : Int) (a4 : Int) (a5 : Int) (t1 : ByteArray × Int × Int × Int × Int × Int × Int × Int × Int × Int) (t3 : Int) (e : (Unit) ⊕ (List D)) : List (Nat × AV) := match e with
  | (.inl e) => []
  | (.inr e) => []
noncomputable def XH_field_dark_L4 (a0 : List D) (a1 : Int) (a2 : Int) (a3 : Int) (a4 : Int) (a5 : Int) (t1 : ByteArray × Int × Int × Int × Int × Int × Int × Int × Int × Int) (t3 : Int) (e : (Unit) ⊕ (List D)) : List (Nat × Blk) := match e with
  | (.inl e) => [(0, .box (.d (.lst false 10 a0))), (1, .box (.d (I a1))), (2, .box (.d (.agg [I a2, I a3, I a4]))), (3, .box (.d (I a5))), (9, .box (.d (.agg [.v (.string t1.1), I t1.2.1, I t1.2.2.1, I t1.2.2.2.1, I t1.2.2.2.2.1, I t1.2.2.2.2.2.1, I t1.2.2.2.2.2.2.1, I t1.2.2.2.2.2.2.2.1, I t1.2.2.2.2.2.2.2.2.1, I t1.2.2.2.2.2.2.2.2.2]))), (16, .box (.d (B (decide (t3 > 0))))), (25, .box (.d (.agg [.v (.string t1.1), I t1.2.1, I t1.2.2.1, I t1.2.2.2.1, I t1.2.2.2.2.1, I t1.2.2.2.2.2.1, I t1.2.2.2.2.2.2.1, I t1.2.2.2.2.2.2.2.1, I t1.2.2.2.2.2.2.2.2.1, I t1.2.2.2.2.2.2.2.2.2]))), (26, .box (.d (I a5))), (34, .box (.d (.lst true 0 []))), (37, .loop true [(6, .fn (.func 104) [] [.ptr 26 0 0 0 0, .ptr 25 0 0 0 0]), (4, .d (.lst true 0 [])), (2, .ptr 34 0 0 0 0), (1, .fn (.func 104) [] [.ptr 26 0 0 0 0, .ptr 25 0 0 0 0]), (0, .d (.lst true 0 []))] [7] (rangeAt cx.P 103 0).1 (rangeAt cx.P 103 0).2 13)]
  | (.inr e) => [(0, .box (.d (.lst false 10 a0))), (1, .box (.d (I a1))), (2, .box (.d (.agg [I a2, I a3, I a4]))), (3, .box (.d (I a5))), (9, .box (.d (.agg [.v (.string t1.1), I t1.2.1, I t1.2.2.1, I t1.2.2.2.1, I t1.2.2.2.2.1, I t1.2.2.2.2.2.1, I t1.2.2.2.2.2.2.1, I t1.2.2.2.2.2.2.2.1, I t1.2.2.2.2.2.2.2.2.1, I t1.2.2.2.2.2.2.2.2.2]))), (16, .box (.d (B (decide (t3 > 0))))), (25, .box (.d (.agg [.v (.string t1.1), I t1.2.1, I t1.2.2.1, I t1.2.2.2.1, I t1.2.2.2.2.1, I t1.2.2.2.2.2.1, I t1.2.2.2.2.2.2.1, I t1.2.2.2.2.2.2.2.1, I t1.2.2.2.2.2.2.2.2.1, I t1.2.2.2.2.2.2.2.2.2]))), (26, .box (.d (I a5))), (34, .box (.own 87 0)), (37, .loop true [(6, .fn (.func 104) [] [.ptr 26 0 0 0 0, .ptr 25 0 0 0 0]), (4, .d (.lst true 0 [])), (2, .ptr 34 0 0 0 0), (1, .fn (.func 104) [] [.ptr 26 0 0 0 0, .ptr 25 0 0 0 0]), (0, .d (.lst true 0 []))] [7] (rangeAt cx.P 103 0).1 (rangeAt cx.P 103 0).2 13), (87, .row 0 4 e)]
theorem R_field_dark_L4 {n : Nat} {a0 : List D} {a1 : Int} {a2 : Int} {a3 : Int} {a4 : Int} {a5 : Int} {t1 : ByteArray × Int × Int × Int × Int × Int × Int × Int × Int × Int} {t3 : Int} (sa : (Int) ⊕ (Int × List D)) (r) (h : F_field_dark_L4 n a0 a1 a2 a3 a4 a5 t1 t3 sa = some r) : Rd cx (loopAt cx.P 104 0) 49 38 false (T_field_dark_L4 a0 a1 a2 a3 a4 a5 t1 t3) (H_field_dark_L4 a0 a1 a2 a3 a4 a5 t1 t3) (X_field_dark_L4 a0 a1 a2 a3 a4 a5 t1 t3) (XT_field_dark_L4 a0 a1 a2 a3 a4 a5 t1 t3) (XH_field_dark_L4 a0 a1 a2 a3 a4 a5 t1 t3) sa r := by
 unfold F_field_dark_L4 at h
 rcases sa with sa | sa
 ·by_cases ha1 : sa < a5
  ·replace h := it h ha1
   obtain ⟨ta2, ha2, h⟩ := bo h
   rcases ta2 with ta2 | ta2
   ·obtain ⟨ha3, h⟩ := gd h
    obtain rfl := oi h
    exact ⟨100, 40, [.br true, .lp [] [0, 1, 2, 4, 7, 8, 11, 12] [0, 1, 2, 3, 9, 16, 25, 26, 34, 37] (.exit 2) [(0, .own 37 0), (1, .ptr 26 0 0 0 0), (2, .ptr 25 0 0 0 0), (7, .d (I a5)), (8, .d (I sa))] [(0, .box (.d (.lst false 10 a0))), (1, .box (.d (I a1))), (2, .box (.d (.agg [I a2, I a3, I a4]))), (3, .box (.d (I a5))), (9, .box (.d (.agg [.v (.string t1.1), I t1.2.1, I t1.2.2.1, I t1.2.2.2.1, I t1.2.2.2.2.1, I t1.2.2.2.2.2.1, I t1.2.2.2.2.2.2.1, I t1.2.2.2.2.2.2.2.1, I t1.2.2.2.2.2.2.2.2.1, I t1.2.2.2.2.2.2.2.2.2]))), (16, .box (.d (B (decide (t3 > 0))))), (25, .box (.d (.agg [.v (.string t1.1), I t1.2.1, I t1.2.2.1, I t1.2.2.2.1, I t1.2.2.2.2.1, I t1.2.2.2.2.2.1, I t1.2.2.2.2.2.2.1, I t1.2.2.2.2.2.2.2.1, I t1.2.2.2.2.2.2.2.2.1, I t1.2.2.2.2.2.2.2.2.2]))), (26, .box (.d (I a5))), (34, .box (.d (.lst true 0 []))), (37, .loop true [(6, .fn (.func 104) [] [.ptr 26 0 0 0 0, .ptr 25 0 0 0 0]), (4, .d (.lst true 0 [])), (2, .ptr 34 0 0 0 0), (1, .fn (.func 104) [] [.ptr 26 0 0 0 0, .ptr 25 0 0 0 0]), (0, .d (.lst true 0 []))] [7] (rangeAt cx.P 103 0).1 (rangeAt cx.P 103 0).2 13)] 145], [], [0, 1, 2, 7, 8], [0, 1, 2, 3, 9, 16, 25, 26, 34, 37], round_fr (allC ha3 (allC (loopF_to R_field_dark_L2 ha2) (allC (decide_eq_true ha1) allN))) (by kernel_rfl)⟩
   ·obtain ⟨ha3, h⟩ := gd h
    obtain rfl := oi h
    exact ⟨100, 40, [.br true, .lp [] [0, 1, 2, 4, 7, 8, 11, 12] [0, 1, 2, 3, 9, 16, 25, 26, 34, 37] (.exit 2) [(0, .own 37 0), (1, .ptr 26 0 0 0 0), (2, .ptr 25 0 0 0 0), (7, .d (I a5)), (8, .d (I sa))] [(0, .box (.d (.lst false 10 a0))), (1, .box (.d (I a1))), (2, .box (.d (.agg [I a2, I a3, I a4]))), (3, .box (.d (I a5))), (9, .box (.d (.agg [.v (.string t1.1), I t1.2.1, I t1.2.2.1, I t1.2.2.2.1, I t1.2.2.2.2.1, I t1.2.2.2.2.2.1, I t1.2.2.2.2.2.2.1, I t1.2.2.2.2.2.2.2.1, I t1.2.2.2.2.2.2.2.2.1, I t1.2.2.2.2.2.2.2.2.2]))), (16, .box (.d (B (decide (t3 > 0))))), (25, .box (.d (.agg [.v (.string t1.1), I t1.2.1, I t1.2.2.1, I t1.2.2.2.1, I t1.2.2.2.2.1, I t1.2.2.2.2.2.1, I t1.2.2.2.2.2.2.1, I t1.2.2.2.2.2.2.2.1, I t1.2.2.2.2.2.2.2.2.1, I t1.2.2.2.2.2.2.2.2.2]))), (26, .box (.d (I a5))), (34, .box (.own 87 0)), (37, .loop true [(6, .fn (.func 104) [] [.ptr 26 0 0 0 0, .ptr 25 0 0 0 0]), (4, .d (.lst true 0 [])), (2, .ptr 34 0 0 0 0), (1, .fn (.func 104) [] [.ptr 26 0 0 0 0, .ptr 25 0 0 0 0]), (0, .d (.lst true 0 []))] [7] (rangeAt cx.P 103 0).1 (rangeAt cx.P 103 0).2 13), (87, .row 0 4 ta2)] 145], [], [0, 1, 2, 7, 8], [0, 1, 2, 3, 9, 16, 25, 26, 34, 37, 87], round_fr (allC ha3 (allC (loopF_to R_field_dark_L2 ha2) (allC (decide_eq_true ha1) allN))) (by kernel_rfl)⟩
  ·replace h := jf h ha1
   obtain rfl := oi h
   exact ⟨⟨100, 40, [.br false], [], [], [0, 1, 2, 3, 9, 16, 25, 26, 34, 37], round_fr (allC (decide_eq_false ha1) allN) (by kernel_rfl)⟩, nofun⟩
 ·by_cases ha1 : sa.1 < a5
  ·replace h := it h ha1
   obtain ⟨ta2, ha2, h⟩ := bo h; obtain ⟨ha3, h⟩ := gd h
   obtain rfl := oi h
   exact ⟨100, 88, [.br true, .lp [] [0, 1, 2, 4, 7, 8, 11, 12] [0, 1, 2, 3, 9, 16, 25, 26, 34, 37, 87] (.exit 2) [(0, .own 37 0), (1, .ptr 26 0 0 0 0), (2, .ptr 25 0 0 0 0), (7, .d (I a5)), (8, .d (I sa.1))] [(0, .box (.d (.lst false 10 a0))), (1, .box (.d (I a1))), (2, .box (.d (.agg [I a2, I a3, I a4]))), (3, .box (.d (I a5))), (9, .box (.d (.agg [.v (.string t1.1), I t1.2.1, I t1.2.2.1, I t1.2.2.2.1, I t1.2.2.2.2.1, I t1.2.2.2.2.2.1, I t1.2.2.2.2.2.2.1, I t1.2.2.2.2.2.2.2.1, I t1.2.2.2.2.2.2.2.2.1, I t1.2.2.2.2.2.2.2.2.2]))), (16, .box (.d (B (decide (t3 > 0))))), (25, .box (.d (.agg [.v (.string t1.1), I t1.2.1, I t1.2.2.1, I t1.2.2.2.1, I t1.2.2.2.2.1, I t1.2.2.2.2.2.1, I t1.2.2.2.2.2.2.1, I t1.2.2.2.2.2.2.2.1, I t1.2.2.2.2.2.2.2.2.1, I t1.2.2.2.2.2.2.2.2.2]))), (26, .box (.d (I a5))), (34, .box (.own 87 0)), (37, .loop true [(6, .fn (.func 104) [] [.ptr 26 0 0 0 0, .ptr 25 0 0 0 0]), (4, .d (.lst true 0 [])), (2, .ptr 34 0 0 0 0), (1, .fn (.func 104) [] [.ptr 26 0 0 0 0, .ptr 25 0 0 0 0]), (0, .d (.lst true 0 []))] [7] (rangeAt cx.P 103 0).1 (rangeAt cx.P 103 0).2 13), (87, .row 0 4 ta2)] 150], [], [0, 1, 2, 7, 8], [0, 1, 2, 3, 9, 16, 25, 26, 34, 37, 87], round_fr (allC ha3 (allC (loopF_to R_field_dark_L3 ha2) (allC (decide_eq_true ha1) allN))) (by kernel_rfl)⟩
  ·replace h := jf h ha1
   obtain rfl := oi h
   exact ⟨⟨100, 88, [.br false], [], [], [0, 1, 2, 3, 9, 16, 25, 26, 34, 37, 87], round_fr (allC (decide_eq_false ha1) allN) (by kernel_rfl)⟩, nofun⟩
def F_field_dark_L5 (n : Nat) (a0 : List D) (a1 : Int) (a2 : Int) (a3 : Int) (a4 : Int) (a5 : Int) (t1 : ByteArray × Int × Int × Int × Int × Int × Int × Int × Int × Int) (t3 : Int) (t4 : List D) (sa : (Int × List D)) : Option (((Int × List D)) ⊕ ((List D))) :=
 if sa.1 < ((t4).length : Int) then
  if 0 ≤ sa.1 ∧ sa.1 < ((t4).length : Int) then
  ((nth (t4) (Int.toNat sa.1)).bind un_Ai4Z).bind fun ta3 =>
  if (decide (t3 > 0)) = true then
  (F_field_met n a0 a1 a5 ta3.2.1 ta3.2.2.1 ta3.2.2.2 a2 a3 a4 false).bind fun ta5 =>
  if roomP 1 ((sa.2).length + 1) then
  if inI64 (sa.1 + 1) then
  some (.inl ((sa.1 + 1), (sa.2 ++ ([B ta5] : List D))))
  else none
  else none
  else
  if roomP 1 ((sa.2).length + 1) then
  if inI64 (sa.1 + 1) then
  some (.inl ((sa.1 + 1), (sa.2 ++ ([B true] : List D))))
  else none
  else none
  else none
 else
 some (.inr sa.2)
noncomputable def T_field_dark_L5 (a0 : List D) (a1 : Int) (a2 : Int) (a3 : Int) (a4 : Int) (a5 : Int) (t1 : ByteArray × Int × Int × Int × Int × Int × Int × Int × Int × Int) (t3 : Int) (t4 : List D) (sa : (Int × List D)) : List (Nat × AV) := [(1, .fn (.func 101) [] [.ptr 16 0 0 0 0, .ptr 0 0 0 0 0, .ptr 1 0 0 0 0, .ptr 3 0 0 0 0, .ptr 2 0 0 0 0]), (5, .own 170 0), (8, .own 87 0), (9, .d (I ((t4).length : Int))), (10, .d (I sa.1))]
noncomputable def H_field_dark_L5 (a0 : List D) (a1 : Int) (a2 : Int) (a3 : Int) (a4 : Int) (a5 : Int) (t1 : ByteArray × Int × Int × Int × Int × Int × Int × Int × Int × Int) (t3 : Int) (t4 : List D) (sa : (Int × List D)) : List (Nat × Blk) := [(0, .box (.d (.lst false 10 a0))), (1, .box (.d (I a1))), (2, .box (.d (.agg [I a2, I a3, I a4]))), (3, .box (.d (I a5))), (9, .box (.d (.agg [.v (.string t1.1), I t1.2.1, I t1.2.2.1, I t1.2.2.2.1, I t1.2.2.2.2.1, I t1.2.2.2.2.2.1, I t1.2.2.2.2.2.2.1, I t1.2.2.2.2.2.2.2.1, I t1.2.2.2.2.2.2.2.2.1, I t1.2.2.2.2.2.2.2.2.2]))), (16, .box (.d (B (decide (t3 > 0))))), (25, .box (.d (.agg [.v (.string t1.1), I t1.2.1, I t1.2.2.1, I t1.2.2.2.1, I t1.2.2.2.2.1, I t1.2.2.2.2.2.1, I t1.2.2.2.2.2.2.1, I t1.2.2.2.2.2.2.2.1, I t1.2.2.2.2.2.2.2.2.1, I t1.2.2.2.2.2.2.2.2.2]))), (26, .box (.d (I a5))), (34, .box (.own 87 0)), (37, .dead), (87, .row 0 4 t4), (170, .row 0 1 sa.2)]
noncomputable def X_field_dark_L5 (a0 : List D) (a1 : Int) (a2 : Int) (a3 : Int) (a4 : Int) (a5 : Int) (t1 : ByteArray × Int × Int × Int × Int × Int × Int × Int × Int × Int) (t3 : Int) (t4 : List D) (e : (List D)) : Ex := (.exit 0)
noncomputable def XT_field_dark_L5 (a0 : List D) (a1 : Int) (a2 : Int) (a3 : Int) (a4 : Int) (a5 : Int) (t1 : ByteArray × Int × Int × Int × Int × Int × Int × Int × Int × Int) (t3 : Int) (t4 : List D) (e : (List D)) : List (Nat × AV) := [(5, .own 170 0)]
noncomputable def XH_field_dark_L5 (a0 : List D) (a1 : Int) (a2 : Int) (a3 : Int) (a4 : Int) (a5 : Int) (t1 : ByteArray × Int × Int × Int × Int × Int × Int × Int × Int × Int) (t3 : Int) (t4 : List D) (e : (List D)) : List (Nat × Blk) := [(0, .box (.d (.lst false 10 a0))), (1, .box (.d (I a1))), (2, .box (.d (.agg [I a2, I a3, I a4]))), (3, .box (.d (I a5))), (9, .box (.d (.agg [.v (.string t1.1), I t1.2.1, I t1.2.2.1, I t1.2.2.2.1, I t1.2.2.2.2.1, I t1.2.2.2.2.2.1, I t1.2.2.2.2.2.2.1, I t1.2.2.2.2.2.2.2.1, I t1.2.2.2.2.2.2.2.2.1, I t1.2.2.2.2.2.2.2.2.2]))), (16, .box (.d (B (decide (t3 > 0))))), (25, .box (.d (.agg [.v (.string t1.1), I t1.2.1, I t1.2.2.1, I t1.2.2.2.1, I t1.2.2.2.2.1, I t1.2.2.2.2.2.1, I t1.2.2.2.2.2.2.1, I t1.2.2.2.2.2.2.2.1, I t1.2.2.2.2.2.2.2.2.1, I t1.2.2.2.2.2.2.2.2.2]))), (26, .box (.d (I a5))), (34, .box (.own 87 0)), (37, .dead), (87, .row 0 4 t4), (170, .row 0 1 e)]
theorem R_field_dark_L5 {n : Nat} {a0 : List D} {a1 : Int} {a2 : Int} {a3 : Int} {a4 : Int} {a5 : Int} {t1 : ByteArray × Int × Int × Int × Int × Int × Int × Int × Int × Int} {t3 : Int} {t4 : List D} (sa : (Int × List D)) (r) (h : F_field_dark_L5 n a0 a1 a2 a3 a4 a5 t1 t3 t4 sa = some r) : Rd cx (loopAt cx.P 94 0) 22 165 false (T_field_dark_L5 a0 a1 a2 a3 a4 a5 t1 t3 t4) (H_field_dark_L5 a0 a1 a2 a3 a4 a5 t1 t3 t4) (X_field_dark_L5 a0 a1 a2 a3 a4 a5 t1 t3 t4) (XT_field_dark_L5 a0 a1 a2 a3 a4 a5 t1 t3 t4) (XH_field_dark_L5 a0 a1 a2 a3 a4 a5 t1 t3 t4) sa r := by
 unfold F_field_dark_L5 at h
 by_cases ha1 : sa.1 < ((t4).length : Int)
 ·replace h := it h ha1
  obtain ⟨ha2, h⟩ := gd h; obtain ⟨ta3, ha3, h⟩ := bo h
  by_cases ha4 : (decide (t3 > 0)) = true
  ·replace h := it h ha4
   obtain ⟨ta5, ha5, h⟩ := bo h; obtain ⟨ha6, h⟩ := gd h; obtain ⟨ha7, h⟩ := gd h
   obtain rfl := oi h
   exact ⟨100, 171, [.br true, .br true, .el (enc_Ai4Z ta3), .br true, .br false, .ret (B ta5), .br true], [], [1, 5, 8, 9, 10], [0, 1, 2, 3, 9, 16, 25, 26, 34, 37, 87, 170], round_fr (allC ha7 (allC ((room_of (b := 1) (by kernel_rfl) (by decide) ha6) : room cx 4 ((sa.2).length + 1)) (allC (c_field_met ha5) (allC (notf ha4) (allC (nel_ok un_Ai4Z_ok ha3) (allC ha2 (allC (decide_eq_true ha1) allN))))))) (by kernel_rfl)⟩
  ·replace h := jf h ha4
   obtain ⟨ha5, h⟩ := gd h; obtain ⟨ha6, h⟩ := gd h
   obtain rfl := oi h
   exact ⟨100, 171, [.br true, .br true, .el (enc_Ai4Z ta3), .br true, .br true, .br true], [], [1, 5, 8, 9, 10], [0, 1, 2, 3, 9, 16, 25, 26, 34, 37, 87, 170], round_fr (allC ha6 (allC ((room_of (b := 1) (by kernel_rfl) (by decide) ha5) : room cx 4 ((sa.2).length + 1)) (allC (nott (bfalse ha4)) (allC (nel_ok un_Ai4Z_ok ha3) (allC ha2 (allC (decide_eq_true ha1) allN)))))) (by kernel_rfl)⟩
 ·replace h := jf h ha1
  obtain rfl := oi h
  exact ⟨⟨100, 171, [.br false], [], [5], [0, 1, 2, 3, 9, 16, 25, 26, 34, 37, 87, 170], round_fr (allC (decide_eq_false ha1) allN) (by kernel_rfl)⟩, nofun⟩
def F_field_dark (n : Nat) (a0 : List D) (a1 : Int) (a2 : Int) (a3 : Int) (a4 : Int) (a5 : Int) : Option (List D) :=
 (el un_Asi9Z a0 a1).bind fun t1 =>
 (F_field_Mirror_normal n t1.1 t1.2.1 t1.2.2.1 t1.2.2.2.1 t1.2.2.2.2.1 t1.2.2.2.2.2.1 t1.2.2.2.2.2.2.1 t1.2.2.2.2.2.2.2.1 t1.2.2.2.2.2.2.2.2.1 t1.2.2.2.2.2.2.2.2.2).bind fun t2 =>
 (F_field_dot n t2.1 t2.2.1 t2.2.2 a2 a3 a4).bind fun t3 =>
 (loopF (F_field_dark_L4 n a0 a1 a2 a3 a4 a5 t1 t3) n (.inl 0)).bind fun t4 => match t4 with
  | (.inl t4) => (
  some [])
  | (.inr t4) => (
  (loopF (F_field_dark_L5 n a0 a1 a2 a3 a4 a5 t1 t3 t4) n (0, [])).bind fun t5 =>
  some t5)
theorem c_field_dark {n : Nat} {a0 : List D} {a1 : Int} {a2 : Int} {a3 : Int} {a4 : Int} {a5 : Int} {r : List D} (h : F_field_dark n a0 a1 a2 a3 a4 a5 = some r) : Computes cx 89 [.lst false 10 a0, I a1, .agg [I a2, I a3, I a4], I a5] (.lst false 1 r) := by
 unfold F_field_dark at h
 obtain ⟨t1, h1, h⟩ := bo h; obtain ⟨t2, h2, h⟩ := bo h; obtain ⟨t3, h3, h⟩ := bo h; obtain ⟨t4, h4, h⟩ := bo h
 rcases t4 with t4 | t4
 ·obtain rfl := oi h
  exact (run_fr (n := 100) (r := .lst true 0 []) (orc := [.el (enc_Asi9Z t1), .ret (.agg [I t2.1, I t2.2.1, I t2.2.2]), .ret (I t3), .br true, .br true, .br true, .lp [] [0, 1, 2, 7, 8] [0, 1, 2, 3, 9, 16, 25, 26, 34, 37] (.exit 0) [] [(0, .box (.d (.lst false 10 a0))), (1, .box (.d (I a1))), (2, .box (.d (.agg [I a2, I a3, I a4]))), (3, .box (.d (I a5))), (9, .box (.d (.agg [.v (.string t1.1), I t1.2.1, I t1.2.2.1, I t1.2.2.2.1, I t1.2.2.2.2.1, I t1.2.2.2.2.2.1, I t1.2.2.2.2.2.2.1, I t1.2.2.2.2.2.2.2.1, I t1.2.2.2.2.2.2.2.2.1, I t1.2.2.2.2.2.2.2.2.2]))), (16, .box (.d (B (decide (t3 > 0))))), (25, .box (.d (.agg [.v (.string t1.1), I t1.2.1, I t1.2.2.1, I t1.2.2.2.1, I t1.2.2.2.2.1, I t1.2.2.2.2.2.1, I t1.2.2.2.2.2.2.1, I t1.2.2.2.2.2.2.2.1, I t1.2.2.2.2.2.2.2.2.1, I t1.2.2.2.2.2.2.2.2.2]))), (26, .box (.d (I a5))), (34, .box (.d (.lst true 0 []))), (37, .loop true [(6, .fn (.func 104) [] [.ptr 26 0 0 0 0, .ptr 25 0 0 0 0]), (4, .d (.lst true 0 [])), (2, .ptr 34 0 0 0 0), (1, .fn (.func 104) [] [.ptr 26 0 0 0 0, .ptr 25 0 0 0 0]), (0, .d (.lst true 0 []))] [7] (rangeAt cx.P 103 0).1 (rangeAt cx.P 103 0).2 13)] 163, .br true, .no, .no]) (allC (loopF_to R_field_dark_L4 h4) (allC (c_field_dot h3) (allC (c_field_Mirror_normal h2) (allC (el_ok un_Asi9Z_ok h1).1 (allC (el_ok un_Asi9Z_ok h1).2 allN))))) (by kernel_rfl)).le (LEs.refl _) (.lst _ _ _ _ _ nofun (.inl rfl))
 ·obtain ⟨t5, h5, h⟩ := bo h
  obtain rfl := oi h
  exact run_fr (n := 100) (orc := [.el (enc_Asi9Z t1), .ret (.agg [I t2.1, I t2.2.1, I t2.2.2]), .ret (I t3), .br true, .br true, .br true, .lp [] [0, 1, 2, 7, 8] [0, 1, 2, 3, 9, 16, 25, 26, 34, 37] (.exit 0) [] [(0, .box (.d (.lst false 10 a0))), (1, .box (.d (I a1))), (2, .box (.d (.agg [I a2, I a3, I a4]))), (3, .box (.d (I a5))), (9, .box (.d (.agg [.v (.string t1.1), I t1.2.1, I t1.2.2.1, I t1.2.2.2.1, I t1.2.2.2.2.1, I t1.2.2.2.2.2.1, I t1.2.2.2.2.2.2.1, I t1.2.2.2.2.2.2.2.1, I t1.2.2.2.2.2.2.2.2.1, I t1.2.2.2.2.2.2.2.2.2]))), (16, .box (.d (B (decide (t3 > 0))))), (25, .box (.d (.agg [.v (.string t1.1), I t1.2.1, I t1.2.2.1, I t1.2.2.2.1, I t1.2.2.2.2.1, I t1.2.2.2.2.2.1, I t1.2.2.2.2.2.2.1, I t1.2.2.2.2.2.2.2.1, I t1.2.2.2.2.2.2.2.2.1, I t1.2.2.2.2.2.2.2.2.2]))), (26, .box (.d (I a5))), (34, .box (.own 87 0)), (37, .loop true [(6, .fn (.func 104) [] [.ptr 26 0 0 0 0, .ptr 25 0 0 0 0]), (4, .d (.lst true 0 [])), (2, .ptr 34 0 0 0 0), (1, .fn (.func 104) [] [.ptr 26 0 0 0 0, .ptr 25 0 0 0 0]), (0, .d (.lst true 0 []))] [7] (rangeAt cx.P 103 0).1 (rangeAt cx.P 103 0).2 13), (87, .row 0 4 t4)] 163, .br true, .lp [5, 1] [1, 5, 8, 9, 10] [0, 1, 2, 3, 9, 16, 25, 26, 34, 37, 87, 170] (.exit 0) [(5, .own 170 0)] [(0, .box (.d (.lst false 10 a0))), (1, .box (.d (I a1))), (2, .box (.d (.agg [I a2, I a3, I a4]))), (3, .box (.d (I a5))), (9, .box (.d (.agg [.v (.string t1.1), I t1.2.1, I t1.2.2.1, I t1.2.2.2.1, I t1.2.2.2.2.1, I t1.2.2.2.2.2.1, I t1.2.2.2.2.2.2.1, I t1.2.2.2.2.2.2.2.1, I t1.2.2.2.2.2.2.2.2.1, I t1.2.2.2.2.2.2.2.2.2]))), (16, .box (.d (B (decide (t3 > 0))))), (25, .box (.d (.agg [.v (.string t1.1), I t1.2.1, I t1.2.2.1, I t1.2.2.2.1, I t1.2.2.2.2.1, I t1.2.2.2.2.2.1, I t1.2.2.2.2.2.2.1, I t1.2.2.2.2.2.2.2.1, I t1.2.2.2.2.2.2.2.2.1, I t1.2.2.2.2.2.2.2.2.2]))), (26, .box (.d (I a5))), (34, .box (.own 87 0)), (37, .dead), (87, .row 0 4 t4), (170, .row 0 1 t5)] 211]) (allC (loopF_to R_field_dark_L5 h5) (allC (loopF_to R_field_dark_L4 h4) (allC (c_field_dot h3) (allC (c_field_Mirror_normal h2) (allC (el_ok un_Asi9Z_ok h1).1 (allC (el_ok un_Asi9Z_ok h1).2 allN)))))) (by kernel_rfl)
def F_field_lit_L1 (n : Nat) (t1 : List D) (t2 : List D) (sa : (Int × Int × Int × Int)) : Option (((Int × Int × Int × Int)) ⊕ ((Int × Int × Int))) :=
 if sa.1 < ((t2).length : Int) then
  (el un_b t2 sa.1).bind fun ta2 =>
  if ta2 = true then
  if inI64 (sa.2.1 + 1) then
  if inI64 (sa.1 + 1) then
  some (.inl ((sa.1 + 1), (sa.2.1 + 1), sa.2.2.1, sa.2.2.2))
  else none
  else none
  else
  (el un_b t1 sa.1).bind fun ta4 =>
  if ta4 = true then
  if inI64 (sa.2.2.1 + 1) then
  if inI64 (sa.1 + 1) then
  some (.inl ((sa.1 + 1), sa.2.1, (sa.2.2.1 + 1), sa.2.2.2))
  else none
  else none
  else
  if inI64 (sa.2.2.2 + 1) then
  if inI64 (sa.1 + 1) then
  some (.inl ((sa.1 + 1), sa.2.1, sa.2.2.1, (sa.2.2.2 + 1)))
  else none
  else none
 else
 some (.inr (sa.2.1, sa.2.2.1, sa.2.2.2))
noncomputable def T_field_lit_L1 (t1 : List D) (t2 : List D) (sa : (Int × Int × Int × Int)) : List (Nat × AV) := [(10, .ptr 2 0 0 0 0), (11, .ptr 3 0 0 0 0), (12, .d (.lst false 1 t1)), (24, .d (.lst false 1 t2)), (25, .d (I ((t2).length : Int))), (26, .d (I sa.1))]
noncomputable def H_field_lit_L1 (t1 : List D) (t2 : List D) (sa : (Int × Int × Int × Int)) : List (Nat × Blk) := [(2, .box (.d (.agg [I 0, I 0, I 0]))), (3, .box (.d (.agg [I sa.2.1, I sa.2.2.1, I sa.2.2.2])))]
noncomputable def X_field_lit_L1 (t1 : List D) (t2 : List D) (e : (Int × Int × Int)) : Ex := (.exit 0)
noncomputable def XT_field_lit_L1 (t1 : List D) (t2 : List D) (e : (Int × Int × Int)) : List (Nat × AV) := [(10, .ptr 2 0 0 0 0), (11, .ptr 3 0 0 0 0)]
noncomputable def XH_field_lit_L1 (t1 : List D) (t2 : List D) (e : (Int × Int × Int)) : List (Nat × Blk) := [(2, .box (.d (.agg [I 0, I 0, I 0]))), (3, .box (.d (.agg [I e.1, I e.2.1, I e.2.2])))]
theorem R_field_lit_L1 {n : Nat} {t1 : List D} {t2 : List D} (sa : (Int × Int × Int × Int)) (r) (h : F_field_lit_L1 n t1 t2 sa = some r) : Rd cx (loopAt cx.P 66 0) 52 0 false (T_field_lit_L1 t1 t2) (H_field_lit_L1 t1 t2) (X_field_lit_L1 t1 t2) (XT_field_lit_L1 t1 t2) (XH_field_lit_L1 t1 t2) sa r := by
 unfold F_field_lit_L1 at h
 by_cases ha1 : sa.1 < ((t2).length : Int)
 ·replace h := it h ha1
  obtain ⟨ta2, ha2, h⟩ := bo h
  by_cases ha3 : ta2 = true
  ·replace h := it h ha3
   obtain ⟨ha4, h⟩ := gd h; obtain ⟨ha5, h⟩ := gd h
   obtain rfl := oi h
   exact ⟨100, 17, [.br true, .el (enc_b ta2), .br true], [], [10, 11, 12, 24, 25, 26], [2, 3], round_fr (allC ha5 (allC ha4 (allC ha3 (allC (el_ok un_b_ok ha2).1 (allC (el_ok un_b_ok ha2).2 (allC (decide_eq_true ha1) allN)))))) (by kernel_rfl)⟩
  ·replace h := jf h ha3
   obtain ⟨ta4, ha4, h⟩ := bo h
   by_cases ha5 : ta4 = true
   ·replace h := it h ha5
    obtain ⟨ha6, h⟩ := gd h; obtain ⟨ha7, h⟩ := gd h
    obtain rfl := oi h
    exact ⟨100, 17, [.br true, .el (enc_b ta2), .br false, .el (enc_b ta4), .br true], [], [10, 11, 12, 24, 25, 26], [2, 3], round_fr (allC ha7 (allC ha6 (allC ha5 (allC (el_ok un_b_ok ha4).1 (allC (el_ok un_b_ok ha4).2 (allC (bfalse ha3) (allC (el_ok un_b_ok ha2).1 (allC (el_ok un_b_ok ha2).2 (allC (decide_eq_true ha1) allN))))))))) (by kernel_rfl)⟩
   ·replace h := jf h ha5
    obtain ⟨ha6, h⟩ := gd h; obtain ⟨ha7, h⟩ := gd h
    obtain rfl := oi h
    exact ⟨100, 17, [.br true, .el (enc_b ta2), .br false, .el (enc_b ta4), .br false], [], [10, 11, 12, 24, 25, 26], [2, 3], round_fr (allC ha7 (allC ha6 (allC (bfalse ha5) (allC (el_ok un_b_ok ha4).1 (allC (el_ok un_b_ok ha4).2 (allC (bfalse ha3) (allC (el_ok un_b_ok ha2).1 (allC (el_ok un_b_ok ha2).2 (allC (decide_eq_true ha1) allN))))))))) (by kernel_rfl)⟩
 ·replace h := jf h ha1
  obtain rfl := oi h
  exact ⟨⟨100, 17, [.br false], [], [10, 11], [2, 3], round_fr (allC (decide_eq_false ha1) allN) (by kernel_rfl)⟩, nofun⟩
def F_field_lit (n : Nat) (a0 : List D) (a1 : Int) (a2 : Int) (a3 : Int) (a4 : Int) (a5 : Int) (a6 : Int) (a7 : Int) (a8 : Int) : Option (Int × Int × Int) :=
 (F_field_blocked n a0 a1 a5 a6 a7 a8).bind fun t1 =>
 (F_field_dark n a0 a1 a2 a3 a4 a8).bind fun t2 =>
 (loopF (F_field_lit_L1 n t1 t2) n (0, 0, 0, 0)).bind fun t3 =>
 some (t3.1, t3.2.1, t3.2.2)
theorem c_field_lit {n : Nat} {a0 : List D} {a1 : Int} {a2 : Int} {a3 : Int} {a4 : Int} {a5 : Int} {a6 : Int} {a7 : Int} {a8 : Int} {r : Int × Int × Int} (h : F_field_lit n a0 a1 a2 a3 a4 a5 a6 a7 a8 = some r) : Computes cx 66 [.lst false 10 a0, I a1, .agg [I a2, I a3, I a4], .agg [I a5, I a6, I a7], I a8] (.agg [I r.1, I r.2.1, I r.2.2]) := by
 unfold F_field_lit at h
 obtain ⟨t1, h1, h⟩ := bo h; obtain ⟨t2, h2, h⟩ := bo h; obtain ⟨t3, h3, h⟩ := bo h
 obtain rfl := oi h
 exact run_fr (n := 100) (orc := [.ret (.lst false 1 t1), .ret (.lst false 1 t2), .lp [] [10, 11, 12, 24, 25, 26] [2, 3] (.exit 0) [(10, .ptr 2 0 0 0 0), (11, .ptr 3 0 0 0 0)] [(2, .box (.d (.agg [I 0, I 0, I 0]))), (3, .box (.d (.agg [I t3.1, I t3.2.1, I t3.2.2])))] 48]) (allC (loopF_to R_field_lit_L1 h3) (allC (c_field_dark h2) (allC (c_field_blocked h1) allN))) (by kernel_rfl)
def F_field_Lit (n : Nat) (a0 : List D) (a1 : Int) (a2 : Int) (a3 : Int) (a4 : Int) (a5 : Int) (a6 : Int) (a7 : Int) (a8 : Int) : Option (Int × Int × Int × Int) :=
 (F_field_checkIndex n a0 a1).bind fun t1 =>
 (F_field_checkDirection n a2 a3 a4 1024).bind fun t2 =>
 (F_field_checkParts n a5 a6 a7 4096).bind fun t3 =>
 (F_field_checkK n a8).bind fun t4 =>
 (F_field_first n ([I t1, I t2, I t3, I t4])).bind fun t5 =>
 if t5 = 0 then
  (F_field_lit n a0 a1 a2 a3 a4 a5 a6 a7 a8).bind fun t7 =>
  some (t7.1, t7.2.1, t7.2.2, 0)
 else
 some (0, 0, 0, t5)
theorem c_field_Lit {n : Nat} {a0 : List D} {a1 : Int} {a2 : Int} {a3 : Int} {a4 : Int} {a5 : Int} {a6 : Int} {a7 : Int} {a8 : Int} {r : Int × Int × Int × Int} (h : F_field_Lit n a0 a1 a2 a3 a4 a5 a6 a7 a8 = some r) : Computes cx 18 [.lst false 10 a0, I a1, .agg [I a2, I a3, I a4], .agg [I a5, I a6, I a7], I a8] (.tup [.agg [I r.1, I r.2.1, I r.2.2.1], I r.2.2.2]) := by
 unfold F_field_Lit at h
 obtain ⟨t1, h1, h⟩ := bo h; obtain ⟨t2, h2, h⟩ := bo h; obtain ⟨t3, h3, h⟩ := bo h; obtain ⟨t4, h4, h⟩ := bo h; obtain ⟨t5, h5, h⟩ := bo h
 by_cases h6 : t5 = 0
 ·replace h := it h h6
  obtain ⟨t7, h7, h⟩ := bo h
  obtain rfl := oi h
  exact run_fr (n := 100) (orc := [.ret (I t1), .ret (I t2), .ret (I t3), .ret (I t4), .ret (I t5), .br false, .ret (.agg [I t7.1, I t7.2.1, I t7.2.2])]) (allC (c_field_lit h7) (allC (nef h6) (allC (((c_field_first h5).le (.cons (.full _ _ _) (.nil)) (.refl _)) : Computes cx 56 [.lst true 1 [I t1, I t2, I t3, I t4]] (I t5)) (allC (c_field_checkK h4) (allC (c_field_checkParts h3) (allC (c_field_checkDirection h2) (allC (c_field_checkIndex h1) allN))))))) (by kernel_rfl)
 ·replace h := jf h h6
  obtain rfl := oi h
  exact run_fr (n := 100) (orc := [.ret (I t1), .ret (I t2), .ret (I t3), .ret (I t4), .ret (I t5), .br true]) (allC (net h6) (allC (((c_field_first h5).le (.cons (.full _ _ _) (.nil)) (.refl _)) : Computes cx 56 [.lst true 1 [I t1, I t2, I t3, I t4]] (I t5)) (allC (c_field_checkK h4) (allC (c_field_checkParts h3) (allC (c_field_checkDirection h2) (allC (c_field_checkIndex h1) allN)))))) (by kernel_rfl)
def F_ref01_Divisor_L1 (n : Nat)  (sa : (Int × Int)) : Option (((Int × Int)) ⊕ ((Int))) :=
 if sa.2 = 0 then
  some (.inr sa.1)
 else
 if sa.2 ≠ 0 then
 some (.inl (sa.2, (Int.tmod sa.1 sa.2)))
 else none
noncomputable def T_ref01_Divisor_L1  (sa : (Int × Int)) : List (Nat × AV) := [(0, .d (I sa.1)), (1, .d (I sa.2))]
noncomputable def H_ref01_Divisor_L1  (sa : (Int × Int)) : List (Nat × Blk) := []
noncomputable def X_ref01_Divisor_L1  (e : (Int)) : Ex := (.exit 0)
noncomputable def XT_ref01_Divisor_L1  (e : (Int)) : List (Nat × AV) := [(0, .d (I e))]
noncomputable def XH_ref01_Divisor_L1  (e : (Int)) : List (Nat × Blk) := []
theorem R_ref01_Divisor_L1 {n : Nat}  (sa : (Int × Int)) (r) (h : F_ref01_Divisor_L1 n  sa = some r) : Rd cx (loopAt cx.P 74 0) 24 0 false (T_ref01_Divisor_L1 ) (H_ref01_Divisor_L1 ) (X_ref01_Divisor_L1 ) (XT_ref01_Divisor_L1 ) (XH_ref01_Divisor_L1 ) sa r := by
 unfold F_ref01_Divisor_L1 at h
 by_cases ha1 : sa.2 = 0
 ·replace h := it h ha1
  obtain rfl := oi h
  exact ⟨⟨100, 11, [.br false], [], [0], [], round_fr (allC (nef ha1) allN) (by kernel_rfl)⟩, nofun⟩
 ·replace h := jf h ha1
  obtain ⟨ha2, h⟩ := gd h
  obtain rfl := oi h
  exact ⟨100, 11, [.br true], [], [0, 1], [], round_fr (allC ha2 (allC (net ha1) allN)) (by kernel_rfl)⟩
def F_ref01_Divisor_L2 (n : Nat)  (sa : (Int × Int)) : Option (((Int × Int)) ⊕ ((Int))) :=
 if sa.2 = 0 then
  some (.inr sa.1)
 else
 if sa.2 ≠ 0 then
 some (.inl (sa.2, (Int.tmod sa.1 sa.2)))
 else none
noncomputable def T_ref01_Divisor_L2  (sa : (Int × Int)) : List (Nat × AV) := [(0, .d (I sa.1)), (1, .d (I sa.2))]
noncomputable def H_ref01_Divisor_L2  (sa : (Int × Int)) : List (Nat × Blk) := []
noncomputable def X_ref01_Divisor_L2  (e : (Int)) : Ex := (.exit 0)
noncomputable def XT_ref01_Divisor_L2  (e : (Int)) : List (Nat × AV) := [(0, .d (I e))]
noncomputable def XH_ref01_Divisor_L2  (e : (Int)) : List (Nat × Blk) := []
theorem R_ref01_Divisor_L2 {n : Nat}  (sa : (Int × Int)) (r) (h : F_ref01_Divisor_L2 n  sa = some r) : Rd cx (loopAt cx.P 74 0) 24 0 false (T_ref01_Divisor_L2 ) (H_ref01_Divisor_L2 ) (X_ref01_Divisor_L2 ) (XT_ref01_Divisor_L2 ) (XH_ref01_Divisor_L2 ) sa r := by
 unfold F_ref01_Divisor_L2 at h
 by_cases ha1 : sa.2 = 0
 ·replace h := it h ha1
  obtain rfl := oi h
  exact ⟨⟨100, 8, [.br false], [], [0], [], round_fr (allC (nef ha1) allN) (by kernel_rfl)⟩, nofun⟩
 ·replace h := jf h ha1
  obtain ⟨ha2, h⟩ := gd h
  obtain rfl := oi h
  exact ⟨100, 8, [.br true], [], [0, 1], [], round_fr (allC ha2 (allC (net ha1) allN)) (by kernel_rfl)⟩
def F_ref01_Divisor_L3 (n : Nat)  (sa : (Int × Int)) : Option (((Int × Int)) ⊕ ((Int))) :=
 if sa.2 = 0 then
  some (.inr sa.1)
 else
 if sa.2 ≠ 0 then
 some (.inl (sa.2, (Int.tmod sa.1 sa.2)))
 else none
noncomputable def T_ref01_Divisor_L3  (sa : (Int × Int)) : List (Nat × AV) := [(0, .d (I sa.1)), (1, .d (I sa.2))]
noncomputable def H_ref01_Divisor_L3  (sa : (Int × Int)) : List (Nat × Blk) := []
noncomputable def X_ref01_Divisor_L3  (e : (Int)) : Ex := (.exit 0)
noncomputable def XT_ref01_Divisor_L3  (e : (Int)) : List (Nat × AV) := [(0, .d (I e))]
noncomputable def XH_ref01_Divisor_L3  (e : (Int)) : List (Nat × Blk) := []
theorem R_ref01_Divisor_L3 {n : Nat}  (sa : (Int × Int)) (r) (h : F_ref01_Divisor_L3 n  sa = some r) : Rd cx (loopAt cx.P 74 0) 24 0 false (T_ref01_Divisor_L3 ) (H_ref01_Divisor_L3 ) (X_ref01_Divisor_L3 ) (XT_ref01_Divisor_L3 ) (XH_ref01_Divisor_L3 ) sa r := by
 unfold F_ref01_Divisor_L3 at h
 by_cases ha1 : sa.2 = 0
 ·replace h := it h ha1
  obtain rfl := oi h
  exact ⟨⟨100, 8, [.br false], [], [0], [], round_fr (allC (nef ha1) allN) (by kernel_rfl)⟩, nofun⟩
 ·replace h := jf h ha1
  obtain ⟨ha2, h⟩ := gd h
  obtain rfl := oi h
  exact ⟨100, 8, [.br true], [], [0, 1], [], round_fr (allC ha2 (allC (net ha1) allN)) (by kernel_rfl)⟩
def F_ref01_Divisor_L4 (n : Nat)  (sa : (Int × Int)) : Option (((Int × Int)) ⊕ ((Int))) :=
 if sa.2 = 0 then
  some (.inr sa.1)
 else
 if sa.2 ≠ 0 then
 some (.inl (sa.2, (Int.tmod sa.1 sa.2)))
 else none
noncomputable def T_ref01_Divisor_L4  (sa : (Int × Int)) : List (Nat × AV) := [(0, .d (I sa.1)), (1, .d (I sa.2))]
noncomputable def H_ref01_Divisor_L4  (sa : (Int × Int)) : List (Nat × Blk) := []
noncomputable def X_ref01_Divisor_L4  (e : (Int)) : Ex := (.exit 0)
noncomputable def XT_ref01_Divisor_L4  (e : (Int)) : List (Nat × AV) := [(0, .d (I e))]
noncomputable def XH_ref01_Divisor_L4  (e : (Int)) : List (Nat × Blk) := []
theorem R_ref01_Divisor_L4 {n : Nat}  (sa : (Int × Int)) (r) (h : F_ref01_Divisor_L4 n  sa = some r) : Rd cx (loopAt cx.P 74 0) 24 0 false (T_ref01_Divisor_L4 ) (H_ref01_Divisor_L4 ) (X_ref01_Divisor_L4 ) (XT_ref01_Divisor_L4 ) (XH_ref01_Divisor_L4 ) sa r := by
 unfold F_ref01_Divisor_L4 at h
 by_cases ha1 : sa.2 = 0
 ·replace h := it h ha1
  obtain rfl := oi h
  exact ⟨⟨100, 5, [.br false], [], [0], [], round_fr (allC (nef ha1) allN) (by kernel_rfl)⟩, nofun⟩
 ·replace h := jf h ha1
  obtain ⟨ha2, h⟩ := gd h
  obtain rfl := oi h
  exact ⟨100, 5, [.br true], [], [0, 1], [], round_fr (allC ha2 (allC (net ha1) allN)) (by kernel_rfl)⟩
def F_ref01_Divisor (n : Nat) (a0 : Int) (a1 : Int) : Option (Int) :=
 if a0 < 0 then
  if inI64 (0 - a0) then
  if a1 < 0 then
  if inI64 (0 - a1) then
  (loopF (F_ref01_Divisor_L1 n) n ((0 - a0), (0 - a1))).bind fun t5 =>
  if t5 = 0 then
   some 1
  else
  some t5
  else none
  else
  (loopF (F_ref01_Divisor_L2 n) n ((0 - a0), a1)).bind fun t4 =>
  if t4 = 0 then
  some 1
  else
  some t4
  else none
 else
 if a1 < 0 then
  if inI64 (0 - a1) then
  (loopF (F_ref01_Divisor_L3 n) n (a0, (0 - a1))).bind fun t4 =>
  if t4 = 0 then
  some 1
  else
  some t4
  else none
 else
 (loopF (F_ref01_Divisor_L4 n) n (a0, a1)).bind fun t3 =>
 if t3 = 0 then
  some 1
 else
 some t3
theorem c_ref01_Divisor {n : Nat} {a0 : Int} {a1 : Int} {r : Int} (h : F_ref01_Divisor n a0 a1 = some r) : Computes cx 74 [I a0, I a1] (I r) := by
 unfold F_ref01_Divisor at h
 by_cases h1 : a0 < 0
 ·replace h := it h h1
  obtain ⟨h2, h⟩ := gd h
  by_cases h3 : a1 < 0
  ·replace h := it h h3
   obtain ⟨h4, h⟩ := gd h; obtain ⟨t5, h5, h⟩ := bo h
   by_cases h6 : t5 = 0
   ·replace h := it h h6
    obtain rfl := oi h
    exact run_fr (n := 100) (orc := [.br true, .br true, .lp [] [0, 1] [] (.exit 0) [(0, .d (I t5))] [] 32, .br true]) (allC (eqt h6) (allC (loopF_to R_ref01_Divisor_L1 h5) (allC h4 (allC (decide_eq_true h3) (allC h2 (allC (decide_eq_true h1) allN)))))) (by kernel_rfl)
   ·replace h := jf h h6
    obtain rfl := oi h
    exact run_fr (n := 100) (orc := [.br true, .br true, .lp [] [0, 1] [] (.exit 0) [(0, .d (I t5))] [] 32, .br false]) (allC (eqf h6) (allC (loopF_to R_ref01_Divisor_L1 h5) (allC h4 (allC (decide_eq_true h3) (allC h2 (allC (decide_eq_true h1) allN)))))) (by kernel_rfl)
  ·replace h := jf h h3
   obtain ⟨t4, h4, h⟩ := bo h
   by_cases h5 : t4 = 0
   ·replace h := it h h5
    obtain rfl := oi h
    exact run_fr (n := 100) (orc := [.br true, .br false, .lp [] [0, 1] [] (.exit 0) [(0, .d (I t4))] [] 29, .br true]) (allC (eqt h5) (allC (loopF_to R_ref01_Divisor_L2 h4) (allC (decide_eq_false h3) (allC h2 (allC (decide_eq_true h1) allN))))) (by kernel_rfl)
   ·replace h := jf h h5
    obtain rfl := oi h
    exact run_fr (n := 100) (orc := [.br true, .br false, .lp [] [0, 1] [] (.exit 0) [(0, .d (I t4))] [] 29, .br false]) (allC (eqf h5) (allC (loopF_to R_ref01_Divisor_L2 h4) (allC (decide_eq_false h3) (allC h2 (allC (decide_eq_true h1) allN))))) (by kernel_rfl)
 ·replace h := jf h h1
  by_cases h2 : a1 < 0
  ·replace h := it h h2
   obtain ⟨h3, h⟩ := gd h; obtain ⟨t4, h4, h⟩ := bo h
   by_cases h5 : t4 = 0
   ·replace h := it h h5
    obtain rfl := oi h
    exact run_fr (n := 100) (orc := [.br false, .br true, .lp [] [0, 1] [] (.exit 0) [(0, .d (I t4))] [] 29, .br true]) (allC (eqt h5) (allC (loopF_to R_ref01_Divisor_L3 h4) (allC h3 (allC (decide_eq_true h2) (allC (decide_eq_false h1) allN))))) (by kernel_rfl)
   ·replace h := jf h h5
    obtain rfl := oi h
    exact run_fr (n := 100) (orc := [.br false, .br true, .lp [] [0, 1] [] (.exit 0) [(0, .d (I t4))] [] 29, .br false]) (allC (eqf h5) (allC (loopF_to R_ref01_Divisor_L3 h4) (allC h3 (allC (decide_eq_true h2) (allC (decide_eq_false h1) allN))))) (by kernel_rfl)
  ·replace h := jf h h2
   obtain ⟨t3, h3, h⟩ := bo h
   by_cases h4 : t3 = 0
   ·replace h := it h h4
    obtain rfl := oi h
    exact run_fr (n := 100) (orc := [.br false, .br false, .lp [] [0, 1] [] (.exit 0) [(0, .d (I t3))] [] 26, .br true]) (allC (eqt h4) (allC (loopF_to R_ref01_Divisor_L4 h3) (allC (decide_eq_false h2) (allC (decide_eq_false h1) allN)))) (by kernel_rfl)
   ·replace h := jf h h4
    obtain rfl := oi h
    exact run_fr (n := 100) (orc := [.br false, .br false, .lp [] [0, 1] [] (.exit 0) [(0, .d (I t3))] [] 26, .br false]) (allC (eqf h4) (allC (loopF_to R_ref01_Divisor_L4 h3) (allC (decide_eq_false h2) (allC (decide_eq_false h1) allN)))) (by kernel_rfl)
end Go.Proofs.YtiogobiijlaalaaDoor
