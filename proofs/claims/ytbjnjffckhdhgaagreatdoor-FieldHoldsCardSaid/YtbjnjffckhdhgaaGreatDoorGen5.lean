/-
  Printed by gsx.py: functions of the program as Lean functions, and that the code computes them.
-/
import Derived.Test.YtbjnjffckhdhgaaGreatDoorGen4
set_option linter.unusedVariables false
set_option maxRecDepth 10000
namespace Go.Proofs.YtbjnjffckhdhgaaGreatDoor
open Go.SX
def F_field_Apart (n : Nat) (a0 : List D) (a1 : List D) : Option (Int × Int × Int) :=
 (F_field_CheckPolygon n a0).bind fun t1 =>
 (F_field_CheckPolygon n a1).bind fun t2 =>
 (F_field_first n ([I t1, I t2])).bind fun t3 =>
 if t3 = 0 then
  (loopF (F_field_Apart_L2 n a0 a1) n 0).bind fun t5 => match t5 with
  | (.inl t5) => (
   (F_field_when_5 n).bind fun t6 =>
   some (0, t5, t6))
  | (.inr t5) => (
   (loopF (F_field_Apart_L4 n a0 a1) n 0).bind fun t6 => match t6 with
   | (.inl t6) => (
    (F_field_when_5 n).bind fun t7 =>
    some (1, t6, t7))
   | (.inr t6) => (
    (F_field_when_6 n).bind fun t7 =>
    some (0, 0, t7)))
 else
 some (0, 0, t3)
theorem c_field_Apart {n : Nat} {a0 : List D} {a1 : List D} {r : Int × Int × Int} (h : F_field_Apart n a0 a1 = some r) : Computes cx 15 [.lst false 2 a0, .lst false 2 a1] (.tup [.agg [I r.1, I r.2.1], I r.2.2]) := by
 unfold F_field_Apart at h
 obtain ⟨t1, h1, h⟩ := bo h; obtain ⟨t2, h2, h⟩ := bo h; obtain ⟨t3, h3, h⟩ := bo h
 by_cases h4 : t3 = 0
 ·replace h := it h h4
  obtain ⟨t5, h5, h⟩ := bo h
  rcases t5 with t5 | t5
  ·obtain ⟨t6, h6, h⟩ := bo h
   obtain rfl := oi h
   exact run_fr (n := 100) (orc := [.ret (I t1), .ret (I t2), .ret (I t3), .br false, .no, .no, .lp [] [4, 7, 8, 9, 10, 29, 30, 36, 37] [0, 11, 24] (.exit 0) [(4, .ptr 0 0 0 0 0), (7, .ptr 11 0 0 0 0), (8, .d (B true))] [(0, .box (.d (.agg [I 0, I 0]))), (11, .box (.d (.agg [I 0, I t5])))] 104, .ret (I t6)]) (allC (c_field_when_5 h6) (allC (loopF_to R_field_Apart_L2 h5) (allC (nef h4) (allC (((c_field_first h3).le (.cons (.full _ _ _) (.nil)) (.refl _)) : Computes cx 35 [.lst true 1 [I t1, I t2]] (I t3)) (allC (c_field_CheckPolygon h2) (allC (c_field_CheckPolygon h1) allN)))))) (by kernel_rfl)
  ·obtain ⟨t6, h6, h⟩ := bo h
   rcases t6 with t6 | t6
   ·obtain ⟨t7, h7, h⟩ := bo h
    obtain rfl := oi h
    exact run_fr (n := 100) (orc := [.ret (I t1), .ret (I t2), .ret (I t3), .br false, .no, .no, .lp [] [4, 7, 8, 9, 10, 29, 30, 36, 37] [0, 11, 24] (.exit 2) [(4, .ptr 0 0 0 0 0), (7, .ptr 11 0 0 0 0), (8, .d (B false)), (29, .d (.agg [.lst false 2 a0, .lst false 2 a1, .lst false 2 a1, .lst false 2 a0])), (30, .d (I 0))] [(0, .box (.d (.agg [I 0, I 0]))), (11, .box (.d (.agg [I 0, I 0])))] 104, .no, .no, .lp [] [4, 7, 8, 9, 10, 29, 30, 36, 37] [0, 11, 109] (.exit 0) [(4, .ptr 0 0 0 0 0), (7, .ptr 11 0 0 0 0), (8, .d (B true))] [(0, .box (.d (.agg [I 0, I 0]))), (11, .box (.d (.agg [I 1, I t6])))] 189, .ret (I t7)]) (allC (c_field_when_5 h7) (allC (loopF_to R_field_Apart_L4 h6) (allC ((by unfold inI64; omega) : inI64 1) (allC (loopF_to R_field_Apart_L2 h5) (allC (nef h4) (allC (((c_field_first h3).le (.cons (.full _ _ _) (.nil)) (.refl _)) : Computes cx 35 [.lst true 1 [I t1, I t2]] (I t3)) (allC (c_field_CheckPolygon h2) (allC (c_field_CheckPolygon h1) allN)))))))) (by kernel_rfl)
   ·obtain ⟨t7, h7, h⟩ := bo h
    obtain rfl := oi h
    exact run_fr (n := 100) (orc := [.ret (I t1), .ret (I t2), .ret (I t3), .br false, .no, .no, .lp [] [4, 7, 8, 9, 10, 29, 30, 36, 37] [0, 11, 24] (.exit 2) [(4, .ptr 0 0 0 0 0), (7, .ptr 11 0 0 0 0), (8, .d (B false)), (29, .d (.agg [.lst false 2 a0, .lst false 2 a1, .lst false 2 a1, .lst false 2 a0])), (30, .d (I 0))] [(0, .box (.d (.agg [I 0, I 0]))), (11, .box (.d (.agg [I 0, I 0])))] 104, .no, .no, .lp [] [4, 7, 8, 9, 10, 29, 30, 36, 37] [0, 11, 109] (.exit 2) [(4, .ptr 0 0 0 0 0), (7, .ptr 11 0 0 0 0), (8, .d (B false)), (29, .d (.agg [.lst false 2 a0, .lst false 2 a1, .lst false 2 a1, .lst false 2 a0])), (30, .d (I 1))] [(0, .box (.d (.agg [I 0, I 0]))), (11, .box (.d (.agg [I 0, I 0])))] 189, .no, .no, .ret (I t7)]) (allC (c_field_when_6 h7) (allC ((by unfold inI64; omega) : inI64 2) (allC (loopF_to R_field_Apart_L4 h6) (allC ((by unfold inI64; omega) : inI64 1) (allC (loopF_to R_field_Apart_L2 h5) (allC (nef h4) (allC (((c_field_first h3).le (.cons (.full _ _ _) (.nil)) (.refl _)) : Computes cx 35 [.lst true 1 [I t1, I t2]] (I t3)) (allC (c_field_CheckPolygon h2) (allC (c_field_CheckPolygon h1) allN))))))))) (by kernel_rfl)
 ·replace h := jf h h4
  obtain rfl := oi h
  exact run_fr (n := 100) (orc := [.ret (I t1), .ret (I t2), .ret (I t3), .br true]) (allC (net h4) (allC (((c_field_first h3).le (.cons (.full _ _ _) (.nil)) (.refl _)) : Computes cx 35 [.lst true 1 [I t1, I t2]] (I t3)) (allC (c_field_CheckPolygon h2) (allC (c_field_CheckPolygon h1) allN)))) (by kernel_rfl)
def F_field_Area_L1 (n : Nat) (a0 : List D) (sa : (Int × Int)) : Option (((Int × Int)) ⊕ ((Int))) :=
 if sa.2 < ((a0).length : Int) then
  (F_field_edge n a0 sa.2).bind fun ta2 =>
  if inI64 (ta2.1 * ta2.2.2.2) then
  if inI64 (ta2.2.1 * ta2.2.2.1) then
  if inI64 ((ta2.1 * ta2.2.2.2) - (ta2.2.1 * ta2.2.2.1)) then
  if inI64 (sa.1 + ((ta2.1 * ta2.2.2.2) - (ta2.2.1 * ta2.2.2.1))) then
  if inI64 (sa.2 + 1) then
  some (.inl ((sa.1 + ((ta2.1 * ta2.2.2.2) - (ta2.2.1 * ta2.2.2.1))), (sa.2 + 1)))
  else none
  else none
  else none
  else none
  else none
 else
 some (.inr sa.1)
noncomputable def T_field_Area_L1 (a0 : List D) (sa : (Int × Int)) : List (Nat × AV) := [(0, .d (.lst false 2 a0)), (5, .d (I sa.1)), (14, .d (I ((a0).length : Int))), (15, .d (I sa.2))]
noncomputable def H_field_Area_L1 (a0 : List D) (sa : (Int × Int)) : List (Nat × Blk) := []
noncomputable def X_field_Area_L1 (a0 : List D) (e : (Int)) : Ex := (.exit 0)
noncomputable def XT_field_Area_L1 (a0 : List D) (e : (Int)) : List (Nat × AV) := [(5, .d (I e))]
noncomputable def XH_field_Area_L1 (a0 : List D) (e : (Int)) : List (Nat × Blk) := []
theorem R_field_Area_L1 {n : Nat} {a0 : List D} (sa : (Int × Int)) (r) (h : F_field_Area_L1 n a0 sa = some r) : Rd cx (loopAt cx.P 14 0) 40 0 false (T_field_Area_L1 a0) (H_field_Area_L1 a0) (X_field_Area_L1 a0) (XT_field_Area_L1 a0) (XH_field_Area_L1 a0) sa r := by
 unfold F_field_Area_L1 at h
 by_cases ha1 : sa.2 < ((a0).length : Int)
 ·replace h := it h ha1
  obtain ⟨ta2, ha2, h⟩ := bo h; obtain ⟨ha3, h⟩ := gd h; obtain ⟨ha4, h⟩ := gd h; obtain ⟨ha5, h⟩ := gd h; obtain ⟨ha6, h⟩ := gd h; obtain ⟨ha7, h⟩ := gd h
  obtain rfl := oi h
  exact ⟨100, 11, [.br true, .ret (.agg [I ta2.1, I ta2.2.1, I ta2.2.2.1, I ta2.2.2.2])], [], [0, 5, 14, 15], [], round_fr (allC ha7 (allC ha6 (allC ha5 (allC ha4 (allC ha3 (allC (c_field_edge ha2) (allC (decide_eq_true ha1) allN))))))) (by kernel_rfl)⟩
 ·replace h := jf h ha1
  obtain rfl := oi h
  exact ⟨⟨100, 11, [.br false], [], [5], [], round_fr (allC (decide_eq_false ha1) allN) (by kernel_rfl)⟩, nofun⟩
def F_field_Area (n : Nat) (a0 : List D) : Option (Int × Int) :=
 (F_field_CheckPolygon n a0).bind fun t1 =>
 if t1 = 0 then
  (loopF (F_field_Area_L1 n a0) n (0, 0)).bind fun t3 =>
  some (t3, 0)
 else
 some (0, t1)
theorem c_field_Area {n : Nat} {a0 : List D} {r : Int × Int} (h : F_field_Area n a0 = some r) : Computes cx 14 [.lst false 2 a0] (.tup [I r.1, I r.2]) := by
 unfold F_field_Area at h
 obtain ⟨t1, h1, h⟩ := bo h
 by_cases h2 : t1 = 0
 ·replace h := it h h2
  obtain ⟨t3, h3, h⟩ := bo h
  obtain rfl := oi h
  exact run_fr (n := 100) (orc := [.ret (I t1), .br false, .lp [] [0, 5, 14, 15] [] (.exit 0) [(5, .d (I t3))] [] 50]) (allC (loopF_to R_field_Area_L1 h3) (allC (nef h2) (allC (c_field_CheckPolygon h1) allN))) (by kernel_rfl)
 ·replace h := jf h h2
  obtain rfl := oi h
  exact run_fr (n := 100) (orc := [.ret (I t1), .br true]) (allC (net h2) (allC (c_field_CheckPolygon h1) allN)) (by kernel_rfl)
def F_law04_points (n : Nat) (a0 : List D) : Option (List D) :=
 if roomP 16 (0 + (a0).length) then
 if isNilL a0 = true then
  some []
 else
 some a0
 else none
theorem c_law04_points {n : Nat} {a0 : List D} {r : List D} (h : F_law04_points n a0 = some r) : Computes cx 8 [.lst false 2 a0] (.lst false 2 r) := by
 unfold F_law04_points at h
 obtain ⟨h1, h⟩ := gd h
 by_cases h2 : isNilL a0 = true
 ·replace h := it h h2
  obtain rfl := oi h
  exact (run_fr (n := 100) (r := .lst true 2 []) (orc := [.br true, .br true]) (allC h2 (allC ((room_of (b := 16) (by kernel_rfl) (by decide) h1) : room cx 25 (0 + (a0).length)) allN)) (by kernel_rfl)).le (LEs.refl _) (.full _ _ _)
 ·replace h := jf h h2
  obtain rfl := oi h
  exact run_fr (n := 100) (orc := [.br true, .br false]) (allC (bfalse h2) (allC ((room_of (b := 16) (by kernel_rfl) (by decide) h1) : room cx 25 (0 + (a0).length)) allN)) (by kernel_rfl)
end Go.Proofs.YtbjnjffckhdhgaaGreatDoor
