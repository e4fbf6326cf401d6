/-
  Printed by gsx.py: functions of the program as Lean functions, and that the code computes them.
-/
import Derived.Test.YtiogobiijlaalaaDoorBase
set_option linter.unusedVariables false
set_option maxRecDepth 10000
namespace Go.Proofs.YtiogobiijlaalaaDoor
open Go.SX
def enc_i (x : Int) : D := I x
def un_i (d : D) : Option (Int) := un_int .i64 d
theorem un_i_ok {d : D} {x : Int} (h : un_i d = some x) : d = enc_i x := un_int_ok h
def F_light_first_L1 (n : Nat) (a0 : List D) (sa : (Int)) : Option (((Int)) ⊕ ((Int) ⊕ (Unit))) :=
 if sa < ((a0).length : Int) then
  (el un_i a0 sa).bind fun ta2 =>
  if ta2 = 0 then
  if inI64 (sa + 1) then
  some (.inl (sa + 1))
  else none
  else
  some (.inr (.inl ta2))
 else
 some (.inr (.inr ()))
noncomputable def T_light_first_L1 (a0 : List D) (sa : (Int)) : List (Nat × AV) := [(5, .d (.lst false 1 a0)), (6, .d (I ((a0).length : Int))), (7, .d (I sa))]
noncomputable def H_light_first_L1 (a0 : List D) (sa : (Int)) : List (Nat × Blk) := []
noncomputable def X_light_first_L1 (a0 : List D) (e : (Int) ⊕ (Unit)) : Ex := match e with
  | (.inl e) => .ret
  | (.inr e) => (.exit 0)
noncomputable def XT_light_first_L1 (a0 : List D) (e : (Int) ⊕ (Unit)) : List (Nat × AV) := match e with
  | (.inl e) => [(2, .d (I e))]
  | (.inr e) => []
noncomputable def XH_light_first_L1 (a0 : List D) (e : (Int) ⊕ (Unit)) : List (Nat × Blk) := match e with
  | (.inl e) => []
  | (.inr e) => []
theorem R_light_first_L1 {n : Nat} {a0 : List D} (sa : (Int)) (r) (h : F_light_first_L1 n a0 sa = some r) : Rd cx (loopAt cx.P 91 0) 15 0 false (T_light_first_L1 a0) (H_light_first_L1 a0) (X_light_first_L1 a0) (XT_light_first_L1 a0) (XH_light_first_L1 a0) sa r := by
 unfold F_light_first_L1 at h
 by_cases ha1 : sa < ((a0).length : Int)
 ·replace h := it h ha1
  obtain ⟨ta2, ha2, h⟩ := bo h
  by_cases ha3 : ta2 = 0
  ·replace h := it h ha3
   obtain ⟨ha4, h⟩ := gd h
   obtain rfl := oi h
   exact ⟨100, 4, [.br true, .el (enc_i ta2), .br false], [], [5, 6, 7], [], round_fr (allC ha4 (allC (nef ha3) (allC (el_ok un_i_ok ha2).1 (allC (el_ok un_i_ok ha2).2 (allC (decide_eq_true ha1) allN))))) (by kernel_rfl)⟩
  ·replace h := jf h ha3
   obtain rfl := oi h
   exact ⟨⟨100, 4, [.br true, .el (enc_i ta2), .br true], [], [2], [], round_fr (allC (net ha3) (allC (el_ok un_i_ok ha2).1 (allC (el_ok un_i_ok ha2).2 (allC (decide_eq_true ha1) allN)))) (by kernel_rfl)⟩, nofun⟩
 ·replace h := jf h ha1
  obtain rfl := oi h
  exact ⟨⟨100, 4, [.br false], [], [], [], round_fr (allC (decide_eq_false ha1) allN) (by kernel_rfl)⟩, nofun⟩
def F_light_first (n : Nat) (a0 : List D) : Option (Int) :=
 (loopF (F_light_first_L1 n a0) n 0).bind fun t1 => match t1 with
  | (.inl t1) => (
  some t1)
  | (.inr t1) => (
  some 0)
theorem c_light_first {n : Nat} {a0 : List D} {r : Int} (h : F_light_first n a0 = some r) : Computes cx 91 [.lst false 1 a0] (I r) := by
 unfold F_light_first at h
 obtain ⟨t1, h1, h⟩ := bo h
 rcases t1 with t1 | t1
 ·obtain rfl := oi h
  exact run_fr (n := 100) (orc := [.lp [] [5, 6, 7] [] .ret [(2, .d (I t1))] [] 23]) (allC (loopF_to R_light_first_L1 h1) allN) (by kernel_rfl)
 ·obtain rfl := oi h
  exact run_fr (n := 100) (orc := [.lp [] [5, 6, 7] [] (.exit 0) [] [] 23]) (allC (loopF_to R_light_first_L1 h1) allN) (by kernel_rfl)
def F_sun_when (n : Nat) (a0 : Bool) (a1 : Int) : Option (Int) :=
 if a0 = true then
  some a1
 else
 some 0
theorem c_sun_when {n : Nat} {a0 : Bool} {a1 : Int} {r : Int} (h : F_sun_when n a0 a1 = some r) : Computes cx 36 [B a0, I a1] (I r) := by
 unfold F_sun_when at h
 by_cases h1 : a0 = true
 ·replace h := it h h1
  obtain rfl := oi h
  exact run_fr (n := 100) (orc := [.br true]) (allC h1 allN) (by kernel_rfl)
 ·replace h := jf h h1
  obtain rfl := oi h
  exact run_fr (n := 100) (orc := [.br false]) (allC (bfalse h1) allN) (by kernel_rfl)
def F_sun_first_L1 (n : Nat) (a0 : List D) (sa : (Int)) : Option (((Int)) ⊕ ((Int) ⊕ (Unit))) :=
 if sa < ((a0).length : Int) then
  (el un_i a0 sa).bind fun ta2 =>
  if ta2 = 0 then
  if inI64 (sa + 1) then
  some (.inl (sa + 1))
  else none
  else
  some (.inr (.inl ta2))
 else
 some (.inr (.inr ()))
noncomputable def T_sun_first_L1 (a0 : List D) (sa : (Int)) : List (Nat × AV) := [(5, .d (.lst false 1 a0)), (6, .d (I ((a0).length : Int))), (7, .d (I sa))]
noncomputable def H_sun_first_L1 (a0 : List D) (sa : (Int)) : List (Nat × Blk) := []
noncomputable def X_sun_first_L1 (a0 : List D) (e : (Int) ⊕ (Unit)) : Ex := match e with
  | (.inl e) => .ret
  | (.inr e) => (.exit 0)
noncomputable def XT_sun_first_L1 (a0 : List D) (e : (Int) ⊕ (Unit)) : List (Nat × AV) := match e with
  | (.inl e) => [(2, .d (I e))]
  | (.inr e) => []
noncomputable def XH_sun_first_L1 (a0 : List D) (e : (Int) ⊕ (Unit)) : List (Nat × Blk) := match e with
  | (.inl e) => []
  | (.inr e) => []
theorem R_sun_first_L1 {n : Nat} {a0 : List D} (sa : (Int)) (r) (h : F_sun_first_L1 n a0 sa = some r) : Rd cx (loopAt cx.P 32 0) 15 0 false (T_sun_first_L1 a0) (H_sun_first_L1 a0) (X_sun_first_L1 a0) (XT_sun_first_L1 a0) (XH_sun_first_L1 a0) sa r := by
 unfold F_sun_first_L1 at h
 by_cases ha1 : sa < ((a0).length : Int)
 ·replace h := it h ha1
  obtain ⟨ta2, ha2, h⟩ := bo h
  by_cases ha3 : ta2 = 0
  ·replace h := it h ha3
   obtain ⟨ha4, h⟩ := gd h
   obtain rfl := oi h
   exact ⟨100, 4, [.br true, .el (enc_i ta2), .br false], [], [5, 6, 7], [], round_fr (allC ha4 (allC (nef ha3) (allC (el_ok un_i_ok ha2).1 (allC (el_ok un_i_ok ha2).2 (allC (decide_eq_true ha1) allN))))) (by kernel_rfl)⟩
  ·replace h := jf h ha3
   obtain rfl := oi h
   exact ⟨⟨100, 4, [.br true, .el (enc_i ta2), .br true], [], [2], [], round_fr (allC (net ha3) (allC (el_ok un_i_ok ha2).1 (allC (el_ok un_i_ok ha2).2 (allC (decide_eq_true ha1) allN)))) (by kernel_rfl)⟩, nofun⟩
 ·replace h := jf h ha1
  obtain rfl := oi h
  exact ⟨⟨100, 4, [.br false], [], [], [], round_fr (allC (decide_eq_false ha1) allN) (by kernel_rfl)⟩, nofun⟩
def F_sun_first (n : Nat) (a0 : List D) : Option (Int) :=
 (loopF (F_sun_first_L1 n a0) n 0).bind fun t1 => match t1 with
  | (.inl t1) => (
  some t1)
  | (.inr t1) => (
  some 0)
theorem c_sun_first {n : Nat} {a0 : List D} {r : Int} (h : F_sun_first n a0 = some r) : Computes cx 32 [.lst false 1 a0] (I r) := by
 unfold F_sun_first at h
 obtain ⟨t1, h1, h⟩ := bo h
 rcases t1 with t1 | t1
 ·obtain rfl := oi h
  exact run_fr (n := 100) (orc := [.lp [] [5, 6, 7] [] .ret [(2, .d (I t1))] [] 23]) (allC (loopF_to R_sun_first_L1 h1) allN) (by kernel_rfl)
 ·obtain rfl := oi h
  exact run_fr (n := 100) (orc := [.lp [] [5, 6, 7] [] (.exit 0) [] [] 23]) (allC (loopF_to R_sun_first_L1 h1) allN) (by kernel_rfl)
def F_sun_root_L1 (n : Nat) (a0 : Int) (sa : (Int × Int)) : Option (((Int × Int)) ⊕ ((Int))) :=
 if sa.1 < sa.2 then
  if inI64 (sa.1 + sa.2) then
  if inI64 ((sa.1 + sa.2) + 1) then
  if inI64 (Int.tdiv ((sa.1 + sa.2) + 1) 2) then
  if inI64 ((Int.tdiv ((sa.1 + sa.2) + 1) 2) * (Int.tdiv ((sa.1 + sa.2) + 1) 2)) then
  if ((Int.tdiv ((sa.1 + sa.2) + 1) 2) * (Int.tdiv ((sa.1 + sa.2) + 1) 2)) > a0 then
  if inI64 ((Int.tdiv ((sa.1 + sa.2) + 1) 2) - 1) then
  some (.inl (sa.1, ((Int.tdiv ((sa.1 + sa.2) + 1) 2) - 1)))
  else none
  else
  some (.inl ((Int.tdiv ((sa.1 + sa.2) + 1) 2), sa.2))
  else none
  else none
  else none
  else none
 else
 some (.inr sa.1)
noncomputable def T_sun_root_L1 (a0 : Int) (sa : (Int × Int)) : List (Nat × AV) := [(0, .d (I a0)), (3, .d (I sa.1)), (4, .d (I sa.2))]
noncomputable def H_sun_root_L1 (a0 : Int) (sa : (Int × Int)) : List (Nat × Blk) := []
noncomputable def X_sun_root_L1 (a0 : Int) (e : (Int)) : Ex := (.exit 0)
noncomputable def XT_sun_root_L1 (a0 : Int) (e : (Int)) : List (Nat × AV) := [(3, .d (I e))]
noncomputable def XH_sun_root_L1 (a0 : Int) (e : (Int)) : List (Nat × Blk) := []
theorem R_sun_root_L1 {n : Nat} {a0 : Int} (sa : (Int × Int)) (r) (h : F_sun_root_L1 n a0 sa = some r) : Rd cx (loopAt cx.P 78 0) 23 0 false (T_sun_root_L1 a0) (H_sun_root_L1 a0) (X_sun_root_L1 a0) (XT_sun_root_L1 a0) (XH_sun_root_L1 a0) sa r := by
 unfold F_sun_root_L1 at h
 by_cases ha1 : sa.1 < sa.2
 ·replace h := it h ha1
  obtain ⟨ha2, h⟩ := gd h; obtain ⟨ha3, h⟩ := gd h; obtain ⟨ha4, h⟩ := gd h; obtain ⟨ha5, h⟩ := gd h
  by_cases ha6 : ((Int.tdiv ((sa.1 + sa.2) + 1) 2) * (Int.tdiv ((sa.1 + sa.2) + 1) 2)) > a0
  ·replace h := it h ha6
   obtain ⟨ha7, h⟩ := gd h
   obtain rfl := oi h
   exact ⟨100, 3, [.br true, .br true], [], [0, 3, 4], [], round_fr (allC ha7 (allC (decide_eq_true ha6) (allC ha5 (allC ((by decide) : (2 : Int) ≠ 0) (allC ha4 (allC ha3 (allC ha2 (allC (decide_eq_true ha1) allN)))))))) (by kernel_rfl)⟩
  ·replace h := jf h ha6
   obtain rfl := oi h
   exact ⟨100, 3, [.br true, .br false], [], [0, 3, 4], [], round_fr (allC (decide_eq_false ha6) (allC ha5 (allC ((by decide) : (2 : Int) ≠ 0) (allC ha4 (allC ha3 (allC ha2 (allC (decide_eq_true ha1) allN))))))) (by kernel_rfl)⟩
 ·replace h := jf h ha1
  obtain rfl := oi h
  exact ⟨⟨100, 3, [.br false], [], [3], [], round_fr (allC (decide_eq_false ha1) allN) (by kernel_rfl)⟩, nofun⟩
def F_sun_root (n : Nat) (a0 : Int) : Option (Int) :=
 (loopF (F_sun_root_L1 n a0) n (0, 65536)).bind fun t1 =>
 some t1
theorem c_sun_root {n : Nat} {a0 : Int} {r : Int} (h : F_sun_root n a0 = some r) : Computes cx 78 [I a0] (I r) := by
 unfold F_sun_root at h
 obtain ⟨t1, h1, h⟩ := bo h
 obtain rfl := oi h
 exact run_fr (n := 100) (orc := [.lp [] [0, 3, 4] [] (.exit 0) [(3, .d (I t1))] [] 31]) (allC (loopF_to R_sun_root_L1 h1) allN) (by kernel_rfl)
def F_sun_parts_3 (n : Nat) (a0 : Int) (a1 : Int) (a2 : Int) : Option (Int × Int × Int) :=
 some (a0, a1, a2)
theorem c_sun_parts_3 {n : Nat} {a0 : Int} {a1 : Int} {a2 : Int} {r : Int × Int × Int} (h : F_sun_parts_3 n a0 a1 a2 = some r) : Computes cx 79 [.agg [I a0, I a1, I a2]] (.agg [I r.1, I r.2.1, I r.2.2]) := by
 unfold F_sun_parts_3 at h
 obtain rfl := oi h
 exact run_fr (n := 100) (orc := []) allN (by kernel_rfl)
def F_sun_cross_2 (n : Nat) (a0 : Int) (a1 : Int) (a2 : Int) (a3 : Int) (a4 : Int) (a5 : Int) : Option (Int × Int × Int) :=
 if inI64 (a1 * a5) then
 if inI64 (a2 * a4) then
 if inI64 ((a1 * a5) - (a2 * a4)) then
 if inI64 (a2 * a3) then
 if inI64 (a0 * a5) then
 if inI64 ((a2 * a3) - (a0 * a5)) then
 if inI64 (a0 * a4) then
 if inI64 (a1 * a3) then
 if inI64 ((a0 * a4) - (a1 * a3)) then
 some (((a1 * a5) - (a2 * a4)), ((a2 * a3) - (a0 * a5)), ((a0 * a4) - (a1 * a3)))
 else none
 else none
 else none
 else none
 else none
 else none
 else none
 else none
 else none
theorem c_sun_cross_2 {n : Nat} {a0 : Int} {a1 : Int} {a2 : Int} {a3 : Int} {a4 : Int} {a5 : Int} {r : Int × Int × Int} (h : F_sun_cross_2 n a0 a1 a2 a3 a4 a5 = some r) : Computes cx 49 [.agg [I a0, I a1, I a2], .agg [I a3, I a4, I a5]] (.agg [I r.1, I r.2.1, I r.2.2]) := by
 unfold F_sun_cross_2 at h
 obtain ⟨h1, h⟩ := gd h; obtain ⟨h2, h⟩ := gd h; obtain ⟨h3, h⟩ := gd h; obtain ⟨h4, h⟩ := gd h; obtain ⟨h5, h⟩ := gd h; obtain ⟨h6, h⟩ := gd h; obtain ⟨h7, h⟩ := gd h; obtain ⟨h8, h⟩ := gd h; obtain ⟨h9, h⟩ := gd h
 obtain rfl := oi h
 exact run_fr (n := 100) (orc := []) (allC h9 (allC h8 (allC h7 (allC h6 (allC h5 (allC h4 (allC h3 (allC h2 (allC h1 allN))))))))) (by kernel_rfl)
def F_sun_dot_4 (n : Nat) (a0 : Int) (a1 : Int) (a2 : Int) (a3 : Int) (a4 : Int) (a5 : Int) : Option (Int) :=
 if inI64 (a0 * a3) then
 if inI64 (a1 * a4) then
 if inI64 ((a0 * a3) + (a1 * a4)) then
 if inI64 (a2 * a5) then
 if inI64 (((a0 * a3) + (a1 * a4)) + (a2 * a5)) then
 some (((a0 * a3) + (a1 * a4)) + (a2 * a5))
 else none
 else none
 else none
 else none
 else none
theorem c_sun_dot_4 {n : Nat} {a0 : Int} {a1 : Int} {a2 : Int} {a3 : Int} {a4 : Int} {a5 : Int} {r : Int} (h : F_sun_dot_4 n a0 a1 a2 a3 a4 a5 = some r) : Computes cx 53 [.agg [I a0, I a1, I a2], .agg [I a3, I a4, I a5]] (I r) := by
 unfold F_sun_dot_4 at h
 obtain ⟨h1, h⟩ := gd h; obtain ⟨h2, h⟩ := gd h; obtain ⟨h3, h⟩ := gd h; obtain ⟨h4, h⟩ := gd h; obtain ⟨h5, h⟩ := gd h
 obtain rfl := oi h
 exact run_fr (n := 100) (orc := []) (allC h5 (allC h4 (allC h3 (allC h2 (allC h1 allN))))) (by kernel_rfl)
def F_sun_opposite_2 (n : Nat) (a0 : Int) (a1 : Int) (a2 : Int) (a3 : Int) (a4 : Int) (a5 : Int) : Option (Bool) :=
 (F_sun_cross_2 n a0 a1 a2 a3 a4 a5).bind fun t1 =>
 (F_sun_parts_3 n t1.1 t1.2.1 t1.2.2).bind fun t2 =>
 if ((t2.1 == 0) && ((t2.2.1 == 0) && ((t2.2.2 == 0) && true))) = true then
  (F_sun_dot_4 n a0 a1 a2 a3 a4 a5).bind fun t4 =>
  some (decide (t4 < 0))
 else
 some false
theorem c_sun_opposite_2 {n : Nat} {a0 : Int} {a1 : Int} {a2 : Int} {a3 : Int} {a4 : Int} {a5 : Int} {r : Bool} (h : F_sun_opposite_2 n a0 a1 a2 a3 a4 a5 = some r) : Computes cx 44 [.agg [I a0, I a1, I a2], .agg [I a3, I a4, I a5]] (B r) := by
 unfold F_sun_opposite_2 at h
 obtain ⟨t1, h1, h⟩ := bo h; obtain ⟨t2, h2, h⟩ := bo h
 by_cases h3 : ((t2.1 == 0) && ((t2.2.1 == 0) && ((t2.2.2 == 0) && true))) = true
 ·replace h := it h h3
  obtain ⟨t4, h4, h⟩ := bo h
  obtain rfl := oi h
  exact run_fr (n := 100) (orc := [.ret (.agg [I t1.1, I t1.2.1, I t1.2.2]), .ret (.agg [I t2.1, I t2.2.1, I t2.2.2]), .br true, .ret (I t4)]) (allC (c_sun_dot_4 h4) (allC h3 (allC (c_sun_parts_3 h2) (allC (c_sun_cross_2 h1) allN)))) (by kernel_rfl)
 ·replace h := jf h h3
  obtain rfl := oi h
  exact run_fr (n := 100) (orc := [.ret (.agg [I t1.1, I t1.2.1, I t1.2.2]), .ret (.agg [I t2.1, I t2.2.1, I t2.2.2]), .br false]) (allC (bfalse h3) (allC (c_sun_parts_3 h2) (allC (c_sun_cross_2 h1) allN))) (by kernel_rfl)
def F_sun_sum (n : Nat) (a0 : Int) (a1 : Int) (a2 : Int) (a3 : Int) (a4 : Int) (a5 : Int) (a6 : Int) (a7 : Int) : Option (Int × Int × Int) :=
 if inI64 (a0 * a1) then
 if inI64 (a4 * a5) then
 if inI64 ((a0 * a1) + (a4 * a5)) then
 if inI64 (a0 * a2) then
 if inI64 (a4 * a6) then
 if inI64 ((a0 * a2) + (a4 * a6)) then
 if inI64 (a0 * a3) then
 if inI64 (a4 * a7) then
 if inI64 ((a0 * a3) + (a4 * a7)) then
 some (((a0 * a1) + (a4 * a5)), ((a0 * a2) + (a4 * a6)), ((a0 * a3) + (a4 * a7)))
 else none
 else none
 else none
 else none
 else none
 else none
 else none
 else none
 else none
theorem c_sun_sum {n : Nat} {a0 : Int} {a1 : Int} {a2 : Int} {a3 : Int} {a4 : Int} {a5 : Int} {a6 : Int} {a7 : Int} {r : Int × Int × Int} (h : F_sun_sum n a0 a1 a2 a3 a4 a5 a6 a7 = some r) : Computes cx 46 [I a0, .agg [I a1, I a2, I a3], I a4, .agg [I a5, I a6, I a7]] (.agg [I r.1, I r.2.1, I r.2.2]) := by
 unfold F_sun_sum at h
 obtain ⟨h1, h⟩ := gd h; obtain ⟨h2, h⟩ := gd h; obtain ⟨h3, h⟩ := gd h; obtain ⟨h4, h⟩ := gd h; obtain ⟨h5, h⟩ := gd h; obtain ⟨h6, h⟩ := gd h; obtain ⟨h7, h⟩ := gd h; obtain ⟨h8, h⟩ := gd h; obtain ⟨h9, h⟩ := gd h
 obtain rfl := oi h
 exact run_fr (n := 100) (orc := []) (allC h9 (allC h8 (allC h7 (allC h6 (allC h5 (allC h4 (allC h3 (allC h2 (allC h1 allN))))))))) (by kernel_rfl)
def F_sun_common_L1 (n : Nat)  (sa : (Int × Int)) : Option (((Int × Int)) ⊕ ((Int))) :=
 if sa.2 = 0 then
  some (.inr sa.1)
 else
 if sa.2 ≠ 0 then
 some (.inl (sa.2, (Int.tmod sa.1 sa.2)))
 else none
noncomputable def T_sun_common_L1  (sa : (Int × Int)) : List (Nat × AV) := [(0, .d (I sa.1)), (1, .d (I sa.2))]
noncomputable def H_sun_common_L1  (sa : (Int × Int)) : List (Nat × Blk) := []
noncomputable def X_sun_common_L1  (e : (Int)) : Ex := (.exit 0)
noncomputable def XT_sun_common_L1  (e : (Int)) : List (Nat × AV) := [(0, .d (I e))]
noncomputable def XH_sun_common_L1  (e : (Int)) : List (Nat × Blk) := []
theorem R_sun_common_L1 {n : Nat}  (sa : (Int × Int)) (r) (h : F_sun_common_L1 n  sa = some r) : Rd cx (loopAt cx.P 80 0) 15 0 false (T_sun_common_L1 ) (H_sun_common_L1 ) (X_sun_common_L1 ) (XT_sun_common_L1 ) (XH_sun_common_L1 ) sa r := by
 unfold F_sun_common_L1 at h
 by_cases ha1 : sa.2 = 0
 ·replace h := it h ha1
  obtain rfl := oi h
  exact ⟨⟨100, 1, [.br false], [], [0], [], round_fr (allC (nef ha1) allN) (by kernel_rfl)⟩, nofun⟩
 ·replace h := jf h ha1
  obtain ⟨ha2, h⟩ := gd h
  obtain rfl := oi h
  exact ⟨100, 1, [.br true], [], [0, 1], [], round_fr (allC ha2 (allC (net ha1) allN)) (by kernel_rfl)⟩
def F_sun_common (n : Nat) (a0 : Int) (a1 : Int) : Option (Int) :=
 (loopF (F_sun_common_L1 n) n (a0, a1)).bind fun t1 =>
 some (maxI t1 (IntKind.wrap .i64 (0 - t1)))
theorem c_sun_common {n : Nat} {a0 : Int} {a1 : Int} {r : Int} (h : F_sun_common n a0 a1 = some r) : Computes cx 80 [I a0, I a1] (I r) := by
 unfold F_sun_common at h
 obtain ⟨t1, h1, h⟩ := bo h
 obtain rfl := oi h
 exact run_fr (n := 100) (orc := [.lp [] [0, 1] [] (.exit 0) [(0, .d (I t1))] [] 20]) (allC (loopF_to R_sun_common_L1 h1) allN) (by kernel_rfl)
def F_sun_vector (n : Nat) (a0 : Int) (a1 : Int) (a2 : Int) : Option (Int × Int × Int) :=
 some (a0, a1, a2)
theorem c_sun_vector {n : Nat} {a0 : Int} {a1 : Int} {a2 : Int} {r : Int × Int × Int} (h : F_sun_vector n a0 a1 a2 = some r) : Computes cx 81 [.agg [I a0, I a1, I a2]] (.agg [I r.1, I r.2.1, I r.2.2]) := by
 unfold F_sun_vector at h
 obtain rfl := oi h
 exact run_fr (n := 100) (orc := []) allN (by kernel_rfl)
def F_sun_reduced (n : Nat) (a0 : Int) (a1 : Int) (a2 : Int) : Option (Int × Int × Int) :=
 (F_sun_parts_3 n a0 a1 a2).bind fun t1 =>
 (F_sun_common n 0 t1.1).bind fun t2 =>
 (F_sun_common n t2 t1.2.1).bind fun t3 =>
 (F_sun_common n t3 t1.2.2).bind fun t4 =>
 if t4 = 0 then
  some (a0, a1, a2)
 else
 if t4 ≠ 0 then
 if inI64 (Int.tdiv t1.1 t4) then
 if inI64 (Int.tdiv t1.2.1 t4) then
 if inI64 (Int.tdiv t1.2.2 t4) then
 (F_sun_vector n (Int.tdiv t1.1 t4) (Int.tdiv t1.2.1 t4) (Int.tdiv t1.2.2 t4)).bind fun t10 =>
 some (t10.1, t10.2.1, t10.2.2)
 else none
 else none
 else none
 else none
theorem c_sun_reduced {n : Nat} {a0 : Int} {a1 : Int} {a2 : Int} {r : Int × Int × Int} (h : F_sun_reduced n a0 a1 a2 = some r) : Computes cx 50 [.agg [I a0, I a1, I a2]] (.agg [I r.1, I r.2.1, I r.2.2]) := by
 unfold F_sun_reduced at h
 obtain ⟨t1, h1, h⟩ := bo h; obtain ⟨t2, h2, h⟩ := bo h; obtain ⟨t3, h3, h⟩ := bo h; obtain ⟨t4, h4, h⟩ := bo h
 by_cases h5 : t4 = 0
 ·replace h := it h h5
  obtain rfl := oi h
  exact run_fr (n := 100) (orc := [.ret (.agg [I t1.1, I t1.2.1, I t1.2.2]), .no, .no, .ret (I t2), .no, .no, .ret (I t3), .no, .no, .ret (I t4), .no, .no, .br true]) (allC (eqt h5) (allC ((by unfold inI64; omega) : inI64 3) (allC (c_sun_common h4) (allC ((by unfold inI64; omega) : inI64 2) (allC (c_sun_common h3) (allC ((by unfold inI64; omega) : inI64 1) (allC (c_sun_common h2) (allC (c_sun_parts_3 h1) allN)))))))) (by kernel_rfl)
 ·replace h := jf h h5
  obtain ⟨h6, h⟩ := gd h; obtain ⟨h7, h⟩ := gd h; obtain ⟨h8, h⟩ := gd h; obtain ⟨h9, h⟩ := gd h; obtain ⟨t10, h10, h⟩ := bo h
  obtain rfl := oi h
  exact run_fr (n := 100) (orc := [.ret (.agg [I t1.1, I t1.2.1, I t1.2.2]), .no, .no, .ret (I t2), .no, .no, .ret (I t3), .no, .no, .ret (I t4), .no, .no, .br false, .no, .no, .no, .no, .no, .no, .no, .no, .ret (.agg [I t10.1, I t10.2.1, I t10.2.2])]) (allC (c_sun_vector h10) (allC ((by unfold inI64; omega) : inI64 3) (allC h6 (allC h9 (allC ((by unfold inI64; omega) : inI64 2) (allC h6 (allC h8 (allC ((by unfold inI64; omega) : inI64 1) (allC h6 (allC h7 (allC (eqf h5) (allC ((by unfold inI64; omega) : inI64 3) (allC (c_sun_common h4) (allC ((by unfold inI64; omega) : inI64 2) (allC (c_sun_common h3) (allC ((by unfold inI64; omega) : inI64 1) (allC (c_sun_common h2) (allC (c_sun_parts_3 h1) allN)))))))))))))))))) (by kernel_rfl)
def F_sun_far_3 (n : Nat) (a0 : Int) (a1 : Int) (a2 : Int) : Option (Int) :=
 (F_sun_parts_3 n a0 a1 a2).bind fun t1 =>
 some (maxI (maxI (maxI (maxI (maxI (maxI 0 t1.1) (IntKind.wrap .i64 (0 - t1.1))) t1.2.1) (IntKind.wrap .i64 (0 - t1.2.1))) t1.2.2) (IntKind.wrap .i64 (0 - t1.2.2)))
theorem c_sun_far_3 {n : Nat} {a0 : Int} {a1 : Int} {a2 : Int} {r : Int} (h : F_sun_far_3 n a0 a1 a2 = some r) : Computes cx 77 [.agg [I a0, I a1, I a2]] (I r) := by
 unfold F_sun_far_3 at h
 obtain ⟨t1, h1, h⟩ := bo h
 obtain rfl := oi h
 exact run_fr (n := 100) (orc := [.ret (.agg [I t1.1, I t1.2.1, I t1.2.2]), .no, .no, .no, .no, .no, .no, .no, .no]) (allC ((by unfold inI64; omega) : inI64 3) (allC ((by unfold inI64; omega) : inI64 2) (allC ((by unfold inI64; omega) : inI64 1) (allC (c_sun_parts_3 h1) allN)))) (by kernel_rfl)
def F_sun_small (n : Nat) (a0 : Int) (a1 : Int) (a2 : Int) : Option (Int × Int × Int × Int) :=
 (F_sun_reduced n a0 a1 a2).bind fun t1 =>
 (F_sun_far_3 n t1.1 t1.2.1 t1.2.2).bind fun t2 =>
 if t2 > 4096 then
  some (0, 0, 0, 4)
 else
 some (t1.1, t1.2.1, t1.2.2, 0)
theorem c_sun_small {n : Nat} {a0 : Int} {a1 : Int} {a2 : Int} {r : Int × Int × Int × Int} (h : F_sun_small n a0 a1 a2 = some r) : Computes cx 45 [.agg [I a0, I a1, I a2]] (.tup [.agg [I r.1, I r.2.1, I r.2.2.1], I r.2.2.2]) := by
 unfold F_sun_small at h
 obtain ⟨t1, h1, h⟩ := bo h; obtain ⟨t2, h2, h⟩ := bo h
 by_cases h3 : t2 > 4096
 ·replace h := it h h3
  obtain rfl := oi h
  exact run_fr (n := 100) (orc := [.ret (.agg [I t1.1, I t1.2.1, I t1.2.2]), .ret (I t2), .br true]) (allC (decide_eq_true h3) (allC (c_sun_far_3 h2) (allC (c_sun_reduced h1) allN))) (by kernel_rfl)
 ·replace h := jf h h3
  obtain rfl := oi h
  exact run_fr (n := 100) (orc := [.ret (.agg [I t1.1, I t1.2.1, I t1.2.2]), .ret (I t2), .br false]) (allC (decide_eq_false h3) (allC (c_sun_far_3 h2) (allC (c_sun_reduced h1) allN))) (by kernel_rfl)
def F_sun_when_2 (n : Nat)  : Option (Int) :=
 some 1
theorem c_sun_when_2 {n : Nat}  {r : Int} (h : F_sun_when_2 n  = some r) : Computes cx 36 [B true, I 1] (I r) := by
 unfold F_sun_when_2 at h
 obtain rfl := oi h
 exact run_fr (n := 100) (orc := [.no]) allN (by kernel_rfl)
def F_light_when_3 (n : Nat)  : Option (Int) :=
 some 3
theorem c_light_when_3 {n : Nat}  {r : Int} (h : F_light_when_3 n  = some r) : Computes cx 93 [B true, I 3] (I r) := by
 unfold F_light_when_3 at h
 obtain rfl := oi h
 exact run_fr (n := 100) (orc := [.no]) allN (by kernel_rfl)
def F_light_when_4 (n : Nat) (a0 : Bool) (a1 : Int) : Option (Int) :=
 if a0 = true then
  some a1
 else
 some 0
theorem c_light_when_4 {n : Nat} {a0 : Bool} {a1 : Int} {r : Int} (h : F_light_when_4 n a0 a1 = some r) : Computes cx 93 [B a0, I a1] (I r) := by
 unfold F_light_when_4 at h
 by_cases h1 : a0 = true
 ·replace h := it h h1
  obtain rfl := oi h
  exact run_fr (n := 100) (orc := [.br true]) (allC h1 allN) (by kernel_rfl)
 ·replace h := jf h h1
  obtain rfl := oi h
  exact run_fr (n := 100) (orc := [.br false]) (allC (bfalse h1) allN) (by kernel_rfl)
def F_light_within_4 (n : Nat) (a0 : Int) (a1 : Int) (a2 : Int) : Option (Int) :=
 if a0 < a1 then
  (F_light_when_3 n).bind fun t2 =>
  some t2
 else
 (F_light_when_4 n (decide (a0 > a2)) 3).bind fun t2 =>
 some t2
theorem c_light_within_4 {n : Nat} {a0 : Int} {a1 : Int} {a2 : Int} {r : Int} (h : F_light_within_4 n a0 a1 a2 = some r) : Computes cx 102 [I a0, I a1, I a2] (I r) := by
 unfold F_light_within_4 at h
 by_cases h1 : a0 < a1
 ·replace h := it h h1
  obtain ⟨t2, h2, h⟩ := bo h
  obtain rfl := oi h
  exact run_fr (n := 100) (orc := [.br true, .ret (I t2)]) (allC (c_light_when_3 h2) (allC (decide_eq_true h1) allN)) (by kernel_rfl)
 ·replace h := jf h h1
  obtain ⟨t2, h2, h⟩ := bo h
  obtain rfl := oi h
  exact run_fr (n := 100) (orc := [.br false, .ret (I t2)]) (allC (c_light_when_4 h2) (allC (decide_eq_false h1) allN)) (by kernel_rfl)
def F_light_CheckVector_3 (n : Nat) (a0 : Int) (a1 : Int) (a2 : Int) : Option (Int) :=
 (F_light_within_4 n a0 (-1048576) 1048576).bind fun t1 =>
 (F_light_within_4 n a1 (-1048576) 1048576).bind fun t2 =>
 (F_light_within_4 n a2 (-1048576) 1048576).bind fun t3 =>
 (F_light_first n ([I t1, I t2, I t3])).bind fun t4 =>
 some t4
theorem c_light_CheckVector_3 {n : Nat} {a0 : Int} {a1 : Int} {a2 : Int} {r : Int} (h : F_light_CheckVector_3 n a0 a1 a2 = some r) : Computes cx 92 [.agg [I a0, I a1, I a2]] (I r) := by
 unfold F_light_CheckVector_3 at h
 obtain ⟨t1, h1, h⟩ := bo h; obtain ⟨t2, h2, h⟩ := bo h; obtain ⟨t3, h3, h⟩ := bo h; obtain ⟨t4, h4, h⟩ := bo h
 obtain rfl := oi h
 exact run_fr (n := 100) (orc := [.ret (I t1), .ret (I t2), .ret (I t3), .ret (I t4)]) (allC (((c_light_first h4).le (.cons (.full _ _ _) (.nil)) (.refl _)) : Computes cx 91 [.lst true 1 [I t1, I t2, I t3]] (I t4)) (allC (c_light_within_4 h3) (allC (c_light_within_4 h2) (allC (c_light_within_4 h1) allN)))) (by kernel_rfl)
def F_light_CheckDirection_3 (n : Nat) (a0 : Int) (a1 : Int) (a2 : Int) : Option (Int) :=
 (F_light_CheckVector_3 n a0 a1 a2).bind fun t1 =>
 (F_light_when_4 n ((a0 == 0) && ((a1 == 0) && ((a2 == 0) && true))) 6).bind fun t2 =>
 (F_light_first n ([I t1, I t2])).bind fun t3 =>
 some t3
theorem c_light_CheckDirection_3 {n : Nat} {a0 : Int} {a1 : Int} {a2 : Int} {r : Int} (h : F_light_CheckDirection_3 n a0 a1 a2 = some r) : Computes cx 76 [.agg [I a0, I a1, I a2]] (I r) := by
 unfold F_light_CheckDirection_3 at h
 obtain ⟨t1, h1, h⟩ := bo h; obtain ⟨t2, h2, h⟩ := bo h; obtain ⟨t3, h3, h⟩ := bo h
 obtain rfl := oi h
 exact run_fr (n := 100) (orc := [.ret (I t1), .ret (I t2), .ret (I t3)]) (allC (((c_light_first h3).le (.cons (.full _ _ _) (.nil)) (.refl _)) : Computes cx 91 [.lst true 1 [I t1, I t2]] (I t3)) (allC (c_light_when_4 h2) (allC (c_light_CheckVector_3 h1) allN))) (by kernel_rfl)
def F_sun_CheckRay_3 (n : Nat) (a0 : Int) (a1 : Int) (a2 : Int) : Option (Int) :=
 (F_light_CheckDirection_3 n a0 a1 a2).bind fun t1 =>
 (F_sun_far_3 n a0 a1 a2).bind fun t2 =>
 (F_sun_when n (decide (t2 > 4096)) 3).bind fun t3 =>
 (F_sun_first n ([I t1, I t3])).bind fun t4 =>
 some t4
theorem c_sun_CheckRay_3 {n : Nat} {a0 : Int} {a1 : Int} {a2 : Int} {r : Int} (h : F_sun_CheckRay_3 n a0 a1 a2 = some r) : Computes cx 42 [.agg [I a0, I a1, I a2]] (I r) := by
 unfold F_sun_CheckRay_3 at h
 obtain ⟨t1, h1, h⟩ := bo h; obtain ⟨t2, h2, h⟩ := bo h; obtain ⟨t3, h3, h⟩ := bo h; obtain ⟨t4, h4, h⟩ := bo h
 obtain rfl := oi h
 exact run_fr (n := 100) (orc := [.ret (I t1), .ret (I t2), .ret (I t3), .ret (I t4)]) (allC (((c_sun_first h4).le (.cons (.full _ _ _) (.nil)) (.refl _)) : Computes cx 32 [.lst true 1 [I t1, I t3]] (I t4)) (allC (c_sun_when h3) (allC (c_sun_far_3 h2) (allC (c_light_CheckDirection_3 h1) allN)))) (by kernel_rfl)
def F_sun_length_3 (n : Nat) (a0 : Int) (a1 : Int) (a2 : Int) : Option (Int × Bool) :=
 (F_sun_dot_4 n a0 a1 a2 a0 a1 a2).bind fun t1 =>
 (F_sun_root n t1).bind fun t2 =>
 if inI64 (t2 * t2) then
 some (t2, ((t2 * t2) == t1))
 else none
theorem c_sun_length_3 {n : Nat} {a0 : Int} {a1 : Int} {a2 : Int} {r : Int × Bool} (h : F_sun_length_3 n a0 a1 a2 = some r) : Computes cx 43 [.agg [I a0, I a1, I a2]] (.tup [I r.1, B r.2]) := by
 unfold F_sun_length_3 at h
 obtain ⟨t1, h1, h⟩ := bo h; obtain ⟨t2, h2, h⟩ := bo h; obtain ⟨h3, h⟩ := gd h
 obtain rfl := oi h
 exact run_fr (n := 100) (orc := [.ret (I t1), .ret (I t2)]) (allC h3 (allC (c_sun_root h2) (allC (c_sun_dot_4 h1) allN))) (by kernel_rfl)
def F_sun_Normal_2 (n : Nat) (a0 : Int) (a1 : Int) (a2 : Int) (a3 : Int) (a4 : Int) (a5 : Int) : Option (Int × Int × Int × Int) :=
 (F_sun_CheckRay_3 n a0 a1 a2).bind fun t1 =>
 (F_sun_CheckRay_3 n a3 a4 a5).bind fun t2 =>
 (F_sun_first n ([I t1, I t2])).bind fun t3 =>
 if t3 = 0 then
  (F_sun_length_3 n a0 a1 a2).bind fun t5 =>
  (F_sun_length_3 n a3 a4 a5).bind fun t6 =>
  if t5.2 = true then
  (F_sun_when n (!t6.2) 1).bind fun t8 =>
  (F_sun_opposite_2 n a0 a1 a2 a3 a4 a5).bind fun t9 =>
  (F_sun_when n t9 6).bind fun t10 =>
  (F_sun_first n ([I t8, I t10])).bind fun t11 =>
  if t11 = 0 then
   (F_sun_sum n t6.1 a0 a1 a2 t5.1 a3 a4 a5).bind fun t13 =>
   (F_sun_small n t13.1 t13.2.1 t13.2.2).bind fun t14 =>
   some (t14.1, t14.2.1, t14.2.2.1, t14.2.2.2)
  else
  some (0, 0, 0, t11)
  else
  (F_sun_when_2 n).bind fun t8 =>
  (F_sun_opposite_2 n a0 a1 a2 a3 a4 a5).bind fun t9 =>
  (F_sun_when n t9 6).bind fun t10 =>
  (F_sun_first n ([I t8, I t10])).bind fun t11 =>
  if t11 = 0 then
  (F_sun_sum n t6.1 a0 a1 a2 t5.1 a3 a4 a5).bind fun t13 =>
  (F_sun_small n t13.1 t13.2.1 t13.2.2).bind fun t14 =>
  some (t14.1, t14.2.1, t14.2.2.1, t14.2.2.2)
  else
  some (0, 0, 0, t11)
 else
 some (0, 0, 0, t3)
theorem c_sun_Normal_2 {n : Nat} {a0 : Int} {a1 : Int} {a2 : Int} {a3 : Int} {a4 : Int} {a5 : Int} {r : Int × Int × Int × Int} (h : F_sun_Normal_2 n a0 a1 a2 a3 a4 a5 = some r) : Computes cx 9 [.agg [I a0, I a1, I a2], .agg [I a3, I a4, I a5]] (.tup [.agg [I r.1, I r.2.1, I r.2.2.1], I r.2.2.2]) := by
 unfold F_sun_Normal_2 at h
 obtain ⟨t1, h1, h⟩ := bo h; obtain ⟨t2, h2, h⟩ := bo h; obtain ⟨t3, h3, h⟩ := bo h
 by_cases h4 : t3 = 0
 ·replace h := it h h4
  obtain ⟨t5, h5, h⟩ := bo h; obtain ⟨t6, h6, h⟩ := bo h
  by_cases h7 : t5.2 = true
  ·replace h := it h h7
   obtain ⟨t8, h8, h⟩ := bo h; obtain ⟨t9, h9, h⟩ := bo h; obtain ⟨t10, h10, h⟩ := bo h; obtain ⟨t11, h11, h⟩ := bo h
   by_cases h12 : t11 = 0
   ·replace h := it h h12
    obtain ⟨t13, h13, h⟩ := bo h; obtain ⟨t14, h14, h⟩ := bo h
    obtain rfl := oi h
    exact run_fr (n := 100) (orc := [.ret (I t1), .ret (I t2), .ret (I t3), .br false, .ret (.tup [I t5.1, B t5.2]), .ret (.tup [I t6.1, B t6.2]), .br false, .ret (I t8), .ret (B t9), .ret (I t10), .ret (I t11), .br false, .ret (.agg [I t13.1, I t13.2.1, I t13.2.2]), .ret (.tup [.agg [I t14.1, I t14.2.1, I t14.2.2.1], I t14.2.2.2])]) (allC (c_sun_small h14) (allC (c_sun_sum h13) (allC (nef h12) (allC (((c_sun_first h11).le (.cons (.full _ _ _) (.nil)) (.refl _)) : Computes cx 32 [.lst true 1 [I t8, I t10]] (I t11)) (allC (c_sun_when h10) (allC (c_sun_opposite_2 h9) (allC (c_sun_when h8) (allC (notf h7) (allC (c_sun_length_3 h6) (allC (c_sun_length_3 h5) (allC (nef h4) (allC (((c_sun_first h3).le (.cons (.full _ _ _) (.nil)) (.refl _)) : Computes cx 32 [.lst true 1 [I t1, I t2]] (I t3)) (allC (c_sun_CheckRay_3 h2) (allC (c_sun_CheckRay_3 h1) allN)))))))))))))) (by kernel_rfl)
   ·replace h := jf h h12
    obtain rfl := oi h
    exact run_fr (n := 100) (orc := [.ret (I t1), .ret (I t2), .ret (I t3), .br false, .ret (.tup [I t5.1, B t5.2]), .ret (.tup [I t6.1, B t6.2]), .br false, .ret (I t8), .ret (B t9), .ret (I t10), .ret (I t11), .br true]) (allC (net h12) (allC (((c_sun_first h11).le (.cons (.full _ _ _) (.nil)) (.refl _)) : Computes cx 32 [.lst true 1 [I t8, I t10]] (I t11)) (allC (c_sun_when h10) (allC (c_sun_opposite_2 h9) (allC (c_sun_when h8) (allC (notf h7) (allC (c_sun_length_3 h6) (allC (c_sun_length_3 h5) (allC (nef h4) (allC (((c_sun_first h3).le (.cons (.full _ _ _) (.nil)) (.refl _)) : Computes cx 32 [.lst true 1 [I t1, I t2]] (I t3)) (allC (c_sun_CheckRay_3 h2) (allC (c_sun_CheckRay_3 h1) allN)))))))))))) (by kernel_rfl)
  ·replace h := jf h h7
   obtain ⟨t8, h8, h⟩ := bo h; obtain ⟨t9, h9, h⟩ := bo h; obtain ⟨t10, h10, h⟩ := bo h; obtain ⟨t11, h11, h⟩ := bo h
   by_cases h12 : t11 = 0
   ·replace h := it h h12
    obtain ⟨t13, h13, h⟩ := bo h; obtain ⟨t14, h14, h⟩ := bo h
    obtain rfl := oi h
    exact run_fr (n := 100) (orc := [.ret (I t1), .ret (I t2), .ret (I t3), .br false, .ret (.tup [I t5.1, B t5.2]), .ret (.tup [I t6.1, B t6.2]), .br true, .ret (I t8), .ret (B t9), .ret (I t10), .ret (I t11), .br false, .ret (.agg [I t13.1, I t13.2.1, I t13.2.2]), .ret (.tup [.agg [I t14.1, I t14.2.1, I t14.2.2.1], I t14.2.2.2])]) (allC (c_sun_small h14) (allC (c_sun_sum h13) (allC (nef h12) (allC (((c_sun_first h11).le (.cons (.full _ _ _) (.nil)) (.refl _)) : Computes cx 32 [.lst true 1 [I t8, I t10]] (I t11)) (allC (c_sun_when h10) (allC (c_sun_opposite_2 h9) (allC (c_sun_when_2 h8) (allC (nott (bfalse h7)) (allC (c_sun_length_3 h6) (allC (c_sun_length_3 h5) (allC (nef h4) (allC (((c_sun_first h3).le (.cons (.full _ _ _) (.nil)) (.refl _)) : Computes cx 32 [.lst true 1 [I t1, I t2]] (I t3)) (allC (c_sun_CheckRay_3 h2) (allC (c_sun_CheckRay_3 h1) allN)))))))))))))) (by kernel_rfl)
   ·replace h := jf h h12
    obtain rfl := oi h
    exact run_fr (n := 100) (orc := [.ret (I t1), .ret (I t2), .ret (I t3), .br false, .ret (.tup [I t5.1, B t5.2]), .ret (.tup [I t6.1, B t6.2]), .br true, .ret (I t8), .ret (B t9), .ret (I t10), .ret (I t11), .br true]) (allC (net h12) (allC (((c_sun_first h11).le (.cons (.full _ _ _) (.nil)) (.refl _)) : Computes cx 32 [.lst true 1 [I t8, I t10]] (I t11)) (allC (c_sun_when h10) (allC (c_sun_opposite_2 h9) (allC (c_sun_when_2 h8) (allC (nott (bfalse h7)) (allC (c_sun_length_3 h6) (allC (c_sun_length_3 h5) (allC (nef h4) (allC (((c_sun_first h3).le (.cons (.full _ _ _) (.nil)) (.refl _)) : Computes cx 32 [.lst true 1 [I t1, I t2]] (I t3)) (allC (c_sun_CheckRay_3 h2) (allC (c_sun_CheckRay_3 h1) allN)))))))))))) (by kernel_rfl)
 ·replace h := jf h h4
  obtain rfl := oi h
  exact run_fr (n := 100) (orc := [.ret (I t1), .ret (I t2), .ret (I t3), .br true]) (allC (net h4) (allC (((c_sun_first h3).le (.cons (.full _ _ _) (.nil)) (.refl _)) : Computes cx 32 [.lst true 1 [I t1, I t2]] (I t3)) (allC (c_sun_CheckRay_3 h2) (allC (c_sun_CheckRay_3 h1) allN)))) (by kernel_rfl)
def F_sun_Frame (n : Nat) (a0 : Int) (a1 : Int) (a2 : Int) : Option (Int × Int × Int × Int × Int × Int × Int) :=
 (F_sun_CheckRay_3 n a0 a1 a2).bind fun t1 =>
 if t1 = 0 then
  (F_sun_cross_2 n 0 0 1 a0 a1 a2).bind fun t3 =>
  if ((t3.1 == 0) && ((t3.2.1 == 0) && ((t3.2.2 == 0) && true))) = true then
  (F_sun_cross_2 n a0 a1 a2 1 0 0).bind fun t5 =>
  (F_sun_reduced n t5.1 t5.2.1 t5.2.2).bind fun t6 =>
  some (1, 0, 0, t6.1, t6.2.1, t6.2.2, 0)
  else
  (F_sun_reduced n t3.1 t3.2.1 t3.2.2).bind fun t5 =>
  (F_sun_cross_2 n a0 a1 a2 t5.1 t5.2.1 t5.2.2).bind fun t6 =>
  (F_sun_reduced n t6.1 t6.2.1 t6.2.2).bind fun t7 =>
  some (t5.1, t5.2.1, t5.2.2, t7.1, t7.2.1, t7.2.2, 0)
 else
 some (0, 0, 0, 0, 0, 0, t1)
theorem c_sun_Frame {n : Nat} {a0 : Int} {a1 : Int} {a2 : Int} {r : Int × Int × Int × Int × Int × Int × Int} (h : F_sun_Frame n a0 a1 a2 = some r) : Computes cx 11 [.agg [I a0, I a1, I a2]] (.tup [.agg [I r.1, I r.2.1, I r.2.2.1, I r.2.2.2.1, I r.2.2.2.2.1, I r.2.2.2.2.2.1], I r.2.2.2.2.2.2]) := by
 unfold F_sun_Frame at h
 obtain ⟨t1, h1, h⟩ := bo h
 by_cases h2 : t1 = 0
 ·replace h := it h h2
  obtain ⟨t3, h3, h⟩ := bo h
  by_cases h4 : ((t3.1 == 0) && ((t3.2.1 == 0) && ((t3.2.2 == 0) && true))) = true
  ·replace h := it h h4
   obtain ⟨t5, h5, h⟩ := bo h; obtain ⟨t6, h6, h⟩ := bo h
   obtain rfl := oi h
   exact run_fr (n := 100) (orc := [.ret (I t1), .br false, .ret (.agg [I t3.1, I t3.2.1, I t3.2.2]), .br false, .ret (.agg [I t5.1, I t5.2.1, I t5.2.2]), .ret (.agg [I t6.1, I t6.2.1, I t6.2.2])]) (allC (c_sun_reduced h6) (allC (c_sun_cross_2 h5) (allC (notf h4) (allC (c_sun_cross_2 h3) (allC (nef h2) (allC (c_sun_CheckRay_3 h1) allN)))))) (by kernel_rfl)
  ·replace h := jf h h4
   obtain ⟨t5, h5, h⟩ := bo h; obtain ⟨t6, h6, h⟩ := bo h; obtain ⟨t7, h7, h⟩ := bo h
   obtain rfl := oi h
   exact run_fr (n := 100) (orc := [.ret (I t1), .br false, .ret (.agg [I t3.1, I t3.2.1, I t3.2.2]), .br true, .ret (.agg [I t5.1, I t5.2.1, I t5.2.2]), .ret (.agg [I t6.1, I t6.2.1, I t6.2.2]), .ret (.agg [I t7.1, I t7.2.1, I t7.2.2])]) (allC (c_sun_reduced h7) (allC (c_sun_cross_2 h6) (allC (c_sun_reduced h5) (allC (nott (bfalse h4)) (allC (c_sun_cross_2 h3) (allC (nef h2) (allC (c_sun_CheckRay_3 h1) allN))))))) (by kernel_rfl)
 ·replace h := jf h h2
  obtain rfl := oi h
  exact run_fr (n := 100) (orc := [.ret (I t1), .br true]) (allC (net h2) (allC (c_sun_CheckRay_3 h1) allN)) (by kernel_rfl)
def F_ref01_IsName_L1 (n : Nat) (a0 : ByteArray) (sa : (Int)) : Option (((Int)) ⊕ ((Unit) ⊕ (Unit))) :=
 if sa < (a0.size : Int) then
  (strAt a0 sa).bind fun ta2 =>
  if ta2 ≥ 97 then
  if ta2 ≤ 122 then
   if ta2 ≥ 48 then
   if ta2 ≤ 57 then
    if inI64 (sa + 1) then
    some (.inl (sa + 1))
    else none
   else
   if inI64 (sa + 1) then
   some (.inl (sa + 1))
   else none
   else
   if inI64 (sa + 1) then
   some (.inl (sa + 1))
   else none
  else
  if ta2 ≥ 65 then
   if ta2 ≥ 48 then
   if ta2 ≤ 57 then
    if ta2 ≤ 90 then
    if inI64 (sa + 1) then
    some (.inl (sa + 1))
    else none
    else
    if sa = 0 then
    some (.inr (.inl ()))
    else
    if inI64 (sa + 1) then
    some (.inl (sa + 1))
    else none
   else
   if ta2 ≤ 90 then
    if inI64 (sa + 1) then
    some (.inl (sa + 1))
    else none
   else
   if sa = 0 then
    some (.inr (.inl ()))
   else
   if ta2 = 95 then
    if inI64 (sa + 1) then
    some (.inl (sa + 1))
    else none
   else
   some (.inr (.inl ()))
   else
   if ta2 ≤ 90 then
   if inI64 (sa + 1) then
   some (.inl (sa + 1))
   else none
   else
   if sa = 0 then
   some (.inr (.inl ()))
   else
   if ta2 = 95 then
   if inI64 (sa + 1) then
   some (.inl (sa + 1))
   else none
   else
   some (.inr (.inl ()))
  else
  if ta2 ≥ 48 then
   if ta2 ≤ 57 then
   if sa = 0 then
    some (.inr (.inl ()))
   else
   if inI64 (sa + 1) then
   some (.inl (sa + 1))
   else none
   else
   if sa = 0 then
   some (.inr (.inl ()))
   else
   if ta2 = 95 then
   if inI64 (sa + 1) then
   some (.inl (sa + 1))
   else none
   else
   some (.inr (.inl ()))
  else
  if sa = 0 then
   some (.inr (.inl ()))
  else
  if ta2 = 95 then
   if inI64 (sa + 1) then
   some (.inl (sa + 1))
   else none
  else
  some (.inr (.inl ()))
  else
  if ta2 ≥ 65 then
  if ta2 ≥ 48 then
   if ta2 ≤ 57 then
   if ta2 ≤ 90 then
    if inI64 (sa + 1) then
    some (.inl (sa + 1))
    else none
   else
   if sa = 0 then
    some (.inr (.inl ()))
   else
   if inI64 (sa + 1) then
   some (.inl (sa + 1))
   else none
   else
   if ta2 ≤ 90 then
   if inI64 (sa + 1) then
   some (.inl (sa + 1))
   else none
   else
   if sa = 0 then
   some (.inr (.inl ()))
   else
   if ta2 = 95 then
   if inI64 (sa + 1) then
   some (.inl (sa + 1))
   else none
   else
   some (.inr (.inl ()))
  else
  if ta2 ≤ 90 then
   if inI64 (sa + 1) then
   some (.inl (sa + 1))
   else none
  else
  if sa = 0 then
   some (.inr (.inl ()))
  else
  if ta2 = 95 then
   if inI64 (sa + 1) then
   some (.inl (sa + 1))
   else none
  else
  some (.inr (.inl ()))
  else
  if ta2 ≥ 48 then
  if ta2 ≤ 57 then
   if sa = 0 then
   some (.inr (.inl ()))
   else
   if inI64 (sa + 1) then
   some (.inl (sa + 1))
   else none
  else
  if sa = 0 then
   some (.inr (.inl ()))
  else
  if ta2 = 95 then
   if inI64 (sa + 1) then
   some (.inl (sa + 1))
   else none
  else
  some (.inr (.inl ()))
  else
  if sa = 0 then
  some (.inr (.inl ()))
  else
  if ta2 = 95 then
  if inI64 (sa + 1) then
  some (.inl (sa + 1))
  else none
  else
  some (.inr (.inl ()))
 else
 some (.inr (.inr ()))
noncomputable def T_ref01_IsName_L1 (a0 : ByteArray) (sa : (Int)) : List (Nat × AV) := [(0, .d (.v (.string a0))), (3, .d (I sa))]
noncomputable def H_ref01_IsName_L1 (a0 : ByteArray) (sa : (Int)) : List (Nat × Blk) := []
noncomputable def X_ref01_IsName_L1 (a0 : ByteArray) (e : (Unit) ⊕ (Unit)) : Ex := match e with
  | (.inl e) => .ret
  | (.inr e) => (.exit 0)
noncomputable def XT_ref01_IsName_L1 (a0 : ByteArray) (e : (Unit) ⊕ (Unit)) : List (Nat × AV) := match e with
  | (.inl e) => [(2, .d (B false))]
  | (.inr e) => []
noncomputable def XH_ref01_IsName_L1 (a0 : ByteArray) (e : (Unit) ⊕ (Unit)) : List (Nat × Blk) := match e with
  | (.inl e) => []
  | (.inr e) => []
theorem R_ref01_IsName_L1 {n : Nat} {a0 : ByteArray} (sa : (Int)) (r) (h : F_ref01_IsName_L1 n a0 sa = some r) : Rd cx (loopAt cx.P 82 0) 67 0 false (T_ref01_IsName_L1 a0) (H_ref01_IsName_L1 a0) (X_ref01_IsName_L1 a0) (XT_ref01_IsName_L1 a0) (XH_ref01_IsName_L1 a0) sa r := by
 unfold F_ref01_IsName_L1 at h
 by_cases ha1 : sa < (a0.size : Int)
 ·replace h := it h ha1
  obtain ⟨ta2, ha2, h⟩ := bo h
  by_cases ha3 : ta2 ≥ 97
  ·replace h := it h ha3
   by_cases ha4 : ta2 ≤ 122
   ·replace h := it h ha4
    by_cases ha5 : ta2 ≥ 48
    ·replace h := it h ha5
     by_cases ha6 : ta2 ≤ 57
     ·replace h := it h ha6
      obtain ⟨ha7, h⟩ := gd h
      obtain rfl := oi h
      exact ⟨100, 9, [.br true, .el (.v (.int .u8 ta2)), .br true, .el (.v (.int .u8 ta2)), .br true, .el (.v (.int .u8 ta2)), .br true, .el (.v (.int .u8 ta2)), .br true, .no, .no], [], [0, 3], [], round_fr (allC ha7 (allC (decide_eq_true ha6) (allC (strAt_ok ha2 : pureRun cx.P (Instr.index 9 (.string a0) (.int .i64 sa)) = some (.int .u8 ta2)) (allC (decide_eq_true ha5) (allC (strAt_ok ha2 : pureRun cx.P (Instr.index 9 (.string a0) (.int .i64 sa)) = some (.int .u8 ta2)) (allC (decide_eq_true ha4) (allC (strAt_ok ha2 : pureRun cx.P (Instr.index 9 (.string a0) (.int .i64 sa)) = some (.int .u8 ta2)) (allC (decide_eq_true ha3) (allC (strAt_ok ha2 : pureRun cx.P (Instr.index 9 (.string a0) (.int .i64 sa)) = some (.int .u8 ta2)) (allC (decide_eq_true ha1) allN)))))))))) (by kernel_rfl)⟩
     ·replace h := jf h ha6
      obtain ⟨ha7, h⟩ := gd h
      obtain rfl := oi h
      exact ⟨100, 9, [.br true, .el (.v (.int .u8 ta2)), .br true, .el (.v (.int .u8 ta2)), .br true, .el (.v (.int .u8 ta2)), .br true, .el (.v (.int .u8 ta2)), .br false, .el (.v (.int .u8 ta2)), .no, .no], [], [0, 3], [], round_fr (allC ha7 (allC (strAt_ok ha2 : pureRun cx.P (Instr.index 9 (.string a0) (.int .i64 sa)) = some (.int .u8 ta2)) (allC (decide_eq_false ha6) (allC (strAt_ok ha2 : pureRun cx.P (Instr.index 9 (.string a0) (.int .i64 sa)) = some (.int .u8 ta2)) (allC (decide_eq_true ha5) (allC (strAt_ok ha2 : pureRun cx.P (Instr.index 9 (.string a0) (.int .i64 sa)) = some (.int .u8 ta2)) (allC (decide_eq_true ha4) (allC (strAt_ok ha2 : pureRun cx.P (Instr.index 9 (.string a0) (.int .i64 sa)) = some (.int .u8 ta2)) (allC (decide_eq_true ha3) (allC (strAt_ok ha2 : pureRun cx.P (Instr.index 9 (.string a0) (.int .i64 sa)) = some (.int .u8 ta2)) (allC (decide_eq_true ha1) allN))))))))))) (by kernel_rfl)⟩
    ·replace h := jf h ha5
     obtain ⟨ha6, h⟩ := gd h
     obtain rfl := oi h
     exact ⟨100, 9, [.br true, .el (.v (.int .u8 ta2)), .br true, .el (.v (.int .u8 ta2)), .br true, .el (.v (.int .u8 ta2)), .br false, .no, .el (.v (.int .u8 ta2)), .no, .no], [], [0, 3], [], round_fr (allC ha6 (allC (strAt_ok ha2 : pureRun cx.P (Instr.index 9 (.string a0) (.int .i64 sa)) = some (.int .u8 ta2)) (allC (decide_eq_false ha5) (allC (strAt_ok ha2 : pureRun cx.P (Instr.index 9 (.string a0) (.int .i64 sa)) = some (.int .u8 ta2)) (allC (decide_eq_true ha4) (allC (strAt_ok ha2 : pureRun cx.P (Instr.index 9 (.string a0) (.int .i64 sa)) = some (.int .u8 ta2)) (allC (decide_eq_true ha3) (allC (strAt_ok ha2 : pureRun cx.P (Instr.index 9 (.string a0) (.int .i64 sa)) = some (.int .u8 ta2)) (allC (decide_eq_true ha1) allN))))))))) (by kernel_rfl)⟩
   ·replace h := jf h ha4
    by_cases ha5 : ta2 ≥ 65
    ·replace h := it h ha5
     by_cases ha6 : ta2 ≥ 48
     ·replace h := it h ha6
      by_cases ha7 : ta2 ≤ 57
      ·replace h := it h ha7
       by_cases ha8 : ta2 ≤ 90
       ·replace h := it h ha8
        obtain ⟨ha9, h⟩ := gd h
        obtain rfl := oi h
        exact ⟨100, 9, [.br true, .el (.v (.int .u8 ta2)), .br true, .el (.v (.int .u8 ta2)), .br false, .el (.v (.int .u8 ta2)), .br true, .el (.v (.int .u8 ta2)), .el (.v (.int .u8 ta2)), .br true, .el (.v (.int .u8 ta2)), .br true, .br false, .no], [], [0, 3], [], round_fr (allC ha9 (allC (notf (decide_eq_true ha8)) (allC (decide_eq_true ha7) (allC (strAt_ok ha2 : pureRun cx.P (Instr.index 9 (.string a0) (.int .i64 sa)) = some (.int .u8 ta2)) (allC (decide_eq_true ha6) (allC (strAt_ok ha2 : pureRun cx.P (Instr.index 9 (.string a0) (.int .i64 sa)) = some (.int .u8 ta2)) (allC (strAt_ok ha2 : pureRun cx.P (Instr.index 9 (.string a0) (.int .i64 sa)) = some (.int .u8 ta2)) (allC (decide_eq_true ha5) (allC (strAt_ok ha2 : pureRun cx.P (Instr.index 9 (.string a0) (.int .i64 sa)) = some (.int .u8 ta2)) (allC (decide_eq_false ha4) (allC (strAt_ok ha2 : pureRun cx.P (Instr.index 9 (.string a0) (.int .i64 sa)) = some (.int .u8 ta2)) (allC (decide_eq_true ha3) (allC (strAt_ok ha2 : pureRun cx.P (Instr.index 9 (.string a0) (.int .i64 sa)) = some (.int .u8 ta2)) (allC (decide_eq_true ha1) allN)))))))))))))) (by kernel_rfl)⟩
       ·replace h := jf h ha8
        by_cases ha9 : sa = 0
        ·replace h := it h ha9
         obtain rfl := oi h
         exact ⟨⟨100, 9, [.br true, .el (.v (.int .u8 ta2)), .br true, .el (.v (.int .u8 ta2)), .br false, .el (.v (.int .u8 ta2)), .br true, .el (.v (.int .u8 ta2)), .el (.v (.int .u8 ta2)), .br true, .el (.v (.int .u8 ta2)), .br true, .br true, .br true, .no], [], [2], [], round_fr (allC (eqt ha9) (allC (nott (decide_eq_false ha8)) (allC (decide_eq_true ha7) (allC (strAt_ok ha2 : pureRun cx.P (Instr.index 9 (.string a0) (.int .i64 sa)) = some (.int .u8 ta2)) (allC (decide_eq_true ha6) (allC (strAt_ok ha2 : pureRun cx.P (Instr.index 9 (.string a0) (.int .i64 sa)) = some (.int .u8 ta2)) (allC (strAt_ok ha2 : pureRun cx.P (Instr.index 9 (.string a0) (.int .i64 sa)) = some (.int .u8 ta2)) (allC (decide_eq_true ha5) (allC (strAt_ok ha2 : pureRun cx.P (Instr.index 9 (.string a0) (.int .i64 sa)) = some (.int .u8 ta2)) (allC (decide_eq_false ha4) (allC (strAt_ok ha2 : pureRun cx.P (Instr.index 9 (.string a0) (.int .i64 sa)) = some (.int .u8 ta2)) (allC (decide_eq_true ha3) (allC (strAt_ok ha2 : pureRun cx.P (Instr.index 9 (.string a0) (.int .i64 sa)) = some (.int .u8 ta2)) (allC (decide_eq_true ha1) allN)))))))))))))) (by kernel_rfl)⟩, nofun⟩
        ·replace h := jf h ha9
         obtain ⟨ha10, h⟩ := gd h
         obtain rfl := oi h
         exact ⟨100, 9, [.br true, .el (.v (.int .u8 ta2)), .br true, .el (.v (.int .u8 ta2)), .br false, .el (.v (.int .u8 ta2)), .br true, .el (.v (.int .u8 ta2)), .el (.v (.int .u8 ta2)), .br true, .el (.v (.int .u8 ta2)), .br true, .br true, .br false, .no], [], [0, 3], [], round_fr (allC ha10 (allC (eqf ha9) (allC (nott (decide_eq_false ha8)) (allC (decide_eq_true ha7) (allC (strAt_ok ha2 : pureRun cx.P (Instr.index 9 (.string a0) (.int .i64 sa)) = some (.int .u8 ta2)) (allC (decide_eq_true ha6) (allC (strAt_ok ha2 : pureRun cx.P (Instr.index 9 (.string a0) (.int .i64 sa)) = some (.int .u8 ta2)) (allC (strAt_ok ha2 : pureRun cx.P (Instr.index 9 (.string a0) (.int .i64 sa)) = some (.int .u8 ta2)) (allC (decide_eq_true ha5) (allC (strAt_ok ha2 : pureRun cx.P (Instr.index 9 (.string a0) (.int .i64 sa)) = some (.int .u8 ta2)) (allC (decide_eq_false ha4) (allC (strAt_ok ha2 : pureRun cx.P (Instr.index 9 (.string a0) (.int .i64 sa)) = some (.int .u8 ta2)) (allC (decide_eq_true ha3) (allC (strAt_ok ha2 : pureRun cx.P (Instr.index 9 (.string a0) (.int .i64 sa)) = some (.int .u8 ta2)) (allC (decide_eq_true ha1) allN))))))))))))))) (by kernel_rfl)⟩
      ·replace h := jf h ha7
       by_cases ha8 : ta2 ≤ 90
       ·replace h := it h ha8
        obtain ⟨ha9, h⟩ := gd h
        obtain rfl := oi h
        exact ⟨100, 9, [.br true, .el (.v (.int .u8 ta2)), .br true, .el (.v (.int .u8 ta2)), .br false, .el (.v (.int .u8 ta2)), .br true, .el (.v (.int .u8 ta2)), .el (.v (.int .u8 ta2)), .br true, .el (.v (.int .u8 ta2)), .br false, .el (.v (.int .u8 ta2)), .br false, .no], [], [0, 3], [], round_fr (allC ha9 (allC (notf (decide_eq_true ha8)) (allC (strAt_ok ha2 : pureRun cx.P (Instr.index 9 (.string a0) (.int .i64 sa)) = some (.int .u8 ta2)) (allC (decide_eq_false ha7) (allC (strAt_ok ha2 : pureRun cx.P (Instr.index 9 (.string a0) (.int .i64 sa)) = some (.int .u8 ta2)) (allC (decide_eq_true ha6) (allC (strAt_ok ha2 : pureRun cx.P (Instr.index 9 (.string a0) (.int .i64 sa)) = some (.int .u8 ta2)) (allC (strAt_ok ha2 : pureRun cx.P (Instr.index 9 (.string a0) (.int .i64 sa)) = some (.int .u8 ta2)) (allC (decide_eq_true ha5) (allC (strAt_ok ha2 : pureRun cx.P (Instr.index 9 (.string a0) (.int .i64 sa)) = some (.int .u8 ta2)) (allC (decide_eq_false ha4) (allC (strAt_ok ha2 : pureRun cx.P (Instr.index 9 (.string a0) (.int .i64 sa)) = some (.int .u8 ta2)) (allC (decide_eq_true ha3) (allC (strAt_ok ha2 : pureRun cx.P (Instr.index 9 (.string a0) (.int .i64 sa)) = some (.int .u8 ta2)) (allC (decide_eq_true ha1) allN))))))))))))))) (by kernel_rfl)⟩
       ·replace h := jf h ha8
        by_cases ha9 : sa = 0
        ·replace h := it h ha9
         obtain rfl := oi h
         exact ⟨⟨100, 9, [.br true, .el (.v (.int .u8 ta2)), .br true, .el (.v (.int .u8 ta2)), .br false, .el (.v (.int .u8 ta2)), .br true, .el (.v (.int .u8 ta2)), .el (.v (.int .u8 ta2)), .br true, .el (.v (.int .u8 ta2)), .br false, .el (.v (.int .u8 ta2)), .br true, .br true, .no], [], [2], [], round_fr (allC (eqt ha9) (allC (nott (decide_eq_false ha8)) (allC (strAt_ok ha2 : pureRun cx.P (Instr.index 9 (.string a0) (.int .i64 sa)) = some (.int .u8 ta2)) (allC (decide_eq_false ha7) (allC (strAt_ok ha2 : pureRun cx.P (Instr.index 9 (.string a0) (.int .i64 sa)) = some (.int .u8 ta2)) (allC (decide_eq_true ha6) (allC (strAt_ok ha2 : pureRun cx.P (Instr.index 9 (.string a0) (.int .i64 sa)) = some (.int .u8 ta2)) (allC (strAt_ok ha2 : pureRun cx.P (Instr.index 9 (.string a0) (.int .i64 sa)) = some (.int .u8 ta2)) (allC (decide_eq_true ha5) (allC (strAt_ok ha2 : pureRun cx.P (Instr.index 9 (.string a0) (.int .i64 sa)) = some (.int .u8 ta2)) (allC (decide_eq_false ha4) (allC (strAt_ok ha2 : pureRun cx.P (Instr.index 9 (.string a0) (.int .i64 sa)) = some (.int .u8 ta2)) (allC (decide_eq_true ha3) (allC (strAt_ok ha2 : pureRun cx.P (Instr.index 9 (.string a0) (.int .i64 sa)) = some (.int .u8 ta2)) (allC (decide_eq_true ha1) allN))))))))))))))) (by kernel_rfl)⟩, nofun⟩
        ·replace h := jf h ha9
         by_cases ha10 : ta2 = 95
         ·replace h := it h ha10
          obtain ⟨ha11, h⟩ := gd h
          obtain rfl := oi h
          exact ⟨100, 9, [.br true, .el (.v (.int .u8 ta2)), .br true, .el (.v (.int .u8 ta2)), .br false, .el (.v (.int .u8 ta2)), .br true, .el (.v (.int .u8 ta2)), .el (.v (.int .u8 ta2)), .br true, .el (.v (.int .u8 ta2)), .br false, .el (.v (.int .u8 ta2)), .br true, .br false, .br false], [], [0, 3], [], round_fr (allC ha11 (allC (notf (eqt ha10)) (allC (eqf ha9) (allC (nott (decide_eq_false ha8)) (allC (strAt_ok ha2 : pureRun cx.P (Instr.index 9 (.string a0) (.int .i64 sa)) = some (.int .u8 ta2)) (allC (decide_eq_false ha7) (allC (strAt_ok ha2 : pureRun cx.P (Instr.index 9 (.string a0) (.int .i64 sa)) = some (.int .u8 ta2)) (allC (decide_eq_true ha6) (allC (strAt_ok ha2 : pureRun cx.P (Instr.index 9 (.string a0) (.int .i64 sa)) = some (.int .u8 ta2)) (allC (strAt_ok ha2 : pureRun cx.P (Instr.index 9 (.string a0) (.int .i64 sa)) = some (.int .u8 ta2)) (allC (decide_eq_true ha5) (allC (strAt_ok ha2 : pureRun cx.P (Instr.index 9 (.string a0) (.int .i64 sa)) = some (.int .u8 ta2)) (allC (decide_eq_false ha4) (allC (strAt_ok ha2 : pureRun cx.P (Instr.index 9 (.string a0) (.int .i64 sa)) = some (.int .u8 ta2)) (allC (decide_eq_true ha3) (allC (strAt_ok ha2 : pureRun cx.P (Instr.index 9 (.string a0) (.int .i64 sa)) = some (.int .u8 ta2)) (allC (decide_eq_true ha1) allN))))))))))))))))) (by kernel_rfl)⟩
         ·replace h := jf h ha10
          obtain rfl := oi h
          exact ⟨⟨100, 9, [.br true, .el (.v (.int .u8 ta2)), .br true, .el (.v (.int .u8 ta2)), .br false, .el (.v (.int .u8 ta2)), .br true, .el (.v (.int .u8 ta2)), .el (.v (.int .u8 ta2)), .br true, .el (.v (.int .u8 ta2)), .br false, .el (.v (.int .u8 ta2)), .br true, .br false, .br true], [], [2], [], round_fr (allC (nott (eqf ha10)) (allC (eqf ha9) (allC (nott (decide_eq_false ha8)) (allC (strAt_ok ha2 : pureRun cx.P (Instr.index 9 (.string a0) (.int .i64 sa)) = some (.int .u8 ta2)) (allC (decide_eq_false ha7) (allC (strAt_ok ha2 : pureRun cx.P (Instr.index 9 (.string a0) (.int .i64 sa)) = some (.int .u8 ta2)) (allC (decide_eq_true ha6) (allC (strAt_ok ha2 : pureRun cx.P (Instr.index 9 (.string a0) (.int .i64 sa)) = some (.int .u8 ta2)) (allC (strAt_ok ha2 : pureRun cx.P (Instr.index 9 (.string a0) (.int .i64 sa)) = some (.int .u8 ta2)) (allC (decide_eq_true ha5) (allC (strAt_ok ha2 : pureRun cx.P (Instr.index 9 (.string a0) (.int .i64 sa)) = some (.int .u8 ta2)) (allC (decide_eq_false ha4) (allC (strAt_ok ha2 : pureRun cx.P (Instr.index 9 (.string a0) (.int .i64 sa)) = some (.int .u8 ta2)) (allC (decide_eq_true ha3) (allC (strAt_ok ha2 : pureRun cx.P (Instr.index 9 (.string a0) (.int .i64 sa)) = some (.int .u8 ta2)) (allC (decide_eq_true ha1) allN)))))))))))))))) (by kernel_rfl)⟩, nofun⟩
     ·replace h := jf h ha6
      by_cases ha7 : ta2 ≤ 90
      ·replace h := it h ha7
       obtain ⟨ha8, h⟩ := gd h
       obtain rfl := oi h
       exact ⟨100, 9, [.br true, .el (.v (.int .u8 ta2)), .br true, .el (.v (.int .u8 ta2)), .br false, .el (.v (.int .u8 ta2)), .br true, .el (.v (.int .u8 ta2)), .el (.v (.int .u8 ta2)), .br false, .no, .el (.v (.int .u8 ta2)), .br false, .no], [], [0, 3], [], round_fr (allC ha8 (allC (notf (decide_eq_true ha7)) (allC (strAt_ok ha2 : pureRun cx.P (Instr.index 9 (.string a0) (.int .i64 sa)) = some (.int .u8 ta2)) (allC (decide_eq_false ha6) (allC (strAt_ok ha2 : pureRun cx.P (Instr.index 9 (.string a0) (.int .i64 sa)) = some (.int .u8 ta2)) (allC (strAt_ok ha2 : pureRun cx.P (Instr.index 9 (.string a0) (.int .i64 sa)) = some (.int .u8 ta2)) (allC (decide_eq_true ha5) (allC (strAt_ok ha2 : pureRun cx.P (Instr.index 9 (.string a0) (.int .i64 sa)) = some (.int .u8 ta2)) (allC (decide_eq_false ha4) (allC (strAt_ok ha2 : pureRun cx.P (Instr.index 9 (.string a0) (.int .i64 sa)) = some (.int .u8 ta2)) (allC (decide_eq_true ha3) (allC (strAt_ok ha2 : pureRun cx.P (Instr.index 9 (.string a0) (.int .i64 sa)) = some (.int .u8 ta2)) (allC (decide_eq_true ha1) allN))))))))))))) (by kernel_rfl)⟩
      ·replace h := jf h ha7
       by_cases ha8 : sa = 0
       ·replace h := it h ha8
        obtain rfl := oi h
        exact ⟨⟨100, 9, [.br true, .el (.v (.int .u8 ta2)), .br true, .el (.v (.int .u8 ta2)), .br false, .el (.v (.int .u8 ta2)), .br true, .el (.v (.int .u8 ta2)), .el (.v (.int .u8 ta2)), .br false, .no, .el (.v (.int .u8 ta2)), .br true, .br true, .no], [], [2], [], round_fr (allC (eqt ha8) (allC (nott (decide_eq_false ha7)) (allC (strAt_ok ha2 : pureRun cx.P (Instr.index 9 (.string a0) (.int .i64 sa)) = some (.int .u8 ta2)) (allC (decide_eq_false ha6) (allC (strAt_ok ha2 : pureRun cx.P (Instr.index 9 (.string a0) (.int .i64 sa)) = some (.int .u8 ta2)) (allC (strAt_ok ha2 : pureRun cx.P (Instr.index 9 (.string a0) (.int .i64 sa)) = some (.int .u8 ta2)) (allC (decide_eq_true ha5) (allC (strAt_ok ha2 : pureRun cx.P (Instr.index 9 (.string a0) (.int .i64 sa)) = some (.int .u8 ta2)) (allC (decide_eq_false ha4) (allC (strAt_ok ha2 : pureRun cx.P (Instr.index 9 (.string a0) (.int .i64 sa)) = some (.int .u8 ta2)) (allC (decide_eq_true ha3) (allC (strAt_ok ha2 : pureRun cx.P (Instr.index 9 (.string a0) (.int .i64 sa)) = some (.int .u8 ta2)) (allC (decide_eq_true ha1) allN))))))))))))) (by kernel_rfl)⟩, nofun⟩
       ·replace h := jf h ha8
        by_cases ha9 : ta2 = 95
        ·replace h := it h ha9
         obtain ⟨ha10, h⟩ := gd h
         obtain rfl := oi h
         exact ⟨100, 9, [.br true, .el (.v (.int .u8 ta2)), .br true, .el (.v (.int .u8 ta2)), .br false, .el (.v (.int .u8 ta2)), .br true, .el (.v (.int .u8 ta2)), .el (.v (.int .u8 ta2)), .br false, .no, .el (.v (.int .u8 ta2)), .br true, .br false, .br false], [], [0, 3], [], round_fr (allC ha10 (allC (notf (eqt ha9)) (allC (eqf ha8) (allC (nott (decide_eq_false ha7)) (allC (strAt_ok ha2 : pureRun cx.P (Instr.index 9 (.string a0) (.int .i64 sa)) = some (.int .u8 ta2)) (allC (decide_eq_false ha6) (allC (strAt_ok ha2 : pureRun cx.P (Instr.index 9 (.string a0) (.int .i64 sa)) = some (.int .u8 ta2)) (allC (strAt_ok ha2 : pureRun cx.P (Instr.index 9 (.string a0) (.int .i64 sa)) = some (.int .u8 ta2)) (allC (decide_eq_true ha5) (allC (strAt_ok ha2 : pureRun cx.P (Instr.index 9 (.string a0) (.int .i64 sa)) = some (.int .u8 ta2)) (allC (decide_eq_false ha4) (allC (strAt_ok ha2 : pureRun cx.P (Instr.index 9 (.string a0) (.int .i64 sa)) = some (.int .u8 ta2)) (allC (decide_eq_true ha3) (allC (strAt_ok ha2 : pureRun cx.P (Instr.index 9 (.string a0) (.int .i64 sa)) = some (.int .u8 ta2)) (allC (decide_eq_true ha1) allN))))))))))))))) (by kernel_rfl)⟩
        ·replace h := jf h ha9
         obtain rfl := oi h
         exact ⟨⟨100, 9, [.br true, .el (.v (.int .u8 ta2)), .br true, .el (.v (.int .u8 ta2)), .br false, .el (.v (.int .u8 ta2)), .br true, .el (.v (.int .u8 ta2)), .el (.v (.int .u8 ta2)), .br false, .no, .el (.v (.int .u8 ta2)), .br true, .br false, .br true], [], [2], [], round_fr (allC (nott (eqf ha9)) (allC (eqf ha8) (allC (nott (decide_eq_false ha7)) (allC (strAt_ok ha2 : pureRun cx.P (Instr.index 9 (.string a0) (.int .i64 sa)) = some (.int .u8 ta2)) (allC (decide_eq_false ha6) (allC (strAt_ok ha2 : pureRun cx.P (Instr.index 9 (.string a0) (.int .i64 sa)) = some (.int .u8 ta2)) (allC (strAt_ok ha2 : pureRun cx.P (Instr.index 9 (.string a0) (.int .i64 sa)) = some (.int .u8 ta2)) (allC (decide_eq_true ha5) (allC (strAt_ok ha2 : pureRun cx.P (Instr.index 9 (.string a0) (.int .i64 sa)) = some (.int .u8 ta2)) (allC (decide_eq_false ha4) (allC (strAt_ok ha2 : pureRun cx.P (Instr.index 9 (.string a0) (.int .i64 sa)) = some (.int .u8 ta2)) (allC (decide_eq_true ha3) (allC (strAt_ok ha2 : pureRun cx.P (Instr.index 9 (.string a0) (.int .i64 sa)) = some (.int .u8 ta2)) (allC (decide_eq_true ha1) allN)))))))))))))) (by kernel_rfl)⟩, nofun⟩
    ·replace h := jf h ha5
     by_cases ha6 : ta2 ≥ 48
     ·replace h := it h ha6
      by_cases ha7 : ta2 ≤ 57
      ·replace h := it h ha7
       by_cases ha8 : sa = 0
       ·replace h := it h ha8
        obtain rfl := oi h
        exact ⟨⟨100, 9, [.br true, .el (.v (.int .u8 ta2)), .br true, .el (.v (.int .u8 ta2)), .br false, .el (.v (.int .u8 ta2)), .br false, .el (.v (.int .u8 ta2)), .br true, .el (.v (.int .u8 ta2)), .br true, .no, .br true, .no], [], [2], [], round_fr (allC (eqt ha8) (allC (decide_eq_true ha7) (allC (strAt_ok ha2 : pureRun cx.P (Instr.index 9 (.string a0) (.int .i64 sa)) = some (.int .u8 ta2)) (allC (decide_eq_true ha6) (allC (strAt_ok ha2 : pureRun cx.P (Instr.index 9 (.string a0) (.int .i64 sa)) = some (.int .u8 ta2)) (allC (decide_eq_false ha5) (allC (strAt_ok ha2 : pureRun cx.P (Instr.index 9 (.string a0) (.int .i64 sa)) = some (.int .u8 ta2)) (allC (decide_eq_false ha4) (allC (strAt_ok ha2 : pureRun cx.P (Instr.index 9 (.string a0) (.int .i64 sa)) = some (.int .u8 ta2)) (allC (decide_eq_true ha3) (allC (strAt_ok ha2 : pureRun cx.P (Instr.index 9 (.string a0) (.int .i64 sa)) = some (.int .u8 ta2)) (allC (decide_eq_true ha1) allN)))))))))))) (by kernel_rfl)⟩, nofun⟩
       ·replace h := jf h ha8
        obtain ⟨ha9, h⟩ := gd h
        obtain rfl := oi h
        exact ⟨100, 9, [.br true, .el (.v (.int .u8 ta2)), .br true, .el (.v (.int .u8 ta2)), .br false, .el (.v (.int .u8 ta2)), .br false, .el (.v (.int .u8 ta2)), .br true, .el (.v (.int .u8 ta2)), .br true, .no, .br false, .no], [], [0, 3], [], round_fr (allC ha9 (allC (eqf ha8) (allC (decide_eq_true ha7) (allC (strAt_ok ha2 : pureRun cx.P (Instr.index 9 (.string a0) (.int .i64 sa)) = some (.int .u8 ta2)) (allC (decide_eq_true ha6) (allC (strAt_ok ha2 : pureRun cx.P (Instr.index 9 (.string a0) (.int .i64 sa)) = some (.int .u8 ta2)) (allC (decide_eq_false ha5) (allC (strAt_ok ha2 : pureRun cx.P (Instr.index 9 (.string a0) (.int .i64 sa)) = some (.int .u8 ta2)) (allC (decide_eq_false ha4) (allC (strAt_ok ha2 : pureRun cx.P (Instr.index 9 (.string a0) (.int .i64 sa)) = some (.int .u8 ta2)) (allC (decide_eq_true ha3) (allC (strAt_ok ha2 : pureRun cx.P (Instr.index 9 (.string a0) (.int .i64 sa)) = some (.int .u8 ta2)) (allC (decide_eq_true ha1) allN))))))))))))) (by kernel_rfl)⟩
      ·replace h := jf h ha7
       by_cases ha8 : sa = 0
       ·replace h := it h ha8
        obtain rfl := oi h
        exact ⟨⟨100, 9, [.br true, .el (.v (.int .u8 ta2)), .br true, .el (.v (.int .u8 ta2)), .br false, .el (.v (.int .u8 ta2)), .br false, .el (.v (.int .u8 ta2)), .br true, .el (.v (.int .u8 ta2)), .br false, .el (.v (.int .u8 ta2)), .no, .br true, .no], [], [2], [], round_fr (allC (eqt ha8) (allC (strAt_ok ha2 : pureRun cx.P (Instr.index 9 (.string a0) (.int .i64 sa)) = some (.int .u8 ta2)) (allC (decide_eq_false ha7) (allC (strAt_ok ha2 : pureRun cx.P (Instr.index 9 (.string a0) (.int .i64 sa)) = some (.int .u8 ta2)) (allC (decide_eq_true ha6) (allC (strAt_ok ha2 : pureRun cx.P (Instr.index 9 (.string a0) (.int .i64 sa)) = some (.int .u8 ta2)) (allC (decide_eq_false ha5) (allC (strAt_ok ha2 : pureRun cx.P (Instr.index 9 (.string a0) (.int .i64 sa)) = some (.int .u8 ta2)) (allC (decide_eq_false ha4) (allC (strAt_ok ha2 : pureRun cx.P (Instr.index 9 (.string a0) (.int .i64 sa)) = some (.int .u8 ta2)) (allC (decide_eq_true ha3) (allC (strAt_ok ha2 : pureRun cx.P (Instr.index 9 (.string a0) (.int .i64 sa)) = some (.int .u8 ta2)) (allC (decide_eq_true ha1) allN))))))))))))) (by kernel_rfl)⟩, nofun⟩
       ·replace h := jf h ha8
        by_cases ha9 : ta2 = 95
        ·replace h := it h ha9
         obtain ⟨ha10, h⟩ := gd h
         obtain rfl := oi h
         exact ⟨100, 9, [.br true, .el (.v (.int .u8 ta2)), .br true, .el (.v (.int .u8 ta2)), .br false, .el (.v (.int .u8 ta2)), .br false, .el (.v (.int .u8 ta2)), .br true, .el (.v (.int .u8 ta2)), .br false, .el (.v (.int .u8 ta2)), .no, .br false, .br false], [], [0, 3], [], round_fr (allC ha10 (allC (notf (eqt ha9)) (allC (eqf ha8) (allC (strAt_ok ha2 : pureRun cx.P (Instr.index 9 (.string a0) (.int .i64 sa)) = some (.int .u8 ta2)) (allC (decide_eq_false ha7) (allC (strAt_ok ha2 : pureRun cx.P (Instr.index 9 (.string a0) (.int .i64 sa)) = some (.int .u8 ta2)) (allC (decide_eq_true ha6) (allC (strAt_ok ha2 : pureRun cx.P (Instr.index 9 (.string a0) (.int .i64 sa)) = some (.int .u8 ta2)) (allC (decide_eq_false ha5) (allC (strAt_ok ha2 : pureRun cx.P (Instr.index 9 (.string a0) (.int .i64 sa)) = some (.int .u8 ta2)) (allC (decide_eq_false ha4) (allC (strAt_ok ha2 : pureRun cx.P (Instr.index 9 (.string a0) (.int .i64 sa)) = some (.int .u8 ta2)) (allC (decide_eq_true ha3) (allC (strAt_ok ha2 : pureRun cx.P (Instr.index 9 (.string a0) (.int .i64 sa)) = some (.int .u8 ta2)) (allC (decide_eq_true ha1) allN))))))))))))))) (by kernel_rfl)⟩
        ·replace h := jf h ha9
         obtain rfl := oi h
         exact ⟨⟨100, 9, [.br true, .el (.v (.int .u8 ta2)), .br true, .el (.v (.int .u8 ta2)), .br false, .el (.v (.int .u8 ta2)), .br false, .el (.v (.int .u8 ta2)), .br true, .el (.v (.int .u8 ta2)), .br false, .el (.v (.int .u8 ta2)), .no, .br false, .br true], [], [2], [], round_fr (allC (nott (eqf ha9)) (allC (eqf ha8) (allC (strAt_ok ha2 : pureRun cx.P (Instr.index 9 (.string a0) (.int .i64 sa)) = some (.int .u8 ta2)) (allC (decide_eq_false ha7) (allC (strAt_ok ha2 : pureRun cx.P (Instr.index 9 (.string a0) (.int .i64 sa)) = some (.int .u8 ta2)) (allC (decide_eq_true ha6) (allC (strAt_ok ha2 : pureRun cx.P (Instr.index 9 (.string a0) (.int .i64 sa)) = some (.int .u8 ta2)) (allC (decide_eq_false ha5) (allC (strAt_ok ha2 : pureRun cx.P (Instr.index 9 (.string a0) (.int .i64 sa)) = some (.int .u8 ta2)) (allC (decide_eq_false ha4) (allC (strAt_ok ha2 : pureRun cx.P (Instr.index 9 (.string a0) (.int .i64 sa)) = some (.int .u8 ta2)) (allC (decide_eq_true ha3) (allC (strAt_ok ha2 : pureRun cx.P (Instr.index 9 (.string a0) (.int .i64 sa)) = some (.int .u8 ta2)) (allC (decide_eq_true ha1) allN)))))))))))))) (by kernel_rfl)⟩, nofun⟩
     ·replace h := jf h ha6
      by_cases ha7 : sa = 0
      ·replace h := it h ha7
       obtain rfl := oi h
       exact ⟨⟨100, 9, [.br true, .el (.v (.int .u8 ta2)), .br true, .el (.v (.int .u8 ta2)), .br false, .el (.v (.int .u8 ta2)), .br false, .el (.v (.int .u8 ta2)), .br false, .no, .el (.v (.int .u8 ta2)), .no, .br true, .no], [], [2], [], round_fr (allC (eqt ha7) (allC (strAt_ok ha2 : pureRun cx.P (Instr.index 9 (.string a0) (.int .i64 sa)) = some (.int .u8 ta2)) (allC (decide_eq_false ha6) (allC (strAt_ok ha2 : pureRun cx.P (Instr.index 9 (.string a0) (.int .i64 sa)) = some (.int .u8 ta2)) (allC (decide_eq_false ha5) (allC (strAt_ok ha2 : pureRun cx.P (Instr.index 9 (.string a0) (.int .i64 sa)) = some (.int .u8 ta2)) (allC (decide_eq_false ha4) (allC (strAt_ok ha2 : pureRun cx.P (Instr.index 9 (.string a0) (.int .i64 sa)) = some (.int .u8 ta2)) (allC (decide_eq_true ha3) (allC (strAt_ok ha2 : pureRun cx.P (Instr.index 9 (.string a0) (.int .i64 sa)) = some (.int .u8 ta2)) (allC (decide_eq_true ha1) allN))))))))))) (by kernel_rfl)⟩, nofun⟩
      ·replace h := jf h ha7
       by_cases ha8 : ta2 = 95
       ·replace h := it h ha8
        obtain ⟨ha9, h⟩ := gd h
        obtain rfl := oi h
        exact ⟨100, 9, [.br true, .el (.v (.int .u8 ta2)), .br true, .el (.v (.int .u8 ta2)), .br false, .el (.v (.int .u8 ta2)), .br false, .el (.v (.int .u8 ta2)), .br false, .no, .el (.v (.int .u8 ta2)), .no, .br false, .br false], [], [0, 3], [], round_fr (allC ha9 (allC (notf (eqt ha8)) (allC (eqf ha7) (allC (strAt_ok ha2 : pureRun cx.P (Instr.index 9 (.string a0) (.int .i64 sa)) = some (.int .u8 ta2)) (allC (decide_eq_false ha6) (allC (strAt_ok ha2 : pureRun cx.P (Instr.index 9 (.string a0) (.int .i64 sa)) = some (.int .u8 ta2)) (allC (decide_eq_false ha5) (allC (strAt_ok ha2 : pureRun cx.P (Instr.index 9 (.string a0) (.int .i64 sa)) = some (.int .u8 ta2)) (allC (decide_eq_false ha4) (allC (strAt_ok ha2 : pureRun cx.P (Instr.index 9 (.string a0) (.int .i64 sa)) = some (.int .u8 ta2)) (allC (decide_eq_true ha3) (allC (strAt_ok ha2 : pureRun cx.P (Instr.index 9 (.string a0) (.int .i64 sa)) = some (.int .u8 ta2)) (allC (decide_eq_true ha1) allN))))))))))))) (by kernel_rfl)⟩
       ·replace h := jf h ha8
        obtain rfl := oi h
        exact ⟨⟨100, 9, [.br true, .el (.v (.int .u8 ta2)), .br true, .el (.v (.int .u8 ta2)), .br false, .el (.v (.int .u8 ta2)), .br false, .el (.v (.int .u8 ta2)), .br false, .no, .el (.v (.int .u8 ta2)), .no, .br false, .br true], [], [2], [], round_fr (allC (nott (eqf ha8)) (allC (eqf ha7) (allC (strAt_ok ha2 : pureRun cx.P (Instr.index 9 (.string a0) (.int .i64 sa)) = some (.int .u8 ta2)) (allC (decide_eq_false ha6) (allC (strAt_ok ha2 : pureRun cx.P (Instr.index 9 (.string a0) (.int .i64 sa)) = some (.int .u8 ta2)) (allC (decide_eq_false ha5) (allC (strAt_ok ha2 : pureRun cx.P (Instr.index 9 (.string a0) (.int .i64 sa)) = some (.int .u8 ta2)) (allC (decide_eq_false ha4) (allC (strAt_ok ha2 : pureRun cx.P (Instr.index 9 (.string a0) (.int .i64 sa)) = some (.int .u8 ta2)) (allC (decide_eq_true ha3) (allC (strAt_ok ha2 : pureRun cx.P (Instr.index 9 (.string a0) (.int .i64 sa)) = some (.int .u8 ta2)) (allC (decide_eq_true ha1) allN)))))))))))) (by kernel_rfl)⟩, nofun⟩
  ·replace h := jf h ha3
   by_cases ha4 : ta2 ≥ 65
   ·replace h := it h ha4
    by_cases ha5 : ta2 ≥ 48
    ·replace h := it h ha5
     by_cases ha6 : ta2 ≤ 57
     ·replace h := it h ha6
      by_cases ha7 : ta2 ≤ 90
      ·replace h := it h ha7
       obtain ⟨ha8, h⟩ := gd h
       obtain rfl := oi h
       exact ⟨100, 9, [.br true, .el (.v (.int .u8 ta2)), .br false, .no, .el (.v (.int .u8 ta2)), .br true, .el (.v (.int .u8 ta2)), .el (.v (.int .u8 ta2)), .br true, .el (.v (.int .u8 ta2)), .br true, .br false, .no], [], [0, 3], [], round_fr (allC ha8 (allC (notf (decide_eq_true ha7)) (allC (decide_eq_true ha6) (allC (strAt_ok ha2 : pureRun cx.P (Instr.index 9 (.string a0) (.int .i64 sa)) = some (.int .u8 ta2)) (allC (decide_eq_true ha5) (allC (strAt_ok ha2 : pureRun cx.P (Instr.index 9 (.string a0) (.int .i64 sa)) = some (.int .u8 ta2)) (allC (strAt_ok ha2 : pureRun cx.P (Instr.index 9 (.string a0) (.int .i64 sa)) = some (.int .u8 ta2)) (allC (decide_eq_true ha4) (allC (strAt_ok ha2 : pureRun cx.P (Instr.index 9 (.string a0) (.int .i64 sa)) = some (.int .u8 ta2)) (allC (decide_eq_false ha3) (allC (strAt_ok ha2 : pureRun cx.P (Instr.index 9 (.string a0) (.int .i64 sa)) = some (.int .u8 ta2)) (allC (decide_eq_true ha1) allN)))))))))))) (by kernel_rfl)⟩
      ·replace h := jf h ha7
       by_cases ha8 : sa = 0
       ·replace h := it h ha8
        obtain rfl := oi h
        exact ⟨⟨100, 9, [.br true, .el (.v (.int .u8 ta2)), .br false, .no, .el (.v (.int .u8 ta2)), .br true, .el (.v (.int .u8 ta2)), .el (.v (.int .u8 ta2)), .br true, .el (.v (.int .u8 ta2)), .br true, .br true, .br true, .no], [], [2], [], round_fr (allC (eqt ha8) (allC (nott (decide_eq_false ha7)) (allC (decide_eq_true ha6) (allC (strAt_ok ha2 : pureRun cx.P (Instr.index 9 (.string a0) (.int .i64 sa)) = some (.int .u8 ta2)) (allC (decide_eq_true ha5) (allC (strAt_ok ha2 : pureRun cx.P (Instr.index 9 (.string a0) (.int .i64 sa)) = some (.int .u8 ta2)) (allC (strAt_ok ha2 : pureRun cx.P (Instr.index 9 (.string a0) (.int .i64 sa)) = some (.int .u8 ta2)) (allC (decide_eq_true ha4) (allC (strAt_ok ha2 : pureRun cx.P (Instr.index 9 (.string a0) (.int .i64 sa)) = some (.int .u8 ta2)) (allC (decide_eq_false ha3) (allC (strAt_ok ha2 : pureRun cx.P (Instr.index 9 (.string a0) (.int .i64 sa)) = some (.int .u8 ta2)) (allC (decide_eq_true ha1) allN)))))))))))) (by kernel_rfl)⟩, nofun⟩
       ·replace h := jf h ha8
        obtain ⟨ha9, h⟩ := gd h
        obtain rfl := oi h
        exact ⟨100, 9, [.br true, .el (.v (.int .u8 ta2)), .br false, .no, .el (.v (.int .u8 ta2)), .br true, .el (.v (.int .u8 ta2)), .el (.v (.int .u8 ta2)), .br true, .el (.v (.int .u8 ta2)), .br true, .br true, .br false, .no], [], [0, 3], [], round_fr (allC ha9 (allC (eqf ha8) (allC (nott (decide_eq_false ha7)) (allC (decide_eq_true ha6) (allC (strAt_ok ha2 : pureRun cx.P (Instr.index 9 (.string a0) (.int .i64 sa)) = some (.int .u8 ta2)) (allC (decide_eq_true ha5) (allC (strAt_ok ha2 : pureRun cx.P (Instr.index 9 (.string a0) (.int .i64 sa)) = some (.int .u8 ta2)) (allC (strAt_ok ha2 : pureRun cx.P (Instr.index 9 (.string a0) (.int .i64 sa)) = some (.int .u8 ta2)) (allC (decide_eq_true ha4) (allC (strAt_ok ha2 : pureRun cx.P (Instr.index 9 (.string a0) (.int .i64 sa)) = some (.int .u8 ta2)) (allC (decide_eq_false ha3) (allC (strAt_ok ha2 : pureRun cx.P (Instr.index 9 (.string a0) (.int .i64 sa)) = some (.int .u8 ta2)) (allC (decide_eq_true ha1) allN))))))))))))) (by kernel_rfl)⟩
     ·replace h := jf h ha6
      by_cases ha7 : ta2 ≤ 90
      ·replace h := it h ha7
       obtain ⟨ha8, h⟩ := gd h
       obtain rfl := oi h
       exact ⟨100, 9, [.br true, .el (.v (.int .u8 ta2)), .br false, .no, .el (.v (.int .u8 ta2)), .br true, .el (.v (.int .u8 ta2)), .el (.v (.int .u8 ta2)), .br true, .el (.v (.int .u8 ta2)), .br false, .el (.v (.int .u8 ta2)), .br false, .no], [], [0, 3], [], round_fr (allC ha8 (allC (notf (decide_eq_true ha7)) (allC (strAt_ok ha2 : pureRun cx.P (Instr.index 9 (.string a0) (.int .i64 sa)) = some (.int .u8 ta2)) (allC (decide_eq_false ha6) (allC (strAt_ok ha2 : pureRun cx.P (Instr.index 9 (.string a0) (.int .i64 sa)) = some (.int .u8 ta2)) (allC (decide_eq_true ha5) (allC (strAt_ok ha2 : pureRun cx.P (Instr.index 9 (.string a0) (.int .i64 sa)) = some (.int .u8 ta2)) (allC (strAt_ok ha2 : pureRun cx.P (Instr.index 9 (.string a0) (.int .i64 sa)) = some (.int .u8 ta2)) (allC (decide_eq_true ha4) (allC (strAt_ok ha2 : pureRun cx.P (Instr.index 9 (.string a0) (.int .i64 sa)) = some (.int .u8 ta2)) (allC (decide_eq_false ha3) (allC (strAt_ok ha2 : pureRun cx.P (Instr.index 9 (.string a0) (.int .i64 sa)) = some (.int .u8 ta2)) (allC (decide_eq_true ha1) allN))))))))))))) (by kernel_rfl)⟩
      ·replace h := jf h ha7
       by_cases ha8 : sa = 0
       ·replace h := it h ha8
        obtain rfl := oi h
        exact ⟨⟨100, 9, [.br true, .el (.v (.int .u8 ta2)), .br false, .no, .el (.v (.int .u8 ta2)), .br true, .el (.v (.int .u8 ta2)), .el (.v (.int .u8 ta2)), .br true, .el (.v (.int .u8 ta2)), .br false, .el (.v (.int .u8 ta2)), .br true, .br true, .no], [], [2], [], round_fr (allC (eqt ha8) (allC (nott (decide_eq_false ha7)) (allC (strAt_ok ha2 : pureRun cx.P (Instr.index 9 (.string a0) (.int .i64 sa)) = some (.int .u8 ta2)) (allC (decide_eq_false ha6) (allC (strAt_ok ha2 : pureRun cx.P (Instr.index 9 (.string a0) (.int .i64 sa)) = some (.int .u8 ta2)) (allC (decide_eq_true ha5) (allC (strAt_ok ha2 : pureRun cx.P (Instr.index 9 (.string a0) (.int .i64 sa)) = some (.int .u8 ta2)) (allC (strAt_ok ha2 : pureRun cx.P (Instr.index 9 (.string a0) (.int .i64 sa)) = some (.int .u8 ta2)) (allC (decide_eq_true ha4) (allC (strAt_ok ha2 : pureRun cx.P (Instr.index 9 (.string a0) (.int .i64 sa)) = some (.int .u8 ta2)) (allC (decide_eq_false ha3) (allC (strAt_ok ha2 : pureRun cx.P (Instr.index 9 (.string a0) (.int .i64 sa)) = some (.int .u8 ta2)) (allC (decide_eq_true ha1) allN))))))))))))) (by kernel_rfl)⟩, nofun⟩
       ·replace h := jf h ha8
        by_cases ha9 : ta2 = 95
        ·replace h := it h ha9
         obtain ⟨ha10, h⟩ := gd h
         obtain rfl := oi h
         exact ⟨100, 9, [.br true, .el (.v (.int .u8 ta2)), .br false, .no, .el (.v (.int .u8 ta2)), .br true, .el (.v (.int .u8 ta2)), .el (.v (.int .u8 ta2)), .br true, .el (.v (.int .u8 ta2)), .br false, .el (.v (.int .u8 ta2)), .br true, .br false, .br false], [], [0, 3], [], round_fr (allC ha10 (allC (notf (eqt ha9)) (allC (eqf ha8) (allC (nott (decide_eq_false ha7)) (allC (strAt_ok ha2 : pureRun cx.P (Instr.index 9 (.string a0) (.int .i64 sa)) = some (.int .u8 ta2)) (allC (decide_eq_false ha6) (allC (strAt_ok ha2 : pureRun cx.P (Instr.index 9 (.string a0) (.int .i64 sa)) = some (.int .u8 ta2)) (allC (decide_eq_true ha5) (allC (strAt_ok ha2 : pureRun cx.P (Instr.index 9 (.string a0) (.int .i64 sa)) = some (.int .u8 ta2)) (allC (strAt_ok ha2 : pureRun cx.P (Instr.index 9 (.string a0) (.int .i64 sa)) = some (.int .u8 ta2)) (allC (decide_eq_true ha4) (allC (strAt_ok ha2 : pureRun cx.P (Instr.index 9 (.string a0) (.int .i64 sa)) = some (.int .u8 ta2)) (allC (decide_eq_false ha3) (allC (strAt_ok ha2 : pureRun cx.P (Instr.index 9 (.string a0) (.int .i64 sa)) = some (.int .u8 ta2)) (allC (decide_eq_true ha1) allN))))))))))))))) (by kernel_rfl)⟩
        ·replace h := jf h ha9
         obtain rfl := oi h
         exact ⟨⟨100, 9, [.br true, .el (.v (.int .u8 ta2)), .br false, .no, .el (.v (.int .u8 ta2)), .br true, .el (.v (.int .u8 ta2)), .el (.v (.int .u8 ta2)), .br true, .el (.v (.int .u8 ta2)), .br false, .el (.v (.int .u8 ta2)), .br true, .br false, .br true], [], [2], [], round_fr (allC (nott (eqf ha9)) (allC (eqf ha8) (allC (nott (decide_eq_false ha7)) (allC (strAt_ok ha2 : pureRun cx.P (Instr.index 9 (.string a0) (.int .i64 sa)) = some (.int .u8 ta2)) (allC (decide_eq_false ha6) (allC (strAt_ok ha2 : pureRun cx.P (Instr.index 9 (.string a0) (.int .i64 sa)) = some (.int .u8 ta2)) (allC (decide_eq_true ha5) (allC (strAt_ok ha2 : pureRun cx.P (Instr.index 9 (.string a0) (.int .i64 sa)) = some (.int .u8 ta2)) (allC (strAt_ok ha2 : pureRun cx.P (Instr.index 9 (.string a0) (.int .i64 sa)) = some (.int .u8 ta2)) (allC (decide_eq_true ha4) (allC (strAt_ok ha2 : pureRun cx.P (Instr.index 9 (.string a0) (.int .i64 sa)) = some (.int .u8 ta2)) (allC (decide_eq_false ha3) (allC (strAt_ok ha2 : pureRun cx.P (Instr.index 9 (.string a0) (.int .i64 sa)) = some (.int .u8 ta2)) (allC (decide_eq_true ha1) allN)))))))))))))) (by kernel_rfl)⟩, nofun⟩
    ·replace h := jf h ha5
     by_cases ha6 : ta2 ≤ 90
     ·replace h := it h ha6
      obtain ⟨ha7, h⟩ := gd h
      obtain rfl := oi h
      exact ⟨100, 9, [.br true, .el (.v (.int .u8 ta2)), .br false, .no, .el (.v (.int .u8 ta2)), .br true, .el (.v (.int .u8 ta2)), .el (.v (.int .u8 ta2)), .br false, .no, .el (.v (.int .u8 ta2)), .br false, .no], [], [0, 3], [], round_fr (allC ha7 (allC (notf (decide_eq_true ha6)) (allC (strAt_ok ha2 : pureRun cx.P (Instr.index 9 (.string a0) (.int .i64 sa)) = some (.int .u8 ta2)) (allC (decide_eq_false ha5) (allC (strAt_ok ha2 : pureRun cx.P (Instr.index 9 (.string a0) (.int .i64 sa)) = some (.int .u8 ta2)) (allC (strAt_ok ha2 : pureRun cx.P (Instr.index 9 (.string a0) (.int .i64 sa)) = some (.int .u8 ta2)) (allC (decide_eq_true ha4) (allC (strAt_ok ha2 : pureRun cx.P (Instr.index 9 (.string a0) (.int .i64 sa)) = some (.int .u8 ta2)) (allC (decide_eq_false ha3) (allC (strAt_ok ha2 : pureRun cx.P (Instr.index 9 (.string a0) (.int .i64 sa)) = some (.int .u8 ta2)) (allC (decide_eq_true ha1) allN))))))))))) (by kernel_rfl)⟩
     ·replace h := jf h ha6
      by_cases ha7 : sa = 0
      ·replace h := it h ha7
       obtain rfl := oi h
       exact ⟨⟨100, 9, [.br true, .el (.v (.int .u8 ta2)), .br false, .no, .el (.v (.int .u8 ta2)), .br true, .el (.v (.int .u8 ta2)), .el (.v (.int .u8 ta2)), .br false, .no, .el (.v (.int .u8 ta2)), .br true, .br true, .no], [], [2], [], round_fr (allC (eqt ha7) (allC (nott (decide_eq_false ha6)) (allC (strAt_ok ha2 : pureRun cx.P (Instr.index 9 (.string a0) (.int .i64 sa)) = some (.int .u8 ta2)) (allC (decide_eq_false ha5) (allC (strAt_ok ha2 : pureRun cx.P (Instr.index 9 (.string a0) (.int .i64 sa)) = some (.int .u8 ta2)) (allC (strAt_ok ha2 : pureRun cx.P (Instr.index 9 (.string a0) (.int .i64 sa)) = some (.int .u8 ta2)) (allC (decide_eq_true ha4) (allC (strAt_ok ha2 : pureRun cx.P (Instr.index 9 (.string a0) (.int .i64 sa)) = some (.int .u8 ta2)) (allC (decide_eq_false ha3) (allC (strAt_ok ha2 : pureRun cx.P (Instr.index 9 (.string a0) (.int .i64 sa)) = some (.int .u8 ta2)) (allC (decide_eq_true ha1) allN))))))))))) (by kernel_rfl)⟩, nofun⟩
      ·replace h := jf h ha7
       by_cases ha8 : ta2 = 95
       ·replace h := it h ha8
        obtain ⟨ha9, h⟩ := gd h
        obtain rfl := oi h
        exact ⟨100, 9, [.br true, .el (.v (.int .u8 ta2)), .br false, .no, .el (.v (.int .u8 ta2)), .br true, .el (.v (.int .u8 ta2)), .el (.v (.int .u8 ta2)), .br false, .no, .el (.v (.int .u8 ta2)), .br true, .br false, .br false], [], [0, 3], [], round_fr (allC ha9 (allC (notf (eqt ha8)) (allC (eqf ha7) (allC (nott (decide_eq_false ha6)) (allC (strAt_ok ha2 : pureRun cx.P (Instr.index 9 (.string a0) (.int .i64 sa)) = some (.int .u8 ta2)) (allC (decide_eq_false ha5) (allC (strAt_ok ha2 : pureRun cx.P (Instr.index 9 (.string a0) (.int .i64 sa)) = some (.int .u8 ta2)) (allC (strAt_ok ha2 : pureRun cx.P (Instr.index 9 (.string a0) (.int .i64 sa)) = some (.int .u8 ta2)) (allC (decide_eq_true ha4) (allC (strAt_ok ha2 : pureRun cx.P (Instr.index 9 (.string a0) (.int .i64 sa)) = some (.int .u8 ta2)) (allC (decide_eq_false ha3) (allC (strAt_ok ha2 : pureRun cx.P (Instr.index 9 (.string a0) (.int .i64 sa)) = some (.int .u8 ta2)) (allC (decide_eq_true ha1) allN))))))))))))) (by kernel_rfl)⟩
       ·replace h := jf h ha8
        obtain rfl := oi h
        exact ⟨⟨100, 9, [.br true, .el (.v (.int .u8 ta2)), .br false, .no, .el (.v (.int .u8 ta2)), .br true, .el (.v (.int .u8 ta2)), .el (.v (.int .u8 ta2)), .br false, .no, .el (.v (.int .u8 ta2)), .br true, .br false, .br true], [], [2], [], round_fr (allC (nott (eqf ha8)) (allC (eqf ha7) (allC (nott (decide_eq_false ha6)) (allC (strAt_ok ha2 : pureRun cx.P (Instr.index 9 (.string a0) (.int .i64 sa)) = some (.int .u8 ta2)) (allC (decide_eq_false ha5) (allC (strAt_ok ha2 : pureRun cx.P (Instr.index 9 (.string a0) (.int .i64 sa)) = some (.int .u8 ta2)) (allC (strAt_ok ha2 : pureRun cx.P (Instr.index 9 (.string a0) (.int .i64 sa)) = some (.int .u8 ta2)) (allC (decide_eq_true ha4) (allC (strAt_ok ha2 : pureRun cx.P (Instr.index 9 (.string a0) (.int .i64 sa)) = some (.int .u8 ta2)) (allC (decide_eq_false ha3) (allC (strAt_ok ha2 : pureRun cx.P (Instr.index 9 (.string a0) (.int .i64 sa)) = some (.int .u8 ta2)) (allC (decide_eq_true ha1) allN)))))))))))) (by kernel_rfl)⟩, nofun⟩
   ·replace h := jf h ha4
    by_cases ha5 : ta2 ≥ 48
    ·replace h := it h ha5
     by_cases ha6 : ta2 ≤ 57
     ·replace h := it h ha6
      by_cases ha7 : sa = 0
      ·replace h := it h ha7
       obtain rfl := oi h
       exact ⟨⟨100, 9, [.br true, .el (.v (.int .u8 ta2)), .br false, .no, .el (.v (.int .u8 ta2)), .br false, .el (.v (.int .u8 ta2)), .br true, .el (.v (.int .u8 ta2)), .br true, .no, .br true, .no], [], [2], [], round_fr (allC (eqt ha7) (allC (decide_eq_true ha6) (allC (strAt_ok ha2 : pureRun cx.P (Instr.index 9 (.string a0) (.int .i64 sa)) = some (.int .u8 ta2)) (allC (decide_eq_true ha5) (allC (strAt_ok ha2 : pureRun cx.P (Instr.index 9 (.string a0) (.int .i64 sa)) = some (.int .u8 ta2)) (allC (decide_eq_false ha4) (allC (strAt_ok ha2 : pureRun cx.P (Instr.index 9 (.string a0) (.int .i64 sa)) = some (.int .u8 ta2)) (allC (decide_eq_false ha3) (allC (strAt_ok ha2 : pureRun cx.P (Instr.index 9 (.string a0) (.int .i64 sa)) = some (.int .u8 ta2)) (allC (decide_eq_true ha1) allN)))))))))) (by kernel_rfl)⟩, nofun⟩
      ·replace h := jf h ha7
       obtain ⟨ha8, h⟩ := gd h
       obtain rfl := oi h
       exact ⟨100, 9, [.br true, .el (.v (.int .u8 ta2)), .br false, .no, .el (.v (.int .u8 ta2)), .br false, .el (.v (.int .u8 ta2)), .br true, .el (.v (.int .u8 ta2)), .br true, .no, .br false, .no], [], [0, 3], [], round_fr (allC ha8 (allC (eqf ha7) (allC (decide_eq_true ha6) (allC (strAt_ok ha2 : pureRun cx.P (Instr.index 9 (.string a0) (.int .i64 sa)) = some (.int .u8 ta2)) (allC (decide_eq_true ha5) (allC (strAt_ok ha2 : pureRun cx.P (Instr.index 9 (.string a0) (.int .i64 sa)) = some (.int .u8 ta2)) (allC (decide_eq_false ha4) (allC (strAt_ok ha2 : pureRun cx.P (Instr.index 9 (.string a0) (.int .i64 sa)) = some (.int .u8 ta2)) (allC (decide_eq_false ha3) (allC (strAt_ok ha2 : pureRun cx.P (Instr.index 9 (.string a0) (.int .i64 sa)) = some (.int .u8 ta2)) (allC (decide_eq_true ha1) allN))))))))))) (by kernel_rfl)⟩
     ·replace h := jf h ha6
      by_cases ha7 : sa = 0
      ·replace h := it h ha7
       obtain rfl := oi h
       exact ⟨⟨100, 9, [.br true, .el (.v (.int .u8 ta2)), .br false, .no, .el (.v (.int .u8 ta2)), .br false, .el (.v (.int .u8 ta2)), .br true, .el (.v (.int .u8 ta2)), .br false, .el (.v (.int .u8 ta2)), .no, .br true, .no], [], [2], [], round_fr (allC (eqt ha7) (allC (strAt_ok ha2 : pureRun cx.P (Instr.index 9 (.string a0) (.int .i64 sa)) = some (.int .u8 ta2)) (allC (decide_eq_false ha6) (allC (strAt_ok ha2 : pureRun cx.P (Instr.index 9 (.string a0) (.int .i64 sa)) = some (.int .u8 ta2)) (allC (decide_eq_true ha5) (allC (strAt_ok ha2 : pureRun cx.P (Instr.index 9 (.string a0) (.int .i64 sa)) = some (.int .u8 ta2)) (allC (decide_eq_false ha4) (allC (strAt_ok ha2 : pureRun cx.P (Instr.index 9 (.string a0) (.int .i64 sa)) = some (.int .u8 ta2)) (allC (decide_eq_false ha3) (allC (strAt_ok ha2 : pureRun cx.P (Instr.index 9 (.string a0) (.int .i64 sa)) = some (.int .u8 ta2)) (allC (decide_eq_true ha1) allN))))))))))) (by kernel_rfl)⟩, nofun⟩
      ·replace h := jf h ha7
       by_cases ha8 : ta2 = 95
       ·replace h := it h ha8
        obtain ⟨ha9, h⟩ := gd h
        obtain rfl := oi h
        exact ⟨100, 9, [.br true, .el (.v (.int .u8 ta2)), .br false, .no, .el (.v (.int .u8 ta2)), .br false, .el (.v (.int .u8 ta2)), .br true, .el (.v (.int .u8 ta2)), .br false, .el (.v (.int .u8 ta2)), .no, .br false, .br false], [], [0, 3], [], round_fr (allC ha9 (allC (notf (eqt ha8)) (allC (eqf ha7) (allC (strAt_ok ha2 : pureRun cx.P (Instr.index 9 (.string a0) (.int .i64 sa)) = some (.int .u8 ta2)) (allC (decide_eq_false ha6) (allC (strAt_ok ha2 : pureRun cx.P (Instr.index 9 (.string a0) (.int .i64 sa)) = some (.int .u8 ta2)) (allC (decide_eq_true ha5) (allC (strAt_ok ha2 : pureRun cx.P (Instr.index 9 (.string a0) (.int .i64 sa)) = some (.int .u8 ta2)) (allC (decide_eq_false ha4) (allC (strAt_ok ha2 : pureRun cx.P (Instr.index 9 (.string a0) (.int .i64 sa)) = some (.int .u8 ta2)) (allC (decide_eq_false ha3) (allC (strAt_ok ha2 : pureRun cx.P (Instr.index 9 (.string a0) (.int .i64 sa)) = some (.int .u8 ta2)) (allC (decide_eq_true ha1) allN))))))))))))) (by kernel_rfl)⟩
       ·replace h := jf h ha8
        obtain rfl := oi h
        exact ⟨⟨100, 9, [.br true, .el (.v (.int .u8 ta2)), .br false, .no, .el (.v (.int .u8 ta2)), .br false, .el (.v (.int .u8 ta2)), .br true, .el (.v (.int .u8 ta2)), .br false, .el (.v (.int .u8 ta2)), .no, .br false, .br true], [], [2], [], round_fr (allC (nott (eqf ha8)) (allC (eqf ha7) (allC (strAt_ok ha2 : pureRun cx.P (Instr.index 9 (.string a0) (.int .i64 sa)) = some (.int .u8 ta2)) (allC (decide_eq_false ha6) (allC (strAt_ok ha2 : pureRun cx.P (Instr.index 9 (.string a0) (.int .i64 sa)) = some (.int .u8 ta2)) (allC (decide_eq_true ha5) (allC (strAt_ok ha2 : pureRun cx.P (Instr.index 9 (.string a0) (.int .i64 sa)) = some (.int .u8 ta2)) (allC (decide_eq_false ha4) (allC (strAt_ok ha2 : pureRun cx.P (Instr.index 9 (.string a0) (.int .i64 sa)) = some (.int .u8 ta2)) (allC (decide_eq_false ha3) (allC (strAt_ok ha2 : pureRun cx.P (Instr.index 9 (.string a0) (.int .i64 sa)) = some (.int .u8 ta2)) (allC (decide_eq_true ha1) allN)))))))))))) (by kernel_rfl)⟩, nofun⟩
    ·replace h := jf h ha5
     by_cases ha6 : sa = 0
     ·replace h := it h ha6
      obtain rfl := oi h
      exact ⟨⟨100, 9, [.br true, .el (.v (.int .u8 ta2)), .br false, .no, .el (.v (.int .u8 ta2)), .br false, .el (.v (.int .u8 ta2)), .br false, .no, .el (.v (.int .u8 ta2)), .no, .br true, .no], [], [2], [], round_fr (allC (eqt ha6) (allC (strAt_ok ha2 : pureRun cx.P (Instr.index 9 (.string a0) (.int .i64 sa)) = some (.int .u8 ta2)) (allC (decide_eq_false ha5) (allC (strAt_ok ha2 : pureRun cx.P (Instr.index 9 (.string a0) (.int .i64 sa)) = some (.int .u8 ta2)) (allC (decide_eq_false ha4) (allC (strAt_ok ha2 : pureRun cx.P (Instr.index 9 (.string a0) (.int .i64 sa)) = some (.int .u8 ta2)) (allC (decide_eq_false ha3) (allC (strAt_ok ha2 : pureRun cx.P (Instr.index 9 (.string a0) (.int .i64 sa)) = some (.int .u8 ta2)) (allC (decide_eq_true ha1) allN))))))))) (by kernel_rfl)⟩, nofun⟩
     ·replace h := jf h ha6
      by_cases ha7 : ta2 = 95
      ·replace h := it h ha7
       obtain ⟨ha8, h⟩ := gd h
       obtain rfl := oi h
       exact ⟨100, 9, [.br true, .el (.v (.int .u8 ta2)), .br false, .no, .el (.v (.int .u8 ta2)), .br false, .el (.v (.int .u8 ta2)), .br false, .no, .el (.v (.int .u8 ta2)), .no, .br false, .br false], [], [0, 3], [], round_fr (allC ha8 (allC (notf (eqt ha7)) (allC (eqf ha6) (allC (strAt_ok ha2 : pureRun cx.P (Instr.index 9 (.string a0) (.int .i64 sa)) = some (.int .u8 ta2)) (allC (decide_eq_false ha5) (allC (strAt_ok ha2 : pureRun cx.P (Instr.index 9 (.string a0) (.int .i64 sa)) = some (.int .u8 ta2)) (allC (decide_eq_false ha4) (allC (strAt_ok ha2 : pureRun cx.P (Instr.index 9 (.string a0) (.int .i64 sa)) = some (.int .u8 ta2)) (allC (decide_eq_false ha3) (allC (strAt_ok ha2 : pureRun cx.P (Instr.index 9 (.string a0) (.int .i64 sa)) = some (.int .u8 ta2)) (allC (decide_eq_true ha1) allN))))))))))) (by kernel_rfl)⟩
      ·replace h := jf h ha7
       obtain rfl := oi h
       exact ⟨⟨100, 9, [.br true, .el (.v (.int .u8 ta2)), .br false, .no, .el (.v (.int .u8 ta2)), .br false, .el (.v (.int .u8 ta2)), .br false, .no, .el (.v (.int .u8 ta2)), .no, .br false, .br true], [], [2], [], round_fr (allC (nott (eqf ha7)) (allC (eqf ha6) (allC (strAt_ok ha2 : pureRun cx.P (Instr.index 9 (.string a0) (.int .i64 sa)) = some (.int .u8 ta2)) (allC (decide_eq_false ha5) (allC (strAt_ok ha2 : pureRun cx.P (Instr.index 9 (.string a0) (.int .i64 sa)) = some (.int .u8 ta2)) (allC (decide_eq_false ha4) (allC (strAt_ok ha2 : pureRun cx.P (Instr.index 9 (.string a0) (.int .i64 sa)) = some (.int .u8 ta2)) (allC (decide_eq_false ha3) (allC (strAt_ok ha2 : pureRun cx.P (Instr.index 9 (.string a0) (.int .i64 sa)) = some (.int .u8 ta2)) (allC (decide_eq_true ha1) allN)))))))))) (by kernel_rfl)⟩, nofun⟩
 ·replace h := jf h ha1
  obtain rfl := oi h
  exact ⟨⟨100, 9, [.br false], [], [], [], round_fr (allC (decide_eq_false ha1) allN) (by kernel_rfl)⟩, nofun⟩
def F_ref01_IsName (n : Nat) (a0 : ByteArray) : Option (Bool) :=
 if (a0.toList == (⟨#[]⟩ : ByteArray).toList) = true then
  some false
 else
 if (a0.size : Int) > 24 then
  some false
 else
 (loopF (F_ref01_IsName_L1 n a0) n 0).bind fun t3 => match t3 with
  | (.inl t3) => (
  some false)
  | (.inr t3) => (
  some true)
theorem c_ref01_IsName {n : Nat} {a0 : ByteArray} {r : Bool} (h : F_ref01_IsName n a0 = some r) : Computes cx 82 [.v (.string a0)] (B r) := by
 unfold F_ref01_IsName at h
 by_cases h1 : (a0.toList == (⟨#[]⟩ : ByteArray).toList) = true
 ·replace h := it h h1
  obtain rfl := oi h
  exact run_fr (n := 100) (orc := [.br true, .no]) (allC h1 allN) (by kernel_rfl)
 ·replace h := jf h h1
  by_cases h2 : (a0.size : Int) > 24
  ·replace h := it h h2
   obtain rfl := oi h
   exact run_fr (n := 100) (orc := [.br false, .br true]) (allC (decide_eq_true h2) (allC (bfalse h1) allN)) (by kernel_rfl)
  ·replace h := jf h h2
   obtain ⟨t3, h3, h⟩ := bo h
   rcases t3 with t3 | t3
   ·obtain rfl := oi h
    exact run_fr (n := 100) (orc := [.br false, .br false, .lp [] [0, 3] [] .ret [(2, .d (B false))] [] 77]) (allC (loopF_to R_ref01_IsName_L1 h3) (allC (decide_eq_false h2) (allC (bfalse h1) allN))) (by kernel_rfl)
   ·obtain rfl := oi h
    exact run_fr (n := 100) (orc := [.br false, .br false, .lp [] [0, 3] [] (.exit 0) [] [] 77]) (allC (loopF_to R_ref01_IsName_L1 h3) (allC (decide_eq_false h2) (allC (bfalse h1) allN))) (by kernel_rfl)
def F_ref01_When (n : Nat) (a0 : Bool) (a1 : Int) : Option (Int) :=
 if a0 = true then
  some a1
 else
 some 0
theorem c_ref01_When {n : Nat} {a0 : Bool} {a1 : Int} {r : Int} (h : F_ref01_When n a0 a1 = some r) : Computes cx 41 [B a0, I a1] (I r) := by
 unfold F_ref01_When at h
 by_cases h1 : a0 = true
 ·replace h := it h h1
  obtain rfl := oi h
  exact run_fr (n := 100) (orc := [.br true]) (allC h1 allN) (by kernel_rfl)
 ·replace h := jf h h1
  obtain rfl := oi h
  exact run_fr (n := 100) (orc := [.br false]) (allC (bfalse h1) allN) (by kernel_rfl)
def F_ref01_CheckName (n : Nat) (a0 : ByteArray) : Option (Int) :=
 (F_ref01_IsName n a0).bind fun t1 =>
 (F_ref01_When n (!t1) 8).bind fun t2 =>
 some t2
theorem c_ref01_CheckName {n : Nat} {a0 : ByteArray} {r : Int} (h : F_ref01_CheckName n a0 = some r) : Computes cx 51 [.v (.string a0)] (I r) := by
 unfold F_ref01_CheckName at h
 obtain ⟨t1, h1, h⟩ := bo h; obtain ⟨t2, h2, h⟩ := bo h
 obtain rfl := oi h
 exact run_fr (n := 100) (orc := [.ret (B t1), .ret (I t2)]) (allC (c_ref01_When h2) (allC (c_ref01_IsName h1) allN)) (by kernel_rfl)
def F_ref01_When_2 (n : Nat)  : Option (Int) :=
 some 3
theorem c_ref01_When_2 {n : Nat}  {r : Int} (h : F_ref01_When_2 n  = some r) : Computes cx 41 [B true, I 3] (I r) := by
 unfold F_ref01_When_2 at h
 obtain rfl := oi h
 exact run_fr (n := 100) (orc := [.no]) allN (by kernel_rfl)
def F_ref01_CheckRange (n : Nat) (a0 : Int) (a1 : Int) (a2 : Int) : Option (Int) :=
 if a0 < a1 then
  (F_ref01_When_2 n).bind fun t2 =>
  some t2
 else
 (F_ref01_When n (decide (a0 > a2)) 3).bind fun t2 =>
 some t2
theorem c_ref01_CheckRange {n : Nat} {a0 : Int} {a1 : Int} {a2 : Int} {r : Int} (h : F_ref01_CheckRange n a0 a1 a2 = some r) : Computes cx 67 [I a0, I a1, I a2] (I r) := by
 unfold F_ref01_CheckRange at h
 by_cases h1 : a0 < a1
 ·replace h := it h h1
  obtain ⟨t2, h2, h⟩ := bo h
  obtain rfl := oi h
  exact run_fr (n := 100) (orc := [.br true, .ret (I t2)]) (allC (c_ref01_When_2 h2) (allC (decide_eq_true h1) allN)) (by kernel_rfl)
 ·replace h := jf h h1
  obtain ⟨t2, h2, h⟩ := bo h
  obtain rfl := oi h
  exact run_fr (n := 100) (orc := [.br false, .ret (I t2)]) (allC (c_ref01_When h2) (allC (decide_eq_false h1) allN)) (by kernel_rfl)
def F_ref01_First_L1 (n : Nat) (a0 : List D) (sa : (Int)) : Option (((Int)) ⊕ ((Int) ⊕ (Unit))) :=
 if sa < ((a0).length : Int) then
  (el un_i a0 sa).bind fun ta2 =>
  if ta2 = 0 then
  if inI64 (sa + 1) then
  some (.inl (sa + 1))
  else none
  else
  some (.inr (.inl ta2))
 else
 some (.inr (.inr ()))
noncomputable def T_ref01_First_L1 (a0 : List D) (sa : (Int)) : List (Nat × AV) := [(0, .d (.lst false 1 a0)), (3, .d (I sa))]
noncomputable def H_ref01_First_L1 (a0 : List D) (sa : (Int)) : List (Nat × Blk) := []
noncomputable def X_ref01_First_L1 (a0 : List D) (e : (Int) ⊕ (Unit)) : Ex := match e with
  | (.inl e) => .ret
  | (.inr e) => (.exit 0)
noncomputable def XT_ref01_First_L1 (a0 : List D) (e : (Int) ⊕ (Unit)) : List (Nat × AV) := match e with
  | (.inl e) => [(2, .d (I e))]
  | (.inr e) => []
noncomputable def XH_ref01_First_L1 (a0 : List D) (e : (Int) ⊕ (Unit)) : List (Nat × Blk) := match e with
  | (.inl e) => []
  | (.inr e) => []
theorem R_ref01_First_L1 {n : Nat} {a0 : List D} (sa : (Int)) (r) (h : F_ref01_First_L1 n a0 sa = some r) : Rd cx (loopAt cx.P 37 0) 19 0 false (T_ref01_First_L1 a0) (H_ref01_First_L1 a0) (X_ref01_First_L1 a0) (XT_ref01_First_L1 a0) (XH_ref01_First_L1 a0) sa r := by
 unfold F_ref01_First_L1 at h
 by_cases ha1 : sa < ((a0).length : Int)
 ·replace h := it h ha1
  obtain ⟨ta2, ha2, h⟩ := bo h
  by_cases ha3 : ta2 = 0
  ·replace h := it h ha3
   obtain ⟨ha4, h⟩ := gd h
   obtain rfl := oi h
   exact ⟨100, 2, [.br true, .el (enc_i ta2), .br false], [], [0, 3], [], round_fr (allC ha4 (allC (nef ha3) (allC (el_ok un_i_ok ha2).1 (allC (el_ok un_i_ok ha2).2 (allC (decide_eq_true ha1) allN))))) (by kernel_rfl)⟩
  ·replace h := jf h ha3
   obtain rfl := oi h
   exact ⟨⟨100, 2, [.br true, .el (enc_i ta2), .br true, .el (enc_i ta2)], [], [2], [], round_fr (allC (el_ok un_i_ok ha2).1 (allC (el_ok un_i_ok ha2).2 (allC (net ha3) (allC (el_ok un_i_ok ha2).1 (allC (el_ok un_i_ok ha2).2 (allC (decide_eq_true ha1) allN)))))) (by kernel_rfl)⟩, nofun⟩
 ·replace h := jf h ha1
  obtain rfl := oi h
  exact ⟨⟨100, 2, [.br false], [], [], [], round_fr (allC (decide_eq_false ha1) allN) (by kernel_rfl)⟩, nofun⟩
def F_ref01_First (n : Nat) (a0 : List D) : Option (Int) :=
 (loopF (F_ref01_First_L1 n a0) n 0).bind fun t1 => match t1 with
  | (.inl t1) => (
  some t1)
  | (.inr t1) => (
  some 0)
theorem c_ref01_First {n : Nat} {a0 : List D} {r : Int} (h : F_ref01_First n a0 = some r) : Computes cx 37 [.lst false 1 a0] (I r) := by
 unfold F_ref01_First at h
 obtain ⟨t1, h1, h⟩ := bo h
 rcases t1 with t1 | t1
 ·obtain rfl := oi h
  exact run_fr (n := 100) (orc := [.lp [] [0, 3] [] .ret [(2, .d (I t1))] [] 27]) (allC (loopF_to R_ref01_First_L1 h1) allN) (by kernel_rfl)
 ·obtain rfl := oi h
  exact run_fr (n := 100) (orc := [.lp [] [0, 3] [] (.exit 0) [] [] 27]) (allC (loopF_to R_ref01_First_L1 h1) allN) (by kernel_rfl)
def F_ref04_checkParts (n : Nat) (a0 : Int) (a1 : Int) (a2 : Int) (a3 : Int) : Option (Int) :=
 if inI64 (0 - a3) then
 (F_ref01_CheckRange n a0 (0 - a3) a3).bind fun t2 =>
 (F_ref01_CheckRange n a1 (0 - a3) a3).bind fun t3 =>
 (F_ref01_CheckRange n a2 (0 - a3) a3).bind fun t4 =>
 (F_ref01_First n ([I t2, I t3, I t4])).bind fun t5 =>
 some t5
 else none
theorem c_ref04_checkParts {n : Nat} {a0 : Int} {a1 : Int} {a2 : Int} {a3 : Int} {r : Int} (h : F_ref04_checkParts n a0 a1 a2 a3 = some r) : Computes cx 40 [.agg [I a0, I a1, I a2], I a3] (I r) := by
 unfold F_ref04_checkParts at h
 obtain ⟨h1, h⟩ := gd h; obtain ⟨t2, h2, h⟩ := bo h; obtain ⟨t3, h3, h⟩ := bo h; obtain ⟨t4, h4, h⟩ := bo h; obtain ⟨t5, h5, h⟩ := bo h
 obtain rfl := oi h
 exact run_fr (n := 100) (orc := [.ret (I t2), .ret (I t3), .ret (I t4), .ret (I t5)]) (allC (((c_ref01_First h5).le (.cons (.full _ _ _) (.nil)) (.refl _)) : Computes cx 37 [.lst true 1 [I t2, I t3, I t4]] (I t5)) (allC (c_ref01_CheckRange h4) (allC h1 (allC (c_ref01_CheckRange h3) (allC h1 (allC (c_ref01_CheckRange h2) (allC h1 allN))))))) (by kernel_rfl)
def F_ref04_Cross (n : Nat) (a0 : Int) (a1 : Int) (a2 : Int) (a3 : Int) (a4 : Int) (a5 : Int) : Option (Int × Int × Int) :=
 if inI64 (a1 * a5) then
 if inI64 (a2 * a4) then
 if inI64 ((a1 * a5) - (a2 * a4)) then
 if inI64 (a2 * a3) then
 if inI64 (a0 * a5) then
 if inI64 ((a2 * a3) - (a0 * a5)) then
 if inI64 (a0 * a4) then
 if inI64 (a1 * a3) then
 if inI64 ((a0 * a4) - (a1 * a3)) then
 some (((a1 * a5) - (a2 * a4)), ((a2 * a3) - (a0 * a5)), ((a0 * a4) - (a1 * a3)))
 else none
 else none
 else none
 else none
 else none
 else none
 else none
 else none
 else none
theorem c_ref04_Cross {n : Nat} {a0 : Int} {a1 : Int} {a2 : Int} {a3 : Int} {a4 : Int} {a5 : Int} {r : Int × Int × Int} (h : F_ref04_Cross n a0 a1 a2 a3 a4 a5 = some r) : Computes cx 52 [.agg [I a0, I a1, I a2], .agg [I a3, I a4, I a5]] (.agg [I r.1, I r.2.1, I r.2.2]) := by
 unfold F_ref04_Cross at h
 obtain ⟨h1, h⟩ := gd h; obtain ⟨h2, h⟩ := gd h; obtain ⟨h3, h⟩ := gd h; obtain ⟨h4, h⟩ := gd h; obtain ⟨h5, h⟩ := gd h; obtain ⟨h6, h⟩ := gd h; obtain ⟨h7, h⟩ := gd h; obtain ⟨h8, h⟩ := gd h; obtain ⟨h9, h⟩ := gd h
 obtain rfl := oi h
 exact run_fr (n := 100) (orc := []) (allC h9 (allC h8 (allC h7 (allC h6 (allC h5 (allC h4 (allC h3 (allC h2 (allC h1 allN))))))))) (by kernel_rfl)
def F_ref04_CheckMirror (n : Nat) (a0 : ByteArray) (a1 : Int) (a2 : Int) (a3 : Int) (a4 : Int) (a5 : Int) (a6 : Int) (a7 : Int) (a8 : Int) (a9 : Int) : Option (Int) :=
 (F_ref01_CheckName n a0).bind fun t1 =>
 (F_ref04_checkParts n a1 a2 a3 4096).bind fun t2 =>
 (F_ref04_checkParts n a4 a5 a6 64).bind fun t3 =>
 (F_ref04_checkParts n a7 a8 a9 64).bind fun t4 =>
 (F_ref01_First n ([I t1, I t2, I t3, I t4])).bind fun t5 =>
 if t5 = 0 then
  (F_ref04_Cross n a4 a5 a6 a7 a8 a9).bind fun t7 =>
  (F_ref01_When n ((t7.1 == 0) && ((t7.2.1 == 0) && ((t7.2.2 == 0) && true))) 17).bind fun t8 =>
  some t8
 else
 some t5
theorem c_ref04_CheckMirror {n : Nat} {a0 : ByteArray} {a1 : Int} {a2 : Int} {a3 : Int} {a4 : Int} {a5 : Int} {a6 : Int} {a7 : Int} {a8 : Int} {a9 : Int} {r : Int} (h : F_ref04_CheckMirror n a0 a1 a2 a3 a4 a5 a6 a7 a8 a9 = some r) : Computes cx 12 [.agg [.v (.string a0), I a1, I a2, I a3, I a4, I a5, I a6, I a7, I a8, I a9]] (I r) := by
 unfold F_ref04_CheckMirror at h
 obtain ⟨t1, h1, h⟩ := bo h; obtain ⟨t2, h2, h⟩ := bo h; obtain ⟨t3, h3, h⟩ := bo h; obtain ⟨t4, h4, h⟩ := bo h; obtain ⟨t5, h5, h⟩ := bo h
 by_cases h6 : t5 = 0
 ·replace h := it h h6
  obtain ⟨t7, h7, h⟩ := bo h; obtain ⟨t8, h8, h⟩ := bo h
  obtain rfl := oi h
  exact run_fr (n := 100) (orc := [.ret (I t1), .ret (I t2), .ret (I t3), .ret (I t4), .ret (I t5), .br false, .ret (.agg [I t7.1, I t7.2.1, I t7.2.2]), .ret (I t8)]) (allC (c_ref01_When h8) (allC (c_ref04_Cross h7) (allC (nef h6) (allC (((c_ref01_First h5).le (.cons (.full _ _ _) (.nil)) (.refl _)) : Computes cx 37 [.lst true 1 [I t1, I t2, I t3, I t4]] (I t5)) (allC (c_ref04_checkParts h4) (allC (c_ref04_checkParts h3) (allC (c_ref04_checkParts h2) (allC (c_ref01_CheckName h1) allN)))))))) (by kernel_rfl)
 ·replace h := jf h h6
  obtain rfl := oi h
  exact run_fr (n := 100) (orc := [.ret (I t1), .ret (I t2), .ret (I t3), .ret (I t4), .ret (I t5), .br true]) (allC (net h6) (allC (((c_ref01_First h5).le (.cons (.full _ _ _) (.nil)) (.refl _)) : Computes cx 37 [.lst true 1 [I t1, I t2, I t3, I t4]] (I t5)) (allC (c_ref04_checkParts h4) (allC (c_ref04_checkParts h3) (allC (c_ref04_checkParts h2) (allC (c_ref01_CheckName h1) allN)))))) (by kernel_rfl)
end Go.Proofs.YtiogobiijlaalaaDoor
