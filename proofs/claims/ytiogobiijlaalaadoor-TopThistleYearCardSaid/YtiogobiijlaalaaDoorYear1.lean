/-
  Printed by gsx.py: functions of the program as Lean functions, and that the code computes them.
-/
import Derived.Test.YtiogobiijlaalaaDoorGen3
set_option linter.unusedVariables false
set_option maxRecDepth 10000
namespace Go.Proofs.YtiogobiijlaalaaDoor
open Go.SX
def F_ref02_Short (n : Nat) (a0 : ByteArray) (a1 : List D) : Option (Bool) :=
 if (a0.size : Int) ≤ 40 then
  if ((a1).length : Int) ≤ 12 then
  some true
  else
  some (((a1).length : Int) == 65)
 else
 some false
theorem c_ref02_Short {n : Nat} {a0 : ByteArray} {a1 : List D} {r : Bool} (h : F_ref02_Short n a0 a1 = some r) : Computes cx 20 [.agg [.v (.string a0), .lst false 4 a1]] (B r) := by
 unfold F_ref02_Short at h
 by_cases h1 : (a0.size : Int) ≤ 40
 ·replace h := it h h1
  by_cases h2 : ((a1).length : Int) ≤ 12
  ·replace h := it h h2
   obtain rfl := oi h
   exact run_fr (n := 100) (orc := [.br true, .br true]) (allC (decide_eq_true h2) (allC (decide_eq_true h1) allN)) (by kernel_rfl)
  ·replace h := jf h h2
   obtain rfl := oi h
   exact run_fr (n := 100) (orc := [.br true, .br false]) (allC (decide_eq_false h2) (allC (decide_eq_true h1) allN)) (by kernel_rfl)
 ·replace h := jf h h1
  obtain rfl := oi h
  exact run_fr (n := 100) (orc := [.br false]) (allC (decide_eq_false h1) allN) (by kernel_rfl)
def F_ref01_When_3 (n : Nat)  : Option (Int) :=
 some 0
theorem c_ref01_When_3 {n : Nat}  {r : Int} (h : F_ref01_When_3 n  = some r) : Computes cx 41 [B false, I 11] (I r) := by
 unfold F_ref01_When_3 at h
 obtain rfl := oi h
 exact run_fr (n := 100) (orc := [.no]) allN (by kernel_rfl)
def F_ref01_When_4 (n : Nat)  : Option (Int) :=
 some 0
theorem c_ref01_When_4 {n : Nat}  {r : Int} (h : F_ref01_When_4 n  = some r) : Computes cx 41 [B false, I 14] (I r) := by
 unfold F_ref01_When_4 at h
 obtain rfl := oi h
 exact run_fr (n := 100) (orc := [.no]) allN (by kernel_rfl)
def F_ref02_Dot (n : Nat) (a0 : Int) (a1 : Int) (a2 : Int) (a3 : Int) (a4 : Int) (a5 : Int) : Option (Int) :=
 if inI64 (a0 * a3) then
 if inI64 (a1 * a4) then
 if inI64 ((a0 * a3) + (a1 * a4)) then
 if inI64 (a2 * a5) then
 if inI64 (((a0 * a3) + (a1 * a4)) + (a2 * a5)) then
 some (((a0 * a3) + (a1 * a4)) + (a2 * a5))
 else none
 else none
 else none
 else none
 else none
theorem c_ref02_Dot {n : Nat} {a0 : Int} {a1 : Int} {a2 : Int} {a3 : Int} {a4 : Int} {a5 : Int} {r : Int} (h : F_ref02_Dot n a0 a1 a2 a3 a4 a5 = some r) : Computes cx 68 [.agg [I a0, I a1, I a2], .agg [I a3, I a4, I a5]] (I r) := by
 unfold F_ref02_Dot at h
 obtain ⟨h1, h⟩ := gd h; obtain ⟨h2, h⟩ := gd h; obtain ⟨h3, h⟩ := gd h; obtain ⟨h4, h⟩ := gd h; obtain ⟨h5, h⟩ := gd h
 obtain rfl := oi h
 exact run_fr (n := 100) (orc := []) (allC h5 (allC h4 (allC h3 (allC h2 (allC h1 allN))))) (by kernel_rfl)
def F_ref02_CheckSky_L1 (n : Nat) (a0 : ByteArray) (a1 : List D) (sa : (Int)) : Option (((Int)) ⊕ ((Int) ⊕ (Unit))) :=
 if sa < ((a1).length : Int) then
  (el un_Ai4Z a1 sa).bind fun ta2 =>
  if inI64 (sa - 1) then
  (el un_Ai4Z a1 (maxI 0 (sa - 1))).bind fun ta4 =>
  (F_ref01_CheckRange n ta2.1 0 10000000).bind fun ta5 =>
  if sa > 0 then
  (F_ref01_When n (decide (ta2.1 ≤ ta4.1)) 11).bind fun ta7 =>
  if inI64 (ta4.1 + 200) then
  (F_ref01_When n (decide (ta2.1 > (ta4.1 + 200))) 14).bind fun ta9 =>
  (F_ref02_CheckRay n ta2.2.1 ta2.2.2.1 ta2.2.2.2).bind fun ta10 =>
  (F_ref01_First n ([I ta5, I ta7, I ta9, I ta10])).bind fun ta11 =>
  if ta11 = 0 then
   (F_ref02_Dot n ta2.2.1 ta2.2.2.1 ta2.2.2.2 ta2.2.1 ta2.2.2.1 ta2.2.2.2).bind fun ta13 =>
   (el un_Ai4Z a1 0).bind fun ta14 =>
   (F_ref02_Dot n ta14.2.1 ta14.2.2.1 ta14.2.2.2 ta14.2.1 ta14.2.2.1 ta14.2.2.2).bind fun ta15 =>
   if ta13 = ta15 then
   if inI64 (sa + 1) then
   some (.inl (sa + 1))
   else none
   else
   some (.inr (.inl 2))
  else
  some (.inr (.inl ta11))
  else none
  else
  (F_ref01_When_3 n).bind fun ta7 =>
  (F_ref01_When_4 n).bind fun ta8 =>
  (F_ref02_CheckRay n ta2.2.1 ta2.2.2.1 ta2.2.2.2).bind fun ta9 =>
  (F_ref01_First n ([I ta5, I ta7, I ta8, I ta9])).bind fun ta10 =>
  if ta10 = 0 then
  (F_ref02_Dot n ta2.2.1 ta2.2.2.1 ta2.2.2.2 ta2.2.1 ta2.2.2.1 ta2.2.2.2).bind fun ta12 =>
  (el un_Ai4Z a1 0).bind fun ta13 =>
  (F_ref02_Dot n ta13.2.1 ta13.2.2.1 ta13.2.2.2 ta13.2.1 ta13.2.2.1 ta13.2.2.2).bind fun ta14 =>
  if ta12 = ta14 then
   if inI64 (sa + 1) then
   some (.inl (sa + 1))
   else none
  else
  some (.inr (.inl 2))
  else
  some (.inr (.inl ta10))
  else none
 else
 some (.inr (.inr ()))
noncomputable def T_ref02_CheckSky_L1 (a0 : ByteArray) (a1 : List D) (sa : (Int)) : List (Nat × AV) := [(1, .ptr 0 0 0 0 0), (4, .d (I sa))]
noncomputable def H_ref02_CheckSky_L1 (a0 : ByteArray) (a1 : List D) (sa : (Int)) : List (Nat × Blk) := [(0, .box (.d (.agg [.v (.string a0), .lst false 4 a1])))]
noncomputable def X_ref02_CheckSky_L1 (a0 : ByteArray) (a1 : List D) (e : (Int) ⊕ (Unit)) : Ex := match e with
  | (.inl e) => .ret
  | (.inr e) => (.exit 0)
noncomputable def XT_ref02_CheckSky_L1 (a0 : ByteArray) (a1 : List D) (e : (Int) ⊕ (Unit)) : List (Nat × AV) := match e with
  | (.inl e) => [(2, .d (I e))]
  | (.inr e) => []
noncomputable def XH_ref02_CheckSky_L1 (a0 : ByteArray) (a1 : List D) (e : (Int) ⊕ (Unit)) : List (Nat × Blk) := match e with
  | (.inl e) => []
  | (.inr e) => []
theorem R_ref02_CheckSky_L1 {n : Nat} {a0 : ByteArray} {a1 : List D} (sa : (Int)) (r) (h : F_ref02_CheckSky_L1 n a0 a1 sa = some r) : Rd cx (loopAt cx.P 21 0) 94 0 false (T_ref02_CheckSky_L1 a0 a1) (H_ref02_CheckSky_L1 a0 a1) (X_ref02_CheckSky_L1 a0 a1) (XT_ref02_CheckSky_L1 a0 a1) (XH_ref02_CheckSky_L1 a0 a1) sa r := by
 unfold F_ref02_CheckSky_L1 at h
 by_cases ha1 : sa < ((a1).length : Int)
 ·replace h := it h ha1
  obtain ⟨ta2, ha2, h⟩ := bo h; obtain ⟨ha3, h⟩ := gd h; obtain ⟨ta4, ha4, h⟩ := bo h; obtain ⟨ta5, ha5, h⟩ := bo h
  by_cases ha6 : sa > 0
  ·replace h := it h ha6
   obtain ⟨ta7, ha7, h⟩ := bo h; obtain ⟨ha8, h⟩ := gd h; obtain ⟨ta9, ha9, h⟩ := bo h; obtain ⟨ta10, ha10, h⟩ := bo h; obtain ⟨ta11, ha11, h⟩ := bo h
   by_cases ha12 : ta11 = 0
   ·replace h := it h ha12
    obtain ⟨ta13, ha13, h⟩ := bo h; obtain ⟨ta14, ha14, h⟩ := bo h; obtain ⟨ta15, ha15, h⟩ := bo h
    by_cases ha16 : ta13 = ta15
    ·replace h := it h ha16
     obtain ⟨ha17, h⟩ := gd h
     obtain rfl := oi h
     exact ⟨100, 21, [.br true, .el (enc_Ai4Z ta2), .el (enc_Ai4Z ta4), .ret (I ta5), .br true, .ret (I ta7), .br true, .ret (I ta9), .ret (I ta10), .ret (I ta11), .br false, .ret (I ta13), .el (enc_Ai4Z ta14), .el (enc_Ai4Z ta14), .ret (I ta15), .br false], [], [1, 4], [0], round_fr (allC ha17 (allC (nef ha16) (allC (c_ref02_Dot ha15) (allC (el_ok un_Ai4Z_ok ha14).1 (allC (el_ok un_Ai4Z_ok ha14).2 (allC (el_ok un_Ai4Z_ok ha14).1 (allC (el_ok un_Ai4Z_ok ha14).2 (allC (c_ref02_Dot ha13) (allC (nef ha12) (allC (((c_ref01_First ha11).le (.cons (.full _ _ _) (.nil)) (.refl _)) : Computes cx 37 [.lst true 1 [I ta5, I ta7, I ta9, I ta10]] (I ta11)) (allC (c_ref02_CheckRay ha10) (allC (c_ref01_When ha9) (allC ha8 (allC (decide_eq_true ha6) (allC (c_ref01_When ha7) (allC (decide_eq_true ha6) (allC (c_ref01_CheckRange ha5) (allC (el_ok un_Ai4Z_ok ha4).1 (allC (el_ok un_Ai4Z_ok ha4).2 (allC ha3 (allC (el_ok un_Ai4Z_ok ha2).1 (allC (el_ok un_Ai4Z_ok ha2).2 (allC (decide_eq_true ha1) allN))))))))))))))))))))))) (by kernel_rfl)⟩
    ·replace h := jf h ha16
     obtain rfl := oi h
     exact ⟨⟨100, 21, [.br true, .el (enc_Ai4Z ta2), .el (enc_Ai4Z ta4), .ret (I ta5), .br true, .ret (I ta7), .br true, .ret (I ta9), .ret (I ta10), .ret (I ta11), .br false, .ret (I ta13), .el (enc_Ai4Z ta14), .el (enc_Ai4Z ta14), .ret (I ta15), .br true], [], [2], [], round_fr (allC (net ha16) (allC (c_ref02_Dot ha15) (allC (el_ok un_Ai4Z_ok ha14).1 (allC (el_ok un_Ai4Z_ok ha14).2 (allC (el_ok un_Ai4Z_ok ha14).1 (allC (el_ok un_Ai4Z_ok ha14).2 (allC (c_ref02_Dot ha13) (allC (nef ha12) (allC (((c_ref01_First ha11).le (.cons (.full _ _ _) (.nil)) (.refl _)) : Computes cx 37 [.lst true 1 [I ta5, I ta7, I ta9, I ta10]] (I ta11)) (allC (c_ref02_CheckRay ha10) (allC (c_ref01_When ha9) (allC ha8 (allC (decide_eq_true ha6) (allC (c_ref01_When ha7) (allC (decide_eq_true ha6) (allC (c_ref01_CheckRange ha5) (allC (el_ok un_Ai4Z_ok ha4).1 (allC (el_ok un_Ai4Z_ok ha4).2 (allC ha3 (allC (el_ok un_Ai4Z_ok ha2).1 (allC (el_ok un_Ai4Z_ok ha2).2 (allC (decide_eq_true ha1) allN)))))))))))))))))))))) (by kernel_rfl)⟩, nofun⟩
   ·replace h := jf h ha12
    obtain rfl := oi h
    exact ⟨⟨100, 21, [.br true, .el (enc_Ai4Z ta2), .el (enc_Ai4Z ta4), .ret (I ta5), .br true, .ret (I ta7), .br true, .ret (I ta9), .ret (I ta10), .ret (I ta11), .br true], [], [2], [], round_fr (allC (net ha12) (allC (((c_ref01_First ha11).le (.cons (.full _ _ _) (.nil)) (.refl _)) : Computes cx 37 [.lst true 1 [I ta5, I ta7, I ta9, I ta10]] (I ta11)) (allC (c_ref02_CheckRay ha10) (allC (c_ref01_When ha9) (allC ha8 (allC (decide_eq_true ha6) (allC (c_ref01_When ha7) (allC (decide_eq_true ha6) (allC (c_ref01_CheckRange ha5) (allC (el_ok un_Ai4Z_ok ha4).1 (allC (el_ok un_Ai4Z_ok ha4).2 (allC ha3 (allC (el_ok un_Ai4Z_ok ha2).1 (allC (el_ok un_Ai4Z_ok ha2).2 (allC (decide_eq_true ha1) allN))))))))))))))) (by kernel_rfl)⟩, nofun⟩
  ·replace h := jf h ha6
   obtain ⟨ta7, ha7, h⟩ := bo h; obtain ⟨ta8, ha8, h⟩ := bo h; obtain ⟨ta9, ha9, h⟩ := bo h; obtain ⟨ta10, ha10, h⟩ := bo h
   by_cases ha11 : ta10 = 0
   ·replace h := it h ha11
    obtain ⟨ta12, ha12, h⟩ := bo h; obtain ⟨ta13, ha13, h⟩ := bo h; obtain ⟨ta14, ha14, h⟩ := bo h
    by_cases ha15 : ta12 = ta14
    ·replace h := it h ha15
     obtain ⟨ha16, h⟩ := gd h
     obtain rfl := oi h
     exact ⟨100, 21, [.br true, .el (enc_Ai4Z ta2), .el (enc_Ai4Z ta4), .ret (I ta5), .br false, .ret (I ta7), .br false, .ret (I ta8), .ret (I ta9), .ret (I ta10), .br false, .ret (I ta12), .el (enc_Ai4Z ta13), .el (enc_Ai4Z ta13), .ret (I ta14), .br false], [], [1, 4], [0], round_fr (allC ha16 (allC (nef ha15) (allC (c_ref02_Dot ha14) (allC (el_ok un_Ai4Z_ok ha13).1 (allC (el_ok un_Ai4Z_ok ha13).2 (allC (el_ok un_Ai4Z_ok ha13).1 (allC (el_ok un_Ai4Z_ok ha13).2 (allC (c_ref02_Dot ha12) (allC (nef ha11) (allC (((c_ref01_First ha10).le (.cons (.full _ _ _) (.nil)) (.refl _)) : Computes cx 37 [.lst true 1 [I ta5, I ta7, I ta8, I ta9]] (I ta10)) (allC (c_ref02_CheckRay ha9) (allC (c_ref01_When_4 ha8) (allC (decide_eq_false ha6) (allC (c_ref01_When_3 ha7) (allC (decide_eq_false ha6) (allC (c_ref01_CheckRange ha5) (allC (el_ok un_Ai4Z_ok ha4).1 (allC (el_ok un_Ai4Z_ok ha4).2 (allC ha3 (allC (el_ok un_Ai4Z_ok ha2).1 (allC (el_ok un_Ai4Z_ok ha2).2 (allC (decide_eq_true ha1) allN)))))))))))))))))))))) (by kernel_rfl)⟩
    ·replace h := jf h ha15
     obtain rfl := oi h
     exact ⟨⟨100, 21, [.br true, .el (enc_Ai4Z ta2), .el (enc_Ai4Z ta4), .ret (I ta5), .br false, .ret (I ta7), .br false, .ret (I ta8), .ret (I ta9), .ret (I ta10), .br false, .ret (I ta12), .el (enc_Ai4Z ta13), .el (enc_Ai4Z ta13), .ret (I ta14), .br true], [], [2], [], round_fr (allC (net ha15) (allC (c_ref02_Dot ha14) (allC (el_ok un_Ai4Z_ok ha13).1 (allC (el_ok un_Ai4Z_ok ha13).2 (allC (el_ok un_Ai4Z_ok ha13).1 (allC (el_ok un_Ai4Z_ok ha13).2 (allC (c_ref02_Dot ha12) (allC (nef ha11) (allC (((c_ref01_First ha10).le (.cons (.full _ _ _) (.nil)) (.refl _)) : Computes cx 37 [.lst true 1 [I ta5, I ta7, I ta8, I ta9]] (I ta10)) (allC (c_ref02_CheckRay ha9) (allC (c_ref01_When_4 ha8) (allC (decide_eq_false ha6) (allC (c_ref01_When_3 ha7) (allC (decide_eq_false ha6) (allC (c_ref01_CheckRange ha5) (allC (el_ok un_Ai4Z_ok ha4).1 (allC (el_ok un_Ai4Z_ok ha4).2 (allC ha3 (allC (el_ok un_Ai4Z_ok ha2).1 (allC (el_ok un_Ai4Z_ok ha2).2 (allC (decide_eq_true ha1) allN))))))))))))))))))))) (by kernel_rfl)⟩, nofun⟩
   ·replace h := jf h ha11
    obtain rfl := oi h
    exact ⟨⟨100, 21, [.br true, .el (enc_Ai4Z ta2), .el (enc_Ai4Z ta4), .ret (I ta5), .br false, .ret (I ta7), .br false, .ret (I ta8), .ret (I ta9), .ret (I ta10), .br true], [], [2], [], round_fr (allC (net ha11) (allC (((c_ref01_First ha10).le (.cons (.full _ _ _) (.nil)) (.refl _)) : Computes cx 37 [.lst true 1 [I ta5, I ta7, I ta8, I ta9]] (I ta10)) (allC (c_ref02_CheckRay ha9) (allC (c_ref01_When_4 ha8) (allC (decide_eq_false ha6) (allC (c_ref01_When_3 ha7) (allC (decide_eq_false ha6) (allC (c_ref01_CheckRange ha5) (allC (el_ok un_Ai4Z_ok ha4).1 (allC (el_ok un_Ai4Z_ok ha4).2 (allC ha3 (allC (el_ok un_Ai4Z_ok ha2).1 (allC (el_ok un_Ai4Z_ok ha2).2 (allC (decide_eq_true ha1) allN)))))))))))))) (by kernel_rfl)⟩, nofun⟩
 ·replace h := jf h ha1
  obtain rfl := oi h
  exact ⟨⟨100, 21, [.br false], [], [], [], round_fr (allC (decide_eq_false ha1) allN) (by kernel_rfl)⟩, nofun⟩
def F_ref02_CheckSky (n : Nat) (a0 : ByteArray) (a1 : List D) : Option (Int) :=
 (F_ref01_CheckName n a0).bind fun t1 =>
 (F_ref01_When n (decide (((a1).length : Int) < 2)) 16).bind fun t2 =>
 (F_ref01_When n (decide (((a1).length : Int) > 64)) 5).bind fun t3 =>
 (F_ref01_First n ([I t1, I t2, I t3])).bind fun t4 =>
 if t4 = 0 then
  (loopF (F_ref02_CheckSky_L1 n a0 a1) n 0).bind fun t6 => match t6 with
  | (.inl t6) => (
   some t6)
  | (.inr t6) => (
   some 0)
 else
 some t4
theorem c_ref02_CheckSky {n : Nat} {a0 : ByteArray} {a1 : List D} {r : Int} (h : F_ref02_CheckSky n a0 a1 = some r) : Computes cx 21 [.agg [.v (.string a0), .lst false 4 a1]] (I r) := by
 unfold F_ref02_CheckSky at h
 obtain ⟨t1, h1, h⟩ := bo h; obtain ⟨t2, h2, h⟩ := bo h; obtain ⟨t3, h3, h⟩ := bo h; obtain ⟨t4, h4, h⟩ := bo h
 by_cases h5 : t4 = 0
 ·replace h := it h h5
  obtain ⟨t6, h6, h⟩ := bo h
  rcases t6 with t6 | t6
  ·obtain rfl := oi h
   exact run_fr (n := 100) (orc := [.ret (I t1), .ret (I t2), .ret (I t3), .ret (I t4), .br false, .lp [] [1, 4] [0] .ret [(2, .d (I t6))] [] 105]) (allC (loopF_to R_ref02_CheckSky_L1 h6) (allC (nef h5) (allC (((c_ref01_First h4).le (.cons (.full _ _ _) (.nil)) (.refl _)) : Computes cx 37 [.lst true 1 [I t1, I t2, I t3]] (I t4)) (allC (c_ref01_When h3) (allC (c_ref01_When h2) (allC (c_ref01_CheckName h1) allN)))))) (by kernel_rfl)
  ·obtain rfl := oi h
   exact run_fr (n := 100) (orc := [.ret (I t1), .ret (I t2), .ret (I t3), .ret (I t4), .br false, .lp [] [1, 4] [0] (.exit 0) [] [] 105]) (allC (loopF_to R_ref02_CheckSky_L1 h6) (allC (nef h5) (allC (((c_ref01_First h4).le (.cons (.full _ _ _) (.nil)) (.refl _)) : Computes cx 37 [.lst true 1 [I t1, I t2, I t3]] (I t4)) (allC (c_ref01_When h3) (allC (c_ref01_When h2) (allC (c_ref01_CheckName h1) allN)))))) (by kernel_rfl)
 ·replace h := jf h h5
  obtain rfl := oi h
  exact run_fr (n := 100) (orc := [.ret (I t1), .ret (I t2), .ret (I t3), .ret (I t4), .br true]) (allC (net h5) (allC (((c_ref01_First h4).le (.cons (.full _ _ _) (.nil)) (.refl _)) : Computes cx 37 [.lst true 1 [I t1, I t2, I t3]] (I t4)) (allC (c_ref01_When h3) (allC (c_ref01_When h2) (allC (c_ref01_CheckName h1) allN))))) (by kernel_rfl)
def F_ref04_ShortMirror (n : Nat) (a0 : ByteArray) (a1 : Int) (a2 : Int) (a3 : Int) (a4 : Int) (a5 : Int) (a6 : Int) (a7 : Int) (a8 : Int) (a9 : Int) : Option (Bool) :=
 some (decide ((a0.size : Int) ≤ 40))
theorem c_ref04_ShortMirror {n : Nat} {a0 : ByteArray} {a1 : Int} {a2 : Int} {a3 : Int} {a4 : Int} {a5 : Int} {a6 : Int} {a7 : Int} {a8 : Int} {a9 : Int} {r : Bool} (h : F_ref04_ShortMirror n a0 a1 a2 a3 a4 a5 a6 a7 a8 a9 = some r) : Computes cx 69 [.agg [.v (.string a0), I a1, I a2, I a3, I a4, I a5, I a6, I a7, I a8, I a9]] (B r) := by
 unfold F_ref04_ShortMirror at h
 obtain rfl := oi h
 exact run_fr (n := 100) (orc := []) allN (by kernel_rfl)
def F_ref04_Short_L1 (n : Nat) (a0 : List D) (sa : (Int)) : Option (((Int)) ⊕ ((Unit) ⊕ (Unit))) :=
 if sa < ((a0).length : Int) then
  (el un_Asi9Z a0 sa).bind fun ta2 =>
  (F_ref04_ShortMirror n ta2.1 ta2.2.1 ta2.2.2.1 ta2.2.2.2.1 ta2.2.2.2.2.1 ta2.2.2.2.2.2.1 ta2.2.2.2.2.2.2.1 ta2.2.2.2.2.2.2.2.1 ta2.2.2.2.2.2.2.2.2.1 ta2.2.2.2.2.2.2.2.2.2).bind fun ta3 =>
  if ta3 = true then
  if inI64 (sa + 1) then
  some (.inl (sa + 1))
  else none
  else
  some (.inr (.inl ()))
 else
 some (.inr (.inr ()))
noncomputable def T_ref04_Short_L1 (a0 : List D) (sa : (Int)) : List (Nat × AV) := [(0, .d (.lst false 10 a0)), (3, .d (I sa))]
noncomputable def H_ref04_Short_L1 (a0 : List D) (sa : (Int)) : List (Nat × Blk) := []
noncomputable def X_ref04_Short_L1 (a0 : List D) (e : (Unit) ⊕ (Unit)) : Ex := match e with
  | (.inl e) => .ret
  | (.inr e) => (.exit 0)
noncomputable def XT_ref04_Short_L1 (a0 : List D) (e : (Unit) ⊕ (Unit)) : List (Nat × AV) := match e with
  | (.inl e) => [(2, .d (B false))]
  | (.inr e) => [(0, .d (.lst false 10 a0))]
noncomputable def XH_ref04_Short_L1 (a0 : List D) (e : (Unit) ⊕ (Unit)) : List (Nat × Blk) := match e with
  | (.inl e) => []
  | (.inr e) => []
theorem R_ref04_Short_L1 {n : Nat} {a0 : List D} (sa : (Int)) (r) (h : F_ref04_Short_L1 n a0 sa = some r) : Rd cx (loopAt cx.P 22 0) 24 0 false (T_ref04_Short_L1 a0) (H_ref04_Short_L1 a0) (X_ref04_Short_L1 a0) (XT_ref04_Short_L1 a0) (XH_ref04_Short_L1 a0) sa r := by
 unfold F_ref04_Short_L1 at h
 by_cases ha1 : sa < ((a0).length : Int)
 ·replace h := it h ha1
  obtain ⟨ta2, ha2, h⟩ := bo h; obtain ⟨ta3, ha3, h⟩ := bo h
  by_cases ha4 : ta3 = true
  ·replace h := it h ha4
   obtain ⟨ha5, h⟩ := gd h
   obtain rfl := oi h
   exact ⟨100, 2, [.br true, .el (enc_Asi9Z ta2), .ret (B ta3), .br false], [], [0, 3], [], round_fr (allC ha5 (allC (notf ha4) (allC (c_ref04_ShortMirror ha3) (allC (el_ok un_Asi9Z_ok ha2).1 (allC (el_ok un_Asi9Z_ok ha2).2 (allC (decide_eq_true ha1) allN)))))) (by kernel_rfl)⟩
  ·replace h := jf h ha4
   obtain rfl := oi h
   exact ⟨⟨100, 2, [.br true, .el (enc_Asi9Z ta2), .ret (B ta3), .br true], [], [2], [], round_fr (allC (nott (bfalse ha4)) (allC (c_ref04_ShortMirror ha3) (allC (el_ok un_Asi9Z_ok ha2).1 (allC (el_ok un_Asi9Z_ok ha2).2 (allC (decide_eq_true ha1) allN))))) (by kernel_rfl)⟩, nofun⟩
 ·replace h := jf h ha1
  obtain rfl := oi h
  exact ⟨⟨100, 2, [.br false], [], [0], [], round_fr (allC (decide_eq_false ha1) allN) (by kernel_rfl)⟩, nofun⟩
def F_ref04_Short (n : Nat) (a0 : List D) : Option (Bool) :=
 (loopF (F_ref04_Short_L1 n a0) n 0).bind fun t1 => match t1 with
  | (.inl t1) => (
  some false)
  | (.inr t1) => (
  if ((a0).length : Int) ≤ 6 then
   some true
  else
  some (((a0).length : Int) == 65))
theorem c_ref04_Short {n : Nat} {a0 : List D} {r : Bool} (h : F_ref04_Short n a0 = some r) : Computes cx 22 [.lst false 10 a0] (B r) := by
 unfold F_ref04_Short at h
 obtain ⟨t1, h1, h⟩ := bo h
 rcases t1 with t1 | t1
 ·obtain rfl := oi h
  exact run_fr (n := 100) (orc := [.lp [] [0, 3] [] .ret [(2, .d (B false))] [] 26]) (allC (loopF_to R_ref04_Short_L1 h1) allN) (by kernel_rfl)
 ·by_cases h2 : ((a0).length : Int) ≤ 6
  ·replace h := it h h2
   obtain rfl := oi h
   exact run_fr (n := 100) (orc := [.lp [] [0, 3] [] (.exit 0) [(0, .d (.lst false 10 a0))] [] 26, .br true]) (allC (decide_eq_true h2) (allC (loopF_to R_ref04_Short_L1 h1) allN)) (by kernel_rfl)
  ·replace h := jf h h2
   obtain rfl := oi h
   exact run_fr (n := 100) (orc := [.lp [] [0, 3] [] (.exit 0) [(0, .d (.lst false 10 a0))] [] 26, .br false]) (allC (decide_eq_false h2) (allC (loopF_to R_ref04_Short_L1 h1) allN)) (by kernel_rfl)
def F_ref04_CheckMirrors_L1 (n : Nat) (a0 : List D) (sa : Int) (sb : (Int)) : Option (((Int)) ⊕ ((Unit) ⊕ (Unit))) :=
 if sb < sa then
  (el un_Asi9Z a0 sb).bind fun tb2 =>
  (el un_Asi9Z a0 sa).bind fun tb3 =>
  if (tb2.1.toList == tb3.1.toList) = true then
  some (.inr (.inl ()))
  else
  if inI64 (sb + 1) then
  some (.inl (sb + 1))
  else none
 else
 some (.inr (.inr ()))
noncomputable def T_ref04_CheckMirrors_L1 (a0 : List D) (sa : Int) (sb : (Int)) : List (Nat × AV) := [(0, .d (.lst false 10 a0)), (3, .d (I sa)), (5, .d (I sb))]
noncomputable def H_ref04_CheckMirrors_L1 (a0 : List D) (sa : Int) (sb : (Int)) : List (Nat × Blk) := []
noncomputable def X_ref04_CheckMirrors_L1 (a0 : List D) (sa : Int) (e : (Unit) ⊕ (Unit)) : Ex := match e with
  | (.inl e) => .ret
  | (.inr e) => (.exit 2)
noncomputable def XT_ref04_CheckMirrors_L1 (a0 : List D) (sa : Int) (e : (Unit) ⊕ (Unit)) : List (Nat × AV) := match e with
  | (.inl e) => [(2, .d (I 9))]
  | (.inr e) => [(0, .d (.lst false 10 a0)), (3, .d (I sa))]
noncomputable def XH_ref04_CheckMirrors_L1 (a0 : List D) (sa : Int) (e : (Unit) ⊕ (Unit)) : List (Nat × Blk) := match e with
  | (.inl e) => []
  | (.inr e) => []
theorem R_ref04_CheckMirrors_L1 {n : Nat} {a0 : List D} {sa : Int} (sb : (Int)) (r) (h : F_ref04_CheckMirrors_L1 n a0 sa sb = some r) : Rd cx (loopAt cx.P 23 1) 39 0 false (T_ref04_CheckMirrors_L1 a0 sa) (H_ref04_CheckMirrors_L1 a0 sa) (X_ref04_CheckMirrors_L1 a0 sa) (XT_ref04_CheckMirrors_L1 a0 sa) (XH_ref04_CheckMirrors_L1 a0 sa) sb r := by
 unfold F_ref04_CheckMirrors_L1 at h
 by_cases hb1 : sb < sa
 ·replace h := it h hb1
  obtain ⟨tb2, hb2, h⟩ := bo h; obtain ⟨tb3, hb3, h⟩ := bo h
  by_cases hb4 : (tb2.1.toList == tb3.1.toList) = true
  ·replace h := it h hb4
   obtain rfl := oi h
   exact ⟨⟨100, 18, [.br true, .el (enc_Asi9Z tb2), .el (enc_Asi9Z tb3), .br true], [], [2], [], round_fr (allC hb4 (allC (el_ok un_Asi9Z_ok hb3).1 (allC (el_ok un_Asi9Z_ok hb3).2 (allC (el_ok un_Asi9Z_ok hb2).1 (allC (el_ok un_Asi9Z_ok hb2).2 (allC (decide_eq_true hb1) allN)))))) (by kernel_rfl)⟩, nofun⟩
  ·replace h := jf h hb4
   obtain ⟨hb5, h⟩ := gd h
   obtain rfl := oi h
   exact ⟨100, 18, [.br true, .el (enc_Asi9Z tb2), .el (enc_Asi9Z tb3), .br false], [], [0, 3, 5], [], round_fr (allC hb5 (allC (bfalse hb4) (allC (el_ok un_Asi9Z_ok hb3).1 (allC (el_ok un_Asi9Z_ok hb3).2 (allC (el_ok un_Asi9Z_ok hb2).1 (allC (el_ok un_Asi9Z_ok hb2).2 (allC (decide_eq_true hb1) allN))))))) (by kernel_rfl)⟩
 ·replace h := jf h hb1
  obtain rfl := oi h
  exact ⟨⟨100, 18, [.br false], [], [0, 3], [], round_fr (allC (decide_eq_false hb1) allN) (by kernel_rfl)⟩, nofun⟩
def F_ref04_CheckMirrors_L2 (n : Nat) (a0 : List D) (sa : (Int)) : Option (((Int)) ⊕ ((Int) ⊕ (Unit))) :=
 if sa < ((a0).length : Int) then
  (el un_Asi9Z a0 sa).bind fun ta2 =>
  (F_ref04_CheckMirror n ta2.1 ta2.2.1 ta2.2.2.1 ta2.2.2.2.1 ta2.2.2.2.2.1 ta2.2.2.2.2.2.1 ta2.2.2.2.2.2.2.1 ta2.2.2.2.2.2.2.2.1 ta2.2.2.2.2.2.2.2.2.1 ta2.2.2.2.2.2.2.2.2.2).bind fun ta3 =>
  if ta3 = 0 then
  (loopF (F_ref04_CheckMirrors_L1 n a0 sa) n 0).bind fun ta5 => match ta5 with
   | (.inl ta5) => (
   some (.inr (.inl 9)))
   | (.inr ta5) => (
   if inI64 (sa + 1) then
   some (.inl (sa + 1))
   else none)
  else
  some (.inr (.inl ta3))
 else
 some (.inr (.inr ()))
noncomputable def T_ref04_CheckMirrors_L2 (a0 : List D) (sa : (Int)) : List (Nat × AV) := [(0, .d (.lst false 10 a0)), (3, .d (I sa))]
noncomputable def H_ref04_CheckMirrors_L2 (a0 : List D) (sa : (Int)) : List (Nat × Blk) := []
noncomputable def X_ref04_CheckMirrors_L2 (a0 : List D) (e : (Int) ⊕ (Unit)) : Ex := match e with
  | (.inl e) => .ret
  | (.inr e) => (.exit 0)
noncomputable def XT_ref04_CheckMirrors_L2 (a0 : List D) (e : (Int) ⊕ (Unit)) : List (Nat × AV) := match e with
  | (.inl e) => [(2, .d (I e))]
  | (.inr e) => []
noncomputable def XH_ref04_CheckMirrors_L2 (a0 : List D) (e : (Int) ⊕ (Unit)) : List (Nat × Blk) := match e with
  | (.inl e) => []
  | (.inr e) => []
theorem R_ref04_CheckMirrors_L2 {n : Nat} {a0 : List D} (sa : (Int)) (r) (h : F_ref04_CheckMirrors_L2 n a0 sa = some r) : Rd cx (loopAt cx.P 23 0) 39 0 false (T_ref04_CheckMirrors_L2 a0) (H_ref04_CheckMirrors_L2 a0) (X_ref04_CheckMirrors_L2 a0) (XT_ref04_CheckMirrors_L2 a0) (XH_ref04_CheckMirrors_L2 a0) sa r := by
 unfold F_ref04_CheckMirrors_L2 at h
 by_cases ha1 : sa < ((a0).length : Int)
 ·replace h := it h ha1
  obtain ⟨ta2, ha2, h⟩ := bo h; obtain ⟨ta3, ha3, h⟩ := bo h
  by_cases ha4 : ta3 = 0
  ·replace h := it h ha4
   obtain ⟨ta5, ha5, h⟩ := bo h
   rcases ta5 with ta5 | ta5
   ·obtain rfl := oi h
    exact ⟨⟨100, 5, [.br true, .el (enc_Asi9Z ta2), .ret (I ta3), .br false, .lp [] [0, 3, 5] [] .ret [(2, .d (I 9))] [] 46], [], [2], [], round_fr (allC (loopF_to R_ref04_CheckMirrors_L1 ha5) (allC (nef ha4) (allC (c_ref04_CheckMirror ha3) (allC (el_ok un_Asi9Z_ok ha2).1 (allC (el_ok un_Asi9Z_ok ha2).2 (allC (decide_eq_true ha1) allN)))))) (by kernel_rfl)⟩, nofun⟩
   ·obtain ⟨ha6, h⟩ := gd h
    obtain rfl := oi h
    exact ⟨100, 5, [.br true, .el (enc_Asi9Z ta2), .ret (I ta3), .br false, .lp [] [0, 3, 5] [] (.exit 2) [(0, .d (.lst false 10 a0)), (3, .d (I sa))] [] 46], [], [0, 3], [], round_fr (allC ha6 (allC (loopF_to R_ref04_CheckMirrors_L1 ha5) (allC (nef ha4) (allC (c_ref04_CheckMirror ha3) (allC (el_ok un_Asi9Z_ok ha2).1 (allC (el_ok un_Asi9Z_ok ha2).2 (allC (decide_eq_true ha1) allN))))))) (by kernel_rfl)⟩
  ·replace h := jf h ha4
   obtain rfl := oi h
   exact ⟨⟨100, 5, [.br true, .el (enc_Asi9Z ta2), .ret (I ta3), .br true], [], [2], [], round_fr (allC (net ha4) (allC (c_ref04_CheckMirror ha3) (allC (el_ok un_Asi9Z_ok ha2).1 (allC (el_ok un_Asi9Z_ok ha2).2 (allC (decide_eq_true ha1) allN))))) (by kernel_rfl)⟩, nofun⟩
 ·replace h := jf h ha1
  obtain rfl := oi h
  exact ⟨⟨100, 5, [.br false], [], [], [], round_fr (allC (decide_eq_false ha1) allN) (by kernel_rfl)⟩, nofun⟩
def F_ref04_CheckMirrors (n : Nat) (a0 : List D) : Option (Int) :=
 if ((a0).length : Int) > 64 then
  some 5
 else
 (loopF (F_ref04_CheckMirrors_L2 n a0) n 0).bind fun t2 => match t2 with
  | (.inl t2) => (
  some t2)
  | (.inr t2) => (
  some 0)
theorem c_ref04_CheckMirrors {n : Nat} {a0 : List D} {r : Int} (h : F_ref04_CheckMirrors n a0 = some r) : Computes cx 23 [.lst false 10 a0] (I r) := by
 unfold F_ref04_CheckMirrors at h
 by_cases h1 : ((a0).length : Int) > 64
 ·replace h := it h h1
  obtain rfl := oi h
  exact run_fr (n := 100) (orc := [.br true]) (allC (decide_eq_true h1) allN) (by kernel_rfl)
 ·replace h := jf h h1
  obtain ⟨t2, h2, h⟩ := bo h
  rcases t2 with t2 | t2
  ·obtain rfl := oi h
   exact run_fr (n := 100) (orc := [.br false, .lp [] [0, 3] [] .ret [(2, .d (I t2))] [] 60]) (allC (loopF_to R_ref04_CheckMirrors_L2 h2) (allC (decide_eq_false h1) allN)) (by kernel_rfl)
  ·obtain rfl := oi h
   exact run_fr (n := 100) (orc := [.br false, .lp [] [0, 3] [] (.exit 0) [] [] 60]) (allC (loopF_to R_ref04_CheckMirrors_L2 h2) (allC (decide_eq_false h1) allN)) (by kernel_rfl)
def F_top_thistleSky_L1 (n : Nat) (a0 : ByteArray) (a1 : List D) (sa : (Unit) ⊕ (Int × List D)) : Option (((Unit) ⊕ (Int × List D)) ⊕ ((Unit) ⊕ (List D))) := match sa with
 | (.inl sa) => (
  if 0 < ((a1).length : Int) then
  (el un_Ai4Z a1 0).bind fun ta2 =>
  some (.inl (.inr (1, [.agg [I ta2.1, I ta2.2.1, I ta2.2.2.1, I ta2.2.2.2]])))
  else
  some (.inr (.inl ())))
 | (.inr sa) => (
  if sa.1 < ((a1).length : Int) then
  (el un_Ai4Z a1 sa.1).bind fun ta2 =>
  if roomP 32 ((sa.2).length + 1) then
  if inI64 (sa.1 + 1) then
  some (.inl (.inr ((sa.1 + 1), (sa.2 ++ ([.agg [I ta2.1, I ta2.2.1, I ta2.2.2.1, I ta2.2.2.2]] : List D)))))
  else none
  else none
  else
  some (.inr (.inr sa.2)))
noncomputable def T_top_thistleSky_L1 (a0 : ByteArray) (a1 : List D) (sa : (Unit) ⊕ (Int × List D)) : List (Nat × AV) := match sa with
  | (.inl sa) => [(2, .ptr 1 0 0 0 0), (3, .ptr 5 0 0 0 0), (10, .d (.lst false 4 a1)), (11, .d (I ((a1).length : Int))), (12, .d (I 0))]
  | (.inr sa) => [(2, .ptr 1 0 0 0 0), (3, .ptr 5 0 0 0 0), (10, .d (.lst false 4 a1)), (11, .d (I ((a1).length : Int))), (12, .d (I sa.1))]
noncomputable def H_top_thistleSky_L1 (a0 : ByteArray) (a1 : List D) (sa : (Unit) ⊕ (Int × List D)) : List (Nat × Blk) := match sa with
  | (.inl sa) => [(1, .box (.d (.agg [.v (.string ⟨#[]⟩), .lst true 0 []]))), (5, .box (.d (.agg [.v (.string a0), .lst true 0 []])))]
  | (.inr sa) => [(1, .box (.d (.agg [.v (.string ⟨#[]⟩), .lst true 0 []]))), (5, .box (.agg [.d (.v (.string a0)), .own 20 0])), (20, .row 0 4 sa.2)]
noncomputable def X_top_thistleSky_L1 (a0 : ByteArray) (a1 : List D) (e : (Unit) ⊕ (List D)) : Ex := match e with
  | (.inl e) => (.exit 0)
  | (.inr e) => (.exit 0)
noncomputable def XT_top_thistleSky_L1 (a0 : ByteArray) (a1 : List D) (e : (Unit) ⊕ (List D)) : List (Nat × AV) := match e with
  | (.inl e) => [(2, .ptr 1 0 0 0 0), (3, .ptr 5 0 0 0 0)]
  | (.inr e) => [(2, .ptr 1 0 0 0 0), (3, .ptr 5 0 0 0 0)]
noncomputable def XH_top_thistleSky_L1 (a0 : ByteArray) (a1 : List D) (e : (Unit) ⊕ (List D)) : List (Nat × Blk) := match e with
  | (.inl e) => [(1, .box (.d (.agg [.v (.string ⟨#[]⟩), .lst true 0 []]))), (5, .box (.d (.agg [.v (.string a0), .lst true 0 []])))]
  | (.inr e) => [(1, .box (.d (.agg [.v (.string ⟨#[]⟩), .lst true 0 []]))), (5, .box (.agg [.d (.v (.string a0)), .own 20 0])), (20, .row 0 4 e)]
theorem R_top_thistleSky_L1 {n : Nat} {a0 : ByteArray} {a1 : List D} (sa : (Unit) ⊕ (Int × List D)) (r) (h : F_top_thistleSky_L1 n a0 a1 sa = some r) : Rd cx (loopAt cx.P 25 0) 24 0 false (T_top_thistleSky_L1 a0 a1) (H_top_thistleSky_L1 a0 a1) (X_top_thistleSky_L1 a0 a1) (XT_top_thistleSky_L1 a0 a1) (XH_top_thistleSky_L1 a0 a1) sa r := by
 unfold F_top_thistleSky_L1 at h
 rcases sa with sa | sa
 ·by_cases ha1 : 0 < ((a1).length : Int)
  ·replace h := it h ha1
   obtain ⟨ta2, ha2, h⟩ := bo h
   obtain rfl := oi h
   exact ⟨100, 11, [.br true, .el (enc_Ai4Z ta2), .no, .no], [], [2, 3, 10, 11, 12], [1, 5, 20], round_fr (allC ((by unfold inI64; omega) : inI64 1) (allC (el_ok un_Ai4Z_ok ha2).1 (allC (el_ok un_Ai4Z_ok ha2).2 (allC (decide_eq_true ha1) allN)))) (by kernel_rfl)⟩
  ·replace h := jf h ha1
   obtain rfl := oi h
   exact ⟨⟨100, 11, [.br false], [], [2, 3], [1, 5], round_fr (allC (decide_eq_false ha1) allN) (by kernel_rfl)⟩, nofun⟩
 ·by_cases ha1 : sa.1 < ((a1).length : Int)
  ·replace h := it h ha1
   obtain ⟨ta2, ha2, h⟩ := bo h; obtain ⟨ha3, h⟩ := gd h; obtain ⟨ha4, h⟩ := gd h
   obtain rfl := oi h
   exact ⟨100, 21, [.br true, .el (enc_Ai4Z ta2), .br true], [], [2, 3, 10, 11, 12], [1, 5, 20], round_fr (allC ha4 (allC ((room_of (b := 32) (by kernel_rfl) (by decide) ha3) : room cx 117 ((sa.2).length + 1)) (allC (el_ok un_Ai4Z_ok ha2).1 (allC (el_ok un_Ai4Z_ok ha2).2 (allC (decide_eq_true ha1) allN))))) (by kernel_rfl)⟩
  ·replace h := jf h ha1
   obtain rfl := oi h
   exact ⟨⟨100, 21, [.br false], [], [2, 3], [1, 5, 20], round_fr (allC (decide_eq_false ha1) allN) (by kernel_rfl)⟩, nofun⟩
def F_top_thistleSky (n : Nat) (a0 : ByteArray) (a1 : List D) : Option (ByteArray × List D) :=
 (loopF (F_top_thistleSky_L1 n a0 a1) n (.inl ())).bind fun t1 => match t1 with
  | (.inl t1) => (
  some (a0, []))
  | (.inr t1) => (
  some (a0, t1))
theorem c_top_thistleSky {n : Nat} {a0 : ByteArray} {a1 : List D} {r : ByteArray × List D} (h : F_top_thistleSky n a0 a1 = some r) : Computes cx 25 [.agg [.v (.string a0), .lst false 4 a1]] (.agg [.v (.string r.1), .lst false 4 r.2]) := by
 unfold F_top_thistleSky at h
 obtain ⟨t1, h1, h⟩ := bo h
 rcases t1 with t1 | t1
 ·obtain rfl := oi h
  exact (run_fr (n := 100) (r := .agg [.v (.string a0), .lst true 0 []]) (orc := [.lp [] [2, 3, 10, 11, 12] [1, 5] (.exit 0) [(2, .ptr 1 0 0 0 0), (3, .ptr 5 0 0 0 0)] [(1, .box (.d (.agg [.v (.string ⟨#[]⟩), .lst true 0 []]))), (5, .box (.d (.agg [.v (.string a0), .lst true 0 []])))] 46]) (allC (loopF_to R_top_thistleSky_L1 h1) allN) (by kernel_rfl)).le (LEs.refl _) (.aggs (.cons (.refl _) (.cons (.lst _ _ _ _ _ nofun (.inl rfl)) (.nil))))
 ·obtain rfl := oi h
  exact run_fr (n := 100) (orc := [.lp [] [2, 3, 10, 11, 12] [1, 5] (.exit 0) [(2, .ptr 1 0 0 0 0), (3, .ptr 5 0 0 0 0)] [(1, .box (.d (.agg [.v (.string ⟨#[]⟩), .lst true 0 []]))), (5, .box (.agg [.d (.v (.string a0)), .own 20 0])), (20, .row 0 4 t1)] 46]) (allC (loopF_to R_top_thistleSky_L1 h1) allN) (by kernel_rfl)
def F_sun_when_4 (n : Nat)  : Option (Int) :=
 some 0
theorem c_sun_when_4 {n : Nat}  {r : Int} (h : F_sun_when_4 n  = some r) : Computes cx 36 [B false, I 11] (I r) := by
 unfold F_sun_when_4 at h
 obtain rfl := oi h
 exact run_fr (n := 100) (orc := [.no]) allN (by kernel_rfl)
def F_sun_when_5 (n : Nat)  : Option (Int) :=
 some 0
theorem c_sun_when_5 {n : Nat}  {r : Int} (h : F_sun_when_5 n  = some r) : Computes cx 36 [B false, I 14] (I r) := by
 unfold F_sun_when_5 at h
 obtain rfl := oi h
 exact run_fr (n := 100) (orc := [.no]) allN (by kernel_rfl)
def F_sun_CheckSky_L1 (n : Nat) (a0 : ByteArray) (a1 : List D) (sa : (Int)) : Option (((Int)) ⊕ ((Int) ⊕ (Unit))) :=
 if sa < ((a1).length : Int) then
  (el un_Ai4Z a1 sa).bind fun ta2 =>
  if inI64 (sa - 1) then
  (el un_Ai4Z a1 (maxI 0 (sa - 1))).bind fun ta4 =>
  (F_sun_within n ta2.1 0 10000000).bind fun ta5 =>
  if sa > 0 then
  (F_sun_when n (decide (ta2.1 ≤ ta4.1)) 11).bind fun ta7 =>
  if inI64 (ta2.1 - ta4.1) then
  (F_sun_when n (decide ((ta2.1 - ta4.1) > 200)) 14).bind fun ta9 =>
  (F_sun_CheckRay_3 n ta2.2.1 ta2.2.2.1 ta2.2.2.2).bind fun ta10 =>
  (F_sun_first n ([I ta5, I ta7, I ta9, I ta10])).bind fun ta11 =>
  if ta11 = 0 then
   (F_sun_dot_4 n ta2.2.1 ta2.2.2.1 ta2.2.2.2 ta2.2.1 ta2.2.2.1 ta2.2.2.2).bind fun ta13 =>
   (el un_Ai4Z a1 0).bind fun ta14 =>
   (F_sun_dot_4 n ta14.2.1 ta14.2.2.1 ta14.2.2.2 ta14.2.1 ta14.2.2.1 ta14.2.2.2).bind fun ta15 =>
   if ta13 = ta15 then
   if inI64 (sa + 1) then
   some (.inl (sa + 1))
   else none
   else
   some (.inr (.inl 2))
  else
  some (.inr (.inl ta11))
  else none
  else
  (F_sun_when_4 n).bind fun ta7 =>
  (F_sun_when_5 n).bind fun ta8 =>
  (F_sun_CheckRay_3 n ta2.2.1 ta2.2.2.1 ta2.2.2.2).bind fun ta9 =>
  (F_sun_first n ([I ta5, I ta7, I ta8, I ta9])).bind fun ta10 =>
  if ta10 = 0 then
  (F_sun_dot_4 n ta2.2.1 ta2.2.2.1 ta2.2.2.2 ta2.2.1 ta2.2.2.1 ta2.2.2.2).bind fun ta12 =>
  (el un_Ai4Z a1 0).bind fun ta13 =>
  (F_sun_dot_4 n ta13.2.1 ta13.2.2.1 ta13.2.2.2 ta13.2.1 ta13.2.2.1 ta13.2.2.2).bind fun ta14 =>
  if ta12 = ta14 then
   if inI64 (sa + 1) then
   some (.inl (sa + 1))
   else none
  else
  some (.inr (.inl 2))
  else
  some (.inr (.inl ta10))
  else none
 else
 some (.inr (.inr ()))
noncomputable def T_sun_CheckSky_L1 (a0 : ByteArray) (a1 : List D) (sa : (Int)) : List (Nat × AV) := [(1, .ptr 0 0 0 0 0), (29, .d (.lst false 4 a1)), (30, .d (I ((a1).length : Int))), (31, .d (I sa))]
noncomputable def H_sun_CheckSky_L1 (a0 : ByteArray) (a1 : List D) (sa : (Int)) : List (Nat × Blk) := [(0, .box (.d (.agg [.v (.string a0), .lst false 4 a1])))]
noncomputable def X_sun_CheckSky_L1 (a0 : ByteArray) (a1 : List D) (e : (Int) ⊕ (Unit)) : Ex := match e with
  | (.inl e) => .ret
  | (.inr e) => (.exit 0)
noncomputable def XT_sun_CheckSky_L1 (a0 : ByteArray) (a1 : List D) (e : (Int) ⊕ (Unit)) : List (Nat × AV) := match e with
  | (.inl e) => [(2, .d (I e))]
  | (.inr e) => []
noncomputable def XH_sun_CheckSky_L1 (a0 : ByteArray) (a1 : List D) (e : (Int) ⊕ (Unit)) : List (Nat × Blk) := match e with
  | (.inl e) => []
  | (.inr e) => []
theorem R_sun_CheckSky_L1 {n : Nat} {a0 : ByteArray} {a1 : List D} (sa : (Int)) (r) (h : F_sun_CheckSky_L1 n a0 a1 sa = some r) : Rd cx (loopAt cx.P 70 0) 92 0 false (T_sun_CheckSky_L1 a0 a1) (H_sun_CheckSky_L1 a0 a1) (X_sun_CheckSky_L1 a0 a1) (XT_sun_CheckSky_L1 a0 a1) (XH_sun_CheckSky_L1 a0 a1) sa r := by
 unfold F_sun_CheckSky_L1 at h
 by_cases ha1 : sa < ((a1).length : Int)
 ·replace h := it h ha1
  obtain ⟨ta2, ha2, h⟩ := bo h; obtain ⟨ha3, h⟩ := gd h; obtain ⟨ta4, ha4, h⟩ := bo h; obtain ⟨ta5, ha5, h⟩ := bo h
  by_cases ha6 : sa > 0
  ·replace h := it h ha6
   obtain ⟨ta7, ha7, h⟩ := bo h; obtain ⟨ha8, h⟩ := gd h; obtain ⟨ta9, ha9, h⟩ := bo h; obtain ⟨ta10, ha10, h⟩ := bo h; obtain ⟨ta11, ha11, h⟩ := bo h
   by_cases ha12 : ta11 = 0
   ·replace h := it h ha12
    obtain ⟨ta13, ha13, h⟩ := bo h; obtain ⟨ta14, ha14, h⟩ := bo h; obtain ⟨ta15, ha15, h⟩ := bo h
    by_cases ha16 : ta13 = ta15
    ·replace h := it h ha16
     obtain ⟨ha17, h⟩ := gd h
     obtain rfl := oi h
     exact ⟨100, 26, [.br true, .el (enc_Ai4Z ta2), .el (enc_Ai4Z ta4), .ret (I ta5), .br true, .ret (I ta7), .br true, .ret (I ta9), .ret (I ta10), .ret (I ta11), .br false, .ret (I ta13), .el (enc_Ai4Z ta14), .el (enc_Ai4Z ta14), .ret (I ta15), .br false], [], [1, 29, 30, 31], [0], round_fr (allC ha17 (allC (nef ha16) (allC (c_sun_dot_4 ha15) (allC (el_ok un_Ai4Z_ok ha14).1 (allC (el_ok un_Ai4Z_ok ha14).2 (allC (el_ok un_Ai4Z_ok ha14).1 (allC (el_ok un_Ai4Z_ok ha14).2 (allC (c_sun_dot_4 ha13) (allC (nef ha12) (allC (((c_sun_first ha11).le (.cons (.full _ _ _) (.nil)) (.refl _)) : Computes cx 32 [.lst true 1 [I ta5, I ta7, I ta9, I ta10]] (I ta11)) (allC (c_sun_CheckRay_3 ha10) (allC (c_sun_when ha9) (allC ha8 (allC (decide_eq_true ha6) (allC (c_sun_when ha7) (allC (decide_eq_true ha6) (allC (c_sun_within ha5) (allC (el_ok un_Ai4Z_ok ha4).1 (allC (el_ok un_Ai4Z_ok ha4).2 (allC ha3 (allC (el_ok un_Ai4Z_ok ha2).1 (allC (el_ok un_Ai4Z_ok ha2).2 (allC (decide_eq_true ha1) allN))))))))))))))))))))))) (by kernel_rfl)⟩
    ·replace h := jf h ha16
     obtain rfl := oi h
     exact ⟨⟨100, 26, [.br true, .el (enc_Ai4Z ta2), .el (enc_Ai4Z ta4), .ret (I ta5), .br true, .ret (I ta7), .br true, .ret (I ta9), .ret (I ta10), .ret (I ta11), .br false, .ret (I ta13), .el (enc_Ai4Z ta14), .el (enc_Ai4Z ta14), .ret (I ta15), .br true], [], [2], [], round_fr (allC (net ha16) (allC (c_sun_dot_4 ha15) (allC (el_ok un_Ai4Z_ok ha14).1 (allC (el_ok un_Ai4Z_ok ha14).2 (allC (el_ok un_Ai4Z_ok ha14).1 (allC (el_ok un_Ai4Z_ok ha14).2 (allC (c_sun_dot_4 ha13) (allC (nef ha12) (allC (((c_sun_first ha11).le (.cons (.full _ _ _) (.nil)) (.refl _)) : Computes cx 32 [.lst true 1 [I ta5, I ta7, I ta9, I ta10]] (I ta11)) (allC (c_sun_CheckRay_3 ha10) (allC (c_sun_when ha9) (allC ha8 (allC (decide_eq_true ha6) (allC (c_sun_when ha7) (allC (decide_eq_true ha6) (allC (c_sun_within ha5) (allC (el_ok un_Ai4Z_ok ha4).1 (allC (el_ok un_Ai4Z_ok ha4).2 (allC ha3 (allC (el_ok un_Ai4Z_ok ha2).1 (allC (el_ok un_Ai4Z_ok ha2).2 (allC (decide_eq_true ha1) allN)))))))))))))))))))))) (by kernel_rfl)⟩, nofun⟩
   ·replace h := jf h ha12
    obtain rfl := oi h
    exact ⟨⟨100, 26, [.br true, .el (enc_Ai4Z ta2), .el (enc_Ai4Z ta4), .ret (I ta5), .br true, .ret (I ta7), .br true, .ret (I ta9), .ret (I ta10), .ret (I ta11), .br true], [], [2], [], round_fr (allC (net ha12) (allC (((c_sun_first ha11).le (.cons (.full _ _ _) (.nil)) (.refl _)) : Computes cx 32 [.lst true 1 [I ta5, I ta7, I ta9, I ta10]] (I ta11)) (allC (c_sun_CheckRay_3 ha10) (allC (c_sun_when ha9) (allC ha8 (allC (decide_eq_true ha6) (allC (c_sun_when ha7) (allC (decide_eq_true ha6) (allC (c_sun_within ha5) (allC (el_ok un_Ai4Z_ok ha4).1 (allC (el_ok un_Ai4Z_ok ha4).2 (allC ha3 (allC (el_ok un_Ai4Z_ok ha2).1 (allC (el_ok un_Ai4Z_ok ha2).2 (allC (decide_eq_true ha1) allN))))))))))))))) (by kernel_rfl)⟩, nofun⟩
  ·replace h := jf h ha6
   obtain ⟨ta7, ha7, h⟩ := bo h; obtain ⟨ta8, ha8, h⟩ := bo h; obtain ⟨ta9, ha9, h⟩ := bo h; obtain ⟨ta10, ha10, h⟩ := bo h
   by_cases ha11 : ta10 = 0
   ·replace h := it h ha11
    obtain ⟨ta12, ha12, h⟩ := bo h; obtain ⟨ta13, ha13, h⟩ := bo h; obtain ⟨ta14, ha14, h⟩ := bo h
    by_cases ha15 : ta12 = ta14
    ·replace h := it h ha15
     obtain ⟨ha16, h⟩ := gd h
     obtain rfl := oi h
     exact ⟨100, 26, [.br true, .el (enc_Ai4Z ta2), .el (enc_Ai4Z ta4), .ret (I ta5), .br false, .ret (I ta7), .br false, .ret (I ta8), .ret (I ta9), .ret (I ta10), .br false, .ret (I ta12), .el (enc_Ai4Z ta13), .el (enc_Ai4Z ta13), .ret (I ta14), .br false], [], [1, 29, 30, 31], [0], round_fr (allC ha16 (allC (nef ha15) (allC (c_sun_dot_4 ha14) (allC (el_ok un_Ai4Z_ok ha13).1 (allC (el_ok un_Ai4Z_ok ha13).2 (allC (el_ok un_Ai4Z_ok ha13).1 (allC (el_ok un_Ai4Z_ok ha13).2 (allC (c_sun_dot_4 ha12) (allC (nef ha11) (allC (((c_sun_first ha10).le (.cons (.full _ _ _) (.nil)) (.refl _)) : Computes cx 32 [.lst true 1 [I ta5, I ta7, I ta8, I ta9]] (I ta10)) (allC (c_sun_CheckRay_3 ha9) (allC (c_sun_when_5 ha8) (allC (decide_eq_false ha6) (allC (c_sun_when_4 ha7) (allC (decide_eq_false ha6) (allC (c_sun_within ha5) (allC (el_ok un_Ai4Z_ok ha4).1 (allC (el_ok un_Ai4Z_ok ha4).2 (allC ha3 (allC (el_ok un_Ai4Z_ok ha2).1 (allC (el_ok un_Ai4Z_ok ha2).2 (allC (decide_eq_true ha1) allN)))))))))))))))))))))) (by kernel_rfl)⟩
    ·replace h := jf h ha15
     obtain rfl := oi h
     exact ⟨⟨100, 26, [.br true, .el (enc_Ai4Z ta2), .el (enc_Ai4Z ta4), .ret (I ta5), .br false, .ret (I ta7), .br false, .ret (I ta8), .ret (I ta9), .ret (I ta10), .br false, .ret (I ta12), .el (enc_Ai4Z ta13), .el (enc_Ai4Z ta13), .ret (I ta14), .br true], [], [2], [], round_fr (allC (net ha15) (allC (c_sun_dot_4 ha14) (allC (el_ok un_Ai4Z_ok ha13).1 (allC (el_ok un_Ai4Z_ok ha13).2 (allC (el_ok un_Ai4Z_ok ha13).1 (allC (el_ok un_Ai4Z_ok ha13).2 (allC (c_sun_dot_4 ha12) (allC (nef ha11) (allC (((c_sun_first ha10).le (.cons (.full _ _ _) (.nil)) (.refl _)) : Computes cx 32 [.lst true 1 [I ta5, I ta7, I ta8, I ta9]] (I ta10)) (allC (c_sun_CheckRay_3 ha9) (allC (c_sun_when_5 ha8) (allC (decide_eq_false ha6) (allC (c_sun_when_4 ha7) (allC (decide_eq_false ha6) (allC (c_sun_within ha5) (allC (el_ok un_Ai4Z_ok ha4).1 (allC (el_ok un_Ai4Z_ok ha4).2 (allC ha3 (allC (el_ok un_Ai4Z_ok ha2).1 (allC (el_ok un_Ai4Z_ok ha2).2 (allC (decide_eq_true ha1) allN))))))))))))))))))))) (by kernel_rfl)⟩, nofun⟩
   ·replace h := jf h ha11
    obtain rfl := oi h
    exact ⟨⟨100, 26, [.br true, .el (enc_Ai4Z ta2), .el (enc_Ai4Z ta4), .ret (I ta5), .br false, .ret (I ta7), .br false, .ret (I ta8), .ret (I ta9), .ret (I ta10), .br true], [], [2], [], round_fr (allC (net ha11) (allC (((c_sun_first ha10).le (.cons (.full _ _ _) (.nil)) (.refl _)) : Computes cx 32 [.lst true 1 [I ta5, I ta7, I ta8, I ta9]] (I ta10)) (allC (c_sun_CheckRay_3 ha9) (allC (c_sun_when_5 ha8) (allC (decide_eq_false ha6) (allC (c_sun_when_4 ha7) (allC (decide_eq_false ha6) (allC (c_sun_within ha5) (allC (el_ok un_Ai4Z_ok ha4).1 (allC (el_ok un_Ai4Z_ok ha4).2 (allC ha3 (allC (el_ok un_Ai4Z_ok ha2).1 (allC (el_ok un_Ai4Z_ok ha2).2 (allC (decide_eq_true ha1) allN)))))))))))))) (by kernel_rfl)⟩, nofun⟩
 ·replace h := jf h ha1
  obtain rfl := oi h
  exact ⟨⟨100, 26, [.br false], [], [], [], round_fr (allC (decide_eq_false ha1) allN) (by kernel_rfl)⟩, nofun⟩
def F_sun_CheckSky (n : Nat) (a0 : ByteArray) (a1 : List D) : Option (Int) :=
 (F_light_IsName n a0).bind fun t1 =>
 (F_sun_when n (!t1) 8).bind fun t2 =>
 (F_sun_when n (decide (((a1).length : Int) < 2)) 16).bind fun t3 =>
 (F_sun_when n (decide (((a1).length : Int) > 64)) 5).bind fun t4 =>
 (F_sun_first n ([I t2, I t3, I t4])).bind fun t5 =>
 if t5 = 0 then
  (loopF (F_sun_CheckSky_L1 n a0 a1) n 0).bind fun t7 => match t7 with
  | (.inl t7) => (
   some t7)
  | (.inr t7) => (
   some 0)
 else
 some t5
theorem c_sun_CheckSky {n : Nat} {a0 : ByteArray} {a1 : List D} {r : Int} (h : F_sun_CheckSky n a0 a1 = some r) : Computes cx 70 [.agg [.v (.string a0), .lst false 4 a1]] (I r) := by
 unfold F_sun_CheckSky at h
 obtain ⟨t1, h1, h⟩ := bo h; obtain ⟨t2, h2, h⟩ := bo h; obtain ⟨t3, h3, h⟩ := bo h; obtain ⟨t4, h4, h⟩ := bo h; obtain ⟨t5, h5, h⟩ := bo h
 by_cases h6 : t5 = 0
 ·replace h := it h h6
  obtain ⟨t7, h7, h⟩ := bo h
  rcases t7 with t7 | t7
  ·obtain rfl := oi h
   exact run_fr (n := 100) (orc := [.ret (B t1), .ret (I t2), .ret (I t3), .ret (I t4), .ret (I t5), .br false, .lp [] [1, 29, 30, 31] [0] .ret [(2, .d (I t7))] [] 102]) (allC (loopF_to R_sun_CheckSky_L1 h7) (allC (nef h6) (allC (((c_sun_first h5).le (.cons (.full _ _ _) (.nil)) (.refl _)) : Computes cx 32 [.lst true 1 [I t2, I t3, I t4]] (I t5)) (allC (c_sun_when h4) (allC (c_sun_when h3) (allC (c_sun_when h2) (allC (c_light_IsName h1) allN))))))) (by kernel_rfl)
  ·obtain rfl := oi h
   exact run_fr (n := 100) (orc := [.ret (B t1), .ret (I t2), .ret (I t3), .ret (I t4), .ret (I t5), .br false, .lp [] [1, 29, 30, 31] [0] (.exit 0) [] [] 102]) (allC (loopF_to R_sun_CheckSky_L1 h7) (allC (nef h6) (allC (((c_sun_first h5).le (.cons (.full _ _ _) (.nil)) (.refl _)) : Computes cx 32 [.lst true 1 [I t2, I t3, I t4]] (I t5)) (allC (c_sun_when h4) (allC (c_sun_when h3) (allC (c_sun_when h2) (allC (c_light_IsName h1) allN))))))) (by kernel_rfl)
 ·replace h := jf h h6
  obtain rfl := oi h
  exact run_fr (n := 100) (orc := [.ret (B t1), .ret (I t2), .ret (I t3), .ret (I t4), .ret (I t5), .br true]) (allC (net h6) (allC (((c_sun_first h5).le (.cons (.full _ _ _) (.nil)) (.refl _)) : Computes cx 32 [.lst true 1 [I t2, I t3, I t4]] (I t5)) (allC (c_sun_when h4) (allC (c_sun_when h3) (allC (c_sun_when h2) (allC (c_light_IsName h1) allN)))))) (by kernel_rfl)
/- (spillage/sun.Sky).ends: .agg [.v (.string a0), .lst false 4 a1] -/
def F_sun_Sky_ends (n : Nat) (a0 : ByteArray) (a1 : List D) : Option (Int × Int) :=
 (el un_Ai4Z a1 0).bind fun t1 =>
 if inI64 (((a1).length : Int) - 1) then
 (el un_Ai4Z a1 (((a1).length : Int) - 1)).bind fun t3 =>
 some (t1.1, t3.1)
 else none
theorem c_sun_Sky_ends {n : Nat} {a0 : ByteArray} {a1 : List D} {r : Int × Int} (h : F_sun_Sky_ends n a0 a1 = some r) : Computes cx 90 [.agg [.v (.string a0), .lst false 4 a1]] (.tup [I r.1, I r.2]) := by
 unfold F_sun_Sky_ends at h
 obtain ⟨t1, h1, h⟩ := bo h; obtain ⟨h2, h⟩ := gd h; obtain ⟨t3, h3, h⟩ := bo h
 obtain rfl := oi h
 exact run_fr (n := 100) (orc := [.el (enc_Ai4Z t1), .el (enc_Ai4Z t3)]) (allC (el_ok un_Ai4Z_ok h3).1 (allC (el_ok un_Ai4Z_ok h3).2 (allC h2 (allC (el_ok un_Ai4Z_ok h1).1 (allC (el_ok un_Ai4Z_ok h1).2 allN))))) (by kernel_rfl)
def F_sun_when_6 (n : Nat)  : Option (Int) :=
 some 14
theorem c_sun_when_6 {n : Nat}  {r : Int} (h : F_sun_when_6 n  = some r) : Computes cx 36 [B true, I 14] (I r) := by
 unfold F_sun_when_6 at h
 obtain rfl := oi h
 exact run_fr (n := 100) (orc := [.no]) allN (by kernel_rfl)
/- (spillage/sun.Sky).checkTick: .agg [.v (.string a0), .lst false 4 a1], I a2 -/
def F_sun_Sky_checkTick (n : Nat) (a0 : ByteArray) (a1 : List D) (a2 : Int) : Option (Int) :=
 (F_sun_Sky_ends n a0 a1).bind fun t1 =>
 if a2 < t1.1 then
  (F_sun_when_6 n).bind fun t3 =>
  some t3
 else
 (F_sun_when n (decide (a2 > t1.2)) 14).bind fun t3 =>
 some t3
theorem c_sun_Sky_checkTick {n : Nat} {a0 : ByteArray} {a1 : List D} {a2 : Int} {r : Int} (h : F_sun_Sky_checkTick n a0 a1 a2 = some r) : Computes cx 71 [.agg [.v (.string a0), .lst false 4 a1], I a2] (I r) := by
 unfold F_sun_Sky_checkTick at h
 obtain ⟨t1, h1, h⟩ := bo h
 by_cases h2 : a2 < t1.1
 ·replace h := it h h2
  obtain ⟨t3, h3, h⟩ := bo h
  obtain rfl := oi h
  exact run_fr (n := 100) (orc := [.ret (.tup [I t1.1, I t1.2]), .br true, .ret (I t3)]) (allC (c_sun_when_6 h3) (allC (decide_eq_true h2) (allC (c_sun_Sky_ends h1) allN))) (by kernel_rfl)
 ·replace h := jf h h2
  obtain ⟨t3, h3, h⟩ := bo h
  obtain rfl := oi h
  exact run_fr (n := 100) (orc := [.ret (.tup [I t1.1, I t1.2]), .br false, .ret (I t3)]) (allC (c_sun_when h3) (allC (decide_eq_false h2) (allC (c_sun_Sky_ends h1) allN))) (by kernel_rfl)
def F_sun_Sky_at_L1 (n : Nat) (a0 : ByteArray) (a1 : List D) (a2 : Int) (sa : (Int)) : Option (((Int)) ⊕ ((Int × Int × Int))) :=
 if sa < ((a1).length : Int) then
  (el un_Ai4Z a1 sa).bind fun ta2 =>
  if ta2.1 = a2 then
  some (.inr (ta2.2.1, ta2.2.2.1, ta2.2.2.2))
  else
  if ta2.1 > a2 then
  if inI64 (sa - 1) then
  (el un_Ai4Z a1 (sa - 1)).bind fun ta6 =>
  if inI64 (ta2.1 - a2) then
  if inI64 (a2 - ta6.1) then
  (F_sun_sum n (ta2.1 - a2) ta6.2.1 ta6.2.2.1 ta6.2.2.2 (a2 - ta6.1) ta2.2.1 ta2.2.2.1 ta2.2.2.2).bind fun ta9 =>
  some (.inr (ta9.1, ta9.2.1, ta9.2.2))
  else none
  else none
  else none
  else
  if inI64 (sa + 1) then
  some (.inl (sa + 1))
  else none
 else
 some (.inr (0, 0, 0))
noncomputable def T_sun_Sky_at_L1 (a0 : ByteArray) (a1 : List D) (a2 : Int) (sa : (Int)) : List (Nat × AV) := [(1, .d (I a2)), (2, .ptr 0 0 0 0 0), (4, .ptr 1 0 0 0 0), (5, .ptr 3 0 0 0 0), (11, .d (.lst false 4 a1)), (12, .d (I ((a1).length : Int))), (13, .d (I sa))]
noncomputable def H_sun_Sky_at_L1 (a0 : ByteArray) (a1 : List D) (a2 : Int) (sa : (Int)) : List (Nat × Blk) := [(0, .box (.d (.agg [.v (.string a0), .lst false 4 a1]))), (1, .box (.d (.agg [I 0, I 0, I 0]))), (3, .box (.d (.agg [I 0, I 0, I 0])))]
noncomputable def X_sun_Sky_at_L1 (a0 : ByteArray) (a1 : List D) (a2 : Int) (e : (Int × Int × Int)) : Ex := (.exit 0)
noncomputable def XT_sun_Sky_at_L1 (a0 : ByteArray) (a1 : List D) (a2 : Int) (e : (Int × Int × Int)) : List (Nat × AV) := [(4, .ptr 1 0 0 0 0), (5, .ptr 3 0 0 0 0)]
noncomputable def XH_sun_Sky_at_L1 (a0 : ByteArray) (a1 : List D) (a2 : Int) (e : (Int × Int × Int)) : List (Nat × Blk) := [(1, .box (.d (.agg [I 0, I 0, I 0]))), (3, .box (.d (.agg [I e.1, I e.2.1, I e.2.2])))]
theorem R_sun_Sky_at_L1 {n : Nat} {a0 : ByteArray} {a1 : List D} {a2 : Int} (sa : (Int)) (r) (h : F_sun_Sky_at_L1 n a0 a1 a2 sa = some r) : Rd cx (loopAt cx.P 72 0) 52 0 false (T_sun_Sky_at_L1 a0 a1 a2) (H_sun_Sky_at_L1 a0 a1 a2) (X_sun_Sky_at_L1 a0 a1 a2) (XT_sun_Sky_at_L1 a0 a1 a2) (XH_sun_Sky_at_L1 a0 a1 a2) sa r := by
 unfold F_sun_Sky_at_L1 at h
 by_cases ha1 : sa < ((a1).length : Int)
 ·replace h := it h ha1
  obtain ⟨ta2, ha2, h⟩ := bo h
  by_cases ha3 : ta2.1 = a2
  ·replace h := it h ha3
   obtain rfl := oi h
   exact ⟨⟨100, 9, [.br true, .el (enc_Ai4Z ta2), .br true], [], [4, 5], [1, 3], round_fr (allC (eqt ha3) (allC (el_ok un_Ai4Z_ok ha2).1 (allC (el_ok un_Ai4Z_ok ha2).2 (allC (decide_eq_true ha1) allN)))) (by kernel_rfl)⟩, nofun⟩
  ·replace h := jf h ha3
   by_cases ha4 : ta2.1 > a2
   ·replace h := it h ha4
    obtain ⟨ha5, h⟩ := gd h; obtain ⟨ta6, ha6, h⟩ := bo h; obtain ⟨ha7, h⟩ := gd h; obtain ⟨ha8, h⟩ := gd h; obtain ⟨ta9, ha9, h⟩ := bo h
    obtain rfl := oi h
    exact ⟨⟨100, 9, [.br true, .el (enc_Ai4Z ta2), .br false, .br true, .el (enc_Ai4Z ta6), .ret (.agg [I ta9.1, I ta9.2.1, I ta9.2.2])], [], [4, 5], [1, 3], round_fr (allC (c_sun_sum ha9) (allC ha8 (allC ha7 (allC (el_ok un_Ai4Z_ok ha6).1 (allC (el_ok un_Ai4Z_ok ha6).2 (allC ha5 (allC (decide_eq_true ha4) (allC (eqf ha3) (allC (el_ok un_Ai4Z_ok ha2).1 (allC (el_ok un_Ai4Z_ok ha2).2 (allC (decide_eq_true ha1) allN))))))))))) (by kernel_rfl)⟩, nofun⟩
   ·replace h := jf h ha4
    obtain ⟨ha5, h⟩ := gd h
    obtain rfl := oi h
    exact ⟨100, 9, [.br true, .el (enc_Ai4Z ta2), .br false, .br false], [], [1, 2, 4, 5, 11, 12, 13], [0, 1, 3], round_fr (allC ha5 (allC (decide_eq_false ha4) (allC (eqf ha3) (allC (el_ok un_Ai4Z_ok ha2).1 (allC (el_ok un_Ai4Z_ok ha2).2 (allC (decide_eq_true ha1) allN)))))) (by kernel_rfl)⟩
 ·replace h := jf h ha1
  obtain rfl := oi h
  exact ⟨⟨100, 9, [.br false], [], [4, 5], [1, 3], round_fr (allC (decide_eq_false ha1) allN) (by kernel_rfl)⟩, nofun⟩
/- (spillage/sun.Sky).at: .agg [.v (.string a0), .lst false 4 a1], I a2 -/
def F_sun_Sky_at (n : Nat) (a0 : ByteArray) (a1 : List D) (a2 : Int) : Option (Int × Int × Int) :=
 (loopF (F_sun_Sky_at_L1 n a0 a1 a2) n 0).bind fun t1 =>
 (F_sun_reduced n t1.1 t1.2.1 t1.2.2).bind fun t2 =>
 some (t2.1, t2.2.1, t2.2.2)
theorem c_sun_Sky_at {n : Nat} {a0 : ByteArray} {a1 : List D} {a2 : Int} {r : Int × Int × Int} (h : F_sun_Sky_at n a0 a1 a2 = some r) : Computes cx 72 [.agg [.v (.string a0), .lst false 4 a1], I a2] (.agg [I r.1, I r.2.1, I r.2.2]) := by
 unfold F_sun_Sky_at at h
 obtain ⟨t1, h1, h⟩ := bo h; obtain ⟨t2, h2, h⟩ := bo h
 obtain rfl := oi h
 exact run_fr (n := 100) (orc := [.lp [] [1, 2, 4, 5, 11, 12, 13] [0, 1, 3] (.exit 0) [(4, .ptr 1 0 0 0 0), (5, .ptr 3 0 0 0 0)] [(1, .box (.d (.agg [I 0, I 0, I 0]))), (3, .box (.d (.agg [I t1.1, I t1.2.1, I t1.2.2])))] 59, .ret (.agg [I t2.1, I t2.2.1, I t2.2.2])]) (allC (c_sun_reduced h2) (allC (loopF_to R_sun_Sky_at_L1 h1) allN)) (by kernel_rfl)
def F_sun_At (n : Nat) (a0 : ByteArray) (a1 : List D) (a2 : Int) : Option (Int × Int × Int × Int) :=
 (F_sun_CheckSky n a0 a1).bind fun t1 =>
 if t1 = 0 then
  (F_sun_Sky_checkTick n a0 a1 a2).bind fun t3 =>
  if t3 = 0 then
  (F_sun_Sky_at n a0 a1 a2).bind fun t5 =>
  (F_sun_when n ((t5.1 == 0) && ((t5.2.1 == 0) && ((t5.2.2 == 0) && true))) 7).bind fun t6 =>
  some (t5.1, t5.2.1, t5.2.2, t6)
  else
  some (0, 0, 0, t3)
 else
 some (0, 0, 0, t1)
theorem c_sun_At {n : Nat} {a0 : ByteArray} {a1 : List D} {a2 : Int} {r : Int × Int × Int × Int} (h : F_sun_At n a0 a1 a2 = some r) : Computes cx 24 [.agg [.v (.string a0), .lst false 4 a1], I a2] (.tup [.agg [I r.1, I r.2.1, I r.2.2.1], I r.2.2.2]) := by
 unfold F_sun_At at h
 obtain ⟨t1, h1, h⟩ := bo h
 by_cases h2 : t1 = 0
 ·replace h := it h h2
  obtain ⟨t3, h3, h⟩ := bo h
  by_cases h4 : t3 = 0
  ·replace h := it h h4
   obtain ⟨t5, h5, h⟩ := bo h; obtain ⟨t6, h6, h⟩ := bo h
   obtain rfl := oi h
   exact run_fr (n := 100) (orc := [.ret (I t1), .br false, .ret (I t3), .br false, .ret (.agg [I t5.1, I t5.2.1, I t5.2.2]), .ret (I t6)]) (allC (c_sun_when h6) (allC (c_sun_Sky_at h5) (allC (nef h4) (allC (c_sun_Sky_checkTick h3) (allC (nef h2) (allC (c_sun_CheckSky h1) allN)))))) (by kernel_rfl)
  ·replace h := jf h h4
   obtain rfl := oi h
   exact run_fr (n := 100) (orc := [.ret (I t1), .br false, .ret (I t3), .br true]) (allC (net h4) (allC (c_sun_Sky_checkTick h3) (allC (nef h2) (allC (c_sun_CheckSky h1) allN)))) (by kernel_rfl)
 ·replace h := jf h h2
  obtain rfl := oi h
  exact run_fr (n := 100) (orc := [.ret (I t1), .br true]) (allC (net h2) (allC (c_sun_CheckSky h1) allN)) (by kernel_rfl)
def F_sun_Risen (n : Nat) (a0 : ByteArray) (a1 : List D) (a2 : Int) : Option (Bool × Int) :=
 (F_sun_At n a0 a1 a2).bind fun t1 =>
 if t1.2.2.2 = 0 then
  some ((decide (t1.2.2.1 > 0)), t1.2.2.2)
 else
 some (false, t1.2.2.2)
theorem c_sun_Risen {n : Nat} {a0 : ByteArray} {a1 : List D} {a2 : Int} {r : Bool × Int} (h : F_sun_Risen n a0 a1 a2 = some r) : Computes cx 26 [.agg [.v (.string a0), .lst false 4 a1], I a2] (.tup [B r.1, I r.2]) := by
 unfold F_sun_Risen at h
 obtain ⟨t1, h1, h⟩ := bo h
 by_cases h2 : t1.2.2.2 = 0
 ·replace h := it h h2
  obtain rfl := oi h
  exact run_fr (n := 100) (orc := [.ret (.tup [.agg [I t1.1, I t1.2.1, I t1.2.2.1], I t1.2.2.2]), .br true]) (allC (eqt h2) (allC (c_sun_At h1) allN)) (by kernel_rfl)
 ·replace h := jf h h2
  obtain rfl := oi h
  exact run_fr (n := 100) (orc := [.ret (.tup [.agg [I t1.1, I t1.2.1, I t1.2.2.1], I t1.2.2.2]), .br false]) (allC (eqf h2) (allC (c_sun_At h1) allN)) (by kernel_rfl)
def F_ref02_CheckPlace (n : Nat) (a0 : Int) (a1 : Int) (a2 : Int) : Option (Int) :=
 (F_ref02_within n a0 a1 a2 1048576).bind fun t1 =>
 some t1
theorem c_ref02_CheckPlace {n : Nat} {a0 : Int} {a1 : Int} {a2 : Int} {r : Int} (h : F_ref02_CheckPlace n a0 a1 a2 = some r) : Computes cx 27 [.agg [I a0, I a1, I a2]] (I r) := by
 unfold F_ref02_CheckPlace at h
 obtain ⟨t1, h1, h⟩ := bo h
 obtain rfl := oi h
 exact run_fr (n := 100) (orc := [.ret (I t1)]) (allC (c_ref02_within h1) allN) (by kernel_rfl)
def F_ref04_Normal (n : Nat) (a0 : ByteArray) (a1 : Int) (a2 : Int) (a3 : Int) (a4 : Int) (a5 : Int) (a6 : Int) (a7 : Int) (a8 : Int) (a9 : Int) : Option (Int × Int × Int) :=
 (F_ref04_Cross n a4 a5 a6 a7 a8 a9).bind fun t1 =>
 some (t1.1, t1.2.1, t1.2.2)
theorem c_ref04_Normal {n : Nat} {a0 : ByteArray} {a1 : Int} {a2 : Int} {a3 : Int} {a4 : Int} {a5 : Int} {a6 : Int} {a7 : Int} {a8 : Int} {a9 : Int} {r : Int × Int × Int} (h : F_ref04_Normal n a0 a1 a2 a3 a4 a5 a6 a7 a8 a9 = some r) : Computes cx 28 [.agg [.v (.string a0), I a1, I a2, I a3, I a4, I a5, I a6, I a7, I a8, I a9]] (.agg [I r.1, I r.2.1, I r.2.2]) := by
 unfold F_ref04_Normal at h
 obtain ⟨t1, h1, h⟩ := bo h
 obtain rfl := oi h
 exact run_fr (n := 100) (orc := [.ret (.agg [I t1.1, I t1.2.1, I t1.2.2])]) (allC (c_ref04_Cross h1) allN) (by kernel_rfl)
def F_field_Summed (n : Nat)  : Option (Int × Int × Int) :=
 some (0, 0, 7)
theorem c_field_Summed {n : Nat}  {r : Int × Int × Int} (h : F_field_Summed n  = some r) : Computes cx 29 [.lst true 0 []] (.tup [.agg [I r.1, I r.2.1], I r.2.2]) := by
 unfold F_field_Summed at h
 obtain rfl := oi h
 exact run_fr (n := 100) (orc := [.no, .no, .no, .no]) allN (by kernel_rfl)
def F_ref01_Divisor_2 (n : Nat)  : Option (Int) :=
 some 1
theorem c_ref01_Divisor_2 {n : Nat}  {r : Int} (h : F_ref01_Divisor_2 n  = some r) : Computes cx 74 [I 0, I 0] (I r) := by
 unfold F_ref01_Divisor_2 at h
 obtain rfl := oi h
 exact run_fr (n := 100) (orc := [.no, .no, .no, .no, .no]) allN (by kernel_rfl)
def F_ref01_Lowest (n : Nat)  : Option (Int × Int) :=
 (F_ref01_Divisor_2 n).bind fun t1 =>
 if t1 ≠ 0 then
 if inI64 (Int.tdiv 0 t1) then
 some ((Int.tdiv 0 t1), (Int.tdiv 0 t1))
 else none
 else none
theorem c_ref01_Lowest {n : Nat}  {r : Int × Int} (h : F_ref01_Lowest n  = some r) : Computes cx 30 [I 0, I 0] (.agg [I r.1, I r.2]) := by
 unfold F_ref01_Lowest at h
 obtain ⟨t1, h1, h⟩ := bo h; obtain ⟨h2, h⟩ := gd h; obtain ⟨h3, h⟩ := gd h
 obtain rfl := oi h
 exact run_fr (n := 100) (orc := [.no, .ret (I t1)]) (allC h2 (allC h3 (allC h2 (allC h3 (allC (c_ref01_Divisor_2 h1) allN))))) (by kernel_rfl)
def F_ref01_Compare (n : Nat) (a0 : Int) (a1 : Int) (a2 : Int) (a3 : Int) : Option (Int) :=
 if inI64 (a0 * a3) then
 if inI64 (a2 * a1) then
 if (a0 * a3) < (a2 * a1) then
  some (-1)
 else
 if (a0 * a3) > (a2 * a1) then
  some 1
 else
 some 0
 else none
 else none
theorem c_ref01_Compare {n : Nat} {a0 : Int} {a1 : Int} {a2 : Int} {a3 : Int} {r : Int} (h : F_ref01_Compare n a0 a1 a2 a3 = some r) : Computes cx 31 [.agg [I a0, I a1], .agg [I a2, I a3]] (I r) := by
 unfold F_ref01_Compare at h
 obtain ⟨h1, h⟩ := gd h; obtain ⟨h2, h⟩ := gd h
 by_cases h3 : (a0 * a3) < (a2 * a1)
 ·replace h := it h h3
  obtain rfl := oi h
  exact run_fr (n := 100) (orc := [.br true]) (allC (decide_eq_true h3) (allC h2 (allC h1 allN))) (by kernel_rfl)
 ·replace h := jf h h3
  by_cases h4 : (a0 * a3) > (a2 * a1)
  ·replace h := it h h4
   obtain rfl := oi h
   exact run_fr (n := 100) (orc := [.br false, .br true]) (allC (decide_eq_true h4) (allC (decide_eq_false h3) (allC h2 (allC h1 allN)))) (by kernel_rfl)
  ·replace h := jf h h4
   obtain rfl := oi h
   exact run_fr (n := 100) (orc := [.br false, .br false]) (allC (decide_eq_false h4) (allC (decide_eq_false h3) (allC h2 (allC h1 allN)))) (by kernel_rfl)
def enc_Ai3Z (x : Int × Int × Int) : D := .agg [I x.1, I x.2.1, I x.2.2]
def un_Ai3Z : D → Option (Int × Int × Int)
  | .agg [c0, c1, c2] => (un_int .i64 c0).bind fun y0 => (un_int .i64 c1).bind fun y1 => (un_int .i64 c2).bind fun y2 => some (y0, y1, y2)
  | _ => none
theorem un_Ai3Z_ok {d : D} {x : Int × Int × Int} (h : un_Ai3Z d = some x) : d = enc_Ai3Z x := by
 unfold un_Ai3Z at h
 split at h
 case h_2 => cases h
 obtain ⟨y0, h0, h⟩ := bo h; obtain ⟨y1, h1, h⟩ := bo h; obtain ⟨y2, h2, h⟩ := bo h
 cases h
 have e0 := un_int_ok h0
 have e1 := un_int_ok h1
 have e2 := un_int_ok h2
 rw [e0, e1, e2]; rfl
def F_field_Summed_2_L1 (n : Nat) (a0 : List D) (sa : (Int × Int × Int)) : Option (((Int × Int × Int)) ⊕ ((Int) ⊕ (Int × Int))) :=
 if sa.2.2 < ((a0).length : Int) then
  (el un_Ai3Z a0 sa.2.2).bind fun ta2 =>
  (F_field_within n ta2.2.1 1 64).bind fun ta3 =>
  (F_field_within n ta2.1 0 ta2.2.1).bind fun ta4 =>
  (F_field_within n ta2.2.2 0 1000).bind fun ta5 =>
  (F_field_first n ([I ta3, I ta4, I ta5])).bind fun ta6 =>
  if ta6 = 0 then
  if inI64 (ta2.1 * ta2.2.2) then
  if inI64 (sa.1 + (ta2.1 * ta2.2.2)) then
  if inI64 (ta2.2.1 * ta2.2.2) then
  if inI64 (sa.2.1 + (ta2.2.1 * ta2.2.2)) then
  if inI64 (sa.2.2 + 1) then
  some (.inl ((sa.1 + (ta2.1 * ta2.2.2)), (sa.2.1 + (ta2.2.1 * ta2.2.2)), (sa.2.2 + 1)))
  else none
  else none
  else none
  else none
  else none
  else
  some (.inr (.inl ta6))
 else
 some (.inr (.inr (sa.1, sa.2.1)))
noncomputable def T_field_Summed_2_L1 (a0 : List D) (sa : (Int × Int × Int)) : List (Nat × AV) := [(2, .ptr 0 0 0 0 0), (4, .d (I sa.1)), (5, .d (I sa.2.1)), (13, .d (.lst false 3 a0)), (14, .d (I ((a0).length : Int))), (15, .d (I sa.2.2))]
noncomputable def H_field_Summed_2_L1 (a0 : List D) (sa : (Int × Int × Int)) : List (Nat × Blk) := [(0, .box (.d (.agg [I 0, I 0])))]
noncomputable def X_field_Summed_2_L1 (a0 : List D) (e : (Int) ⊕ (Int × Int)) : Ex := match e with
  | (.inl e) => .ret
  | (.inr e) => (.exit 0)
noncomputable def XT_field_Summed_2_L1 (a0 : List D) (e : (Int) ⊕ (Int × Int)) : List (Nat × AV) := match e with
  | (.inl e) => [(2, .ptr 0 0 0 0 0), (3, .d (I e))]
  | (.inr e) => [(2, .ptr 0 0 0 0 0), (4, .d (I e.1)), (5, .d (I e.2))]
noncomputable def XH_field_Summed_2_L1 (a0 : List D) (e : (Int) ⊕ (Int × Int)) : List (Nat × Blk) := match e with
  | (.inl e) => [(0, .box (.d (.agg [I 0, I 0])))]
  | (.inr e) => [(0, .box (.d (.agg [I 0, I 0])))]
theorem R_field_Summed_2_L1 {n : Nat} {a0 : List D} (sa : (Int × Int × Int)) (r) (h : F_field_Summed_2_L1 n a0 sa = some r) : Rd cx (loopAt cx.P 29 0) 57 0 false (T_field_Summed_2_L1 a0) (H_field_Summed_2_L1 a0) (X_field_Summed_2_L1 a0) (XT_field_Summed_2_L1 a0) (XH_field_Summed_2_L1 a0) sa r := by
 unfold F_field_Summed_2_L1 at h
 by_cases ha1 : sa.2.2 < ((a0).length : Int)
 ·replace h := it h ha1
  obtain ⟨ta2, ha2, h⟩ := bo h; obtain ⟨ta3, ha3, h⟩ := bo h; obtain ⟨ta4, ha4, h⟩ := bo h; obtain ⟨ta5, ha5, h⟩ := bo h; obtain ⟨ta6, ha6, h⟩ := bo h
  by_cases ha7 : ta6 = 0
  ·replace h := it h ha7
   obtain ⟨ha8, h⟩ := gd h; obtain ⟨ha9, h⟩ := gd h; obtain ⟨ha10, h⟩ := gd h; obtain ⟨ha11, h⟩ := gd h; obtain ⟨ha12, h⟩ := gd h
   obtain rfl := oi h
   exact ⟨100, 10, [.br true, .el (enc_Ai3Z ta2), .ret (I ta3), .ret (I ta4), .ret (I ta5), .ret (I ta6), .br false], [], [2, 4, 5, 13, 14, 15], [0], round_fr (allC ha12 (allC ha11 (allC ha10 (allC ha9 (allC ha8 (allC (nef ha7) (allC (((c_field_first ha6).le (.cons (.full _ _ _) (.nil)) (.refl _)) : Computes cx 56 [.lst true 1 [I ta3, I ta4, I ta5]] (I ta6)) (allC (c_field_within ha5) (allC (c_field_within ha4) (allC (c_field_within ha3) (allC (el_ok un_Ai3Z_ok ha2).1 (allC (el_ok un_Ai3Z_ok ha2).2 (allC (decide_eq_true ha1) allN))))))))))))) (by kernel_rfl)⟩
  ·replace h := jf h ha7
   obtain rfl := oi h
   exact ⟨⟨100, 10, [.br true, .el (enc_Ai3Z ta2), .ret (I ta3), .ret (I ta4), .ret (I ta5), .ret (I ta6), .br true], [], [2, 3], [0], round_fr (allC (net ha7) (allC (((c_field_first ha6).le (.cons (.full _ _ _) (.nil)) (.refl _)) : Computes cx 56 [.lst true 1 [I ta3, I ta4, I ta5]] (I ta6)) (allC (c_field_within ha5) (allC (c_field_within ha4) (allC (c_field_within ha3) (allC (el_ok un_Ai3Z_ok ha2).1 (allC (el_ok un_Ai3Z_ok ha2).2 (allC (decide_eq_true ha1) allN)))))))) (by kernel_rfl)⟩, nofun⟩
 ·replace h := jf h ha1
  obtain rfl := oi h
  exact ⟨⟨100, 10, [.br false], [], [2, 4, 5], [0], round_fr (allC (decide_eq_false ha1) allN) (by kernel_rfl)⟩, nofun⟩
def F_field_Summed_2 (n : Nat) (a0 : List D) : Option (Int × Int × Int) :=
 if ((a0).length : Int) > 256 then
  some (0, 0, 5)
 else
 (loopF (F_field_Summed_2_L1 n a0) n (0, 0, 0)).bind fun t2 => match t2 with
  | (.inl t2) => (
  some (0, 0, t2))
  | (.inr t2) => (
  if t2.2 = 0 then
   some (0, 0, 7)
  else
  (F_field_lowest n t2.1 t2.2).bind fun t4 =>
  some (t4.1, t4.2, 0))
theorem c_field_Summed_2 {n : Nat} {a0 : List D} {r : Int × Int × Int} (h : F_field_Summed_2 n a0 = some r) : Computes cx 29 [.lst false 3 a0] (.tup [.agg [I r.1, I r.2.1], I r.2.2]) := by
 unfold F_field_Summed_2 at h
 by_cases h1 : ((a0).length : Int) > 256
 ·replace h := it h h1
  obtain rfl := oi h
  exact run_fr (n := 100) (orc := [.br true]) (allC (decide_eq_true h1) allN) (by kernel_rfl)
 ·replace h := jf h h1
  obtain ⟨t2, h2, h⟩ := bo h
  rcases t2 with t2 | t2
  ·obtain rfl := oi h
   exact run_fr (n := 100) (orc := [.br false, .lp [] [2, 4, 5, 13, 14, 15] [0] .ret [(2, .ptr 0 0 0 0 0), (3, .d (I t2))] [(0, .box (.d (.agg [I 0, I 0])))] 60]) (allC (loopF_to R_field_Summed_2_L1 h2) (allC (decide_eq_false h1) allN)) (by kernel_rfl)
  ·by_cases h3 : t2.2 = 0
   ·replace h := it h h3
    obtain rfl := oi h
    exact run_fr (n := 100) (orc := [.br false, .lp [] [2, 4, 5, 13, 14, 15] [0] (.exit 0) [(2, .ptr 0 0 0 0 0), (4, .d (I t2.1)), (5, .d (I t2.2))] [(0, .box (.d (.agg [I 0, I 0])))] 60, .br true]) (allC (eqt h3) (allC (loopF_to R_field_Summed_2_L1 h2) (allC (decide_eq_false h1) allN))) (by kernel_rfl)
   ·replace h := jf h h3
    obtain ⟨t4, h4, h⟩ := bo h
    obtain rfl := oi h
    exact run_fr (n := 100) (orc := [.br false, .lp [] [2, 4, 5, 13, 14, 15] [0] (.exit 0) [(2, .ptr 0 0 0 0 0), (4, .d (I t2.1)), (5, .d (I t2.2))] [(0, .box (.d (.agg [I 0, I 0])))] 60, .br false, .ret (.agg [I t4.1, I t4.2])]) (allC (c_field_lowest h4) (allC (eqf h3) (allC (loopF_to R_field_Summed_2_L1 h2) (allC (decide_eq_false h1) allN)))) (by kernel_rfl)
def F_ref01_Lowest_2 (n : Nat) (a0 : Int) (a1 : Int) : Option (Int × Int) :=
 if a1 < 0 then
  if inI64 (0 - a0) then
  if inI64 (0 - a1) then
  (F_ref01_Divisor n (0 - a0) (0 - a1)).bind fun t4 =>
  if t4 ≠ 0 then
  if inI64 (Int.tdiv (0 - a0) t4) then
  if inI64 (Int.tdiv (0 - a1) t4) then
  some ((Int.tdiv (0 - a0) t4), (Int.tdiv (0 - a1) t4))
  else none
  else none
  else none
  else none
  else none
 else
 (F_ref01_Divisor n a0 a1).bind fun t2 =>
 if t2 ≠ 0 then
 if inI64 (Int.tdiv a0 t2) then
 if inI64 (Int.tdiv a1 t2) then
 some ((Int.tdiv a0 t2), (Int.tdiv a1 t2))
 else none
 else none
 else none
theorem c_ref01_Lowest_2 {n : Nat} {a0 : Int} {a1 : Int} {r : Int × Int} (h : F_ref01_Lowest_2 n a0 a1 = some r) : Computes cx 30 [I a0, I a1] (.agg [I r.1, I r.2]) := by
 unfold F_ref01_Lowest_2 at h
 by_cases h1 : a1 < 0
 ·replace h := it h h1
  obtain ⟨h2, h⟩ := gd h; obtain ⟨h3, h⟩ := gd h; obtain ⟨t4, h4, h⟩ := bo h; obtain ⟨h5, h⟩ := gd h; obtain ⟨h6, h⟩ := gd h; obtain ⟨h7, h⟩ := gd h
  obtain rfl := oi h
  exact run_fr (n := 100) (orc := [.br true, .ret (I t4)]) (allC h5 (allC h7 (allC h5 (allC h6 (allC (c_ref01_Divisor h4) (allC h3 (allC h2 (allC (decide_eq_true h1) allN)))))))) (by kernel_rfl)
 ·replace h := jf h h1
  obtain ⟨t2, h2, h⟩ := bo h; obtain ⟨h3, h⟩ := gd h; obtain ⟨h4, h⟩ := gd h; obtain ⟨h5, h⟩ := gd h
  obtain rfl := oi h
  exact run_fr (n := 100) (orc := [.br false, .ret (I t2)]) (allC h3 (allC h5 (allC h3 (allC h4 (allC (c_ref01_Divisor h2) (allC (decide_eq_false h1) allN)))))) (by kernel_rfl)
def F_top_TopThistleYear_L1 (n : Nat) (a0 : ByteArray) (a1 : List D) (a2 : List D) (a3 : Int) (a4 : Int) (a5 : Int) (a6 : Int) (t17 : ByteArray × Int × Int × Int × Int × Int × Int × Int × Int × Int) (sa : (Unit) ⊕ (Int × List D)) : Option (((Unit) ⊕ (Int × List D)) ⊕ ((Unit) ⊕ (List D))) := match sa with
 | (.inl sa) => (
  if (((a2).length : Int) - 1) > 0 then
  (el un_Asi9Z a2 (((a2).length : Int) - 1)).bind fun ta2 =>
  if inI64 ((((a2).length : Int) - 1) - 1) then
  some (.inl (.inr (((((a2).length : Int) - 1) - 1), [.agg [.v (.string t17.1), I t17.2.1, I t17.2.2.1, I t17.2.2.2.1, I t17.2.2.2.2.1, I t17.2.2.2.2.2.1, I t17.2.2.2.2.2.2.1, I t17.2.2.2.2.2.2.2.1, I t17.2.2.2.2.2.2.2.2.1, I t17.2.2.2.2.2.2.2.2.2], .agg [.v (.string ta2.1), I ta2.2.1, I ta2.2.2.1, I ta2.2.2.2.1, I ta2.2.2.2.2.1, I ta2.2.2.2.2.2.1, I ta2.2.2.2.2.2.2.1, I ta2.2.2.2.2.2.2.2.1, I ta2.2.2.2.2.2.2.2.2.1, I ta2.2.2.2.2.2.2.2.2.2]])))
  else none
  else
  some (.inr (.inl ())))
 | (.inr sa) => (
  if sa.1 > 0 then
  (el un_Asi9Z a2 sa.1).bind fun ta2 =>
  if roomP 88 ((sa.2).length + 1) then
  if inI64 (sa.1 - 1) then
  some (.inl (.inr ((sa.1 - 1), (sa.2 ++ ([.agg [.v (.string ta2.1), I ta2.2.1, I ta2.2.2.1, I ta2.2.2.2.1, I ta2.2.2.2.2.1, I ta2.2.2.2.2.2.1, I ta2.2.2.2.2.2.2.1, I ta2.2.2.2.2.2.2.2.1, I ta2.2.2.2.2.2.2.2.2.1, I ta2.2.2.2.2.2.2.2.2.2]] : List D)))))
  else none
  else none
  else
  some (.inr (.inr sa.2)))
noncomputable def T_top_TopThistleYear_L1 (a0 : ByteArray) (a1 : List D) (a2 : List D) (a3 : Int) (a4 : Int) (a5 : Int) (a6 : Int) (t17 : ByteArray × Int × Int × Int × Int × Int × Int × Int × Int × Int) (sa : (Unit) ⊕ (Int × List D)) : List (Nat × AV) := match sa with
  | (.inl sa) => [(1, .d (.lst false 10 a2)), (3, .ptr 0 0 0 0 0), (7, .ptr 52 0 0 0 0), (8, .d (I (1 + (Int.tmod ((Int.tmod (IntKind.wrap .i64 a6) 3) + 3) 3)))), (9, .ptr 74 0 0 0 0), (10, .d (I (((a2).length : Int) - 1)))]
  | (.inr sa) => [(1, .d (.lst false 10 a2)), (3, .ptr 0 0 0 0 0), (7, .ptr 52 0 0 0 0), (8, .d (I (1 + (Int.tmod ((Int.tmod (IntKind.wrap .i64 a6) 3) + 3) 3)))), (9, .ptr 74 0 0 0 0), (10, .d (I sa.1))]
noncomputable def H_top_TopThistleYear_L1 (a0 : ByteArray) (a1 : List D) (a2 : List D) (a3 : Int) (a4 : Int) (a5 : Int) (a6 : Int) (t17 : ByteArray × Int × Int × Int × Int × Int × Int × Int × Int × Int) (sa : (Unit) ⊕ (Int × List D)) : List (Nat × Blk) := match sa with
  | (.inl sa) => [(0, .box (.d (.agg [.v (.string a0), .lst false 4 a1]))), (52, .box (.d (.agg [I (IntKind.wrap .i64 a3), I (IntKind.wrap .i64 a4), I (100 + (IntKind.wrap .i64 a5))]))), (74, .box (.d (.agg [.lst false 10 a2, .lst true 10 [.agg [.v (.string t17.1), I t17.2.1, I t17.2.2.1, I t17.2.2.2.1, I t17.2.2.2.2.1, I t17.2.2.2.2.2.1, I t17.2.2.2.2.2.2.1, I t17.2.2.2.2.2.2.2.1, I t17.2.2.2.2.2.2.2.2.1, I t17.2.2.2.2.2.2.2.2.2]], .lst false 10 ((a2.take (Int.toNat (maxI 1 (((a2).length : Int) - 1)))).drop (Int.toNat 0))])))]
  | (.inr sa) => [(0, .box (.d (.agg [.v (.string a0), .lst false 4 a1]))), (52, .box (.d (.agg [I (IntKind.wrap .i64 a3), I (IntKind.wrap .i64 a4), I (100 + (IntKind.wrap .i64 a5))]))), (74, .box (.agg [.d (.lst false 10 a2), .own 89 0, .d (.lst false 10 ((a2.take (Int.toNat (maxI 1 (((a2).length : Int) - 1)))).drop (Int.toNat 0)))])), (89, .row 0 10 sa.2)]
noncomputable def X_top_TopThistleYear_L1 (a0 : ByteArray) (a1 : List D) (a2 : List D) (a3 : Int) (a4 : Int) (a5 : Int) (a6 : Int) (t17 : ByteArray × Int × Int × Int × Int × Int × Int × Int × Int × Int) (e : (Unit) ⊕ (List D)) : Ex := match e with
  | (.inl e) => (.exit 0)
  | (.inr e) => (.exit 0)
noncomputable def XT_top_TopThistleYear_L1 (a0 : ByteArray) (a1 : List D) (a2 : List D) (a3 : Int) (a4 : Int) (a5 : Int) (a6 : Int) (t17 : ByteArray × Int × Int × Int × Int × Int × Int × Int × Int × Int) (e : (Unit) ⊕ (List D)) : List (Nat × AV) := match e with
  | (.inl e) => [(1, .d (.lst false 10 a2)), (3, .ptr 0 0 0 0 0), (7, .ptr 52 0 0 0 0), (8, .d (I (1 + (Int.tmod ((Int.tmod (IntKind.wrap .i64 a6) 3) + 3) 3)))), (9, .ptr 74 0 0 0 0)]
  | (.inr e) => [(1, .d (.lst false 10 a2)), (3, .ptr 0 0 0 0 0), (7, .ptr 52 0 0 0 0), (8, .d (I (1 + (Int.tmod ((Int.tmod (IntKind.wrap .i64 a6) 3) + 3) 3)))), (9, .ptr 74 0 0 0 0)]
noncomputable def XH_top_TopThistleYear_L1 (a0 : ByteArray) (a1 : List D) (a2 : List D) (a3 : Int) (a4 : Int) (a5 : Int) (a6 : Int) (t17 : ByteArray × Int × Int × Int × Int × Int × Int × Int × Int × Int) (e : (Unit) ⊕ (List D)) : List (Nat × Blk) := match e with
  | (.inl e) => [(0, .box (.d (.agg [.v (.string a0), .lst false 4 a1]))), (52, .box (.d (.agg [I (IntKind.wrap .i64 a3), I (IntKind.wrap .i64 a4), I (100 + (IntKind.wrap .i64 a5))]))), (74, .box (.d (.agg [.lst false 10 a2, .lst true 10 [.agg [.v (.string t17.1), I t17.2.1, I t17.2.2.1, I t17.2.2.2.1, I t17.2.2.2.2.1, I t17.2.2.2.2.2.1, I t17.2.2.2.2.2.2.1, I t17.2.2.2.2.2.2.2.1, I t17.2.2.2.2.2.2.2.2.1, I t17.2.2.2.2.2.2.2.2.2]], .lst false 10 ((a2.take (Int.toNat (maxI 1 (((a2).length : Int) - 1)))).drop (Int.toNat 0))])))]
  | (.inr e) => [(0, .box (.d (.agg [.v (.string a0), .lst false 4 a1]))), (52, .box (.d (.agg [I (IntKind.wrap .i64 a3), I (IntKind.wrap .i64 a4), I (100 + (IntKind.wrap .i64 a5))]))), (74, .box (.agg [.d (.lst false 10 a2), .own 89 0, .d (.lst false 10 ((a2.take (Int.toNat (maxI 1 (((a2).length : Int) - 1)))).drop (Int.toNat 0)))])), (89, .row 0 10 e)]
theorem R_top_TopThistleYear_L1 {n : Nat} {a0 : ByteArray} {a1 : List D} {a2 : List D} {a3 : Int} {a4 : Int} {a5 : Int} {a6 : Int} {t17 : ByteArray × Int × Int × Int × Int × Int × Int × Int × Int × Int} (sa : (Unit) ⊕ (Int × List D)) (r) (h : F_top_TopThistleYear_L1 n a0 a1 a2 a3 a4 a5 a6 t17 sa = some r) : Rd cx (loopAt cx.P 4 0) 319 0 false (T_top_TopThistleYear_L1 a0 a1 a2 a3 a4 a5 a6 t17) (H_top_TopThistleYear_L1 a0 a1 a2 a3 a4 a5 a6 t17) (X_top_TopThistleYear_L1 a0 a1 a2 a3 a4 a5 a6 t17) (XT_top_TopThistleYear_L1 a0 a1 a2 a3 a4 a5 a6 t17) (XH_top_TopThistleYear_L1 a0 a1 a2 a3 a4 a5 a6 t17) sa r := by
 unfold F_top_TopThistleYear_L1 at h
 rcases sa with sa | sa
 ·by_cases ha1 : (((a2).length : Int) - 1) > 0
  ·replace h := it h ha1
   obtain ⟨ta2, ha2, h⟩ := bo h; obtain ⟨ha3, h⟩ := gd h
   obtain rfl := oi h
   exact ⟨100, 80, [.br true, .el (enc_Asi9Z ta2), .no, .no], [], [1, 3, 7, 8, 9, 10], [0, 52, 74, 89], round_fr (allC ha3 (allC (el_ok un_Asi9Z_ok ha2).1 (allC (el_ok un_Asi9Z_ok ha2).2 (allC (decide_eq_true ha1) allN)))) (by kernel_rfl)⟩
  ·replace h := jf h ha1
   obtain rfl := oi h
   exact ⟨⟨100, 80, [.br false], [], [1, 3, 7, 8, 9], [0, 52, 74], round_fr (allC (decide_eq_false ha1) allN) (by kernel_rfl)⟩, nofun⟩
 ·by_cases ha1 : sa.1 > 0
  ·replace h := it h ha1
   obtain ⟨ta2, ha2, h⟩ := bo h; obtain ⟨ha3, h⟩ := gd h; obtain ⟨ha4, h⟩ := gd h
   obtain rfl := oi h
   exact ⟨100, 90, [.br true, .el (enc_Asi9Z ta2), .br true], [], [1, 3, 7, 8, 9, 10], [0, 52, 74, 89], round_fr (allC ha4 (allC ((room_of (b := 88) (by kernel_rfl) (by decide) ha3) : room cx 40 ((sa.2).length + 1)) (allC (el_ok un_Asi9Z_ok ha2).1 (allC (el_ok un_Asi9Z_ok ha2).2 (allC (decide_eq_true ha1) allN))))) (by kernel_rfl)⟩
  ·replace h := jf h ha1
   obtain rfl := oi h
   exact ⟨⟨100, 90, [.br false], [], [1, 3, 7, 8, 9], [0, 52, 74, 89], round_fr (allC (decide_eq_false ha1) allN) (by kernel_rfl)⟩, nofun⟩
def kE (a6 : Int) : Int := 1 + (Int.tmod ((Int.tmod (IntKind.wrap .i64 a6) 3) + 3) 3)
end Go.Proofs.YtiogobiijlaalaaDoor
