/-
  Printed by gsx.py: functions of the program as Lean functions, and that the code computes them.
-/
import Derived.Test.YtoblljobcafecaaGreatDoorGen4
set_option linter.unusedVariables false
set_option linter.unusedSimpArgs false
set_option linter.unnecessarySimpa false
set_option maxRecDepth 10000
set_option maxHeartbeats 4000000
namespace Go.Proofs.YtoblljobcafecaaGreatDoor
open Go.SX
/- spillage/drive.Parse: .v (.string a0) -/
def F_drive_Parse (n : Nat) (a0 : ByteArray) : Option (List D × Int × Int) :=
  if (a0.size : Int) > 4096 then
    some ([], 0, 26)
  else
  (loopF (F_drive_Parse_L1 n a0) n (.inl ())).bind fun t2 => match t2 with
    | (.inl t2) => (
      some ([], 0, 25))
    | (.inr (.inl t2)) => (
      (F_drive_CheckModel n ([])).bind fun t3 =>
      if t3 = 0 then
        some ([], 0, 0)
      else
      some ([], 0, t3))
    | (.inr (.inr (.inl t2))) => (
      some ([], t2.1, 25))
    | (.inr (.inr (.inr t2))) => (
      (F_drive_CheckModel n t2.2).bind fun t3 =>
      if t3 = 0 then
        some (t2.2, 0, 0)
      else
      some ([], ((t2.2).length : Int), t3))
theorem c_drive_Parse {n : Nat} {a0 : ByteArray} {r : List D × Int × Int} (h : F_drive_Parse n a0 = some r) : Computes cx 9 [.v (.string a0)] (.tup [.lst false 3 r.1, I r.2.1, I r.2.2]) := by
  unfold F_drive_Parse at h
  by_cases h1 : (a0.size : Int) > 4096
  · replace h := ite_t h h1
    replace h := Option.some.inj h
    subst h
    exact (run_fr (n := 100) (r := .tup [.lst true 0 [], I 0, I 26]) (orc := [.br true]) (allC (decide_eq_true h1) allN) (by kernel_rfl)).le (LEs.refl _) (.tups (.cons (.lst _ _ _ _ _ nofun (.inl rfl)) (.cons (.refl _) (.cons (.refl _) (.nil)))))
  · replace h := ite_f h h1
    obtain ⟨t2, h2, h⟩ := bnd_of h
    rcases t2 with t2 | t2 | t2 | t2
    · replace h := Option.some.inj h
      subst h
      exact (run_fr (n := 100) (r := .tup [.lst true 0 [], I 0, I 25]) (orc := [.br false, .br true, .lp [] [0, 1] [0, 1, 2, 6, 9, 13] .ret [] [(0, .box (.d (.lst true 0 []))), (1, .box (.d (I 0))), (2, .box (.d (I 25))), (6, .box (.d (.lst true 0 []))), (9, .box (.d (.v (.string t2)))), (13, .left .ret)] 604]) (allC (loopF_to R_drive_Parse_L1 h2) (allC (decide_eq_false h1) allN)) (by kernel_rfl)).le (LEs.refl _) (.tups (.cons (.lst _ _ _ _ _ nofun (.inl rfl)) (.cons (.refl _) (.cons (.refl _) (.nil)))))
    · obtain ⟨t3, h3, h⟩ := bnd_of h
      by_cases h4 : t3 = 0
      · replace h := ite_t h h4
        replace h := Option.some.inj h
        subst h
        exact (run_fr (n := 100) (r := .tup [.lst true 0 [], I 0, I 0]) (orc := [.br false, .br true, .lp [] [0, 1] [0, 1, 2, 6, 9, 13] (.exit 0) [] [(0, .box (.d (.lst true 0 []))), (1, .box (.d (I 0))), (2, .box (.d (I 0))), (6, .box (.d (.lst true 0 []))), (9, .box (.d (.v (.string a0)))), (13, .loop true [(20, .fn (.func 72) [] [.ptr 9 0 0 0 0]), (19, .d (.v (.string a0))), (18, .d (B (decide ((a0.size : Int) > 4096)))), (17, .d (I (a0.size : Int))), (16, .d (.v (.string a0))), (5, .ptr 6 0 0 0 0), (4, .ptr 2 0 0 0 0), (3, .ptr 1 0 0 0 0), (2, .ptr 0 0 0 0 0), (0, .d (.v (.string a0)))] [21] (rangeAt cx.P 9 0).1 (rangeAt cx.P 9 0).2 79)] 604, .ret (I t3), .br false]) (allC (nef h4) (allC (((c_drive_CheckModel h3).le (.cons (.lst _ _ _ _ _ nofun (.inl rfl)) (.nil)) (.refl _)) : Computes cx 33 [.lst true 0 []] (I t3)) (allC (loopF_to R_drive_Parse_L1 h2) (allC (decide_eq_false h1) allN)))) (by kernel_rfl)).le (LEs.refl _) (.tups (.cons (.lst _ _ _ _ _ nofun (.inl rfl)) (.cons (.refl _) (.cons (.refl _) (.nil)))))
      · replace h := ite_f h h4
        replace h := Option.some.inj h
        subst h
        exact (run_fr (n := 100) (r := .tup [.lst true 0 [], I 0, I t3]) (orc := [.br false, .br true, .lp [] [0, 1] [0, 1, 2, 6, 9, 13] (.exit 0) [] [(0, .box (.d (.lst true 0 []))), (1, .box (.d (I 0))), (2, .box (.d (I 0))), (6, .box (.d (.lst true 0 []))), (9, .box (.d (.v (.string a0)))), (13, .loop true [(20, .fn (.func 72) [] [.ptr 9 0 0 0 0]), (19, .d (.v (.string a0))), (18, .d (B (decide ((a0.size : Int) > 4096)))), (17, .d (I (a0.size : Int))), (16, .d (.v (.string a0))), (5, .ptr 6 0 0 0 0), (4, .ptr 2 0 0 0 0), (3, .ptr 1 0 0 0 0), (2, .ptr 0 0 0 0 0), (0, .d (.v (.string a0)))] [21] (rangeAt cx.P 9 0).1 (rangeAt cx.P 9 0).2 79)] 604, .ret (I t3), .br true]) (allC (net h4) (allC (((c_drive_CheckModel h3).le (.cons (.lst _ _ _ _ _ nofun (.inl rfl)) (.nil)) (.refl _)) : Computes cx 33 [.lst true 0 []] (I t3)) (allC (loopF_to R_drive_Parse_L1 h2) (allC (decide_eq_false h1) allN)))) (by kernel_rfl)).le (LEs.refl _) (.tups (.cons (.lst _ _ _ _ _ nofun (.inl rfl)) (.cons (.refl _) (.cons (.refl _) (.nil)))))
    · replace h := Option.some.inj h
      subst h
      exact (run_fr (n := 100) (r := .tup [.lst true 0 [], I t2.1, I 25]) (orc := [.br false, .br true, .lp [] [0, 1] [0, 1, 2, 6, 9, 13] .ret [] [(0, .box (.d (.lst true 0 []))), (1, .box (.d (I t2.1))), (2, .box (.d (I 25))), (6, .box (.own 302 0)), (9, .box (.d (.v (.string t2.2.1)))), (13, .left .ret), (302, .row 0 3 t2.2.2)] 604]) (allC (loopF_to R_drive_Parse_L1 h2) (allC (decide_eq_false h1) allN)) (by kernel_rfl)).le (LEs.refl _) (.tups (.cons (.lst _ _ _ _ _ nofun (.inl rfl)) (.cons (.refl _) (.cons (.refl _) (.nil)))))
    · obtain ⟨t3, h3, h⟩ := bnd_of h
      by_cases h4 : t3 = 0
      · replace h := ite_t h h4
        replace h := Option.some.inj h
        subst h
        exact run_fr (n := 100) (orc := [.br false, .br true, .lp [] [0, 1] [0, 1, 2, 6, 9, 13] (.exit 0) [] [(0, .box (.d (.lst true 0 []))), (1, .box (.d (I 0))), (2, .box (.d (I 0))), (6, .box (.own 302 0)), (9, .box (.d (.v (.string t2.1)))), (13, .loop true [(20, .fn (.func 72) [] [.ptr 9 0 0 0 0]), (19, .d (.v (.string a0))), (18, .d (B (decide ((a0.size : Int) > 4096)))), (17, .d (I (a0.size : Int))), (16, .d (.v (.string a0))), (5, .ptr 6 0 0 0 0), (4, .ptr 2 0 0 0 0), (3, .ptr 1 0 0 0 0), (2, .ptr 0 0 0 0 0), (0, .d (.v (.string a0)))] [21] (rangeAt cx.P 9 0).1 (rangeAt cx.P 9 0).2 79), (302, .row 0 3 t2.2)] 604, .ret (I t3), .br false]) (allC (nef h4) (allC (c_drive_CheckModel h3) (allC (loopF_to R_drive_Parse_L1 h2) (allC (decide_eq_false h1) allN)))) (by kernel_rfl)
      · replace h := ite_f h h4
        replace h := Option.some.inj h
        subst h
        exact (run_fr (n := 100) (r := .tup [.lst true 0 [], I ((t2.2).length : Int), I t3]) (orc := [.br false, .br true, .lp [] [0, 1] [0, 1, 2, 6, 9, 13] (.exit 0) [] [(0, .box (.d (.lst true 0 []))), (1, .box (.d (I 0))), (2, .box (.d (I 0))), (6, .box (.own 302 0)), (9, .box (.d (.v (.string t2.1)))), (13, .loop true [(20, .fn (.func 72) [] [.ptr 9 0 0 0 0]), (19, .d (.v (.string a0))), (18, .d (B (decide ((a0.size : Int) > 4096)))), (17, .d (I (a0.size : Int))), (16, .d (.v (.string a0))), (5, .ptr 6 0 0 0 0), (4, .ptr 2 0 0 0 0), (3, .ptr 1 0 0 0 0), (2, .ptr 0 0 0 0 0), (0, .d (.v (.string a0)))] [21] (rangeAt cx.P 9 0).1 (rangeAt cx.P 9 0).2 79), (302, .row 0 3 t2.2)] 604, .ret (I t3), .br true]) (allC (net h4) (allC (c_drive_CheckModel h3) (allC (loopF_to R_drive_Parse_L1 h2) (allC (decide_eq_false h1) allN)))) (by kernel_rfl)).le (LEs.refl _) (.tups (.cons (.lst _ _ _ _ _ nofun (.inl rfl)) (.cons (.refl _) (.cons (.refl _) (.nil)))))
/- spillage/spillageref01.When: B true, I 3 -/
def F_ref01_When (n : Nat)  : Option (Int) :=
  some 3
theorem c_ref01_When {n : Nat}  {r : Int} (h : F_ref01_When n  = some r) : Computes cx 80 [B true, I 3] (I r) := by
  unfold F_ref01_When at h
  replace h := Option.some.inj h
  subst h
  exact run_fr (n := 100) (orc := [.no]) allN (by kernel_rfl)
/- spillage/spillageref01.When: B a0, I a1 -/
def F_ref01_When_2 (n : Nat) (a0 : Bool) (a1 : Int) : Option (Int) :=
  if a0 = true then
    some a1
  else
  some 0
theorem c_ref01_When_2 {n : Nat} {a0 : Bool} {a1 : Int} {r : Int} (h : F_ref01_When_2 n a0 a1 = some r) : Computes cx 80 [B a0, I a1] (I r) := by
  unfold F_ref01_When_2 at h
  by_cases h1 : a0 = true
  · replace h := ite_t h h1
    replace h := Option.some.inj h
    subst h
    exact run_fr (n := 100) (orc := [.br true]) (allC h1 allN) (by kernel_rfl)
  · replace h := ite_f h h1
    replace h := Option.some.inj h
    subst h
    exact run_fr (n := 100) (orc := [.br false]) (allC (bfalse h1) allN) (by kernel_rfl)
/- spillage/spillageref01.CheckRange: I a0, I a1, I a2 -/
def F_ref01_CheckRange (n : Nat) (a0 : Int) (a1 : Int) (a2 : Int) : Option (Int) :=
  if a0 < a1 then
    (F_ref01_When n).bind fun t2 =>
    some t2
  else
  (F_ref01_When_2 n (decide (a0 > a2)) 3).bind fun t2 =>
  some t2
theorem c_ref01_CheckRange {n : Nat} {a0 : Int} {a1 : Int} {a2 : Int} {r : Int} (h : F_ref01_CheckRange n a0 a1 a2 = some r) : Computes cx 44 [I a0, I a1, I a2] (I r) := by
  unfold F_ref01_CheckRange at h
  by_cases h1 : a0 < a1
  · replace h := ite_t h h1
    obtain ⟨t2, h2, h⟩ := bnd_of h
    replace h := Option.some.inj h
    subst h
    exact run_fr (n := 100) (orc := [.br true, .ret (I t2)]) (allC (c_ref01_When h2) (allC (decide_eq_true h1) allN)) (by kernel_rfl)
  · replace h := ite_f h h1
    obtain ⟨t2, h2, h⟩ := bnd_of h
    replace h := Option.some.inj h
    subst h
    exact run_fr (n := 100) (orc := [.br false, .ret (I t2)]) (allC (c_ref01_When_2 h2) (allC (decide_eq_false h1) allN)) (by kernel_rfl)
def F_ref01_First_L1 (n : Nat) (a0 : List D) (sa : (Int)) : Option (((Int)) ⊕ ((Int) ⊕ (Unit))) :=
  if sa < ((a0).length : Int) then
    (el un_i a0 sa).bind fun ta2 =>
    if ta2 = 0 then
      if inI64 (sa + 1) then
      some (.inl (sa + 1))
      else none
    else
    some (.inr (.inl ta2))
  else
  some (.inr (.inr ()))
noncomputable def T_ref01_First_L1 (a0 : List D) (sa : (Int)) : List (Nat × AV) := [(0, .d (.lst false 1 a0)), (3, .d (I sa))]
noncomputable def H_ref01_First_L1 (a0 : List D) (sa : (Int)) : List (Nat × Blk) := []
noncomputable def X_ref01_First_L1 (a0 : List D) (e : (Int) ⊕ (Unit)) : Ex := match e with
  | (.inl e) => .ret
  | (.inr e) => (.exit 0)
noncomputable def XT_ref01_First_L1 (a0 : List D) (e : (Int) ⊕ (Unit)) : List (Nat × AV) := match e with
  | (.inl e) => [(2, .d (I e))]
  | (.inr e) => []
noncomputable def XH_ref01_First_L1 (a0 : List D) (e : (Int) ⊕ (Unit)) : List (Nat × Blk) := match e with
  | (.inl e) => []
  | (.inr e) => []
theorem R_ref01_First_L1 {n : Nat} {a0 : List D} (sa : (Int)) (r) (h : F_ref01_First_L1 n a0 sa = some r) : Rd cx (loopAt cx.P 43 0) 19 0 false (T_ref01_First_L1 a0) (H_ref01_First_L1 a0) (X_ref01_First_L1 a0) (XT_ref01_First_L1 a0) (XH_ref01_First_L1 a0) sa r := by
  unfold F_ref01_First_L1 at h
  by_cases ha1 : sa < ((a0).length : Int)
  · replace h := ite_t h ha1
    obtain ⟨ta2, ha2, h⟩ := bnd_of h
    by_cases ha3 : ta2 = 0
    · replace h := ite_t h ha3
      obtain ⟨ha4, h⟩ := grd_of h
      replace h := Option.some.inj h
      subst h
      exact ⟨100, 2, [.br true, .el (enc_i ta2), .br false], [], [0, 3], [], round_fr (allC ha4 (allC (nef ha3) (allC (el_ok un_i_ok ha2).1 (allC (el_ok un_i_ok ha2).2 (allC (decide_eq_true ha1) allN))))) (by kernel_rfl)⟩
    · replace h := ite_f h ha3
      replace h := Option.some.inj h
      subst h
      exact ⟨⟨100, 2, [.br true, .el (enc_i ta2), .br true, .el (enc_i ta2)], [], [2], [], round_fr (allC (el_ok un_i_ok ha2).1 (allC (el_ok un_i_ok ha2).2 (allC (net ha3) (allC (el_ok un_i_ok ha2).1 (allC (el_ok un_i_ok ha2).2 (allC (decide_eq_true ha1) allN)))))) (by kernel_rfl)⟩, nofun⟩
  · replace h := ite_f h ha1
    replace h := Option.some.inj h
    subst h
    exact ⟨⟨100, 2, [.br false], [], [], [], round_fr (allC (decide_eq_false ha1) allN) (by kernel_rfl)⟩, nofun⟩
/- spillage/spillageref01.First: .lst false 1 a0 -/
def F_ref01_First (n : Nat) (a0 : List D) : Option (Int) :=
  (loopF (F_ref01_First_L1 n a0) n 0).bind fun t1 => match t1 with
    | (.inl t1) => (
      some t1)
    | (.inr t1) => (
      some 0)
theorem c_ref01_First {n : Nat} {a0 : List D} {r : Int} (h : F_ref01_First n a0 = some r) : Computes cx 43 [.lst false 1 a0] (I r) := by
  unfold F_ref01_First at h
  obtain ⟨t1, h1, h⟩ := bnd_of h
  rcases t1 with t1 | t1
  · replace h := Option.some.inj h
    subst h
    exact run_fr (n := 100) (orc := [.lp [] [0, 3] [] .ret [(2, .d (I t1))] [] 27]) (allC (loopF_to R_ref01_First_L1 h1) allN) (by kernel_rfl)
  · replace h := Option.some.inj h
    subst h
    exact run_fr (n := 100) (orc := [.lp [] [0, 3] [] (.exit 0) [] [] 27]) (allC (loopF_to R_ref01_First_L1 h1) allN) (by kernel_rfl)
/- spillage/spillageref03.CheckInterval: .agg [I a0, I a1], I a2, I a3 -/
def F_ref03_CheckInterval (n : Nat) (a0 : Int) (a1 : Int) (a2 : Int) (a3 : Int) : Option (Int) :=
  (F_ref01_CheckRange n a0 a2 a3).bind fun t1 =>
  (F_ref01_CheckRange n a1 a2 a3).bind fun t2 =>
  (F_ref01_When_2 n (decide (a0 > a1)) 11).bind fun t3 =>
  (F_ref01_First n ([I t1, I t2, I t3])).bind fun t4 =>
  some t4
theorem c_ref03_CheckInterval {n : Nat} {a0 : Int} {a1 : Int} {a2 : Int} {a3 : Int} {r : Int} (h : F_ref03_CheckInterval n a0 a1 a2 a3 = some r) : Computes cx 45 [.agg [I a0, I a1], I a2, I a3] (I r) := by
  unfold F_ref03_CheckInterval at h
  obtain ⟨t1, h1, h⟩ := bnd_of h
  obtain ⟨t2, h2, h⟩ := bnd_of h
  obtain ⟨t3, h3, h⟩ := bnd_of h
  obtain ⟨t4, h4, h⟩ := bnd_of h
  replace h := Option.some.inj h
  subst h
  exact run_fr (n := 100) (orc := [.ret (I t1), .ret (I t2), .ret (I t3), .ret (I t4)]) (allC (((c_ref01_First h4).le (.cons (.full _ _ _) (.nil)) (.refl _)) : Computes cx 43 [.lst true 1 [I t1, I t2, I t3]] (I t4)) (allC (c_ref01_When_2 h3) (allC (c_ref01_CheckRange h2) (allC (c_ref01_CheckRange h1) allN)))) (by kernel_rfl)
def F_ref03_CheckModel_L1 (n : Nat) (a0 : List D) (sa : (Int)) : Option (((Int)) ⊕ ((Int) ⊕ (Unit))) :=
  if sa < ((a0).length : Int) then
    (el un_Ai3Z a0 sa).bind fun ta2 =>
    (F_ref01_CheckRange n ta2.1 (-1000) 1000).bind fun ta3 =>
    (F_ref03_CheckInterval n ta2.2.1 ta2.2.2 (-2000000) 2000000).bind fun ta4 =>
    (F_ref01_First n ([I ta3, I ta4])).bind fun ta5 =>
    if ta5 = 0 then
      if sa > 0 then
        if inI64 (sa - 1) then
        (el un_Ai3Z a0 (sa - 1)).bind fun ta9 =>
        if ta2.1 ≤ ta9.1 then
          some (.inr (.inl 11))
        else
        if inI64 (sa + 1) then
        some (.inl (sa + 1))
        else none
        else none
      else
      if inI64 (sa + 1) then
      some (.inl (sa + 1))
      else none
    else
    some (.inr (.inl ta5))
  else
  some (.inr (.inr ()))
noncomputable def T_ref03_CheckModel_L1 (a0 : List D) (sa : (Int)) : List (Nat × AV) := [(0, .d (.lst false 3 a0)), (3, .d (I sa))]
noncomputable def H_ref03_CheckModel_L1 (a0 : List D) (sa : (Int)) : List (Nat × Blk) := []
noncomputable def X_ref03_CheckModel_L1 (a0 : List D) (e : (Int) ⊕ (Unit)) : Ex := match e with
  | (.inl e) => .ret
  | (.inr e) => (.exit 0)
noncomputable def XT_ref03_CheckModel_L1 (a0 : List D) (e : (Int) ⊕ (Unit)) : List (Nat × AV) := match e with
  | (.inl e) => [(2, .d (I e))]
  | (.inr e) => []
noncomputable def XH_ref03_CheckModel_L1 (a0 : List D) (e : (Int) ⊕ (Unit)) : List (Nat × Blk) := match e with
  | (.inl e) => []
  | (.inr e) => []
theorem R_ref03_CheckModel_L1 {n : Nat} {a0 : List D} (sa : (Int)) (r) (h : F_ref03_CheckModel_L1 n a0 sa = some r) : Rd cx (loopAt cx.P 10 0) 50 0 false (T_ref03_CheckModel_L1 a0) (H_ref03_CheckModel_L1 a0) (X_ref03_CheckModel_L1 a0) (XT_ref03_CheckModel_L1 a0) (XH_ref03_CheckModel_L1 a0) sa r := by
  unfold F_ref03_CheckModel_L1 at h
  by_cases ha1 : sa < ((a0).length : Int)
  · replace h := ite_t h ha1
    obtain ⟨ta2, ha2, h⟩ := bnd_of h
    obtain ⟨ta3, ha3, h⟩ := bnd_of h
    obtain ⟨ta4, ha4, h⟩ := bnd_of h
    obtain ⟨ta5, ha5, h⟩ := bnd_of h
    by_cases ha6 : ta5 = 0
    · replace h := ite_t h ha6
      by_cases ha7 : sa > 0
      · replace h := ite_t h ha7
        obtain ⟨ha8, h⟩ := grd_of h
        obtain ⟨ta9, ha9, h⟩ := bnd_of h
        by_cases ha10 : ta2.1 ≤ ta9.1
        · replace h := ite_t h ha10
          replace h := Option.some.inj h
          subst h
          exact ⟨⟨100, 8, [.br true, .el (enc_Ai3Z ta2), .ret (I ta3), .el (enc_Ai3Z ta2), .ret (I ta4), .ret (I ta5), .br false, .br true, .el (enc_Ai3Z ta2), .el (enc_Ai3Z ta9), .br true], [], [2], [], round_fr (allC (decide_eq_true ha10) (allC (el_ok un_Ai3Z_ok ha9).1 (allC (el_ok un_Ai3Z_ok ha9).2 (allC ha8 (allC (el_ok un_Ai3Z_ok ha2).1 (allC (el_ok un_Ai3Z_ok ha2).2 (allC (decide_eq_true ha7) (allC (nef ha6) (allC (((c_ref01_First ha5).le (.cons (.full _ _ _) (.nil)) (.refl _)) : Computes cx 43 [.lst true 1 [I ta3, I ta4]] (I ta5)) (allC (c_ref03_CheckInterval ha4) (allC (el_ok un_Ai3Z_ok ha2).1 (allC (el_ok un_Ai3Z_ok ha2).2 (allC (c_ref01_CheckRange ha3) (allC (el_ok un_Ai3Z_ok ha2).1 (allC (el_ok un_Ai3Z_ok ha2).2 (allC (decide_eq_true ha1) allN)))))))))))))))) (by kernel_rfl)⟩, nofun⟩
        · replace h := ite_f h ha10
          obtain ⟨ha11, h⟩ := grd_of h
          replace h := Option.some.inj h
          subst h
          exact ⟨100, 8, [.br true, .el (enc_Ai3Z ta2), .ret (I ta3), .el (enc_Ai3Z ta2), .ret (I ta4), .ret (I ta5), .br false, .br true, .el (enc_Ai3Z ta2), .el (enc_Ai3Z ta9), .br false], [], [0, 3], [], round_fr (allC ha11 (allC (decide_eq_false ha10) (allC (el_ok un_Ai3Z_ok ha9).1 (allC (el_ok un_Ai3Z_ok ha9).2 (allC ha8 (allC (el_ok un_Ai3Z_ok ha2).1 (allC (el_ok un_Ai3Z_ok ha2).2 (allC (decide_eq_true ha7) (allC (nef ha6) (allC (((c_ref01_First ha5).le (.cons (.full _ _ _) (.nil)) (.refl _)) : Computes cx 43 [.lst true 1 [I ta3, I ta4]] (I ta5)) (allC (c_ref03_CheckInterval ha4) (allC (el_ok un_Ai3Z_ok ha2).1 (allC (el_ok un_Ai3Z_ok ha2).2 (allC (c_ref01_CheckRange ha3) (allC (el_ok un_Ai3Z_ok ha2).1 (allC (el_ok un_Ai3Z_ok ha2).2 (allC (decide_eq_true ha1) allN))))))))))))))))) (by kernel_rfl)⟩
      · replace h := ite_f h ha7
        obtain ⟨ha8, h⟩ := grd_of h
        replace h := Option.some.inj h
        subst h
        exact ⟨100, 8, [.br true, .el (enc_Ai3Z ta2), .ret (I ta3), .el (enc_Ai3Z ta2), .ret (I ta4), .ret (I ta5), .br false, .br false, .no], [], [0, 3], [], round_fr (allC ha8 (allC (decide_eq_false ha7) (allC (nef ha6) (allC (((c_ref01_First ha5).le (.cons (.full _ _ _) (.nil)) (.refl _)) : Computes cx 43 [.lst true 1 [I ta3, I ta4]] (I ta5)) (allC (c_ref03_CheckInterval ha4) (allC (el_ok un_Ai3Z_ok ha2).1 (allC (el_ok un_Ai3Z_ok ha2).2 (allC (c_ref01_CheckRange ha3) (allC (el_ok un_Ai3Z_ok ha2).1 (allC (el_ok un_Ai3Z_ok ha2).2 (allC (decide_eq_true ha1) allN))))))))))) (by kernel_rfl)⟩
    · replace h := ite_f h ha6
      replace h := Option.some.inj h
      subst h
      exact ⟨⟨100, 8, [.br true, .el (enc_Ai3Z ta2), .ret (I ta3), .el (enc_Ai3Z ta2), .ret (I ta4), .ret (I ta5), .br true], [], [2], [], round_fr (allC (net ha6) (allC (((c_ref01_First ha5).le (.cons (.full _ _ _) (.nil)) (.refl _)) : Computes cx 43 [.lst true 1 [I ta3, I ta4]] (I ta5)) (allC (c_ref03_CheckInterval ha4) (allC (el_ok un_Ai3Z_ok ha2).1 (allC (el_ok un_Ai3Z_ok ha2).2 (allC (c_ref01_CheckRange ha3) (allC (el_ok un_Ai3Z_ok ha2).1 (allC (el_ok un_Ai3Z_ok ha2).2 (allC (decide_eq_true ha1) allN))))))))) (by kernel_rfl)⟩, nofun⟩
  · replace h := ite_f h ha1
    replace h := Option.some.inj h
    subst h
    exact ⟨⟨100, 8, [.br false], [], [], [], round_fr (allC (decide_eq_false ha1) allN) (by kernel_rfl)⟩, nofun⟩
/- spillage/spillageref03.CheckModel: .lst false 3 a0 -/
def F_ref03_CheckModel (n : Nat) (a0 : List D) : Option (Int) :=
  if ((a0).length : Int) = 0 then
    some 12
  else
  if ((a0).length : Int) > 64 then
    some 5
  else
  (loopF (F_ref03_CheckModel_L1 n a0) n 0).bind fun t3 => match t3 with
    | (.inl t3) => (
      some t3)
    | (.inr t3) => (
      some 0)
theorem c_ref03_CheckModel {n : Nat} {a0 : List D} {r : Int} (h : F_ref03_CheckModel n a0 = some r) : Computes cx 10 [.lst false 3 a0] (I r) := by
  unfold F_ref03_CheckModel at h
  by_cases h1 : ((a0).length : Int) = 0
  · replace h := ite_t h h1
    replace h := Option.some.inj h
    subst h
    exact run_fr (n := 100) (orc := [.br true]) (allC (eqt h1) allN) (by kernel_rfl)
  · replace h := ite_f h h1
    by_cases h2 : ((a0).length : Int) > 64
    · replace h := ite_t h h2
      replace h := Option.some.inj h
      subst h
      exact run_fr (n := 100) (orc := [.br false, .br true]) (allC (decide_eq_true h2) (allC (eqf h1) allN)) (by kernel_rfl)
    · replace h := ite_f h h2
      obtain ⟨t3, h3, h⟩ := bnd_of h
      rcases t3 with t3 | t3
      · replace h := Option.some.inj h
        subst h
        exact run_fr (n := 100) (orc := [.br false, .br false, .lp [] [0, 3] [] .ret [(2, .d (I t3))] [] 59]) (allC (loopF_to R_ref03_CheckModel_L1 h3) (allC (decide_eq_false h2) (allC (eqf h1) allN))) (by kernel_rfl)
      · replace h := Option.some.inj h
        subst h
        exact run_fr (n := 100) (orc := [.br false, .br false, .lp [] [0, 3] [] (.exit 0) [] [] 59]) (allC (loopF_to R_ref03_CheckModel_L1 h3) (allC (decide_eq_false h2) (allC (eqf h1) allN))) (by kernel_rfl)
def F_ref01_Split_L1 (n : Nat) (a0 : ByteArray) (a1 : Int) (sa : (Int × Int × List D)) : Option (((Int × Int × List D)) ⊕ ((Int × List D))) :=
  if sa.2.1 < (a0.size : Int) then
    (strAt a0 sa.2.1).bind fun ta2 =>
    if ta2 = a1 then
      (strSub a0 (some sa.1) (some sa.2.1)).bind fun ta4 =>
      if roomP 16 ((sa.2.2).length + 1) then
      if inI64 (sa.2.1 + 1) then
      some (.inl ((sa.2.1 + 1), (sa.2.1 + 1), (sa.2.2 ++ ([.v (.string ta4)] : List D))))
      else none
      else none
    else
    if inI64 (sa.2.1 + 1) then
    some (.inl (sa.1, (sa.2.1 + 1), sa.2.2))
    else none
  else
  some (.inr (sa.1, sa.2.2))
noncomputable def T_ref01_Split_L1 (a0 : ByteArray) (a1 : Int) (sa : (Int × Int × List D)) : List (Nat × AV) := [(0, .d (.v (.string a0))), (1, .d (.v (.int .u8 a1))), (5, .own 4 0), (6, .d (I sa.1)), (7, .d (I sa.2.1))]
noncomputable def H_ref01_Split_L1 (a0 : ByteArray) (a1 : Int) (sa : (Int × Int × List D)) : List (Nat × Blk) := [(4, .row 0 1 sa.2.2)]
noncomputable def X_ref01_Split_L1 (a0 : ByteArray) (a1 : Int) (e : (Int × List D)) : Ex := (.exit 0)
noncomputable def XT_ref01_Split_L1 (a0 : ByteArray) (a1 : Int) (e : (Int × List D)) : List (Nat × AV) := [(0, .d (.v (.string a0))), (5, .own 4 0), (6, .d (I e.1))]
noncomputable def XH_ref01_Split_L1 (a0 : ByteArray) (a1 : Int) (e : (Int × List D)) : List (Nat × Blk) := [(4, .row 0 1 e.2)]
theorem R_ref01_Split_L1 {n : Nat} {a0 : ByteArray} {a1 : Int} (sa : (Int × Int × List D)) (r) (h : F_ref01_Split_L1 n a0 a1 sa = some r) : Rd cx (loopAt cx.P 15 0) 34 0 false (T_ref01_Split_L1 a0 a1) (H_ref01_Split_L1 a0 a1) (X_ref01_Split_L1 a0 a1) (XT_ref01_Split_L1 a0 a1) (XH_ref01_Split_L1 a0 a1) sa r := by
  unfold F_ref01_Split_L1 at h
  by_cases ha1 : sa.2.1 < (a0.size : Int)
  · replace h := ite_t h ha1
    obtain ⟨ta2, ha2, h⟩ := bnd_of h
    by_cases ha3 : ta2 = a1
    · replace h := ite_t h ha3
      obtain ⟨ta4, ha4, h⟩ := bnd_of h
      obtain ⟨ha5, h⟩ := grd_of h
      obtain ⟨ha6, h⟩ := grd_of h
      replace h := Option.some.inj h
      subst h
      exact ⟨100, 5, [.br true, .el (.v (.int .u8 ta2)), .br true, .el (.v (.string ta4)), .br true], [], [0, 1, 5, 6, 7], [4], round_fr (allC ha6 (allC ha6 (allC ((room_of (b := 16) (by kernel_rfl) (by decide) ha5) : room cx 9 ((sa.2.2).length + 1)) (allC (strSub_ok ha4 : pureRun cx.P (Instr.sliceAt 9 (.string a0) (some (.int .i64 sa.1)) (some (.int .i64 sa.2.1)) none) = some (.string ta4)) (allC (eqt ha3) (allC (strAt_ok ha2 : pureRun cx.P (Instr.index 9 (.string a0) (.int .i64 sa.2.1)) = some (.int .u8 ta2)) (allC (decide_eq_true ha1) allN))))))) (by kernel_rfl)⟩
    · replace h := ite_f h ha3
      obtain ⟨ha4, h⟩ := grd_of h
      replace h := Option.some.inj h
      subst h
      exact ⟨100, 5, [.br true, .el (.v (.int .u8 ta2)), .br false], [], [0, 1, 5, 6, 7], [4], round_fr (allC ha4 (allC (eqf ha3) (allC (strAt_ok ha2 : pureRun cx.P (Instr.index 9 (.string a0) (.int .i64 sa.2.1)) = some (.int .u8 ta2)) (allC (decide_eq_true ha1) allN)))) (by kernel_rfl)⟩
  · replace h := ite_f h ha1
    replace h := Option.some.inj h
    subst h
    exact ⟨⟨100, 5, [.br false], [], [0, 5, 6], [4], round_fr (allC (decide_eq_false ha1) allN) (by kernel_rfl)⟩, nofun⟩
/- spillage/spillageref01.Split: .v (.string a0), .v (.int .u8 a1) -/
def F_ref01_Split (n : Nat) (a0 : ByteArray) (a1 : Int) : Option (List D) :=
  (loopF (F_ref01_Split_L1 n a0 a1) n (0, 0, [])).bind fun t1 =>
  (strSub a0 (some t1.1) none).bind fun t2 =>
  if roomP 16 ((t1.2).length + 1) then
  some (t1.2 ++ ([.v (.string t2)] : List D))
  else none
theorem c_ref01_Split {n : Nat} {a0 : ByteArray} {a1 : Int} {r : List D} (h : F_ref01_Split n a0 a1 = some r) : Computes cx 15 [.v (.string a0), .v (.int .u8 a1)] (.lst false 1 r) := by
  unfold F_ref01_Split at h
  obtain ⟨t1, h1, h⟩ := bnd_of h
  obtain ⟨t2, h2, h⟩ := bnd_of h
  obtain ⟨h3, h⟩ := grd_of h
  replace h := Option.some.inj h
  subst h
  exact run_fr (n := 100) (orc := [.lp [5, 1] [0, 1, 5, 6, 7] [4] (.exit 0) [(0, .d (.v (.string a0))), (5, .own 4 0), (6, .d (I t1.1))] [(4, .row 0 1 t1.2)] 39, .el (.v (.string t2)), .br true]) (allC ((room_of (b := 16) (by kernel_rfl) (by decide) h3) : room cx 9 ((t1.2).length + 1)) (allC (strSub_ok h2 : pureRun cx.P (Instr.sliceAt 9 (.string a0) (some (.int .i64 t1.1)) none none) = some (.string t2)) (allC (loopF_to R_ref01_Split_L1 h1) allN))) (by kernel_rfl)
end Go.Proofs.YtoblljobcafecaaGreatDoor
