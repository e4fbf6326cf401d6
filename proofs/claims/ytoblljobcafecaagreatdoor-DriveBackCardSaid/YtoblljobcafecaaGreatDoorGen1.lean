/-
  Printed by gsx.py: functions of the program as Lean functions, and that the code computes them.
-/
import Derived.Test.YtoblljobcafecaaGreatDoorShelf2
set_option linter.unusedVariables false
set_option linter.unusedSimpArgs false
set_option linter.unnecessarySimpa false
set_option maxRecDepth 10000
set_option maxHeartbeats 4000000
namespace Go.Proofs.YtoblljobcafecaaGreatDoor
open Go.SX
/- spillage/spillagelaw03.axis:  -/
def F_law03_axis (n : Nat)  : Option (Int × Int × Int) :=
  some ((-20), 20, 3)
theorem c_law03_axis {n : Nat}  {r : Int × Int × Int} (h : F_law03_axis n  = some r) : Computes cx 17 [] (.agg [I r.1, I r.2.1, I r.2.2]) := by
  unfold F_law03_axis at h
  replace h := Option.some.inj h
  subst h
  exact run_fr (n := 100) (orc := []) allN (by kernel_rfl)
/- spillage/drive.when: B true, I 3 -/
def F_drive_when (n : Nat)  : Option (Int) :=
  some 3
theorem c_drive_when {n : Nat}  {r : Int} (h : F_drive_when n  = some r) : Computes cx 50 [B true, I 3] (I r) := by
  unfold F_drive_when at h
  replace h := Option.some.inj h
  subst h
  exact run_fr (n := 100) (orc := [.no]) allN (by kernel_rfl)
/- spillage/drive.when: B a0, I a1 -/
def F_drive_when_2 (n : Nat) (a0 : Bool) (a1 : Int) : Option (Int) :=
  if a0 = true then
    some a1
  else
  some 0
theorem c_drive_when_2 {n : Nat} {a0 : Bool} {a1 : Int} {r : Int} (h : F_drive_when_2 n a0 a1 = some r) : Computes cx 50 [B a0, I a1] (I r) := by
  unfold F_drive_when_2 at h
  by_cases h1 : a0 = true
  · replace h := ite_t h h1
    replace h := Option.some.inj h
    subst h
    exact run_fr (n := 100) (orc := [.br true]) (allC h1 allN) (by kernel_rfl)
  · replace h := ite_f h h1
    replace h := Option.some.inj h
    subst h
    exact run_fr (n := 100) (orc := [.br false]) (allC (bfalse h1) allN) (by kernel_rfl)
/- spillage/drive.within: I a0, I a1, I a2 -/
def F_drive_within (n : Nat) (a0 : Int) (a1 : Int) (a2 : Int) : Option (Int) :=
  if a0 < a1 then
    (F_drive_when n).bind fun t2 =>
    some t2
  else
  (F_drive_when_2 n (decide (a0 > a2)) 3).bind fun t2 =>
  some t2
theorem c_drive_within {n : Nat} {a0 : Int} {a1 : Int} {a2 : Int} {r : Int} (h : F_drive_within n a0 a1 a2 = some r) : Computes cx 59 [I a0, I a1, I a2] (I r) := by
  unfold F_drive_within at h
  by_cases h1 : a0 < a1
  · replace h := ite_t h h1
    obtain ⟨t2, h2, h⟩ := bnd_of h
    replace h := Option.some.inj h
    subst h
    exact run_fr (n := 100) (orc := [.br true, .ret (I t2)]) (allC (c_drive_when h2) (allC (decide_eq_true h1) allN)) (by kernel_rfl)
  · replace h := ite_f h h1
    obtain ⟨t2, h2, h⟩ := bnd_of h
    replace h := Option.some.inj h
    subst h
    exact run_fr (n := 100) (orc := [.br false, .ret (I t2)]) (allC (c_drive_when_2 h2) (allC (decide_eq_false h1) allN)) (by kernel_rfl)
def enc_i (x : Int) : D := I x
def un_i (d : D) : Option (Int) := un_int .i64 d
theorem un_i_ok {d : D} {x : Int} (h : un_i d = some x) : d = enc_i x := un_int_ok h
def F_drive_first_L1 (n : Nat) (a0 : List D) (sa : (Int)) : Option (((Int)) ⊕ ((Int) ⊕ (Unit))) :=
  if sa < ((a0).length : Int) then
    (el un_i a0 sa).bind fun ta2 =>
    if ta2 = 0 then
      if inI64 (sa + 1) then
      some (.inl (sa + 1))
      else none
    else
    some (.inr (.inl ta2))
  else
  some (.inr (.inr ()))
noncomputable def T_drive_first_L1 (a0 : List D) (sa : (Int)) : List (Nat × AV) := [(5, .d (.lst false 1 a0)), (6, .d (I ((a0).length : Int))), (7, .d (I sa))]
noncomputable def H_drive_first_L1 (a0 : List D) (sa : (Int)) : List (Nat × Blk) := []
noncomputable def X_drive_first_L1 (a0 : List D) (e : (Int) ⊕ (Unit)) : Ex := match e with
  | (.inl e) => .ret
  | (.inr e) => (.exit 0)
noncomputable def XT_drive_first_L1 (a0 : List D) (e : (Int) ⊕ (Unit)) : List (Nat × AV) := match e with
  | (.inl e) => [(2, .d (I e))]
  | (.inr e) => []
noncomputable def XH_drive_first_L1 (a0 : List D) (e : (Int) ⊕ (Unit)) : List (Nat × Blk) := match e with
  | (.inl e) => []
  | (.inr e) => []
theorem R_drive_first_L1 {n : Nat} {a0 : List D} (sa : (Int)) (r) (h : F_drive_first_L1 n a0 sa = some r) : Rd cx (loopAt cx.P 48 0) 15 0 false (T_drive_first_L1 a0) (H_drive_first_L1 a0) (X_drive_first_L1 a0) (XT_drive_first_L1 a0) (XH_drive_first_L1 a0) sa r := by
  unfold F_drive_first_L1 at h
  by_cases ha1 : sa < ((a0).length : Int)
  · replace h := ite_t h ha1
    obtain ⟨ta2, ha2, h⟩ := bnd_of h
    by_cases ha3 : ta2 = 0
    · replace h := ite_t h ha3
      obtain ⟨ha4, h⟩ := grd_of h
      replace h := Option.some.inj h
      subst h
      exact ⟨100, 4, [.br true, .el (enc_i ta2), .br false], [], [5, 6, 7], [], round_fr (allC ha4 (allC (nef ha3) (allC (el_ok un_i_ok ha2).1 (allC (el_ok un_i_ok ha2).2 (allC (decide_eq_true ha1) allN))))) (by kernel_rfl)⟩
    · replace h := ite_f h ha3
      replace h := Option.some.inj h
      subst h
      exact ⟨⟨100, 4, [.br true, .el (enc_i ta2), .br true], [], [2], [], round_fr (allC (net ha3) (allC (el_ok un_i_ok ha2).1 (allC (el_ok un_i_ok ha2).2 (allC (decide_eq_true ha1) allN)))) (by kernel_rfl)⟩, nofun⟩
  · replace h := ite_f h ha1
    replace h := Option.some.inj h
    subst h
    exact ⟨⟨100, 4, [.br false], [], [], [], round_fr (allC (decide_eq_false ha1) allN) (by kernel_rfl)⟩, nofun⟩
/- spillage/drive.first: .lst false 1 a0 -/
def F_drive_first (n : Nat) (a0 : List D) : Option (Int) :=
  (loopF (F_drive_first_L1 n a0) n 0).bind fun t1 => match t1 with
    | (.inl t1) => (
      some t1)
    | (.inr t1) => (
      some 0)
theorem c_drive_first {n : Nat} {a0 : List D} {r : Int} (h : F_drive_first n a0 = some r) : Computes cx 48 [.lst false 1 a0] (I r) := by
  unfold F_drive_first at h
  obtain ⟨t1, h1, h⟩ := bnd_of h
  rcases t1 with t1 | t1
  · replace h := Option.some.inj h
    subst h
    exact run_fr (n := 100) (orc := [.lp [] [5, 6, 7] [] .ret [(2, .d (I t1))] [] 23]) (allC (loopF_to R_drive_first_L1 h1) allN) (by kernel_rfl)
  · replace h := Option.some.inj h
    subst h
    exact run_fr (n := 100) (orc := [.lp [] [5, 6, 7] [] (.exit 0) [] [] 23]) (allC (loopF_to R_drive_first_L1 h1) allN) (by kernel_rfl)
/- spillage/drive.checkEnds: .agg [I a0, I a1], I a2 -/
def F_drive_checkEnds (n : Nat) (a0 : Int) (a1 : Int) (a2 : Int) : Option (Int) :=
  (F_drive_within n a0 (IntKind.wrap .i64 (0 - a2)) a2).bind fun t1 =>
  (F_drive_within n a1 (IntKind.wrap .i64 (0 - a2)) a2).bind fun t2 =>
  (F_drive_when_2 n (decide (a0 > a1)) 11).bind fun t3 =>
  (F_drive_first n ([I t1, I t2, I t3])).bind fun t4 =>
  some t4
theorem c_drive_checkEnds {n : Nat} {a0 : Int} {a1 : Int} {a2 : Int} {r : Int} (h : F_drive_checkEnds n a0 a1 a2 = some r) : Computes cx 53 [.agg [I a0, I a1], I a2] (I r) := by
  unfold F_drive_checkEnds at h
  obtain ⟨t1, h1, h⟩ := bnd_of h
  obtain ⟨t2, h2, h⟩ := bnd_of h
  obtain ⟨t3, h3, h⟩ := bnd_of h
  obtain ⟨t4, h4, h⟩ := bnd_of h
  replace h := Option.some.inj h
  subst h
  exact run_fr (n := 100) (orc := [.ret (I t1), .ret (I t2), .ret (I t3), .ret (I t4)]) (allC (((c_drive_first h4).le (.cons (.full _ _ _) (.nil)) (.refl _)) : Computes cx 48 [.lst true 1 [I t1, I t2, I t3]] (I t4)) (allC (c_drive_when_2 h3) (allC (c_drive_within h2) (allC (c_drive_within h1) allN)))) (by kernel_rfl)
/- spillage/drive.CheckAxis: .agg [I a0, I a1, I a2] -/
def F_drive_CheckAxis (n : Nat) (a0 : Int) (a1 : Int) (a2 : Int) : Option (Int) :=
  (F_drive_checkEnds n a0 a1 1000).bind fun t1 =>
  (F_drive_within n a2 0 50).bind fun t2 =>
  (F_drive_first n ([I t1, I t2])).bind fun t3 =>
  some t3
theorem c_drive_CheckAxis {n : Nat} {a0 : Int} {a1 : Int} {a2 : Int} {r : Int} (h : F_drive_CheckAxis n a0 a1 a2 = some r) : Computes cx 106 [.agg [I a0, I a1, I a2]] (I r) := by
  unfold F_drive_CheckAxis at h
  obtain ⟨t1, h1, h⟩ := bnd_of h
  obtain ⟨t2, h2, h⟩ := bnd_of h
  obtain ⟨t3, h3, h⟩ := bnd_of h
  replace h := Option.some.inj h
  subst h
  exact run_fr (n := 100) (orc := [.ret (I t1), .ret (I t2), .ret (I t3)]) (allC (((c_drive_first h3).le (.cons (.full _ _ _) (.nil)) (.refl _)) : Computes cx 48 [.lst true 1 [I t1, I t2]] (I t3)) (allC (c_drive_within h2) (allC (c_drive_checkEnds h1) allN))) (by kernel_rfl)
/- spillage/drive.when: B true, I 24 -/
def F_drive_when_3 (n : Nat)  : Option (Int) :=
  some 24
theorem c_drive_when_3 {n : Nat}  {r : Int} (h : F_drive_when_3 n  = some r) : Computes cx 50 [B true, I 24] (I r) := by
  unfold F_drive_when_3 at h
  replace h := Option.some.inj h
  subst h
  exact run_fr (n := 100) (orc := [.no]) allN (by kernel_rfl)
/- (spillage/drive.posed).check: .agg [I a0, I a1, I a2, I a3, I a4, I a5] -/
def F_drive_posed_check (n : Nat) (a0 : Int) (a1 : Int) (a2 : Int) (a3 : Int) (a4 : Int) (a5 : Int) : Option (Int) :=
  (F_drive_CheckAxis n a0 a1 a2).bind fun t1 =>
  (F_drive_within n a3 a0 a1).bind fun t2 =>
  (F_drive_first n ([I t1, I t2])).bind fun t3 =>
  if t3 = 0 then
    (F_drive_when_2 n (decide (a4 > a5)) 11).bind fun t5 =>
    if inI64 (a3 - a2) then
    if a4 < (a3 - a2) then
      (F_drive_when_3 n).bind fun t8 =>
      (F_drive_first n ([I t5, I t8])).bind fun t9 =>
      some t9
    else
    (F_drive_when_2 n (decide (a5 > a3)) 24).bind fun t8 =>
    (F_drive_first n ([I t5, I t8])).bind fun t9 =>
    some t9
    else none
  else
  some t3
theorem c_drive_posed_check {n : Nat} {a0 : Int} {a1 : Int} {a2 : Int} {a3 : Int} {a4 : Int} {a5 : Int} {r : Int} (h : F_drive_posed_check n a0 a1 a2 a3 a4 a5 = some r) : Computes cx 82 [.agg [I a0, I a1, I a2, I a3, I a4, I a5]] (I r) := by
  unfold F_drive_posed_check at h
  obtain ⟨t1, h1, h⟩ := bnd_of h
  obtain ⟨t2, h2, h⟩ := bnd_of h
  obtain ⟨t3, h3, h⟩ := bnd_of h
  by_cases h4 : t3 = 0
  · replace h := ite_t h h4
    obtain ⟨t5, h5, h⟩ := bnd_of h
    obtain ⟨h6, h⟩ := grd_of h
    by_cases h7 : a4 < (a3 - a2)
    · replace h := ite_t h h7
      obtain ⟨t8, h8, h⟩ := bnd_of h
      obtain ⟨t9, h9, h⟩ := bnd_of h
      replace h := Option.some.inj h
      subst h
      exact run_fr (n := 100) (orc := [.ret (I t1), .ret (I t2), .ret (I t3), .br false, .ret (I t5), .br true, .ret (I t8), .ret (I t9)]) (allC (((c_drive_first h9).le (.cons (.full _ _ _) (.nil)) (.refl _)) : Computes cx 48 [.lst true 1 [I t5, I t8]] (I t9)) (allC (c_drive_when_3 h8) (allC (decide_eq_true h7) (allC h6 (allC (c_drive_when_2 h5) (allC (nef h4) (allC (((c_drive_first h3).le (.cons (.full _ _ _) (.nil)) (.refl _)) : Computes cx 48 [.lst true 1 [I t1, I t2]] (I t3)) (allC (c_drive_within h2) (allC (c_drive_CheckAxis h1) allN))))))))) (by kernel_rfl)
    · replace h := ite_f h h7
      obtain ⟨t8, h8, h⟩ := bnd_of h
      obtain ⟨t9, h9, h⟩ := bnd_of h
      replace h := Option.some.inj h
      subst h
      exact run_fr (n := 100) (orc := [.ret (I t1), .ret (I t2), .ret (I t3), .br false, .ret (I t5), .br false, .ret (I t8), .ret (I t9)]) (allC (((c_drive_first h9).le (.cons (.full _ _ _) (.nil)) (.refl _)) : Computes cx 48 [.lst true 1 [I t5, I t8]] (I t9)) (allC (c_drive_when_2 h8) (allC (decide_eq_false h7) (allC h6 (allC (c_drive_when_2 h5) (allC (nef h4) (allC (((c_drive_first h3).le (.cons (.full _ _ _) (.nil)) (.refl _)) : Computes cx 48 [.lst true 1 [I t1, I t2]] (I t3)) (allC (c_drive_within h2) (allC (c_drive_CheckAxis h1) allN))))))))) (by kernel_rfl)
  · replace h := ite_f h h4
    replace h := Option.some.inj h
    subst h
    exact run_fr (n := 100) (orc := [.ret (I t1), .ret (I t2), .ret (I t3), .br true]) (allC (net h4) (allC (((c_drive_first h3).le (.cons (.full _ _ _) (.nil)) (.refl _)) : Computes cx 48 [.lst true 1 [I t1, I t2]] (I t3)) (allC (c_drive_within h2) (allC (c_drive_CheckAxis h1) allN)))) (by kernel_rfl)
/- spillage/drive.CheckState: .agg [I a0, I a1, I a2], .agg [I a3, I a4, I a5] -/
def F_drive_CheckState (n : Nat) (a0 : Int) (a1 : Int) (a2 : Int) (a3 : Int) (a4 : Int) (a5 : Int) : Option (Int) :=
  (F_drive_posed_check n a0 a1 a2 a3 a4 a5).bind fun t1 =>
  some t1
theorem c_drive_CheckState {n : Nat} {a0 : Int} {a1 : Int} {a2 : Int} {a3 : Int} {a4 : Int} {a5 : Int} {r : Int} (h : F_drive_CheckState n a0 a1 a2 a3 a4 a5 = some r) : Computes cx 49 [.agg [I a0, I a1, I a2], .agg [I a3, I a4, I a5]] (I r) := by
  unfold F_drive_CheckState at h
  obtain ⟨t1, h1, h⟩ := bnd_of h
  replace h := Option.some.inj h
  subst h
  exact run_fr (n := 100) (orc := [.ret (I t1)]) (allC (c_drive_posed_check h1) allN) (by kernel_rfl)
/- (spillage/drive.posed).at: .agg [I a0, I a1, I a2, I a3, I a4, I a5], I a6 -/
def F_drive_posed_at (n : Nat) (a0 : Int) (a1 : Int) (a2 : Int) (a3 : Int) (a4 : Int) (a5 : Int) (a6 : Int) : Option (Int × Int × Int × Int × Int × Int) :=
  if inI64 (a6 - a2) then
  some (a0, a1, a2, a6, (minI a6 (maxI (a6 - a2) a4)), (minI a6 (maxI (a6 - a2) a5)))
  else none
theorem c_drive_posed_at {n : Nat} {a0 : Int} {a1 : Int} {a2 : Int} {a3 : Int} {a4 : Int} {a5 : Int} {a6 : Int} {r : Int × Int × Int × Int × Int × Int} (h : F_drive_posed_at n a0 a1 a2 a3 a4 a5 a6 = some r) : Computes cx 51 [.agg [I a0, I a1, I a2, I a3, I a4, I a5], I a6] (.agg [I r.1, I r.2.1, I r.2.2.1, I r.2.2.2.1, I r.2.2.2.2.1, I r.2.2.2.2.2]) := by
  unfold F_drive_posed_at at h
  obtain ⟨h1, h⟩ := grd_of h
  replace h := Option.some.inj h
  subst h
  exact run_fr (n := 100) (orc := [.no, .no]) (allC h1 (allC h1 allN)) (by kernel_rfl)
def F_drive_Moved_L1 (n : Nat) (a6 : List D) (sa : (Int × Int × Int × Int × Int × Int × Int)) : Option (((Int × Int × Int × Int × Int × Int × Int)) ⊕ ((Unit) ⊕ (Int × Int × Int × Int × Int × Int))) :=
  if sa.1 < ((a6).length : Int) then
    (el un_i a6 sa.1).bind fun ta2 =>
    if inI64 (sa.2.1 - sa.2.2.2.2.1) then
    if ta2 < (sa.2.1 - sa.2.2.2.2.1) then
      some (.inr (.inl ()))
    else
    if inI64 (sa.2.2.1 - sa.2.2.2.2.1) then
    if ta2 > (sa.2.2.1 - sa.2.2.2.2.1) then
      some (.inr (.inl ()))
    else
    if inI64 (sa.2.2.2.2.1 + ta2) then
    (F_drive_posed_at n sa.2.1 sa.2.2.1 sa.2.2.2.1 sa.2.2.2.2.1 sa.2.2.2.2.2.1 sa.2.2.2.2.2.2 (sa.2.2.2.2.1 + ta2)).bind fun ta8 =>
    if inI64 (sa.1 + 1) then
    some (.inl ((sa.1 + 1), ta8.1, ta8.2.1, ta8.2.2.1, ta8.2.2.2.1, ta8.2.2.2.2.1, ta8.2.2.2.2.2))
    else none
    else none
    else none
    else none
  else
  some (.inr (.inr (sa.2.1, sa.2.2.1, sa.2.2.2.1, sa.2.2.2.2.1, sa.2.2.2.2.2.1, sa.2.2.2.2.2.2)))
noncomputable def T_drive_Moved_L1 (a6 : List D) (sa : (Int × Int × Int × Int × Int × Int × Int)) : List (Nat × AV) := [(6, .ptr 2 0 0 0 0), (9, .ptr 19 0 0 0 0), (28, .d (.lst false 1 a6)), (29, .d (I ((a6).length : Int))), (30, .d (I sa.1))]
noncomputable def H_drive_Moved_L1 (a6 : List D) (sa : (Int × Int × Int × Int × Int × Int × Int)) : List (Nat × Blk) := [(2, .box (.d (.agg [I 0, I 0, I 0]))), (19, .box (.d (.agg [I sa.2.1, I sa.2.2.1, I sa.2.2.2.1, I sa.2.2.2.2.1, I sa.2.2.2.2.2.1, I sa.2.2.2.2.2.2])))]
noncomputable def X_drive_Moved_L1 (a6 : List D) (e : (Unit) ⊕ (Int × Int × Int × Int × Int × Int)) : Ex := match e with
  | (.inl e) => .ret
  | (.inr e) => (.exit 0)
noncomputable def XT_drive_Moved_L1 (a6 : List D) (e : (Unit) ⊕ (Int × Int × Int × Int × Int × Int)) : List (Nat × AV) := match e with
  | (.inl e) => [(6, .ptr 2 0 0 0 0), (7, .d (I 20))]
  | (.inr e) => [(6, .ptr 2 0 0 0 0), (9, .ptr 19 0 0 0 0)]
noncomputable def XH_drive_Moved_L1 (a6 : List D) (e : (Unit) ⊕ (Int × Int × Int × Int × Int × Int)) : List (Nat × Blk) := match e with
  | (.inl e) => [(2, .box (.d (.agg [I 0, I 0, I 0])))]
  | (.inr e) => [(2, .box (.d (.agg [I 0, I 0, I 0]))), (19, .box (.d (.agg [I e.1, I e.2.1, I e.2.2.1, I e.2.2.2.1, I e.2.2.2.2.1, I e.2.2.2.2.2])))]
theorem R_drive_Moved_L1 {n : Nat} {a6 : List D} (sa : (Int × Int × Int × Int × Int × Int × Int)) (r) (h : F_drive_Moved_L1 n a6 sa = some r) : Rd cx (loopAt cx.P 16 0) 65 0 false (T_drive_Moved_L1 a6) (H_drive_Moved_L1 a6) (X_drive_Moved_L1 a6) (XT_drive_Moved_L1 a6) (XH_drive_Moved_L1 a6) sa r := by
  unfold F_drive_Moved_L1 at h
  by_cases ha1 : sa.1 < ((a6).length : Int)
  · replace h := ite_t h ha1
    obtain ⟨ta2, ha2, h⟩ := bnd_of h
    obtain ⟨ha3, h⟩ := grd_of h
    by_cases ha4 : ta2 < (sa.2.1 - sa.2.2.2.2.1)
    · replace h := ite_t h ha4
      replace h := Option.some.inj h
      subst h
      exact ⟨⟨100, 24, [.br true, .el (enc_i ta2), .br true, .no], [], [6, 7], [2], round_fr (allC (decide_eq_true ha4) (allC ha3 (allC (el_ok un_i_ok ha2).1 (allC (el_ok un_i_ok ha2).2 (allC (decide_eq_true ha1) allN))))) (by kernel_rfl)⟩, nofun⟩
    · replace h := ite_f h ha4
      obtain ⟨ha5, h⟩ := grd_of h
      by_cases ha6 : ta2 > (sa.2.2.1 - sa.2.2.2.2.1)
      · replace h := ite_t h ha6
        replace h := Option.some.inj h
        subst h
        exact ⟨⟨100, 24, [.br true, .el (enc_i ta2), .br false, .br true], [], [6, 7], [2], round_fr (allC (decide_eq_true ha6) (allC ha5 (allC (decide_eq_false ha4) (allC ha3 (allC (el_ok un_i_ok ha2).1 (allC (el_ok un_i_ok ha2).2 (allC (decide_eq_true ha1) allN))))))) (by kernel_rfl)⟩, nofun⟩
      · replace h := ite_f h ha6
        obtain ⟨ha7, h⟩ := grd_of h
        obtain ⟨ta8, ha8, h⟩ := bnd_of h
        obtain ⟨ha9, h⟩ := grd_of h
        replace h := Option.some.inj h
        subst h
        exact ⟨100, 24, [.br true, .el (enc_i ta2), .br false, .br false, .ret (.agg [I ta8.1, I ta8.2.1, I ta8.2.2.1, I ta8.2.2.2.1, I ta8.2.2.2.2.1, I ta8.2.2.2.2.2])], [], [6, 9, 28, 29, 30], [2, 19], round_fr (allC ha9 (allC (c_drive_posed_at ha8) (allC ha7 (allC (decide_eq_false ha6) (allC ha5 (allC (decide_eq_false ha4) (allC ha3 (allC (el_ok un_i_ok ha2).1 (allC (el_ok un_i_ok ha2).2 (allC (decide_eq_true ha1) allN)))))))))) (by kernel_rfl)⟩
  · replace h := ite_f h ha1
    replace h := Option.some.inj h
    subst h
    exact ⟨⟨100, 24, [.br false], [], [6, 9], [2, 19], round_fr (allC (decide_eq_false ha1) allN) (by kernel_rfl)⟩, nofun⟩
/- spillage/drive.Moved: .agg [I a0, I a1, I a2], .agg [I a3, I a4, I a5], .lst false 1 a6 -/
def F_drive_Moved (n : Nat) (a0 : Int) (a1 : Int) (a2 : Int) (a3 : Int) (a4 : Int) (a5 : Int) (a6 : List D) : Option (Int × Int × Int × Int) :=
  (F_drive_CheckState n a0 a1 a2 a3 a4 a5).bind fun t1 =>
  (F_drive_when_2 n (decide (((a6).length : Int) > 256)) 5).bind fun t2 =>
  (F_drive_first n ([I t1, I t2])).bind fun t3 =>
  if t3 = 0 then
    (loopF (F_drive_Moved_L1 n a6) n (0, a0, a1, a2, a3, a4, a5)).bind fun t5 => match t5 with
      | (.inl t5) => (
        some (0, 0, 0, 20))
      | (.inr t5) => (
        some (t5.2.2.2.1, t5.2.2.2.2.1, t5.2.2.2.2.2, 0))
  else
  some (0, 0, 0, t3)
theorem c_drive_Moved {n : Nat} {a0 : Int} {a1 : Int} {a2 : Int} {a3 : Int} {a4 : Int} {a5 : Int} {a6 : List D} {r : Int × Int × Int × Int} (h : F_drive_Moved n a0 a1 a2 a3 a4 a5 a6 = some r) : Computes cx 16 [.agg [I a0, I a1, I a2], .agg [I a3, I a4, I a5], .lst false 1 a6] (.tup [.agg [I r.1, I r.2.1, I r.2.2.1], I r.2.2.2]) := by
  unfold F_drive_Moved at h
  obtain ⟨t1, h1, h⟩ := bnd_of h
  obtain ⟨t2, h2, h⟩ := bnd_of h
  obtain ⟨t3, h3, h⟩ := bnd_of h
  by_cases h4 : t3 = 0
  · replace h := ite_t h h4
    obtain ⟨t5, h5, h⟩ := bnd_of h
    rcases t5 with t5 | t5
    · replace h := Option.some.inj h
      subst h
      exact run_fr (n := 100) (orc := [.ret (I t1), .ret (I t2), .ret (I t3), .br false, .lp [] [6, 9, 28, 29, 30] [2, 19] .ret [(6, .ptr 2 0 0 0 0), (7, .d (I 20))] [(2, .box (.d (.agg [I 0, I 0, I 0])))] 69]) (allC (loopF_to R_drive_Moved_L1 h5) (allC (nef h4) (allC (((c_drive_first h3).le (.cons (.full _ _ _) (.nil)) (.refl _)) : Computes cx 48 [.lst true 1 [I t1, I t2]] (I t3)) (allC (c_drive_when_2 h2) (allC (c_drive_CheckState h1) allN))))) (by kernel_rfl)
    · replace h := Option.some.inj h
      subst h
      exact run_fr (n := 100) (orc := [.ret (I t1), .ret (I t2), .ret (I t3), .br false, .lp [] [6, 9, 28, 29, 30] [2, 19] (.exit 0) [(6, .ptr 2 0 0 0 0), (9, .ptr 19 0 0 0 0)] [(2, .box (.d (.agg [I 0, I 0, I 0]))), (19, .box (.d (.agg [I t5.1, I t5.2.1, I t5.2.2.1, I t5.2.2.2.1, I t5.2.2.2.2.1, I t5.2.2.2.2.2])))] 69]) (allC (loopF_to R_drive_Moved_L1 h5) (allC (nef h4) (allC (((c_drive_first h3).le (.cons (.full _ _ _) (.nil)) (.refl _)) : Computes cx 48 [.lst true 1 [I t1, I t2]] (I t3)) (allC (c_drive_when_2 h2) (allC (c_drive_CheckState h1) allN))))) (by kernel_rfl)
  · replace h := ite_f h h4
    replace h := Option.some.inj h
    subst h
    exact run_fr (n := 100) (orc := [.ret (I t1), .ret (I t2), .ret (I t3), .br true]) (allC (net h4) (allC (((c_drive_first h3).le (.cons (.full _ _ _) (.nil)) (.refl _)) : Computes cx 48 [.lst true 1 [I t1, I t2]] (I t3)) (allC (c_drive_when_2 h2) (allC (c_drive_CheckState h1) allN)))) (by kernel_rfl)
/- spillage/drive.Referenced: .agg [I a0, I a1, I a2], .agg [I a3, I a4, I a5] -/
def F_drive_Referenced (n : Nat) (a0 : Int) (a1 : Int) (a2 : Int) (a3 : Int) (a4 : Int) (a5 : Int) : Option (Int × Int × Int × List D × Int) :=
  (F_drive_CheckState n a0 a1 a2 a3 a4 a5).bind fun t1 =>
  if t1 = 0 then
    if inI64 (a0 - a3) then
    (F_drive_Moved n a0 a1 a2 a3 a4 a5 ([I (a0 - a3), I a2])).bind fun t4 =>
    if t4.2.2.2 = 0 then
      some (t4.1, t4.2.1, t4.2.2.1, [I (a0 - a3), I a2], 0)
    else
    some (0, 0, 0, [], t4.2.2.2)
    else none
  else
  some (0, 0, 0, [], t1)
theorem c_drive_Referenced {n : Nat} {a0 : Int} {a1 : Int} {a2 : Int} {a3 : Int} {a4 : Int} {a5 : Int} {r : Int × Int × Int × List D × Int} (h : F_drive_Referenced n a0 a1 a2 a3 a4 a5 = some r) : Computes cx 18 [.agg [I a0, I a1, I a2], .agg [I a3, I a4, I a5]] (.tup [.agg [I r.1, I r.2.1, I r.2.2.1], .lst false 1 r.2.2.2.1, I r.2.2.2.2]) := by
  unfold F_drive_Referenced at h
  obtain ⟨t1, h1, h⟩ := bnd_of h
  by_cases h2 : t1 = 0
  · replace h := ite_t h h2
    obtain ⟨h3, h⟩ := grd_of h
    obtain ⟨t4, h4, h⟩ := bnd_of h
    by_cases h5 : t4.2.2.2 = 0
    · replace h := ite_t h h5
      replace h := Option.some.inj h
      subst h
      exact (run_fr (n := 100) (r := .tup [.agg [I t4.1, I t4.2.1, I t4.2.2.1], .lst true 1 [I (a0 - a3), I a2], I 0]) (orc := [.ret (I t1), .br false, .ret (.tup [.agg [I t4.1, I t4.2.1, I t4.2.2.1], I t4.2.2.2]), .br false]) (allC (nef h5) (allC (((c_drive_Moved h4).le (.cons (.refl _) (.cons (.refl _) (.cons (.full _ _ _) (.nil)))) (.refl _)) : Computes cx 16 [.agg [I a0, I a1, I a2], .agg [I a3, I a4, I a5], .lst true 1 [I (a0 - a3), I a2]] (.tup [.agg [I t4.1, I t4.2.1, I t4.2.2.1], I t4.2.2.2])) (allC h3 (allC (nef h2) (allC (c_drive_CheckState h1) allN))))) (by kernel_rfl)).le (LEs.refl _) (.tups (.cons (.refl _) (.cons (.full _ _ _) (.cons (.refl _) (.nil)))))
    · replace h := ite_f h h5
      replace h := Option.some.inj h
      subst h
      exact (run_fr (n := 100) (r := .tup [.agg [I 0, I 0, I 0], .lst true 0 [], I t4.2.2.2]) (orc := [.ret (I t1), .br false, .ret (.tup [.agg [I t4.1, I t4.2.1, I t4.2.2.1], I t4.2.2.2]), .br true]) (allC (net h5) (allC (((c_drive_Moved h4).le (.cons (.refl _) (.cons (.refl _) (.cons (.full _ _ _) (.nil)))) (.refl _)) : Computes cx 16 [.agg [I a0, I a1, I a2], .agg [I a3, I a4, I a5], .lst true 1 [I (a0 - a3), I a2]] (.tup [.agg [I t4.1, I t4.2.1, I t4.2.2.1], I t4.2.2.2])) (allC h3 (allC (nef h2) (allC (c_drive_CheckState h1) allN))))) (by kernel_rfl)).le (LEs.refl _) (.tups (.cons (.refl _) (.cons (.lst _ _ _ _ _ nofun (.inl rfl)) (.cons (.refl _) (.nil)))))
  · replace h := ite_f h h2
    replace h := Option.some.inj h
    subst h
    exact (run_fr (n := 100) (r := .tup [.agg [I 0, I 0, I 0], .lst true 0 [], I t1]) (orc := [.ret (I t1), .br true]) (allC (net h2) (allC (c_drive_CheckState h1) allN)) (by kernel_rfl)).le (LEs.refl _) (.tups (.cons (.refl _) (.cons (.lst _ _ _ _ _ nofun (.inl rfl)) (.cons (.refl _) (.nil)))))
def enc_Ai3Z (x : Int × Int × Int) : D := .agg [I x.1, I x.2.1, I x.2.2]
def un_Ai3Z : D → Option (Int × Int × Int)
  | .agg [c0, c1, c2] => (un_int .i64 c0).bind fun y0 => (un_int .i64 c1).bind fun y1 => (un_int .i64 c2).bind fun y2 => some (y0, y1, y2)
  | _ => none
theorem un_Ai3Z_ok {d : D} {x : Int × Int × Int} (h : un_Ai3Z d = some x) : d = enc_Ai3Z x := by
  unfold un_Ai3Z at h
  split at h
  case h_2 => cases h
  obtain ⟨y0, h0, h⟩ := bnd_of h
  obtain ⟨y1, h1, h⟩ := bnd_of h
  obtain ⟨y2, h2, h⟩ := bnd_of h
  cases h
  have e0 := un_int_ok h0
  have e1 := un_int_ok h1
  have e2 := un_int_ok h2
  rw [e0, e1, e2]; rfl
/- (spillage/drive.Spot).check: .agg [I a0, I a1, I a2] -/
def F_drive_Spot_check_3 (n : Nat) (a0 : Int) (a1 : Int) (a2 : Int) : Option (Int) :=
  (F_drive_within n a0 (-1000) 1000).bind fun t1 =>
  (F_drive_checkEnds n a1 a2 1000000).bind fun t2 =>
  (F_drive_first n ([I t1, I t2])).bind fun t3 =>
  some t3
theorem c_drive_Spot_check_3 {n : Nat} {a0 : Int} {a1 : Int} {a2 : Int} {r : Int} (h : F_drive_Spot_check_3 n a0 a1 a2 = some r) : Computes cx 55 [.agg [I a0, I a1, I a2]] (I r) := by
  unfold F_drive_Spot_check_3 at h
  obtain ⟨t1, h1, h⟩ := bnd_of h
  obtain ⟨t2, h2, h⟩ := bnd_of h
  obtain ⟨t3, h3, h⟩ := bnd_of h
  replace h := Option.some.inj h
  subst h
  exact run_fr (n := 100) (orc := [.ret (I t1), .ret (I t2), .ret (I t3)]) (allC (((c_drive_first h3).le (.cons (.full _ _ _) (.nil)) (.refl _)) : Computes cx 48 [.lst true 1 [I t1, I t2]] (I t3)) (allC (c_drive_checkEnds h2) (allC (c_drive_within h1) allN))) (by kernel_rfl)
def F_drive_mapped_g_2_L1 (n : Nat) (a0 : List D) (sa : (Int × List D)) : Option (((Int × List D)) ⊕ ((List D))) :=
  if sa.1 < ((a0).length : Int) then
    (el un_Ai3Z a0 sa.1).bind fun ta2 =>
    (F_drive_Spot_check_3 n ta2.1 ta2.2.1 ta2.2.2).bind fun ta3 =>
    if roomP 8 ((sa.2).length + 1) then
    if inI64 (sa.1 + 1) then
    some (.inl ((sa.1 + 1), (sa.2 ++ ([I ta3] : List D))))
    else none
    else none
  else
  some (.inr sa.2)
noncomputable def T_drive_mapped_g_2_L1 (a0 : List D) (sa : (Int × List D)) : List (Nat × AV) := [(1, .d (.fn (.func 55) [] [])), (5, .own 5 0), (8, .d (.lst false 3 a0)), (9, .d (I ((a0).length : Int))), (10, .d (I sa.1))]
noncomputable def H_drive_mapped_g_2_L1 (a0 : List D) (sa : (Int × List D)) : List (Nat × Blk) := [(5, .row 0 1 sa.2)]
noncomputable def X_drive_mapped_g_2_L1 (a0 : List D) (e : (List D)) : Ex := (.exit 0)
noncomputable def XT_drive_mapped_g_2_L1 (a0 : List D) (e : (List D)) : List (Nat × AV) := [(5, .own 5 0)]
noncomputable def XH_drive_mapped_g_2_L1 (a0 : List D) (e : (List D)) : List (Nat × Blk) := [(5, .row 0 1 e)]
theorem R_drive_mapped_g_2_L1 {n : Nat} {a0 : List D} (sa : (Int × List D)) (r) (h : F_drive_mapped_g_2_L1 n a0 sa = some r) : Rd cx (loopAt cx.P 84 0) 22 0 false (T_drive_mapped_g_2_L1 a0) (H_drive_mapped_g_2_L1 a0) (X_drive_mapped_g_2_L1 a0) (XT_drive_mapped_g_2_L1 a0) (XH_drive_mapped_g_2_L1 a0) sa r := by
  unfold F_drive_mapped_g_2_L1 at h
  by_cases ha1 : sa.1 < ((a0).length : Int)
  · replace h := ite_t h ha1
    obtain ⟨ta2, ha2, h⟩ := bnd_of h
    obtain ⟨ta3, ha3, h⟩ := bnd_of h
    obtain ⟨ha4, h⟩ := grd_of h
    obtain ⟨ha5, h⟩ := grd_of h
    replace h := Option.some.inj h
    subst h
    exact ⟨100, 6, [.br true, .el (enc_Ai3Z ta2), .ret (I ta3), .br true], [], [1, 5, 8, 9, 10], [5], round_fr (allC ha5 (allC ((room_of (b := 8) (by kernel_rfl) (by decide) ha4) : room cx 25 ((sa.2).length + 1)) (allC (c_drive_Spot_check_3 ha3) (allC (el_ok un_Ai3Z_ok ha2).1 (allC (el_ok un_Ai3Z_ok ha2).2 (allC (decide_eq_true ha1) allN)))))) (by kernel_rfl)⟩
  · replace h := ite_f h ha1
    replace h := Option.some.inj h
    subst h
    exact ⟨⟨100, 6, [.br false], [], [5], [5], round_fr (allC (decide_eq_false ha1) allN) (by kernel_rfl)⟩, nofun⟩
/- spillage/drive.mapped[spillage/drive.Spot,spillage/api.Errno]: .lst false 3 a0, .fn (.func 55) [] [] -/
def F_drive_mapped_g_2 (n : Nat) (a0 : List D) : Option (List D) :=
  (loopF (F_drive_mapped_g_2_L1 n a0) n (0, [])).bind fun t1 =>
  some t1
theorem c_drive_mapped_g_2 {n : Nat} {a0 : List D} {r : List D} (h : F_drive_mapped_g_2 n a0 = some r) : Computes cx 84 [.lst false 3 a0, .fn (.func 55) [] []] (.lst false 1 r) := by
  unfold F_drive_mapped_g_2 at h
  obtain ⟨t1, h1, h⟩ := bnd_of h
  replace h := Option.some.inj h
  subst h
  exact run_fr (n := 100) (orc := [.lp [5, 1] [1, 5, 8, 9, 10] [5] (.exit 0) [(5, .own 5 0)] [(5, .row 0 1 t1)] 31]) (allC (loopF_to R_drive_mapped_g_2_L1 h1) allN) (by kernel_rfl)
/- spillage/drive.CheckSpots: .lst false 3 a0 -/
def F_drive_CheckSpots_2 (n : Nat) (a0 : List D) : Option (Int) :=
  (F_drive_when_2 n (((a0).length : Int) == 0) 12).bind fun t1 =>
  (F_drive_when_2 n (decide (((a0).length : Int) > 16)) 5).bind fun t2 =>
  (F_drive_first n ([I t1, I t2])).bind fun t3 =>
  if t3 = 0 then
    (F_drive_mapped_g_2 n a0).bind fun t5 =>
    (F_drive_first n t5).bind fun t6 =>
    some t6
  else
  some t3
theorem c_drive_CheckSpots_2 {n : Nat} {a0 : List D} {r : Int} (h : F_drive_CheckSpots_2 n a0 = some r) : Computes cx 52 [.lst false 3 a0] (I r) := by
  unfold F_drive_CheckSpots_2 at h
  obtain ⟨t1, h1, h⟩ := bnd_of h
  obtain ⟨t2, h2, h⟩ := bnd_of h
  obtain ⟨t3, h3, h⟩ := bnd_of h
  by_cases h4 : t3 = 0
  · replace h := ite_t h h4
    obtain ⟨t5, h5, h⟩ := bnd_of h
    obtain ⟨t6, h6, h⟩ := bnd_of h
    replace h := Option.some.inj h
    subst h
    exact run_fr (n := 100) (orc := [.ret (I t1), .ret (I t2), .ret (I t3), .br false, .ret (.lst false 1 t5), .ret (I t6)]) (allC (c_drive_first h6) (allC (c_drive_mapped_g_2 h5) (allC (nef h4) (allC (((c_drive_first h3).le (.cons (.full _ _ _) (.nil)) (.refl _)) : Computes cx 48 [.lst true 1 [I t1, I t2]] (I t3)) (allC (c_drive_when_2 h2) (allC (c_drive_when_2 h1) allN)))))) (by kernel_rfl)
  · replace h := ite_f h h4
    replace h := Option.some.inj h
    subst h
    exact run_fr (n := 100) (orc := [.ret (I t1), .ret (I t2), .ret (I t3), .br true]) (allC (net h4) (allC (((c_drive_first h3).le (.cons (.full _ _ _) (.nil)) (.refl _)) : Computes cx 48 [.lst true 1 [I t1, I t2]] (I t3)) (allC (c_drive_when_2 h2) (allC (c_drive_when_2 h1) allN)))) (by kernel_rfl)
/- spillage/drive.both: .agg [I a0, I a1], .agg [I a2, I a3] -/
def F_drive_both_2 (n : Nat) (a0 : Int) (a1 : Int) (a2 : Int) (a3 : Int) : Option (Int × Int × Bool) :=
  some ((maxI a0 a2), (minI a1 a3), (decide ((maxI a0 a2) ≤ (minI a1 a3))))
theorem c_drive_both_2 {n : Nat} {a0 : Int} {a1 : Int} {a2 : Int} {a3 : Int} {r : Int × Int × Bool} (h : F_drive_both_2 n a0 a1 a2 a3 = some r) : Computes cx 85 [.agg [I a0, I a1], .agg [I a2, I a3]] (.tup [.agg [I r.1, I r.2.1], B r.2.2]) := by
  unfold F_drive_both_2 at h
  replace h := Option.some.inj h
  subst h
  exact run_fr (n := 100) (orc := []) allN (by kernel_rfl)
/- (spillage/drive.Band).seen: .agg [I a0, I a1, I a2], .agg [I a3, I a4, I a5] -/
def F_drive_Band_seen_2 (n : Nat) (a0 : Int) (a1 : Int) (a2 : Int) (a3 : Int) (a4 : Int) (a5 : Int) : Option (Int × Int × Int × Bool) :=
  if inI64 (a0 * a3) then
  if inI64 (a4 - (a0 * a3)) then
  if inI64 (a5 - (a0 * a3)) then
  (F_drive_both_2 n a1 a2 (a4 - (a0 * a3)) (a5 - (a0 * a3))).bind fun t4 =>
  some (a0, t4.1, t4.2.1, t4.2.2)
  else none
  else none
  else none
theorem c_drive_Band_seen_2 {n : Nat} {a0 : Int} {a1 : Int} {a2 : Int} {a3 : Int} {a4 : Int} {a5 : Int} {r : Int × Int × Int × Bool} (h : F_drive_Band_seen_2 n a0 a1 a2 a3 a4 a5 = some r) : Computes cx 54 [.agg [I a0, I a1, I a2], .agg [I a3, I a4, I a5]] (.tup [.agg [I r.1, I r.2.1, I r.2.2.1], B r.2.2.2]) := by
  unfold F_drive_Band_seen_2 at h
  obtain ⟨h1, h⟩ := grd_of h
  obtain ⟨h2, h⟩ := grd_of h
  obtain ⟨h3, h⟩ := grd_of h
  obtain ⟨t4, h4, h⟩ := bnd_of h
  replace h := Option.some.inj h
  subst h
  exact run_fr (n := 100) (orc := [.ret (.tup [.agg [I t4.1, I t4.2.1], B t4.2.2])]) (allC (c_drive_both_2 h4) (allC h3 (allC h2 (allC h1 allN)))) (by kernel_rfl)
def F_drive_Fitted_2_L2 (n : Nat) (a0 : List D) (a1 : Int) (a2 : Int) (sa : Int × List D) (sb : (Int × Int × Int × Int)) : Option (((Int × Int × Int × Int)) ⊕ ((Unit) ⊕ (Int × Int × Int))) :=
  if sb.1 < ((a0).length : Int) then
    (el un_Ai3Z a0 sb.1).bind fun tb2 =>
    (F_drive_Band_seen_2 n sb.2.1 sb.2.2.1 sb.2.2.2 tb2.1 tb2.2.1 tb2.2.2).bind fun tb3 =>
    if tb3.2.2.2 = true then
      if inI64 (sb.1 + 1) then
      some (.inl ((sb.1 + 1), tb3.1, tb3.2.1, tb3.2.2.1))
      else none
    else
    some (.inr (.inl ()))
  else
  some (.inr (.inr (sb.2.1, sb.2.2.1, sb.2.2.2)))
noncomputable def T_drive_Fitted_2_L2 (a0 : List D) (a1 : Int) (a2 : Int) (sa : Int × List D) (sb : (Int × Int × Int × Int)) : List (Nat × AV) := [(0, .d (.lst false 3 a0)), (3, .ptr 0 0 0 0 0), (7, .own 20 0), (9, .ptr 30 0 0 0 0), (28, .d (I ((a2 - a1) + 1))), (29, .d (I sa.1)), (38, .d (.lst false 3 a0)), (39, .d (I ((a0).length : Int))), (40, .d (I sb.1))]
noncomputable def H_drive_Fitted_2_L2 (a0 : List D) (a1 : Int) (a2 : Int) (sa : Int × List D) (sb : (Int × Int × Int × Int)) : List (Nat × Blk) := [(0, .box (.d (.agg [I a1, I a2]))), (20, .row 0 3 sa.2), (30, .box (.d (.agg [I sb.2.1, I sb.2.2.1, I sb.2.2.2])))]
noncomputable def X_drive_Fitted_2_L2 (a0 : List D) (a1 : Int) (a2 : Int) (sa : Int × List D) (e : (Unit) ⊕ (Int × Int × Int)) : Ex := match e with
  | (.inl e) => (.exit 1)
  | (.inr e) => (.exit 2)
noncomputable def XT_drive_Fitted_2_L2 (a0 : List D) (a1 : Int) (a2 : Int) (sa : Int × List D) (e : (Unit) ⊕ (Int × Int × Int)) : List (Nat × AV) := match e with
  | (.inl e) => [(0, .d (.lst false 3 a0)), (3, .ptr 0 0 0 0 0), (7, .own 20 0), (28, .d (I ((a2 - a1) + 1))), (29, .d (I sa.1))]
  | (.inr e) => [(0, .d (.lst false 3 a0)), (3, .ptr 0 0 0 0 0), (7, .own 20 0), (9, .ptr 30 0 0 0 0), (28, .d (I ((a2 - a1) + 1))), (29, .d (I sa.1))]
noncomputable def XH_drive_Fitted_2_L2 (a0 : List D) (a1 : Int) (a2 : Int) (sa : Int × List D) (e : (Unit) ⊕ (Int × Int × Int)) : List (Nat × Blk) := match e with
  | (.inl e) => [(0, .box (.d (.agg [I a1, I a2]))), (20, .row 0 3 sa.2)]
  | (.inr e) => [(0, .box (.d (.agg [I a1, I a2]))), (20, .row 0 3 sa.2), (30, .box (.d (.agg [I e.1, I e.2.1, I e.2.2])))]
theorem R_drive_Fitted_2_L2 {n : Nat} {a0 : List D} {a1 : Int} {a2 : Int} {sa : Int × List D} (sb : (Int × Int × Int × Int)) (r) (h : F_drive_Fitted_2_L2 n a0 a1 a2 sa sb = some r) : Rd cx (loopAt cx.P 19 1) 72 0 false (T_drive_Fitted_2_L2 a0 a1 a2 sa) (H_drive_Fitted_2_L2 a0 a1 a2 sa) (X_drive_Fitted_2_L2 a0 a1 a2 sa) (XT_drive_Fitted_2_L2 a0 a1 a2 sa) (XH_drive_Fitted_2_L2 a0 a1 a2 sa) sb r := by
  unfold F_drive_Fitted_2_L2 at h
  by_cases hb1 : sb.1 < ((a0).length : Int)
  · replace h := ite_t h hb1
    obtain ⟨tb2, hb2, h⟩ := bnd_of h
    obtain ⟨tb3, hb3, h⟩ := bnd_of h
    by_cases hb4 : tb3.2.2.2 = true
    · replace h := ite_t h hb4
      obtain ⟨hb5, h⟩ := grd_of h
      replace h := Option.some.inj h
      subst h
      exact ⟨100, 35, [.br true, .el (enc_Ai3Z tb2), .ret (.tup [.agg [I tb3.1, I tb3.2.1, I tb3.2.2.1], B tb3.2.2.2]), .br false], [], [0, 3, 7, 9, 28, 29, 38, 39, 40], [0, 20, 30], round_fr (allC hb5 (allC (notf hb4) (allC (c_drive_Band_seen_2 hb3) (allC (el_ok un_Ai3Z_ok hb2).1 (allC (el_ok un_Ai3Z_ok hb2).2 (allC (decide_eq_true hb1) allN)))))) (by kernel_rfl)⟩
    · replace h := ite_f h hb4
      replace h := Option.some.inj h
      subst h
      exact ⟨⟨100, 35, [.br true, .el (enc_Ai3Z tb2), .ret (.tup [.agg [I tb3.1, I tb3.2.1, I tb3.2.2.1], B tb3.2.2.2]), .br true], [], [0, 3, 7, 28, 29], [0, 20], round_fr (allC (nott (bfalse hb4)) (allC (c_drive_Band_seen_2 hb3) (allC (el_ok un_Ai3Z_ok hb2).1 (allC (el_ok un_Ai3Z_ok hb2).2 (allC (decide_eq_true hb1) allN))))) (by kernel_rfl)⟩, nofun⟩
  · replace h := ite_f h hb1
    replace h := Option.some.inj h
    subst h
    exact ⟨⟨100, 35, [.br false], [], [0, 3, 7, 9, 28, 29], [0, 20, 30], round_fr (allC (decide_eq_false hb1) allN) (by kernel_rfl)⟩, nofun⟩
def F_drive_Fitted_2_L3 (n : Nat) (a0 : List D) (a1 : Int) (a2 : Int) (sa : (Int × List D)) : Option (((Int × List D)) ⊕ ((List D))) :=
  if sa.1 < ((a2 - a1) + 1) then
    if inI64 (a1 + sa.1) then
    (loopF (F_drive_Fitted_2_L2 n a0 a1 a2 sa) n (0, (a1 + sa.1), (-2000000), 2000000)).bind fun ta3 => match ta3 with
      | (.inl ta3) => (
        if inI64 (sa.1 + 1) then
        some (.inl ((sa.1 + 1), sa.2))
        else none)
      | (.inr ta3) => (
        if roomP 24 ((sa.2).length + 1) then
        if inI64 (sa.1 + 1) then
        some (.inl ((sa.1 + 1), (sa.2 ++ ([.agg [I ta3.1, I ta3.2.1, I ta3.2.2]] : List D))))
        else none
        else none)
    else none
  else
  some (.inr sa.2)
noncomputable def T_drive_Fitted_2_L3 (a0 : List D) (a1 : Int) (a2 : Int) (sa : (Int × List D)) : List (Nat × AV) := [(0, .d (.lst false 3 a0)), (3, .ptr 0 0 0 0 0), (7, .own 20 0), (28, .d (I ((a2 - a1) + 1))), (29, .d (I sa.1))]
noncomputable def H_drive_Fitted_2_L3 (a0 : List D) (a1 : Int) (a2 : Int) (sa : (Int × List D)) : List (Nat × Blk) := [(0, .box (.d (.agg [I a1, I a2]))), (20, .row 0 3 sa.2)]
noncomputable def X_drive_Fitted_2_L3 (a0 : List D) (a1 : Int) (a2 : Int) (e : (List D)) : Ex := (.exit 0)
noncomputable def XT_drive_Fitted_2_L3 (a0 : List D) (a1 : Int) (a2 : Int) (e : (List D)) : List (Nat × AV) := [(7, .own 20 0)]
noncomputable def XH_drive_Fitted_2_L3 (a0 : List D) (a1 : Int) (a2 : Int) (e : (List D)) : List (Nat × Blk) := [(20, .row 0 3 e)]
theorem R_drive_Fitted_2_L3 {n : Nat} {a0 : List D} {a1 : Int} {a2 : Int} (sa : (Int × List D)) (r) (h : F_drive_Fitted_2_L3 n a0 a1 a2 sa = some r) : Rd cx (loopAt cx.P 19 0) 72 0 false (T_drive_Fitted_2_L3 a0 a1 a2) (H_drive_Fitted_2_L3 a0 a1 a2) (X_drive_Fitted_2_L3 a0 a1 a2) (XT_drive_Fitted_2_L3 a0 a1 a2) (XH_drive_Fitted_2_L3 a0 a1 a2) sa r := by
  unfold F_drive_Fitted_2_L3 at h
  by_cases ha1 : sa.1 < ((a2 - a1) + 1)
  · replace h := ite_t h ha1
    obtain ⟨ha2, h⟩ := grd_of h
    obtain ⟨ta3, ha3, h⟩ := bnd_of h
    rcases ta3 with ta3 | ta3
    · obtain ⟨ha4, h⟩ := grd_of h
      replace h := Option.some.inj h
      subst h
      exact ⟨100, 21, [.br true, .lp [] [0, 3, 7, 9, 28, 29, 38, 39, 40] [0, 20, 30] (.exit 1) [(0, .d (.lst false 3 a0)), (3, .ptr 0 0 0 0 0), (7, .own 20 0), (28, .d (I ((a2 - a1) + 1))), (29, .d (I sa.1))] [(0, .box (.d (.agg [I a1, I a2]))), (20, .row 0 3 sa.2)] 64], [], [0, 3, 7, 28, 29], [0, 20], round_fr (allC ha4 (allC (loopF_to R_drive_Fitted_2_L2 ha3) (allC ha2 (allC (decide_eq_true ha1) allN)))) (by kernel_rfl)⟩
    · obtain ⟨ha4, h⟩ := grd_of h
      obtain ⟨ha5, h⟩ := grd_of h
      replace h := Option.some.inj h
      subst h
      exact ⟨100, 21, [.br true, .lp [] [0, 3, 7, 9, 28, 29, 38, 39, 40] [0, 20, 30] (.exit 2) [(0, .d (.lst false 3 a0)), (3, .ptr 0 0 0 0 0), (7, .own 20 0), (9, .ptr 30 0 0 0 0), (28, .d (I ((a2 - a1) + 1))), (29, .d (I sa.1))] [(0, .box (.d (.agg [I a1, I a2]))), (20, .row 0 3 sa.2), (30, .box (.d (.agg [I ta3.1, I ta3.2.1, I ta3.2.2])))] 64, .br true], [], [0, 3, 7, 28, 29], [0, 20], round_fr (allC ha5 (allC ((room_of (b := 24) (by kernel_rfl) (by decide) ha4) : room cx 89 ((sa.2).length + 1)) (allC (loopF_to R_drive_Fitted_2_L2 ha3) (allC ha2 (allC (decide_eq_true ha1) allN))))) (by kernel_rfl)⟩
  · replace h := ite_f h ha1
    replace h := Option.some.inj h
    subst h
    exact ⟨⟨100, 21, [.br false], [], [7], [20], round_fr (allC (decide_eq_false ha1) allN) (by kernel_rfl)⟩, nofun⟩
/- spillage/drive.Fitted: .lst false 3 a0, .agg [I a1, I a2] -/
def F_drive_Fitted_2 (n : Nat) (a0 : List D) (a1 : Int) (a2 : Int) : Option (List D × Int) :=
  (F_drive_CheckSpots_2 n a0).bind fun t1 =>
  (F_drive_checkEnds n a1 a2 1000).bind fun t2 =>
  (F_drive_first n ([I t1, I t2])).bind fun t3 =>
  if t3 = 0 then
    if inI64 (a2 - a1) then
    if inI64 ((a2 - a1) + 1) then
    (loopF (F_drive_Fitted_2_L3 n a0 a1 a2) n (0, [])).bind fun t7 =>
    (F_drive_when_2 n (((t7).length : Int) == 0) 18).bind fun t8 =>
    (F_drive_when_2 n (decide (((t7).length : Int) > 64)) 5).bind fun t9 =>
    (F_drive_first n ([I t8, I t9])).bind fun t10 =>
    if t10 = 0 then
      some (t7, 0)
    else
    some ([], t10)
    else none
    else none
  else
  some ([], t3)
theorem c_drive_Fitted_2 {n : Nat} {a0 : List D} {a1 : Int} {a2 : Int} {r : List D × Int} (h : F_drive_Fitted_2 n a0 a1 a2 = some r) : Computes cx 19 [.lst false 3 a0, .agg [I a1, I a2]] (.tup [.lst false 3 r.1, I r.2]) := by
  unfold F_drive_Fitted_2 at h
  obtain ⟨t1, h1, h⟩ := bnd_of h
  obtain ⟨t2, h2, h⟩ := bnd_of h
  obtain ⟨t3, h3, h⟩ := bnd_of h
  by_cases h4 : t3 = 0
  · replace h := ite_t h h4
    obtain ⟨h5, h⟩ := grd_of h
    obtain ⟨h6, h⟩ := grd_of h
    obtain ⟨t7, h7, h⟩ := bnd_of h
    obtain ⟨t8, h8, h⟩ := bnd_of h
    obtain ⟨t9, h9, h⟩ := bnd_of h
    obtain ⟨t10, h10, h⟩ := bnd_of h
    by_cases h11 : t10 = 0
    · replace h := ite_t h h11
      replace h := Option.some.inj h
      subst h
      exact run_fr (n := 100) (orc := [.ret (I t1), .ret (I t2), .ret (I t3), .br false, .lp [7, 3] [0, 3, 7, 28, 29] [0, 20] (.exit 0) [(7, .own 20 0)] [(20, .row 0 3 t7)] 82, .ret (I t8), .ret (I t9), .ret (I t10), .br false]) (allC (nef h11) (allC (((c_drive_first h10).le (.cons (.full _ _ _) (.nil)) (.refl _)) : Computes cx 48 [.lst true 1 [I t8, I t9]] (I t10)) (allC (c_drive_when_2 h9) (allC (c_drive_when_2 h8) (allC (loopF_to R_drive_Fitted_2_L3 h7) (allC h6 (allC h5 (allC (nef h4) (allC (((c_drive_first h3).le (.cons (.full _ _ _) (.nil)) (.refl _)) : Computes cx 48 [.lst true 1 [I t1, I t2]] (I t3)) (allC (c_drive_checkEnds h2) (allC (c_drive_CheckSpots_2 h1) allN))))))))))) (by kernel_rfl)
    · replace h := ite_f h h11
      replace h := Option.some.inj h
      subst h
      exact (run_fr (n := 100) (r := .tup [.lst true 0 [], I t10]) (orc := [.ret (I t1), .ret (I t2), .ret (I t3), .br false, .lp [7, 3] [0, 3, 7, 28, 29] [0, 20] (.exit 0) [(7, .own 20 0)] [(20, .row 0 3 t7)] 82, .ret (I t8), .ret (I t9), .ret (I t10), .br true]) (allC (net h11) (allC (((c_drive_first h10).le (.cons (.full _ _ _) (.nil)) (.refl _)) : Computes cx 48 [.lst true 1 [I t8, I t9]] (I t10)) (allC (c_drive_when_2 h9) (allC (c_drive_when_2 h8) (allC (loopF_to R_drive_Fitted_2_L3 h7) (allC h6 (allC h5 (allC (nef h4) (allC (((c_drive_first h3).le (.cons (.full _ _ _) (.nil)) (.refl _)) : Computes cx 48 [.lst true 1 [I t1, I t2]] (I t3)) (allC (c_drive_checkEnds h2) (allC (c_drive_CheckSpots_2 h1) allN))))))))))) (by kernel_rfl)).le (LEs.refl _) (.tups (.cons (.lst _ _ _ _ _ nofun (.inl rfl)) (.cons (.refl _) (.nil))))
  · replace h := ite_f h h4
    replace h := Option.some.inj h
    subst h
    exact (run_fr (n := 100) (r := .tup [.lst true 0 [], I t3]) (orc := [.ret (I t1), .ret (I t2), .ret (I t3), .br true]) (allC (net h4) (allC (((c_drive_first h3).le (.cons (.full _ _ _) (.nil)) (.refl _)) : Computes cx 48 [.lst true 1 [I t1, I t2]] (I t3)) (allC (c_drive_checkEnds h2) (allC (c_drive_CheckSpots_2 h1) allN)))) (by kernel_rfl)).le (LEs.refl _) (.tups (.cons (.lst _ _ _ _ _ nofun (.inl rfl)) (.cons (.refl _) (.nil))))
/- spillage/spillagelaw03.model:  -/
def F_law03_model (n : Nat)  : Option (List D) :=
  some [.agg [I 5, I 100, I 102]]
theorem c_law03_model {n : Nat}  {r : List D} (h : F_law03_model n  = some r) : Computes cx 21 [] (.lst false 3 r) := by
  unfold F_law03_model at h
  replace h := Option.some.inj h
  subst h
  exact (run_fr (n := 100) (r := .lst true 3 [.agg [I 5, I 100, I 102]]) (orc := []) allN (by kernel_rfl)).le (LEs.refl _) (.full _ _ _)
def F_drive_CheckModel_L1 (n : Nat) (a0 : List D) (sa : (Int × Int)) : Option (((Int × Int)) ⊕ ((Int) ⊕ (Unit))) :=
  if sa.2 < ((a0).length : Int) then
    (el un_Ai3Z a0 sa.2).bind fun ta2 =>
    (F_drive_within n ta2.1 (-1000) 1000).bind fun ta3 =>
    (F_drive_checkEnds n ta2.2.1 ta2.2.2 2000000).bind fun ta4 =>
    (F_drive_when_2 n (decide (ta2.1 ≤ sa.1)) 11).bind fun ta5 =>
    (F_drive_first n ([I ta3, I ta4, I ta5])).bind fun ta6 =>
    if ta6 = 0 then
      if inI64 (sa.2 + 1) then
      some (.inl (ta2.1, (sa.2 + 1)))
      else none
    else
    some (.inr (.inl ta6))
  else
  some (.inr (.inr ()))
noncomputable def T_drive_CheckModel_L1 (a0 : List D) (sa : (Int × Int)) : List (Nat × AV) := [(4, .d (I sa.1)), (21, .d (.lst false 3 a0)), (22, .d (I ((a0).length : Int))), (23, .d (I sa.2))]
noncomputable def H_drive_CheckModel_L1 (a0 : List D) (sa : (Int × Int)) : List (Nat × Blk) := []
noncomputable def X_drive_CheckModel_L1 (a0 : List D) (e : (Int) ⊕ (Unit)) : Ex := match e with
  | (.inl e) => .ret
  | (.inr e) => (.exit 0)
noncomputable def XT_drive_CheckModel_L1 (a0 : List D) (e : (Int) ⊕ (Unit)) : List (Nat × AV) := match e with
  | (.inl e) => [(2, .d (I e))]
  | (.inr e) => []
noncomputable def XH_drive_CheckModel_L1 (a0 : List D) (e : (Int) ⊕ (Unit)) : List (Nat × Blk) := match e with
  | (.inl e) => []
  | (.inr e) => []
theorem R_drive_CheckModel_L1 {n : Nat} {a0 : List D} (sa : (Int × Int)) (r) (h : F_drive_CheckModel_L1 n a0 sa = some r) : Rd cx (loopAt cx.P 33 0) 46 0 false (T_drive_CheckModel_L1 a0) (H_drive_CheckModel_L1 a0) (X_drive_CheckModel_L1 a0) (XT_drive_CheckModel_L1 a0) (XH_drive_CheckModel_L1 a0) sa r := by
  unfold F_drive_CheckModel_L1 at h
  by_cases ha1 : sa.2 < ((a0).length : Int)
  · replace h := ite_t h ha1
    obtain ⟨ta2, ha2, h⟩ := bnd_of h
    obtain ⟨ta3, ha3, h⟩ := bnd_of h
    obtain ⟨ta4, ha4, h⟩ := bnd_of h
    obtain ⟨ta5, ha5, h⟩ := bnd_of h
    obtain ⟨ta6, ha6, h⟩ := bnd_of h
    by_cases ha7 : ta6 = 0
    · replace h := ite_t h ha7
      obtain ⟨ha8, h⟩ := grd_of h
      replace h := Option.some.inj h
      subst h
      exact ⟨100, 18, [.br true, .el (enc_Ai3Z ta2), .ret (I ta3), .ret (I ta4), .ret (I ta5), .ret (I ta6), .br false], [], [4, 21, 22, 23], [], round_fr (allC ha8 (allC (nef ha7) (allC (((c_drive_first ha6).le (.cons (.full _ _ _) (.nil)) (.refl _)) : Computes cx 48 [.lst true 1 [I ta3, I ta4, I ta5]] (I ta6)) (allC (c_drive_when_2 ha5) (allC (c_drive_checkEnds ha4) (allC (c_drive_within ha3) (allC (el_ok un_Ai3Z_ok ha2).1 (allC (el_ok un_Ai3Z_ok ha2).2 (allC (decide_eq_true ha1) allN))))))))) (by kernel_rfl)⟩
    · replace h := ite_f h ha7
      replace h := Option.some.inj h
      subst h
      exact ⟨⟨100, 18, [.br true, .el (enc_Ai3Z ta2), .ret (I ta3), .ret (I ta4), .ret (I ta5), .ret (I ta6), .br true], [], [2], [], round_fr (allC (net ha7) (allC (((c_drive_first ha6).le (.cons (.full _ _ _) (.nil)) (.refl _)) : Computes cx 48 [.lst true 1 [I ta3, I ta4, I ta5]] (I ta6)) (allC (c_drive_when_2 ha5) (allC (c_drive_checkEnds ha4) (allC (c_drive_within ha3) (allC (el_ok un_Ai3Z_ok ha2).1 (allC (el_ok un_Ai3Z_ok ha2).2 (allC (decide_eq_true ha1) allN)))))))) (by kernel_rfl)⟩, nofun⟩
  · replace h := ite_f h ha1
    replace h := Option.some.inj h
    subst h
    exact ⟨⟨100, 18, [.br false], [], [], [], round_fr (allC (decide_eq_false ha1) allN) (by kernel_rfl)⟩, nofun⟩
/- spillage/drive.CheckModel: .lst false 3 a0 -/
def F_drive_CheckModel (n : Nat) (a0 : List D) : Option (Int) :=
  (F_drive_when_2 n (((a0).length : Int) == 0) 12).bind fun t1 =>
  (F_drive_when_2 n (decide (((a0).length : Int) > 64)) 5).bind fun t2 =>
  (F_drive_first n ([I t1, I t2])).bind fun t3 =>
  if t3 = 0 then
    (loopF (F_drive_CheckModel_L1 n a0) n ((-1001), 0)).bind fun t5 => match t5 with
      | (.inl t5) => (
        some t5)
      | (.inr t5) => (
        some 0)
  else
  some t3
theorem c_drive_CheckModel {n : Nat} {a0 : List D} {r : Int} (h : F_drive_CheckModel n a0 = some r) : Computes cx 33 [.lst false 3 a0] (I r) := by
  unfold F_drive_CheckModel at h
  obtain ⟨t1, h1, h⟩ := bnd_of h
  obtain ⟨t2, h2, h⟩ := bnd_of h
  obtain ⟨t3, h3, h⟩ := bnd_of h
  by_cases h4 : t3 = 0
  · replace h := ite_t h h4
    obtain ⟨t5, h5, h⟩ := bnd_of h
    rcases t5 with t5 | t5
    · replace h := Option.some.inj h
      subst h
      exact run_fr (n := 100) (orc := [.ret (I t1), .ret (I t2), .ret (I t3), .br false, .lp [] [4, 21, 22, 23] [] .ret [(2, .d (I t5))] [] 55]) (allC (loopF_to R_drive_CheckModel_L1 h5) (allC (nef h4) (allC (((c_drive_first h3).le (.cons (.full _ _ _) (.nil)) (.refl _)) : Computes cx 48 [.lst true 1 [I t1, I t2]] (I t3)) (allC (c_drive_when_2 h2) (allC (c_drive_when_2 h1) allN))))) (by kernel_rfl)
    · replace h := Option.some.inj h
      subst h
      exact run_fr (n := 100) (orc := [.ret (I t1), .ret (I t2), .ret (I t3), .br false, .lp [] [4, 21, 22, 23] [] (.exit 0) [] [] 55]) (allC (loopF_to R_drive_CheckModel_L1 h5) (allC (nef h4) (allC (((c_drive_first h3).le (.cons (.full _ _ _) (.nil)) (.refl _)) : Computes cx 48 [.lst true 1 [I t1, I t2]] (I t3)) (allC (c_drive_when_2 h2) (allC (c_drive_when_2 h1) allN))))) (by kernel_rfl)
  · replace h := ite_f h h4
    replace h := Option.some.inj h
    subst h
    exact run_fr (n := 100) (orc := [.ret (I t1), .ret (I t2), .ret (I t3), .br true]) (allC (net h4) (allC (((c_drive_first h3).le (.cons (.full _ _ _) (.nil)) (.refl _)) : Computes cx 48 [.lst true 1 [I t1, I t2]] (I t3)) (allC (c_drive_when_2 h2) (allC (c_drive_when_2 h1) allN)))) (by kernel_rfl)
def F_drive_Refined_L1 (n : Nat) (a0 : List D) (a1 : Int) (a2 : Int) (a3 : Int) (sa : (Int × List D)) : Option (((Int × List D)) ⊕ ((List D))) :=
  if sa.1 < ((a0).length : Int) then
    (el un_Ai3Z a0 sa.1).bind fun ta2 =>
    (F_drive_Band_seen_2 n ta2.1 ta2.2.1 ta2.2.2 a1 a2 a3).bind fun ta3 =>
    if ta3.2.2.2 = true then
      if roomP 24 ((sa.2).length + 1) then
      if inI64 (sa.1 + 1) then
      some (.inl ((sa.1 + 1), (sa.2 ++ ([.agg [I ta3.1, I ta3.2.1, I ta3.2.2.1]] : List D))))
      else none
      else none
    else
    if inI64 (sa.1 + 1) then
    some (.inl ((sa.1 + 1), sa.2))
    else none
  else
  some (.inr sa.2)
noncomputable def T_drive_Refined_L1 (a0 : List D) (a1 : Int) (a2 : Int) (a3 : Int) (sa : (Int × List D)) : List (Nat × AV) := [(3, .ptr 0 0 0 0 0), (7, .own 16 0), (21, .d (.lst false 3 a0)), (22, .d (I ((a0).length : Int))), (23, .d (I sa.1))]
noncomputable def H_drive_Refined_L1 (a0 : List D) (a1 : Int) (a2 : Int) (a3 : Int) (sa : (Int × List D)) : List (Nat × Blk) := [(0, .box (.d (.agg [I a1, I a2, I a3]))), (16, .row 0 3 sa.2)]
noncomputable def X_drive_Refined_L1 (a0 : List D) (a1 : Int) (a2 : Int) (a3 : Int) (e : (List D)) : Ex := (.exit 0)
noncomputable def XT_drive_Refined_L1 (a0 : List D) (a1 : Int) (a2 : Int) (a3 : Int) (e : (List D)) : List (Nat × AV) := [(7, .own 16 0)]
noncomputable def XH_drive_Refined_L1 (a0 : List D) (a1 : Int) (a2 : Int) (a3 : Int) (e : (List D)) : List (Nat × Blk) := [(16, .row 0 3 e)]
theorem R_drive_Refined_L1 {n : Nat} {a0 : List D} {a1 : Int} {a2 : Int} {a3 : Int} (sa : (Int × List D)) (r) (h : F_drive_Refined_L1 n a0 a1 a2 a3 sa = some r) : Rd cx (loopAt cx.P 20 0) 43 0 false (T_drive_Refined_L1 a0 a1 a2 a3) (H_drive_Refined_L1 a0 a1 a2 a3) (X_drive_Refined_L1 a0 a1 a2 a3) (XT_drive_Refined_L1 a0 a1 a2 a3) (XH_drive_Refined_L1 a0 a1 a2 a3) sa r := by
  unfold F_drive_Refined_L1 at h
  by_cases ha1 : sa.1 < ((a0).length : Int)
  · replace h := ite_t h ha1
    obtain ⟨ta2, ha2, h⟩ := bnd_of h
    obtain ⟨ta3, ha3, h⟩ := bnd_of h
    by_cases ha4 : ta3.2.2.2 = true
    · replace h := ite_t h ha4
      obtain ⟨ha5, h⟩ := grd_of h
      obtain ⟨ha6, h⟩ := grd_of h
      replace h := Option.some.inj h
      subst h
      exact ⟨100, 17, [.br true, .el (enc_Ai3Z ta2), .ret (.tup [.agg [I ta3.1, I ta3.2.1, I ta3.2.2.1], B ta3.2.2.2]), .br true, .br true], [], [3, 7, 21, 22, 23], [0, 16], round_fr (allC ha6 (allC ((room_of (b := 24) (by kernel_rfl) (by decide) ha5) : room cx 89 ((sa.2).length + 1)) (allC ha4 (allC (c_drive_Band_seen_2 ha3) (allC (el_ok un_Ai3Z_ok ha2).1 (allC (el_ok un_Ai3Z_ok ha2).2 (allC (decide_eq_true ha1) allN))))))) (by kernel_rfl)⟩
    · replace h := ite_f h ha4
      obtain ⟨ha5, h⟩ := grd_of h
      replace h := Option.some.inj h
      subst h
      exact ⟨100, 17, [.br true, .el (enc_Ai3Z ta2), .ret (.tup [.agg [I ta3.1, I ta3.2.1, I ta3.2.2.1], B ta3.2.2.2]), .br false], [], [3, 7, 21, 22, 23], [0, 16], round_fr (allC ha5 (allC (bfalse ha4) (allC (c_drive_Band_seen_2 ha3) (allC (el_ok un_Ai3Z_ok ha2).1 (allC (el_ok un_Ai3Z_ok ha2).2 (allC (decide_eq_true ha1) allN)))))) (by kernel_rfl)⟩
  · replace h := ite_f h ha1
    replace h := Option.some.inj h
    subst h
    exact ⟨⟨100, 17, [.br false], [], [7], [16], round_fr (allC (decide_eq_false ha1) allN) (by kernel_rfl)⟩, nofun⟩
/- spillage/drive.Refined: .lst false 3 a0, .agg [I a1, I a2, I a3] -/
def F_drive_Refined (n : Nat) (a0 : List D) (a1 : Int) (a2 : Int) (a3 : Int) : Option (List D × Int) :=
  (F_drive_CheckModel n a0).bind fun t1 =>
  (F_drive_Spot_check_3 n a1 a2 a3).bind fun t2 =>
  (F_drive_first n ([I t1, I t2])).bind fun t3 =>
  if t3 = 0 then
    (loopF (F_drive_Refined_L1 n a0 a1 a2 a3) n (0, [])).bind fun t5 =>
    if ((t5).length : Int) = 0 then
      some ([], 18)
    else
    some (t5, 0)
  else
  some ([], t3)
theorem c_drive_Refined {n : Nat} {a0 : List D} {a1 : Int} {a2 : Int} {a3 : Int} {r : List D × Int} (h : F_drive_Refined n a0 a1 a2 a3 = some r) : Computes cx 20 [.lst false 3 a0, .agg [I a1, I a2, I a3]] (.tup [.lst false 3 r.1, I r.2]) := by
  unfold F_drive_Refined at h
  obtain ⟨t1, h1, h⟩ := bnd_of h
  obtain ⟨t2, h2, h⟩ := bnd_of h
  obtain ⟨t3, h3, h⟩ := bnd_of h
  by_cases h4 : t3 = 0
  · replace h := ite_t h h4
    obtain ⟨t5, h5, h⟩ := bnd_of h
    by_cases h6 : ((t5).length : Int) = 0
    · replace h := ite_t h h6
      replace h := Option.some.inj h
      subst h
      exact (run_fr (n := 100) (r := .tup [.lst true 0 [], I 18]) (orc := [.ret (I t1), .ret (I t2), .ret (I t3), .br false, .lp [7, 3] [3, 7, 21, 22, 23] [0, 16] (.exit 0) [(7, .own 16 0)] [(16, .row 0 3 t5)] 50, .br true]) (allC (eqt h6) (allC (loopF_to R_drive_Refined_L1 h5) (allC (nef h4) (allC (((c_drive_first h3).le (.cons (.full _ _ _) (.nil)) (.refl _)) : Computes cx 48 [.lst true 1 [I t1, I t2]] (I t3)) (allC (c_drive_Spot_check_3 h2) (allC (c_drive_CheckModel h1) allN)))))) (by kernel_rfl)).le (LEs.refl _) (.tups (.cons (.lst _ _ _ _ _ nofun (.inl rfl)) (.cons (.refl _) (.nil))))
    · replace h := ite_f h h6
      replace h := Option.some.inj h
      subst h
      exact run_fr (n := 100) (orc := [.ret (I t1), .ret (I t2), .ret (I t3), .br false, .lp [7, 3] [3, 7, 21, 22, 23] [0, 16] (.exit 0) [(7, .own 16 0)] [(16, .row 0 3 t5)] 50, .br false]) (allC (eqf h6) (allC (loopF_to R_drive_Refined_L1 h5) (allC (nef h4) (allC (((c_drive_first h3).le (.cons (.full _ _ _) (.nil)) (.refl _)) : Computes cx 48 [.lst true 1 [I t1, I t2]] (I t3)) (allC (c_drive_Spot_check_3 h2) (allC (c_drive_CheckModel h1) allN)))))) (by kernel_rfl)
  · replace h := ite_f h h4
    replace h := Option.some.inj h
    subst h
    exact (run_fr (n := 100) (r := .tup [.lst true 0 [], I t3]) (orc := [.ret (I t1), .ret (I t2), .ret (I t3), .br true]) (allC (net h4) (allC (((c_drive_first h3).le (.cons (.full _ _ _) (.nil)) (.refl _)) : Computes cx 48 [.lst true 1 [I t1, I t2]] (I t3)) (allC (c_drive_Spot_check_3 h2) (allC (c_drive_CheckModel h1) allN)))) (by kernel_rfl)).le (LEs.refl _) (.tups (.cons (.lst _ _ _ _ _ nofun (.inl rfl)) (.cons (.refl _) (.nil))))
def F_drive_Drifted_L1 (n : Nat) (a0 : List D) (a1 : Int) (a2 : Int) (sa : (Int × List D)) : Option (((Int × List D)) ⊕ ((Unit) ⊕ (List D))) :=
  if sa.1 < (((a0.take ((List.replicate (Int.toNat ((a0).length : Int)) (.agg [I 0, I 0, I 0] : D)) : List D).length ++ (List.replicate (Int.toNat ((a0).length : Int)) (.agg [I 0, I 0, I 0] : D)).drop (a0).length)).length : Int) then
    if 0 ≤ sa.1 ∧ sa.1 < ((sa.2).length : Int) then
    ((nth (sa.2) (Int.toNat sa.1)).bind un_Ai3Z).bind fun ta3 =>
    if inI64 (ta3.2.1 + a1) then
    if inI64 (ta3.2.2 + a2) then
    if 0 ≤ sa.1 ∧ sa.1 < (((List.set sa.2 (Int.toNat sa.1) (.agg [I ta3.1, I (ta3.2.1 + a1), I (ta3.2.2 + a2)] : D)) : List D).length : Int) then
    ((nth ((List.set sa.2 (Int.toNat sa.1) (.agg [I ta3.1, I (ta3.2.1 + a1), I (ta3.2.2 + a2)] : D)) : List D) (Int.toNat sa.1)).bind un_Ai3Z).bind fun ta7 =>
    (F_drive_checkEnds n ta7.2.1 ta7.2.2 2000000).bind fun ta8 =>
    if ta8 = 0 then
      if inI64 (sa.1 + 1) then
      some (.inl ((sa.1 + 1), (List.set sa.2 (Int.toNat sa.1) (.agg [I ta3.1, I (ta3.2.1 + a1), I (ta3.2.2 + a2)] : D))))
      else none
    else
    some (.inr (.inl ()))
    else none
    else none
    else none
    else none
  else
  some (.inr (.inr sa.2))
noncomputable def T_drive_Drifted_L1 (a0 : List D) (a1 : Int) (a2 : Int) (sa : (Int × List D)) : List (Nat × AV) := [(3, .ptr 0 0 0 0 0), (7, .own 14 0), (26, .d (I (((a0.take ((List.replicate (Int.toNat ((a0).length : Int)) (.agg [I 0, I 0, I 0] : D)) : List D).length ++ (List.replicate (Int.toNat ((a0).length : Int)) (.agg [I 0, I 0, I 0] : D)).drop (a0).length)).length : Int))), (27, .d (I sa.1))]
noncomputable def H_drive_Drifted_L1 (a0 : List D) (a1 : Int) (a2 : Int) (sa : (Int × List D)) : List (Nat × Blk) := [(0, .box (.d (.agg [I a1, I a2]))), (14, .row 0 3 sa.2)]
noncomputable def X_drive_Drifted_L1 (a0 : List D) (a1 : Int) (a2 : Int) (e : (Unit) ⊕ (List D)) : Ex := match e with
  | (.inl e) => .ret
  | (.inr e) => (.exit 0)
noncomputable def XT_drive_Drifted_L1 (a0 : List D) (a1 : Int) (a2 : Int) (e : (Unit) ⊕ (List D)) : List (Nat × AV) := match e with
  | (.inl e) => [(4, .d (.lst true 0 [])), (5, .d (I 4))]
  | (.inr e) => [(7, .own 14 0)]
noncomputable def XH_drive_Drifted_L1 (a0 : List D) (a1 : Int) (a2 : Int) (e : (Unit) ⊕ (List D)) : List (Nat × Blk) := match e with
  | (.inl e) => []
  | (.inr e) => [(14, .row 0 3 e)]
theorem R_drive_Drifted_L1 {n : Nat} {a0 : List D} {a1 : Int} {a2 : Int} (sa : (Int × List D)) (r) (h : F_drive_Drifted_L1 n a0 a1 a2 sa = some r) : Rd cx (loopAt cx.P 22 0) 59 0 false (T_drive_Drifted_L1 a0 a1 a2) (H_drive_Drifted_L1 a0 a1 a2) (X_drive_Drifted_L1 a0 a1 a2) (XT_drive_Drifted_L1 a0 a1 a2) (XH_drive_Drifted_L1 a0 a1 a2) sa r := by
  unfold F_drive_Drifted_L1 at h
  by_cases ha1 : sa.1 < (((a0.take ((List.replicate (Int.toNat ((a0).length : Int)) (.agg [I 0, I 0, I 0] : D)) : List D).length ++ (List.replicate (Int.toNat ((a0).length : Int)) (.agg [I 0, I 0, I 0] : D)).drop (a0).length)).length : Int)
  · replace h := ite_t h ha1
    obtain ⟨ha2, h⟩ := grd_of h
    obtain ⟨ta3, ha3, h⟩ := bnd_of h
    obtain ⟨ha4, h⟩ := grd_of h
    obtain ⟨ha5, h⟩ := grd_of h
    obtain ⟨ha6, h⟩ := grd_of h
    obtain ⟨ta7, ha7, h⟩ := bnd_of h
    obtain ⟨ta8, ha8, h⟩ := bnd_of h
    by_cases ha9 : ta8 = 0
    · replace h := ite_t h ha9
      obtain ⟨ha10, h⟩ := grd_of h
      replace h := Option.some.inj h
      subst h
      exact ⟨100, 22, [.br true, .br true, .el (enc_Ai3Z ta3), .br true, .el (enc_Ai3Z ta3), .br true, .el (enc_Ai3Z ta7), .ret (I ta8), .br false], [], [3, 7, 26, 27], [0, 14], round_fr (allC ha10 (allC (nef ha9) (allC (c_drive_checkEnds ha8) (allC (nel_ok un_Ai3Z_ok ha7) (allC ha6 (allC (nel_ok un_Ai3Z_ok ha3) (allC ha2 (allC ha5 (allC ha4 (allC (nel_ok un_Ai3Z_ok ha3) (allC ha2 (allC (decide_eq_true ha1) allN)))))))))))) (by kernel_rfl)⟩
    · replace h := ite_f h ha9
      replace h := Option.some.inj h
      subst h
      exact ⟨⟨100, 22, [.br true, .br true, .el (enc_Ai3Z ta3), .br true, .el (enc_Ai3Z ta3), .br true, .el (enc_Ai3Z ta7), .ret (I ta8), .br true], [], [4, 5], [], round_fr (allC (net ha9) (allC (c_drive_checkEnds ha8) (allC (nel_ok un_Ai3Z_ok ha7) (allC ha6 (allC (nel_ok un_Ai3Z_ok ha3) (allC ha2 (allC ha5 (allC ha4 (allC (nel_ok un_Ai3Z_ok ha3) (allC ha2 (allC (decide_eq_true ha1) allN))))))))))) (by kernel_rfl)⟩, nofun⟩
  · replace h := ite_f h ha1
    replace h := Option.some.inj h
    subst h
    exact ⟨⟨100, 22, [.br false], [], [7], [14], round_fr (allC (decide_eq_false ha1) allN) (by kernel_rfl)⟩, nofun⟩
/- spillage/drive.Drifted: .lst false 3 a0, .agg [I a1, I a2] -/
def F_drive_Drifted (n : Nat) (a0 : List D) (a1 : Int) (a2 : Int) : Option (List D × Int) :=
  (F_drive_CheckModel n a0).bind fun t1 =>
  (F_drive_checkEnds n a1 a2 1000000).bind fun t2 =>
  (F_drive_first n ([I t1, I t2])).bind fun t3 =>
  if t3 = 0 then
    if 0 ≤ ((a0).length : Int) ∧ ((a0).length : Int) ≤ ((a0).length : Int) ∧ 24 * ((a0).length : Int) ≤ 281474976710656 ∧ ((a0).length : Int) ≤ 9223372036854775807 then
    (loopF (F_drive_Drifted_L1 n a0 a1 a2) n (0, (a0.take ((List.replicate (Int.toNat ((a0).length : Int)) (.agg [I 0, I 0, I 0] : D)) : List D).length ++ (List.replicate (Int.toNat ((a0).length : Int)) (.agg [I 0, I 0, I 0] : D)).drop (a0).length))).bind fun t6 => match t6 with
      | (.inl t6) => (
        some ([], 4))
      | (.inr t6) => (
        some (t6, 0))
    else none
  else
  some ([], t3)
theorem c_drive_Drifted {n : Nat} {a0 : List D} {a1 : Int} {a2 : Int} {r : List D × Int} (h : F_drive_Drifted n a0 a1 a2 = some r) : Computes cx 22 [.lst false 3 a0, .agg [I a1, I a2]] (.tup [.lst false 3 r.1, I r.2]) := by
  unfold F_drive_Drifted at h
  obtain ⟨t1, h1, h⟩ := bnd_of h
  obtain ⟨t2, h2, h⟩ := bnd_of h
  obtain ⟨t3, h3, h⟩ := bnd_of h
  by_cases h4 : t3 = 0
  · replace h := ite_t h h4
    obtain ⟨h5, h⟩ := grd_of h
    obtain ⟨t6, h6, h⟩ := bnd_of h
    rcases t6 with t6 | t6
    · replace h := Option.some.inj h
      subst h
      exact (run_fr (n := 100) (r := .tup [.lst true 0 [], I 4]) (orc := [.ret (I t1), .ret (I t2), .ret (I t3), .br false, .br true, .lp [] [3, 7, 26, 27] [0, 14] .ret [(4, .d (.lst true 0 [])), (5, .d (I 4))] [] 68]) (allC (loopF_to R_drive_Drifted_L1 h6) (allC h5 (allC (nef h4) (allC (((c_drive_first h3).le (.cons (.full _ _ _) (.nil)) (.refl _)) : Computes cx 48 [.lst true 1 [I t1, I t2]] (I t3)) (allC (c_drive_checkEnds h2) (allC (c_drive_CheckModel h1) allN)))))) (by kernel_rfl)).le (LEs.refl _) (.tups (.cons (.lst _ _ _ _ _ nofun (.inl rfl)) (.cons (.refl _) (.nil))))
    · replace h := Option.some.inj h
      subst h
      exact run_fr (n := 100) (orc := [.ret (I t1), .ret (I t2), .ret (I t3), .br false, .br true, .lp [] [3, 7, 26, 27] [0, 14] (.exit 0) [(7, .own 14 0)] [(14, .row 0 3 t6)] 68]) (allC (loopF_to R_drive_Drifted_L1 h6) (allC h5 (allC (nef h4) (allC (((c_drive_first h3).le (.cons (.full _ _ _) (.nil)) (.refl _)) : Computes cx 48 [.lst true 1 [I t1, I t2]] (I t3)) (allC (c_drive_checkEnds h2) (allC (c_drive_CheckModel h1) allN)))))) (by kernel_rfl)
  · replace h := ite_f h h4
    replace h := Option.some.inj h
    subst h
    exact (run_fr (n := 100) (r := .tup [.lst true 0 [], I t3]) (orc := [.ret (I t1), .ret (I t2), .ret (I t3), .br true]) (allC (net h4) (allC (((c_drive_first h3).le (.cons (.full _ _ _) (.nil)) (.refl _)) : Computes cx 48 [.lst true 1 [I t1, I t2]] (I t3)) (allC (c_drive_checkEnds h2) (allC (c_drive_CheckModel h1) allN)))) (by kernel_rfl)).le (LEs.refl _) (.tups (.cons (.lst _ _ _ _ _ nofun (.inl rfl)) (.cons (.refl _) (.nil))))
def F_drive_Pairs_L1 (n : Nat) (a0 : List D) (sa : (Int × Int)) : Option (((Int × Int)) ⊕ ((Int))) :=
  if sa.2 < ((a0).length : Int) then
    (el un_Ai3Z a0 sa.2).bind fun ta2 =>
    if inI64 (ta2.2.2 - ta2.2.1) then
    if inI64 ((ta2.2.2 - ta2.2.1) + 1) then
    if inI64 (sa.1 + ((ta2.2.2 - ta2.2.1) + 1)) then
    if inI64 (sa.2 + 1) then
    some (.inl ((sa.1 + ((ta2.2.2 - ta2.2.1) + 1)), (sa.2 + 1)))
    else none
    else none
    else none
    else none
  else
  some (.inr sa.1)
noncomputable def T_drive_Pairs_L1 (a0 : List D) (sa : (Int × Int)) : List (Nat × AV) := [(5, .d (I sa.1)), (13, .d (.lst false 3 a0)), (14, .d (I ((a0).length : Int))), (15, .d (I sa.2))]
noncomputable def H_drive_Pairs_L1 (a0 : List D) (sa : (Int × Int)) : List (Nat × Blk) := []
noncomputable def X_drive_Pairs_L1 (a0 : List D) (e : (Int)) : Ex := (.exit 0)
noncomputable def XT_drive_Pairs_L1 (a0 : List D) (e : (Int)) : List (Nat × AV) := [(5, .d (I e))]
noncomputable def XH_drive_Pairs_L1 (a0 : List D) (e : (Int)) : List (Nat × Blk) := []
theorem R_drive_Pairs_L1 {n : Nat} {a0 : List D} (sa : (Int × Int)) (r) (h : F_drive_Pairs_L1 n a0 sa = some r) : Rd cx (loopAt cx.P 23 0) 31 0 false (T_drive_Pairs_L1 a0) (H_drive_Pairs_L1 a0) (X_drive_Pairs_L1 a0) (XT_drive_Pairs_L1 a0) (XH_drive_Pairs_L1 a0) sa r := by
  unfold F_drive_Pairs_L1 at h
  by_cases ha1 : sa.2 < ((a0).length : Int)
  · replace h := ite_t h ha1
    obtain ⟨ta2, ha2, h⟩ := bnd_of h
    obtain ⟨ha3, h⟩ := grd_of h
    obtain ⟨ha4, h⟩ := grd_of h
    obtain ⟨ha5, h⟩ := grd_of h
    obtain ⟨ha6, h⟩ := grd_of h
    replace h := Option.some.inj h
    subst h
    exact ⟨100, 11, [.br true, .el (enc_Ai3Z ta2)], [], [5, 13, 14, 15], [], round_fr (allC ha6 (allC ha5 (allC ha4 (allC ha3 (allC (el_ok un_Ai3Z_ok ha2).1 (allC (el_ok un_Ai3Z_ok ha2).2 (allC (decide_eq_true ha1) allN))))))) (by kernel_rfl)⟩
  · replace h := ite_f h ha1
    replace h := Option.some.inj h
    subst h
    exact ⟨⟨100, 11, [.br false], [], [5], [], round_fr (allC (decide_eq_false ha1) allN) (by kernel_rfl)⟩, nofun⟩
/- spillage/drive.Pairs: .lst false 3 a0 -/
def F_drive_Pairs (n : Nat) (a0 : List D) : Option (Int × Int) :=
  (F_drive_CheckModel n a0).bind fun t1 =>
  if t1 = 0 then
    (loopF (F_drive_Pairs_L1 n a0) n (0, 0)).bind fun t3 =>
    some (t3, 0)
  else
  some (0, t1)
theorem c_drive_Pairs {n : Nat} {a0 : List D} {r : Int × Int} (h : F_drive_Pairs n a0 = some r) : Computes cx 23 [.lst false 3 a0] (.tup [I r.1, I r.2]) := by
  unfold F_drive_Pairs at h
  obtain ⟨t1, h1, h⟩ := bnd_of h
  by_cases h2 : t1 = 0
  · replace h := ite_t h h2
    obtain ⟨t3, h3, h⟩ := bnd_of h
    replace h := Option.some.inj h
    subst h
    exact run_fr (n := 100) (orc := [.ret (I t1), .br false, .lp [] [5, 13, 14, 15] [] (.exit 0) [(5, .d (I t3))] [] 40]) (allC (loopF_to R_drive_Pairs_L1 h3) (allC (nef h2) (allC (c_drive_CheckModel h1) allN))) (by kernel_rfl)
  · replace h := ite_f h h2
    replace h := Option.some.inj h
    subst h
    exact run_fr (n := 100) (orc := [.ret (I t1), .br true]) (allC (net h2) (allC (c_drive_CheckModel h1) allN)) (by kernel_rfl)
/- spillage/drive.end: .agg [I a0, I a1], .agg [I a2, I a3] -/
def F_drive_end (n : Nat) (a0 : Int) (a1 : Int) (a2 : Int) (a3 : Int) : Option (Int) :=
  if inI64 (a2 * a0) then
  if inI64 (a3 * a1) then
  if inI64 ((a2 * a0) + (a3 * a1)) then
  some ((a2 * a0) + (a3 * a1))
  else none
  else none
  else none
theorem c_drive_end {n : Nat} {a0 : Int} {a1 : Int} {a2 : Int} {a3 : Int} {r : Int} (h : F_drive_end n a0 a1 a2 a3 = some r) : Computes cx 87 [.agg [I a0, I a1], .agg [I a2, I a3]] (I r) := by
  unfold F_drive_end at h
  obtain ⟨h1, h⟩ := grd_of h
  obtain ⟨h2, h⟩ := grd_of h
  obtain ⟨h3, h⟩ := grd_of h
  replace h := Option.some.inj h
  subst h
  exact run_fr (n := 100) (orc := []) (allC h3 (allC h2 (allC h1 allN))) (by kernel_rfl)
def F_slices_Min_g_2_L1 (n : Nat) (a0 : List D) (sa : (Int × Int)) : Option (((Int × Int)) ⊕ ((Int))) :=
  if sa.2 < ((a0).length : Int) then
    (el un_i a0 sa.2).bind fun ta2 =>
    if inI64 (sa.2 + 1) then
    some (.inl ((minI sa.1 ta2), (sa.2 + 1)))
    else none
  else
  some (.inr sa.1)
noncomputable def T_slices_Min_g_2_L1 (a0 : List D) (sa : (Int × Int)) : List (Nat × AV) := [(0, .d (.lst false 1 a0)), (3, .d (I sa.1)), (4, .d (I sa.2))]
noncomputable def H_slices_Min_g_2_L1 (a0 : List D) (sa : (Int × Int)) : List (Nat × Blk) := []
noncomputable def X_slices_Min_g_2_L1 (a0 : List D) (e : (Int)) : Ex := (.exit 0)
noncomputable def XT_slices_Min_g_2_L1 (a0 : List D) (e : (Int)) : List (Nat × AV) := [(3, .d (I e))]
noncomputable def XH_slices_Min_g_2_L1 (a0 : List D) (e : (Int)) : List (Nat × Blk) := []
theorem R_slices_Min_g_2_L1 {n : Nat} {a0 : List D} (sa : (Int × Int)) (r) (h : F_slices_Min_g_2_L1 n a0 sa = some r) : Rd cx (loopAt cx.P 88 0) 25 0 false (T_slices_Min_g_2_L1 a0) (H_slices_Min_g_2_L1 a0) (X_slices_Min_g_2_L1 a0) (XT_slices_Min_g_2_L1 a0) (XH_slices_Min_g_2_L1 a0) sa r := by
  unfold F_slices_Min_g_2_L1 at h
  by_cases ha1 : sa.2 < ((a0).length : Int)
  · replace h := ite_t h ha1
    obtain ⟨ta2, ha2, h⟩ := bnd_of h
    obtain ⟨ha3, h⟩ := grd_of h
    replace h := Option.some.inj h
    subst h
    exact ⟨100, 9, [.br true, .el (enc_i ta2)], [], [0, 3, 4], [], round_fr (allC ha3 (allC (el_ok un_i_ok ha2).1 (allC (el_ok un_i_ok ha2).2 (allC (decide_eq_true ha1) allN)))) (by kernel_rfl)⟩
  · replace h := ite_f h ha1
    replace h := Option.some.inj h
    subst h
    exact ⟨⟨100, 9, [.br false], [], [3], [], round_fr (allC (decide_eq_false ha1) allN) (by kernel_rfl)⟩, nofun⟩
/- slices.Min[[]int,int]: .lst false 1 a0 -/
def F_slices_Min_g_2 (n : Nat) (a0 : List D) : Option (Int) :=
  if ((a0).length : Int) < 1 then
    none /- operation makeInterface at sort.go:67 -/
  else
  (el un_i a0 0).bind fun t2 =>
  (loopF (F_slices_Min_g_2_L1 n a0) n (t2, 1)).bind fun t3 =>
  some t3
theorem c_slices_Min_g_2 {n : Nat} {a0 : List D} {r : Int} (h : F_slices_Min_g_2 n a0 = some r) : Computes cx 88 [.lst false 1 a0] (I r) := by
  unfold F_slices_Min_g_2 at h
  by_cases h1 : ((a0).length : Int) < 1
  · replace h := ite_t h h1
    cases h
  · replace h := ite_f h h1
    obtain ⟨t2, h2, h⟩ := bnd_of h
    obtain ⟨t3, h3, h⟩ := bnd_of h
    replace h := Option.some.inj h
    subst h
    exact run_fr (n := 100) (orc := [.br false, .el (enc_i t2), .lp [] [0, 3, 4] [] (.exit 0) [(3, .d (I t3))] [] 34]) (allC (loopF_to R_slices_Min_g_2_L1 h3) (allC (el_ok un_i_ok h2).1 (allC (el_ok un_i_ok h2).2 (allC (decide_eq_false h1) allN)))) (by kernel_rfl)
def F_slices_Max_g_2_L1 (n : Nat) (a0 : List D) (sa : (Int × Int)) : Option (((Int × Int)) ⊕ ((Int))) :=
  if sa.2 < ((a0).length : Int) then
    (el un_i a0 sa.2).bind fun ta2 =>
    if inI64 (sa.2 + 1) then
    some (.inl ((maxI sa.1 ta2), (sa.2 + 1)))
    else none
  else
  some (.inr sa.1)
noncomputable def T_slices_Max_g_2_L1 (a0 : List D) (sa : (Int × Int)) : List (Nat × AV) := [(0, .d (.lst false 1 a0)), (3, .d (I sa.1)), (4, .d (I sa.2))]
noncomputable def H_slices_Max_g_2_L1 (a0 : List D) (sa : (Int × Int)) : List (Nat × Blk) := []
noncomputable def X_slices_Max_g_2_L1 (a0 : List D) (e : (Int)) : Ex := (.exit 0)
noncomputable def XT_slices_Max_g_2_L1 (a0 : List D) (e : (Int)) : List (Nat × AV) := [(3, .d (I e))]
noncomputable def XH_slices_Max_g_2_L1 (a0 : List D) (e : (Int)) : List (Nat × Blk) := []
theorem R_slices_Max_g_2_L1 {n : Nat} {a0 : List D} (sa : (Int × Int)) (r) (h : F_slices_Max_g_2_L1 n a0 sa = some r) : Rd cx (loopAt cx.P 89 0) 25 0 false (T_slices_Max_g_2_L1 a0) (H_slices_Max_g_2_L1 a0) (X_slices_Max_g_2_L1 a0) (XT_slices_Max_g_2_L1 a0) (XH_slices_Max_g_2_L1 a0) sa r := by
  unfold F_slices_Max_g_2_L1 at h
  by_cases ha1 : sa.2 < ((a0).length : Int)
  · replace h := ite_t h ha1
    obtain ⟨ta2, ha2, h⟩ := bnd_of h
    obtain ⟨ha3, h⟩ := grd_of h
    replace h := Option.some.inj h
    subst h
    exact ⟨100, 9, [.br true, .el (enc_i ta2)], [], [0, 3, 4], [], round_fr (allC ha3 (allC (el_ok un_i_ok ha2).1 (allC (el_ok un_i_ok ha2).2 (allC (decide_eq_true ha1) allN)))) (by kernel_rfl)⟩
  · replace h := ite_f h ha1
    replace h := Option.some.inj h
    subst h
    exact ⟨⟨100, 9, [.br false], [], [3], [], round_fr (allC (decide_eq_false ha1) allN) (by kernel_rfl)⟩, nofun⟩
/- slices.Max[[]int,int]: .lst false 1 a0 -/
def F_slices_Max_g_2 (n : Nat) (a0 : List D) : Option (Int) :=
  if ((a0).length : Int) < 1 then
    none /- operation makeInterface at sort.go:97 -/
  else
  (el un_i a0 0).bind fun t2 =>
  (loopF (F_slices_Max_g_2_L1 n a0) n (t2, 1)).bind fun t3 =>
  some t3
theorem c_slices_Max_g_2 {n : Nat} {a0 : List D} {r : Int} (h : F_slices_Max_g_2 n a0 = some r) : Computes cx 89 [.lst false 1 a0] (I r) := by
  unfold F_slices_Max_g_2 at h
  by_cases h1 : ((a0).length : Int) < 1
  · replace h := ite_t h h1
    cases h
  · replace h := ite_f h h1
    obtain ⟨t2, h2, h⟩ := bnd_of h
    obtain ⟨t3, h3, h⟩ := bnd_of h
    replace h := Option.some.inj h
    subst h
    exact run_fr (n := 100) (orc := [.br false, .el (enc_i t2), .lp [] [0, 3, 4] [] (.exit 0) [(3, .d (I t3))] [] 34]) (allC (loopF_to R_slices_Max_g_2_L1 h3) (allC (el_ok un_i_ok h2).1 (allC (el_ok un_i_ok h2).2 (allC (decide_eq_false h1) allN)))) (by kernel_rfl)
def F_drive_places_L1 (n : Nat) (a0 : List D) (a1 : Int) (a2 : Int) (sa : (Unit) ⊕ (Int × List D)) : Option (((Unit) ⊕ (Int × List D)) ⊕ ((Unit) ⊕ (List D))) := match sa with
  | (.inl sa) => (
    if 0 < ((a0).length : Int) then
      (el un_Ai3Z a0 0).bind fun ta2 =>
      (F_drive_end n ta2.2.1 ta2.2.2 1 0).bind fun ta3 =>
      (F_drive_end n a1 a2 1 0).bind fun ta4 =>
      if inI64 (ta2.1 * ta4) then
      if inI64 (ta3 + (ta2.1 * ta4)) then
      (F_drive_end n a1 a2 0 1).bind fun ta7 =>
      if inI64 (ta2.1 * ta7) then
      if inI64 (ta3 + (ta2.1 * ta7)) then
      (F_drive_end n ta2.2.1 ta2.2.2 0 1).bind fun ta10 =>
      if inI64 (ta10 + (ta2.1 * ta4)) then
      if inI64 (ta10 + (ta2.1 * ta7)) then
      some (.inl (.inr (1, [I (ta3 + (ta2.1 * ta4)), I (ta3 + (ta2.1 * ta7)), I (ta10 + (ta2.1 * ta4)), I (ta10 + (ta2.1 * ta7))])))
      else none
      else none
      else none
      else none
      else none
      else none
    else
    some (.inr (.inl ())))
  | (.inr sa) => (
    if sa.1 < ((a0).length : Int) then
      (el un_Ai3Z a0 sa.1).bind fun ta2 =>
      (F_drive_end n ta2.2.1 ta2.2.2 1 0).bind fun ta3 =>
      (F_drive_end n a1 a2 1 0).bind fun ta4 =>
      if inI64 (ta2.1 * ta4) then
      if inI64 (ta3 + (ta2.1 * ta4)) then
      if roomP 8 ((sa.2).length + 1) then
      (F_drive_end n a1 a2 0 1).bind fun ta8 =>
      if inI64 (ta2.1 * ta8) then
      if inI64 (ta3 + (ta2.1 * ta8)) then
      if roomP 8 (((sa.2 ++ ([I (ta3 + (ta2.1 * ta4))] : List D)) : List D).length + 1) then
      (F_drive_end n ta2.2.1 ta2.2.2 0 1).bind fun ta12 =>
      if inI64 (ta12 + (ta2.1 * ta4)) then
      if roomP 8 ((((sa.2 ++ ([I (ta3 + (ta2.1 * ta4))] : List D)) ++ ([I (ta3 + (ta2.1 * ta8))] : List D)) : List D).length + 1) then
      if inI64 (ta12 + (ta2.1 * ta8)) then
      if roomP 8 (((((sa.2 ++ ([I (ta3 + (ta2.1 * ta4))] : List D)) ++ ([I (ta3 + (ta2.1 * ta8))] : List D)) ++ ([I (ta12 + (ta2.1 * ta4))] : List D)) : List D).length + 1) then
      if inI64 (sa.1 + 1) then
      some (.inl (.inr ((sa.1 + 1), ((((sa.2 ++ ([I (ta3 + (ta2.1 * ta4))] : List D)) ++ ([I (ta3 + (ta2.1 * ta8))] : List D)) ++ ([I (ta12 + (ta2.1 * ta4))] : List D)) ++ ([I (ta12 + (ta2.1 * ta8))] : List D)))))
      else none
      else none
      else none
      else none
      else none
      else none
      else none
      else none
      else none
      else none
      else none
    else
    some (.inr (.inr sa.2)))
noncomputable def T_drive_places_L1 (a0 : List D) (a1 : Int) (a2 : Int) (sa : (Unit) ⊕ (Int × List D)) : List (Nat × AV) := match sa with
  | (.inl sa) => [(0, .own 9 0), (7, .d (.lst false 3 a0)), (8, .d (I ((a0).length : Int))), (9, .d (I 0))]
  | (.inr sa) => [(0, .own 9 0), (7, .d (.lst false 3 a0)), (8, .d (I ((a0).length : Int))), (9, .d (I sa.1))]
noncomputable def H_drive_places_L1 (a0 : List D) (a1 : Int) (a2 : Int) (sa : (Unit) ⊕ (Int × List D)) : List (Nat × Blk) := match sa with
  | (.inl sa) => [(0, .box (.d (.agg [I a1, I a2]))), (1, .box (.d (.agg [I 0, I 0]))), (2, .box (.d (.lst true 0 []))), (5, .box (.d (.lst false 3 a0))), (9, .loop true [(10, .fn (.func 107) [] [.ptr 5 0 0 0 0]), (9, .d (.lst false 3 a0)), (5, .ptr 2 0 0 0 0), (4, .ptr 1 0 0 0 0), (3, .ptr 0 0 0 0 0), (1, .d (.agg [I a1, I a2])), (0, .d (.lst false 3 a0))] [11] (rangeAt cx.P 56 0).1 (rangeAt cx.P 56 0).2 34)]
  | (.inr sa) => [(0, .box (.d (.agg [I a1, I a2]))), (1, .box (.d (.agg [I 0, I 0]))), (2, .box (.own 53 0)), (5, .box (.d (.lst false 3 a0))), (9, .loop true [(10, .fn (.func 107) [] [.ptr 5 0 0 0 0]), (9, .d (.lst false 3 a0)), (5, .ptr 2 0 0 0 0), (4, .ptr 1 0 0 0 0), (3, .ptr 0 0 0 0 0), (1, .d (.agg [I a1, I a2])), (0, .d (.lst false 3 a0))] [11] (rangeAt cx.P 56 0).1 (rangeAt cx.P 56 0).2 34), (53, .row 0 1 sa.2)]
noncomputable def X_drive_places_L1 (a0 : List D) (a1 : Int) (a2 : Int) (e : (Unit) ⊕ (List D)) : Ex := match e with
  | (.inl e) => (.exit 0)
  | (.inr e) => (.exit 0)
noncomputable def XT_drive_places_L1 (a0 : List D) (a1 : Int) (a2 : Int) (e : (Unit) ⊕ (List D)) : List (Nat × AV) := match e with
  | (.inl e) => []
  | (.inr e) => []
noncomputable def XH_drive_places_L1 (a0 : List D) (a1 : Int) (a2 : Int) (e : (Unit) ⊕ (List D)) : List (Nat × Blk) := match e with
  | (.inl e) => [(0, .box (.d (.agg [I a1, I a2]))), (1, .box (.d (.agg [I 0, I 0]))), (2, .box (.d (.lst true 0 []))), (5, .box (.d (.lst false 3 a0))), (9, .loop true [(10, .fn (.func 107) [] [.ptr 5 0 0 0 0]), (9, .d (.lst false 3 a0)), (5, .ptr 2 0 0 0 0), (4, .ptr 1 0 0 0 0), (3, .ptr 0 0 0 0 0), (1, .d (.agg [I a1, I a2])), (0, .d (.lst false 3 a0))] [11] (rangeAt cx.P 56 0).1 (rangeAt cx.P 56 0).2 34)]
  | (.inr e) => [(0, .box (.d (.agg [I a1, I a2]))), (1, .box (.d (.agg [I 0, I 0]))), (2, .box (.own 53 0)), (5, .box (.d (.lst false 3 a0))), (9, .loop true [(10, .fn (.func 107) [] [.ptr 5 0 0 0 0]), (9, .d (.lst false 3 a0)), (5, .ptr 2 0 0 0 0), (4, .ptr 1 0 0 0 0), (3, .ptr 0 0 0 0 0), (1, .d (.agg [I a1, I a2])), (0, .d (.lst false 3 a0))] [11] (rangeAt cx.P 56 0).1 (rangeAt cx.P 56 0).2 34), (53, .row 0 1 e)]
theorem R_drive_places_L1 {n : Nat} {a0 : List D} {a1 : Int} {a2 : Int} (sa : (Unit) ⊕ (Int × List D)) (r) (h : F_drive_places_L1 n a0 a1 a2 sa = some r) : Rd cx (loopAt cx.P 107 0) 29 10 false (T_drive_places_L1 a0 a1 a2) (H_drive_places_L1 a0 a1 a2) (X_drive_places_L1 a0 a1 a2) (XT_drive_places_L1 a0 a1 a2) (XH_drive_places_L1 a0 a1 a2) sa r := by
  unfold F_drive_places_L1 at h
  rcases sa with sa | sa
  · by_cases ha1 : 0 < ((a0).length : Int)
    · replace h := ite_t h ha1
      obtain ⟨ta2, ha2, h⟩ := bnd_of h
      obtain ⟨ta3, ha3, h⟩ := bnd_of h
      obtain ⟨ta4, ha4, h⟩ := bnd_of h
      obtain ⟨ha5, h⟩ := grd_of h
      obtain ⟨ha6, h⟩ := grd_of h
      obtain ⟨ta7, ha7, h⟩ := bnd_of h
      obtain ⟨ha8, h⟩ := grd_of h
      obtain ⟨ha9, h⟩ := grd_of h
      obtain ⟨ta10, ha10, h⟩ := bnd_of h
      obtain ⟨ha11, h⟩ := grd_of h
      obtain ⟨ha12, h⟩ := grd_of h
      replace h := Option.some.inj h
      subst h
      exact ⟨100, 13, [.br true, .el (enc_Ai3Z ta2), .no, .no, .ret (I ta3), .no, .no, .ret (I ta4), .no, .no, .no, .no, .ret (I ta7), .no, .no, .no, .no, .no, .no, .ret (I ta10), .no, .no, .ret (I ta4), .no, .no, .no, .ret (I ta7), .no, .no, .no, .no, .no, .no], [], [0, 7, 8, 9], [0, 1, 2, 5, 9, 53], round_fr (allC ((by unfold inI64; omega) : inI64 1) (allC ((by unfold inI64; omega) : inI64 2) (allC ((by unfold inI64; omega) : inI64 2) (allC ha12 (allC ha8 (allC (c_drive_end ha7) (allC ((by unfold inI64; omega) : inI64 1) (allC ha11 (allC ha5 (allC (c_drive_end ha4) (allC (c_drive_end ha10) (allC ((by unfold inI64; omega) : inI64 1) (allC ((by unfold inI64; omega) : inI64 2) (allC ha9 (allC ha8 (allC (c_drive_end ha7) (allC ((by unfold inI64; omega) : inI64 1) (allC ha6 (allC ha5 (allC (c_drive_end ha4) (allC (c_drive_end ha3) (allC (el_ok un_Ai3Z_ok ha2).1 (allC (el_ok un_Ai3Z_ok ha2).2 (allC (decide_eq_true ha1) allN)))))))))))))))))))))))) (by kernel_rfl)⟩
    · replace h := ite_f h ha1
      replace h := Option.some.inj h
      subst h
      exact ⟨⟨100, 13, [.br false], [], [], [0, 1, 2, 5, 9], round_fr (allC (decide_eq_false ha1) allN) (by kernel_rfl)⟩, nofun⟩
  · by_cases ha1 : sa.1 < ((a0).length : Int)
    · replace h := ite_t h ha1
      obtain ⟨ta2, ha2, h⟩ := bnd_of h
      obtain ⟨ta3, ha3, h⟩ := bnd_of h
      obtain ⟨ta4, ha4, h⟩ := bnd_of h
      obtain ⟨ha5, h⟩ := grd_of h
      obtain ⟨ha6, h⟩ := grd_of h
      obtain ⟨ha7, h⟩ := grd_of h
      obtain ⟨ta8, ha8, h⟩ := bnd_of h
      obtain ⟨ha9, h⟩ := grd_of h
      obtain ⟨ha10, h⟩ := grd_of h
      obtain ⟨ha11, h⟩ := grd_of h
      obtain ⟨ta12, ha12, h⟩ := bnd_of h
      obtain ⟨ha13, h⟩ := grd_of h
      obtain ⟨ha14, h⟩ := grd_of h
      obtain ⟨ha15, h⟩ := grd_of h
      obtain ⟨ha16, h⟩ := grd_of h
      obtain ⟨ha17, h⟩ := grd_of h
      replace h := Option.some.inj h
      subst h
      exact ⟨100, 54, [.br true, .el (enc_Ai3Z ta2), .no, .no, .ret (I ta3), .no, .no, .ret (I ta4), .br true, .no, .no, .ret (I ta8), .br true, .no, .no, .no, .no, .no, .ret (I ta12), .no, .no, .ret (I ta4), .br true, .no, .no, .ret (I ta8), .br true, .no, .no, .no, .no, .no], [], [0, 7, 8, 9], [0, 1, 2, 5, 9, 53], round_fr (allC ha17 (allC ((by unfold inI64; omega) : inI64 2) (allC ((by unfold inI64; omega) : inI64 2) (allC ((room_of (b := 8) (by kernel_rfl) (by decide) ha16) : room cx 3 (((((sa.2 ++ ([I (ta3 + (ta2.1 * ta4))] : List D)) ++ ([I (ta3 + (ta2.1 * ta8))] : List D)) ++ ([I (ta12 + (ta2.1 * ta4))] : List D)) : List D).length + 1)) (allC ha15 (allC ha9 (allC (c_drive_end ha8) (allC ((by unfold inI64; omega) : inI64 1) (allC ((room_of (b := 8) (by kernel_rfl) (by decide) ha14) : room cx 3 ((((sa.2 ++ ([I (ta3 + (ta2.1 * ta4))] : List D)) ++ ([I (ta3 + (ta2.1 * ta8))] : List D)) : List D).length + 1)) (allC ha13 (allC ha5 (allC (c_drive_end ha4) (allC (c_drive_end ha12) (allC ((by unfold inI64; omega) : inI64 1) (allC ((by unfold inI64; omega) : inI64 2) (allC ((room_of (b := 8) (by kernel_rfl) (by decide) ha11) : room cx 3 (((sa.2 ++ ([I (ta3 + (ta2.1 * ta4))] : List D)) : List D).length + 1)) (allC ha10 (allC ha9 (allC (c_drive_end ha8) (allC ((by unfold inI64; omega) : inI64 1) (allC ((room_of (b := 8) (by kernel_rfl) (by decide) ha7) : room cx 3 ((sa.2).length + 1)) (allC ha6 (allC ha5 (allC (c_drive_end ha4) (allC (c_drive_end ha3) (allC (el_ok un_Ai3Z_ok ha2).1 (allC (el_ok un_Ai3Z_ok ha2).2 (allC (decide_eq_true ha1) allN)))))))))))))))))))))))))))) (by kernel_rfl)⟩
    · replace h := ite_f h ha1
      replace h := Option.some.inj h
      subst h
      exact ⟨⟨100, 54, [.br false], [], [], [0, 1, 2, 5, 9, 53], round_fr (allC (decide_eq_false ha1) allN) (by kernel_rfl)⟩, nofun⟩
/- spillage/drive.places: .lst false 3 a0, .agg [I a1, I a2] -/
def F_drive_places (n : Nat) (a0 : List D) (a1 : Int) (a2 : Int) : Option (Int × Int) :=
  (loopF (F_drive_places_L1 n a0 a1 a2) n (.inl ())).bind fun t1 => match t1 with
    | (.inl t1) => (
      (F_slices_Min_g_2 n ([])).bind fun t2 =>
      (F_slices_Max_g_2 n ([])).bind fun t3 =>
      some (t2, t3))
    | (.inr t1) => (
      (F_slices_Min_g_2 n t1).bind fun t2 =>
      (F_slices_Max_g_2 n t1).bind fun t3 =>
      some (t2, t3))
theorem c_drive_places {n : Nat} {a0 : List D} {a1 : Int} {a2 : Int} {r : Int × Int} (h : F_drive_places n a0 a1 a2 = some r) : Computes cx 56 [.lst false 3 a0, .agg [I a1, I a2]] (.agg [I r.1, I r.2]) := by
  unfold F_drive_places at h
  obtain ⟨t1, h1, h⟩ := bnd_of h
  rcases t1 with t1 | t1
  · obtain ⟨t2, h2, h⟩ := bnd_of h
    obtain ⟨t3, h3, h⟩ := bnd_of h
    replace h := Option.some.inj h
    subst h
    exact run_fr (n := 100) (orc := [.br true, .lp [] [0, 7, 8, 9] [0, 1, 2, 5, 9] (.exit 0) [] [(0, .box (.d (.agg [I a1, I a2]))), (1, .box (.d (.agg [I 0, I 0]))), (2, .box (.d (.lst true 0 []))), (5, .box (.d (.lst false 3 a0))), (9, .loop true [(10, .fn (.func 107) [] [.ptr 5 0 0 0 0]), (9, .d (.lst false 3 a0)), (5, .ptr 2 0 0 0 0), (4, .ptr 1 0 0 0 0), (3, .ptr 0 0 0 0 0), (1, .d (.agg [I a1, I a2])), (0, .d (.lst false 3 a0))] [11] (rangeAt cx.P 56 0).1 (rangeAt cx.P 56 0).2 34)] 193, .ret (I t2), .ret (I t3)]) (allC (((c_slices_Max_g_2 h3).le (.cons (.lst _ _ _ _ _ nofun (.inl rfl)) (.nil)) (.refl _)) : Computes cx 89 [.lst true 0 []] (I t3)) (allC (((c_slices_Min_g_2 h2).le (.cons (.lst _ _ _ _ _ nofun (.inl rfl)) (.nil)) (.refl _)) : Computes cx 88 [.lst true 0 []] (I t2)) (allC (loopF_to R_drive_places_L1 h1) allN))) (by kernel_rfl)
  · obtain ⟨t2, h2, h⟩ := bnd_of h
    obtain ⟨t3, h3, h⟩ := bnd_of h
    replace h := Option.some.inj h
    subst h
    exact run_fr (n := 100) (orc := [.br true, .lp [] [0, 7, 8, 9] [0, 1, 2, 5, 9] (.exit 0) [] [(0, .box (.d (.agg [I a1, I a2]))), (1, .box (.d (.agg [I 0, I 0]))), (2, .box (.own 53 0)), (5, .box (.d (.lst false 3 a0))), (9, .loop true [(10, .fn (.func 107) [] [.ptr 5 0 0 0 0]), (9, .d (.lst false 3 a0)), (5, .ptr 2 0 0 0 0), (4, .ptr 1 0 0 0 0), (3, .ptr 0 0 0 0 0), (1, .d (.agg [I a1, I a2])), (0, .d (.lst false 3 a0))] [11] (rangeAt cx.P 56 0).1 (rangeAt cx.P 56 0).2 34), (53, .row 0 1 t1)] 193, .lp [] [] [53] .ret [] [] 0, .ret (I t2), .ret (I t3)]) (allC (c_slices_Max_g_2 h3) (allC (c_slices_Min_g_2 h2) (allC (loopF_to R_drive_places_L1 h1) allN))) (by kernel_rfl)
/- spillage/drive.Within: .lst false 3 a0, .agg [I a1, I a2] -/
def F_drive_Within (n : Nat) (a0 : List D) (a1 : Int) (a2 : Int) : Option (Int × Int × Int) :=
  (F_drive_CheckModel n a0).bind fun t1 =>
  (F_drive_checkEnds n a1 a2 1000).bind fun t2 =>
  (F_drive_first n ([I t1, I t2])).bind fun t3 =>
  if t3 = 0 then
    (F_drive_places n a0 a1 a2).bind fun t5 =>
    some (t5.1, t5.2, 0)
  else
  some (0, 0, t3)
theorem c_drive_Within {n : Nat} {a0 : List D} {a1 : Int} {a2 : Int} {r : Int × Int × Int} (h : F_drive_Within n a0 a1 a2 = some r) : Computes cx 24 [.lst false 3 a0, .agg [I a1, I a2]] (.tup [.agg [I r.1, I r.2.1], I r.2.2]) := by
  unfold F_drive_Within at h
  obtain ⟨t1, h1, h⟩ := bnd_of h
  obtain ⟨t2, h2, h⟩ := bnd_of h
  obtain ⟨t3, h3, h⟩ := bnd_of h
  by_cases h4 : t3 = 0
  · replace h := ite_t h h4
    obtain ⟨t5, h5, h⟩ := bnd_of h
    replace h := Option.some.inj h
    subst h
    exact run_fr (n := 100) (orc := [.ret (I t1), .ret (I t2), .ret (I t3), .br false, .ret (.agg [I t5.1, I t5.2])]) (allC (c_drive_places h5) (allC (nef h4) (allC (((c_drive_first h3).le (.cons (.full _ _ _) (.nil)) (.refl _)) : Computes cx 48 [.lst true 1 [I t1, I t2]] (I t3)) (allC (c_drive_checkEnds h2) (allC (c_drive_CheckModel h1) allN))))) (by kernel_rfl)
  · replace h := ite_f h h4
    replace h := Option.some.inj h
    subst h
    exact run_fr (n := 100) (orc := [.ret (I t1), .ret (I t2), .ret (I t3), .br true]) (allC (net h4) (allC (((c_drive_first h3).le (.cons (.full _ _ _) (.nil)) (.refl _)) : Computes cx 48 [.lst true 1 [I t1, I t2]] (I t3)) (allC (c_drive_checkEnds h2) (allC (c_drive_CheckModel h1) allN)))) (by kernel_rfl)
def F_ref01_SameInts_L1 (n : Nat) (a0 : List D) (a1 : List D) (sa : (Int)) : Option (((Int)) ⊕ ((Unit) ⊕ (Unit))) :=
  if sa < ((a0).length : Int) then
    (el un_i a0 sa).bind fun ta2 =>
    (el un_i a1 sa).bind fun ta3 =>
    if ta2 = ta3 then
      if inI64 (sa + 1) then
      some (.inl (sa + 1))
      else none
    else
    some (.inr (.inl ()))
  else
  some (.inr (.inr ()))
noncomputable def T_ref01_SameInts_L1 (a0 : List D) (a1 : List D) (sa : (Int)) : List (Nat × AV) := [(0, .d (.lst false 1 a0)), (1, .d (.lst false 1 a1)), (5, .d (I sa))]
noncomputable def H_ref01_SameInts_L1 (a0 : List D) (a1 : List D) (sa : (Int)) : List (Nat × Blk) := []
noncomputable def X_ref01_SameInts_L1 (a0 : List D) (a1 : List D) (e : (Unit) ⊕ (Unit)) : Ex := match e with
  | (.inl e) => .ret
  | (.inr e) => (.exit 0)
noncomputable def XT_ref01_SameInts_L1 (a0 : List D) (a1 : List D) (e : (Unit) ⊕ (Unit)) : List (Nat × AV) := match e with
  | (.inl e) => [(4, .d (B false))]
  | (.inr e) => []
noncomputable def XH_ref01_SameInts_L1 (a0 : List D) (a1 : List D) (e : (Unit) ⊕ (Unit)) : List (Nat × Blk) := match e with
  | (.inl e) => []
  | (.inr e) => []
theorem R_ref01_SameInts_L1 {n : Nat} {a0 : List D} {a1 : List D} (sa : (Int)) (r) (h : F_ref01_SameInts_L1 n a0 a1 sa = some r) : Rd cx (loopAt cx.P 25 0) 26 0 false (T_ref01_SameInts_L1 a0 a1) (H_ref01_SameInts_L1 a0 a1) (X_ref01_SameInts_L1 a0 a1) (XT_ref01_SameInts_L1 a0 a1) (XH_ref01_SameInts_L1 a0 a1) sa r := by
  unfold F_ref01_SameInts_L1 at h
  by_cases ha1 : sa < ((a0).length : Int)
  · replace h := ite_t h ha1
    obtain ⟨ta2, ha2, h⟩ := bnd_of h
    obtain ⟨ta3, ha3, h⟩ := bnd_of h
    by_cases ha4 : ta2 = ta3
    · replace h := ite_t h ha4
      obtain ⟨ha5, h⟩ := grd_of h
      replace h := Option.some.inj h
      subst h
      exact ⟨100, 7, [.br true, .el (enc_i ta2), .el (enc_i ta3), .br false], [], [0, 1, 5], [], round_fr (allC ha5 (allC (nef ha4) (allC (el_ok un_i_ok ha3).1 (allC (el_ok un_i_ok ha3).2 (allC (el_ok un_i_ok ha2).1 (allC (el_ok un_i_ok ha2).2 (allC (decide_eq_true ha1) allN))))))) (by kernel_rfl)⟩
    · replace h := ite_f h ha4
      replace h := Option.some.inj h
      subst h
      exact ⟨⟨100, 7, [.br true, .el (enc_i ta2), .el (enc_i ta3), .br true], [], [4], [], round_fr (allC (net ha4) (allC (el_ok un_i_ok ha3).1 (allC (el_ok un_i_ok ha3).2 (allC (el_ok un_i_ok ha2).1 (allC (el_ok un_i_ok ha2).2 (allC (decide_eq_true ha1) allN)))))) (by kernel_rfl)⟩, nofun⟩
  · replace h := ite_f h ha1
    replace h := Option.some.inj h
    subst h
    exact ⟨⟨100, 7, [.br false], [], [], [], round_fr (allC (decide_eq_false ha1) allN) (by kernel_rfl)⟩, nofun⟩
/- spillage/spillageref01.SameInts: .lst false 1 a0, .lst false 1 a1 -/
def F_ref01_SameInts (n : Nat) (a0 : List D) (a1 : List D) : Option (Bool) :=
  if ((a0).length : Int) = ((a1).length : Int) then
    (loopF (F_ref01_SameInts_L1 n a0 a1) n 0).bind fun t2 => match t2 with
      | (.inl t2) => (
        some false)
      | (.inr t2) => (
        some true)
  else
  some false
theorem c_ref01_SameInts {n : Nat} {a0 : List D} {a1 : List D} {r : Bool} (h : F_ref01_SameInts n a0 a1 = some r) : Computes cx 25 [.lst false 1 a0, .lst false 1 a1] (B r) := by
  unfold F_ref01_SameInts at h
  by_cases h1 : ((a0).length : Int) = ((a1).length : Int)
  · replace h := ite_t h h1
    obtain ⟨t2, h2, h⟩ := bnd_of h
    rcases t2 with t2 | t2
    · replace h := Option.some.inj h
      subst h
      exact run_fr (n := 100) (orc := [.br false, .lp [] [0, 1, 5] [] .ret [(4, .d (B false))] [] 34]) (allC (loopF_to R_ref01_SameInts_L1 h2) (allC (nef h1) allN)) (by kernel_rfl)
    · replace h := Option.some.inj h
      subst h
      exact run_fr (n := 100) (orc := [.br false, .lp [] [0, 1, 5] [] (.exit 0) [] [] 34]) (allC (loopF_to R_ref01_SameInts_L1 h2) (allC (nef h1) allN)) (by kernel_rfl)
  · replace h := ite_f h h1
    replace h := Option.some.inj h
    subst h
    exact run_fr (n := 100) (orc := [.br true]) (allC (net h1) allN) (by kernel_rfl)
def F_law03_bands_L1 (n : Nat) (a0 : List D) (sa : (Int × List D)) : Option (((Int × List D)) ⊕ ((List D))) :=
  if sa.1 < ((a0).length : Int) then
    (el un_Ai3Z a0 sa.1).bind fun ta2 =>
    if roomP 24 ((sa.2).length + 1) then
    if inI64 (sa.1 + 1) then
    some (.inl ((sa.1 + 1), (sa.2 ++ ([.agg [I ta2.1, I ta2.2.1, I ta2.2.2]] : List D))))
    else none
    else none
  else
  some (.inr sa.2)
noncomputable def T_law03_bands_L1 (a0 : List D) (sa : (Int × List D)) : List (Nat × AV) := [(3, .own 5 0), (6, .d (.lst false 3 a0)), (7, .d (I ((a0).length : Int))), (8, .d (I sa.1))]
noncomputable def H_law03_bands_L1 (a0 : List D) (sa : (Int × List D)) : List (Nat × Blk) := [(5, .row 0 3 sa.2)]
noncomputable def X_law03_bands_L1 (a0 : List D) (e : (List D)) : Ex := (.exit 0)
noncomputable def XT_law03_bands_L1 (a0 : List D) (e : (List D)) : List (Nat × AV) := [(3, .own 5 0)]
noncomputable def XH_law03_bands_L1 (a0 : List D) (e : (List D)) : List (Nat × Blk) := [(5, .row 0 3 e)]
theorem R_law03_bands_L1 {n : Nat} {a0 : List D} (sa : (Int × List D)) (r) (h : F_law03_bands_L1 n a0 sa = some r) : Rd cx (loopAt cx.P 14 0) 18 0 false (T_law03_bands_L1 a0) (H_law03_bands_L1 a0) (X_law03_bands_L1 a0) (XT_law03_bands_L1 a0) (XH_law03_bands_L1 a0) sa r := by
  unfold F_law03_bands_L1 at h
  by_cases ha1 : sa.1 < ((a0).length : Int)
  · replace h := ite_t h ha1
    obtain ⟨ta2, ha2, h⟩ := bnd_of h
    obtain ⟨ha3, h⟩ := grd_of h
    obtain ⟨ha4, h⟩ := grd_of h
    replace h := Option.some.inj h
    subst h
    exact ⟨100, 6, [.br true, .el (enc_Ai3Z ta2), .br true], [], [3, 6, 7, 8], [5], round_fr (allC ha4 (allC ((room_of (b := 24) (by kernel_rfl) (by decide) ha3) : room cx 67 ((sa.2).length + 1)) (allC (el_ok un_Ai3Z_ok ha2).1 (allC (el_ok un_Ai3Z_ok ha2).2 (allC (decide_eq_true ha1) allN))))) (by kernel_rfl)⟩
  · replace h := ite_f h ha1
    replace h := Option.some.inj h
    subst h
    exact ⟨⟨100, 6, [.br false], [], [3], [5], round_fr (allC (decide_eq_false ha1) allN) (by kernel_rfl)⟩, nofun⟩
/- spillage/spillagelaw03.bands: .lst false 3 a0 -/
def F_law03_bands (n : Nat) (a0 : List D) : Option (List D) :=
  (loopF (F_law03_bands_L1 n a0) n (0, [])).bind fun t1 =>
  some t1
theorem c_law03_bands {n : Nat} {a0 : List D} {r : List D} (h : F_law03_bands n a0 = some r) : Computes cx 14 [.lst false 3 a0] (.lst false 3 r) := by
  unfold F_law03_bands at h
  obtain ⟨t1, h1, h⟩ := bnd_of h
  replace h := Option.some.inj h
  subst h
  exact run_fr (n := 100) (orc := [.lp [3, 3] [3, 6, 7, 8] [5] (.exit 0) [(3, .own 5 0)] [(5, .row 0 3 t1)] 29]) (allC (loopF_to R_law03_bands_L1 h1) allN) (by kernel_rfl)
def F_ref03_SameModel_L1 (n : Nat) (a0 : List D) (a1 : List D) (sa : (Int)) : Option (((Int)) ⊕ ((Unit) ⊕ (Unit))) :=
  if sa < ((a0).length : Int) then
    (el un_Ai3Z a0 sa).bind fun ta2 =>
    (el un_Ai3Z a1 sa).bind fun ta3 =>
    if ((ta2.1 == ta3.1) && (((ta2.2.1 == ta3.2.1) && ((ta2.2.2 == ta3.2.2) && true)) && true)) = true then
      if inI64 (sa + 1) then
      some (.inl (sa + 1))
      else none
    else
    some (.inr (.inl ()))
  else
  some (.inr (.inr ()))
noncomputable def T_ref03_SameModel_L1 (a0 : List D) (a1 : List D) (sa : (Int)) : List (Nat × AV) := [(0, .d (.lst false 3 a0)), (1, .d (.lst false 3 a1)), (5, .d (I sa))]
noncomputable def H_ref03_SameModel_L1 (a0 : List D) (a1 : List D) (sa : (Int)) : List (Nat × Blk) := []
noncomputable def X_ref03_SameModel_L1 (a0 : List D) (a1 : List D) (e : (Unit) ⊕ (Unit)) : Ex := match e with
  | (.inl e) => .ret
  | (.inr e) => (.exit 0)
noncomputable def XT_ref03_SameModel_L1 (a0 : List D) (a1 : List D) (e : (Unit) ⊕ (Unit)) : List (Nat × AV) := match e with
  | (.inl e) => [(4, .d (B false))]
  | (.inr e) => []
noncomputable def XH_ref03_SameModel_L1 (a0 : List D) (a1 : List D) (e : (Unit) ⊕ (Unit)) : List (Nat × Blk) := match e with
  | (.inl e) => []
  | (.inr e) => []
theorem R_ref03_SameModel_L1 {n : Nat} {a0 : List D} {a1 : List D} (sa : (Int)) (r) (h : F_ref03_SameModel_L1 n a0 a1 sa = some r) : Rd cx (loopAt cx.P 13 0) 26 0 false (T_ref03_SameModel_L1 a0 a1) (H_ref03_SameModel_L1 a0 a1) (X_ref03_SameModel_L1 a0 a1) (XT_ref03_SameModel_L1 a0 a1) (XH_ref03_SameModel_L1 a0 a1) sa r := by
  unfold F_ref03_SameModel_L1 at h
  by_cases ha1 : sa < ((a0).length : Int)
  · replace h := ite_t h ha1
    obtain ⟨ta2, ha2, h⟩ := bnd_of h
    obtain ⟨ta3, ha3, h⟩ := bnd_of h
    by_cases ha4 : ((ta2.1 == ta3.1) && (((ta2.2.1 == ta3.2.1) && ((ta2.2.2 == ta3.2.2) && true)) && true)) = true
    · replace h := ite_t h ha4
      obtain ⟨ha5, h⟩ := grd_of h
      replace h := Option.some.inj h
      subst h
      exact ⟨100, 7, [.br true, .el (enc_Ai3Z ta2), .el (enc_Ai3Z ta3), .br false], [], [0, 1, 5], [], round_fr (allC ha5 (allC (notf ha4) (allC (el_ok un_Ai3Z_ok ha3).1 (allC (el_ok un_Ai3Z_ok ha3).2 (allC (el_ok un_Ai3Z_ok ha2).1 (allC (el_ok un_Ai3Z_ok ha2).2 (allC (decide_eq_true ha1) allN))))))) (by kernel_rfl)⟩
    · replace h := ite_f h ha4
      replace h := Option.some.inj h
      subst h
      exact ⟨⟨100, 7, [.br true, .el (enc_Ai3Z ta2), .el (enc_Ai3Z ta3), .br true], [], [4], [], round_fr (allC (nott (bfalse ha4)) (allC (el_ok un_Ai3Z_ok ha3).1 (allC (el_ok un_Ai3Z_ok ha3).2 (allC (el_ok un_Ai3Z_ok ha2).1 (allC (el_ok un_Ai3Z_ok ha2).2 (allC (decide_eq_true ha1) allN)))))) (by kernel_rfl)⟩, nofun⟩
  · replace h := ite_f h ha1
    replace h := Option.some.inj h
    subst h
    exact ⟨⟨100, 7, [.br false], [], [], [], round_fr (allC (decide_eq_false ha1) allN) (by kernel_rfl)⟩, nofun⟩
/- spillage/spillageref03.SameModel: .lst false 3 a0, .lst false 3 a1 -/
def F_ref03_SameModel (n : Nat) (a0 : List D) (a1 : List D) : Option (Bool) :=
  if ((a0).length : Int) = ((a1).length : Int) then
    (loopF (F_ref03_SameModel_L1 n a0 a1) n 0).bind fun t2 => match t2 with
      | (.inl t2) => (
        some false)
      | (.inr t2) => (
        some true)
  else
  some false
theorem c_ref03_SameModel {n : Nat} {a0 : List D} {a1 : List D} {r : Bool} (h : F_ref03_SameModel n a0 a1 = some r) : Computes cx 13 [.lst false 3 a0, .lst false 3 a1] (B r) := by
  unfold F_ref03_SameModel at h
  by_cases h1 : ((a0).length : Int) = ((a1).length : Int)
  · replace h := ite_t h h1
    obtain ⟨t2, h2, h⟩ := bnd_of h
    rcases t2 with t2 | t2
    · replace h := Option.some.inj h
      subst h
      exact run_fr (n := 100) (orc := [.br false, .lp [] [0, 1, 5] [] .ret [(4, .d (B false))] [] 34]) (allC (loopF_to R_ref03_SameModel_L1 h2) (allC (nef h1) allN)) (by kernel_rfl)
    · replace h := Option.some.inj h
      subst h
      exact run_fr (n := 100) (orc := [.br false, .lp [] [0, 1, 5] [] (.exit 0) [] [] 34]) (allC (loopF_to R_ref03_SameModel_L1 h2) (allC (nef h1) allN)) (by kernel_rfl)
  · replace h := ite_f h h1
    replace h := Option.some.inj h
    subst h
    exact run_fr (n := 100) (orc := [.br true]) (allC (net h1) allN) (by kernel_rfl)
/- (spillage/drive.aimed).check: .agg [I a0, I a1, I a2, I a3, I a4, I a5, .lst false 3 a6, I a7, I a8] -/
def F_drive_aimed_check (n : Nat) (a0 : Int) (a1 : Int) (a2 : Int) (a3 : Int) (a4 : Int) (a5 : Int) (a6 : List D) (a7 : Int) (a8 : Int) : Option (Int) :=
  (F_drive_posed_check n a0 a1 a2 a3 a4 a5).bind fun t1 =>
  (F_drive_CheckModel n a6).bind fun t2 =>
  (F_drive_checkEnds n a7 a8 4294967296).bind fun t3 =>
  (F_drive_first n ([I t1, I t2, I t3])).bind fun t4 =>
  some t4
theorem c_drive_aimed_check {n : Nat} {a0 : Int} {a1 : Int} {a2 : Int} {a3 : Int} {a4 : Int} {a5 : Int} {a6 : List D} {a7 : Int} {a8 : Int} {r : Int} (h : F_drive_aimed_check n a0 a1 a2 a3 a4 a5 a6 a7 a8 = some r) : Computes cx 57 [.agg [I a0, I a1, I a2, I a3, I a4, I a5, .lst false 3 a6, I a7, I a8]] (I r) := by
  unfold F_drive_aimed_check at h
  obtain ⟨t1, h1, h⟩ := bnd_of h
  obtain ⟨t2, h2, h⟩ := bnd_of h
  obtain ⟨t3, h3, h⟩ := bnd_of h
  obtain ⟨t4, h4, h⟩ := bnd_of h
  replace h := Option.some.inj h
  subst h
  exact run_fr (n := 100) (orc := [.ret (I t1), .ret (I t2), .ret (I t3), .ret (I t4)]) (allC (((c_drive_first h4).le (.cons (.full _ _ _) (.nil)) (.refl _)) : Computes cx 48 [.lst true 1 [I t1, I t2, I t3]] (I t4)) (allC (c_drive_checkEnds h3) (allC (c_drive_CheckModel h2) (allC (c_drive_posed_check h1) allN)))) (by kernel_rfl)
/- (spillage/drive.aimed).hit: .agg [I a0, I a1, I a2, I a3, I a4, I a5, .lst false 3 a6, I a7, I a8], I a9 -/
def F_drive_aimed_hit (n : Nat) (a0 : Int) (a1 : Int) (a2 : Int) (a3 : Int) (a4 : Int) (a5 : Int) (a6 : List D) (a7 : Int) (a8 : Int) (a9 : Int) : Option (Int × Int × Bool) :=
  (F_drive_posed_at n a0 a1 a2 a3 a4 a5 a9).bind fun t1 =>
  (F_drive_places n a6 t1.2.2.2.2.1 t1.2.2.2.2.2).bind fun t2 =>
  (F_drive_both_2 n t2.1 t2.2 a7 a8).bind fun t3 =>
  if t3.2.2 = true then
    some (t2.1, t2.2, ((t3.1 == t2.1) && ((t3.2.1 == t2.2) && true)))
  else
  some (t2.1, t2.2, false)
theorem c_drive_aimed_hit {n : Nat} {a0 : Int} {a1 : Int} {a2 : Int} {a3 : Int} {a4 : Int} {a5 : Int} {a6 : List D} {a7 : Int} {a8 : Int} {a9 : Int} {r : Int × Int × Bool} (h : F_drive_aimed_hit n a0 a1 a2 a3 a4 a5 a6 a7 a8 a9 = some r) : Computes cx 60 [.agg [I a0, I a1, I a2, I a3, I a4, I a5, .lst false 3 a6, I a7, I a8], I a9] (.tup [.agg [I r.1, I r.2.1], B r.2.2]) := by
  unfold F_drive_aimed_hit at h
  obtain ⟨t1, h1, h⟩ := bnd_of h
  obtain ⟨t2, h2, h⟩ := bnd_of h
  obtain ⟨t3, h3, h⟩ := bnd_of h
  by_cases h4 : t3.2.2 = true
  · replace h := ite_t h h4
    replace h := Option.some.inj h
    subst h
    exact run_fr (n := 100) (orc := [.ret (.agg [I t1.1, I t1.2.1, I t1.2.2.1, I t1.2.2.2.1, I t1.2.2.2.2.1, I t1.2.2.2.2.2]), .ret (.agg [I t2.1, I t2.2]), .ret (.tup [.agg [I t3.1, I t3.2.1], B t3.2.2]), .br true]) (allC h4 (allC (c_drive_both_2 h3) (allC (c_drive_places h2) (allC (c_drive_posed_at h1) allN)))) (by kernel_rfl)
  · replace h := ite_f h h4
    replace h := Option.some.inj h
    subst h
    exact run_fr (n := 100) (orc := [.ret (.agg [I t1.1, I t1.2.1, I t1.2.2.1, I t1.2.2.2.1, I t1.2.2.2.2.1, I t1.2.2.2.2.2]), .ret (.agg [I t2.1, I t2.2]), .ret (.tup [.agg [I t3.1, I t3.2.1], B t3.2.2]), .br false]) (allC (bfalse h4) (allC (c_drive_both_2 h3) (allC (c_drive_places h2) (allC (c_drive_posed_at h1) allN)))) (by kernel_rfl)
/- spillage/drive.size: I a0 -/
def F_drive_size (n : Nat) (a0 : Int) : Option (Int) :=
  some (maxI a0 (IntKind.wrap .i64 (0 - a0)))
theorem c_drive_size {n : Nat} {a0 : Int} {r : Int} (h : F_drive_size n a0 = some r) : Computes cx 90 [I a0] (I r) := by
  unfold F_drive_size at h
  replace h := Option.some.inj h
  subst h
  exact run_fr (n := 100) (orc := []) allN (by kernel_rfl)
def F_drive_aimed_nearest_L1 (n : Nat) (a0 : Int) (a1 : Int) (a2 : Int) (a3 : Int) (a4 : Int) (a5 : Int) (a6 : List D) (a7 : Int) (a8 : Int) (sa : (Int × Bool × Int)) : Option (((Int × Bool × Int)) ⊕ ((Int × Bool))) :=
  if sa.2.2 < ((a1 - a0) + 1) then
    if inI64 (a0 + sa.2.2) then
    (F_drive_aimed_hit n a0 a1 a2 a3 a4 a5 a6 a7 a8 (a0 + sa.2.2)).bind fun ta3 =>
    if ta3.2.2 = true then
      if sa.2.1 = true then
        if inI64 ((a0 + sa.2.2) - a3) then
        (F_drive_size n ((a0 + sa.2.2) - a3)).bind fun ta7 =>
        if inI64 (sa.1 - a3) then
        (F_drive_size n (sa.1 - a3)).bind fun ta9 =>
        if ta7 < ta9 then
          if inI64 (sa.2.2 + 1) then
          some (.inl ((a0 + sa.2.2), true, (sa.2.2 + 1)))
          else none
        else
        if inI64 (sa.2.2 + 1) then
        some (.inl (sa.1, sa.2.1, (sa.2.2 + 1)))
        else none
        else none
        else none
      else
      if inI64 (sa.2.2 + 1) then
      some (.inl ((a0 + sa.2.2), true, (sa.2.2 + 1)))
      else none
    else
    if inI64 (sa.2.2 + 1) then
    some (.inl (sa.1, sa.2.1, (sa.2.2 + 1)))
    else none
    else none
  else
  some (.inr (sa.1, sa.2.1))
noncomputable def T_drive_aimed_nearest_L1 (a0 : Int) (a1 : Int) (a2 : Int) (a3 : Int) (a4 : Int) (a5 : Int) (a6 : List D) (a7 : Int) (a8 : Int) (sa : (Int × Bool × Int)) : List (Nat × AV) := [(1, .ptr 0 0 0 0 0), (4, .d (I sa.1)), (5, .d (B sa.2.1)), (19, .d (I ((a1 - a0) + 1))), (20, .d (I sa.2.2))]
noncomputable def H_drive_aimed_nearest_L1 (a0 : Int) (a1 : Int) (a2 : Int) (a3 : Int) (a4 : Int) (a5 : Int) (a6 : List D) (a7 : Int) (a8 : Int) (sa : (Int × Bool × Int)) : List (Nat × Blk) := [(0, .box (.d (.agg [I a0, I a1, I a2, I a3, I a4, I a5, .lst false 3 a6, I a7, I a8])))]
noncomputable def X_drive_aimed_nearest_L1 (a0 : Int) (a1 : Int) (a2 : Int) (a3 : Int) (a4 : Int) (a5 : Int) (a6 : List D) (a7 : Int) (a8 : Int) (e : (Int × Bool)) : Ex := (.exit 0)
noncomputable def XT_drive_aimed_nearest_L1 (a0 : Int) (a1 : Int) (a2 : Int) (a3 : Int) (a4 : Int) (a5 : Int) (a6 : List D) (a7 : Int) (a8 : Int) (e : (Int × Bool)) : List (Nat × AV) := [(4, .d (I e.1)), (5, .d (B e.2))]
noncomputable def XH_drive_aimed_nearest_L1 (a0 : Int) (a1 : Int) (a2 : Int) (a3 : Int) (a4 : Int) (a5 : Int) (a6 : List D) (a7 : Int) (a8 : Int) (e : (Int × Bool)) : List (Nat × Blk) := []
theorem R_drive_aimed_nearest_L1 {n : Nat} {a0 : Int} {a1 : Int} {a2 : Int} {a3 : Int} {a4 : Int} {a5 : Int} {a6 : List D} {a7 : Int} {a8 : Int} (sa : (Int × Bool × Int)) (r) (h : F_drive_aimed_nearest_L1 n a0 a1 a2 a3 a4 a5 a6 a7 a8 sa = some r) : Rd cx (loopAt cx.P 58 0) 63 0 false (T_drive_aimed_nearest_L1 a0 a1 a2 a3 a4 a5 a6 a7 a8) (H_drive_aimed_nearest_L1 a0 a1 a2 a3 a4 a5 a6 a7 a8) (X_drive_aimed_nearest_L1 a0 a1 a2 a3 a4 a5 a6 a7 a8) (XT_drive_aimed_nearest_L1 a0 a1 a2 a3 a4 a5 a6 a7 a8) (XH_drive_aimed_nearest_L1 a0 a1 a2 a3 a4 a5 a6 a7 a8) sa r := by
  unfold F_drive_aimed_nearest_L1 at h
  by_cases ha1 : sa.2.2 < ((a1 - a0) + 1)
  · replace h := ite_t h ha1
    obtain ⟨ha2, h⟩ := grd_of h
    obtain ⟨ta3, ha3, h⟩ := bnd_of h
    by_cases ha4 : ta3.2.2 = true
    · replace h := ite_t h ha4
      by_cases ha5 : sa.2.1 = true
      · replace h := ite_t h ha5
        obtain ⟨ha6, h⟩ := grd_of h
        obtain ⟨ta7, ha7, h⟩ := bnd_of h
        obtain ⟨ha8, h⟩ := grd_of h
        obtain ⟨ta9, ha9, h⟩ := bnd_of h
        by_cases ha10 : ta7 < ta9
        · replace h := ite_t h ha10
          obtain ⟨ha11, h⟩ := grd_of h
          replace h := Option.some.inj h
          subst h
          exact ⟨100, 16, [.br true, .ret (.tup [.agg [I ta3.1, I ta3.2.1], B ta3.2.2]), .br true, .br false, .ret (I ta7), .ret (I ta9), .br true], [], [1, 4, 5, 19, 20], [0], round_fr (allC ha11 (allC (decide_eq_true ha10) (allC (c_drive_size ha9) (allC ha8 (allC (c_drive_size ha7) (allC ha6 (allC (notf ha5) (allC ha4 (allC (c_drive_aimed_hit ha3) (allC ha2 (allC (decide_eq_true ha1) allN))))))))))) (by kernel_rfl)⟩
        · replace h := ite_f h ha10
          obtain ⟨ha11, h⟩ := grd_of h
          replace h := Option.some.inj h
          subst h
          exact ⟨100, 16, [.br true, .ret (.tup [.agg [I ta3.1, I ta3.2.1], B ta3.2.2]), .br true, .br false, .ret (I ta7), .ret (I ta9), .br false], [], [1, 4, 5, 19, 20], [0], round_fr (allC ha11 (allC (decide_eq_false ha10) (allC (c_drive_size ha9) (allC ha8 (allC (c_drive_size ha7) (allC ha6 (allC (notf ha5) (allC ha4 (allC (c_drive_aimed_hit ha3) (allC ha2 (allC (decide_eq_true ha1) allN))))))))))) (by kernel_rfl)⟩
      · replace h := ite_f h ha5
        obtain ⟨ha6, h⟩ := grd_of h
        replace h := Option.some.inj h
        subst h
        exact ⟨100, 16, [.br true, .ret (.tup [.agg [I ta3.1, I ta3.2.1], B ta3.2.2]), .br true, .br true, .no], [], [1, 4, 5, 19, 20], [0], round_fr (allC ha6 (allC (nott (bfalse ha5)) (allC ha4 (allC (c_drive_aimed_hit ha3) (allC ha2 (allC (decide_eq_true ha1) allN)))))) (by kernel_rfl)⟩
    · replace h := ite_f h ha4
      obtain ⟨ha5, h⟩ := grd_of h
      replace h := Option.some.inj h
      subst h
      exact ⟨100, 16, [.br true, .ret (.tup [.agg [I ta3.1, I ta3.2.1], B ta3.2.2]), .br false, .no], [], [1, 4, 5, 19, 20], [0], round_fr (allC ha5 (allC (bfalse ha4) (allC (c_drive_aimed_hit ha3) (allC ha2 (allC (decide_eq_true ha1) allN))))) (by kernel_rfl)⟩
  · replace h := ite_f h ha1
    replace h := Option.some.inj h
    subst h
    exact ⟨⟨100, 16, [.br false], [], [4, 5], [], round_fr (allC (decide_eq_false ha1) allN) (by kernel_rfl)⟩, nofun⟩
/- (spillage/drive.aimed).nearest: .agg [I a0, I a1, I a2, I a3, I a4, I a5, .lst false 3 a6, I a7, I a8] -/
def F_drive_aimed_nearest (n : Nat) (a0 : Int) (a1 : Int) (a2 : Int) (a3 : Int) (a4 : Int) (a5 : Int) (a6 : List D) (a7 : Int) (a8 : Int) : Option (Int × Int) :=
  if inI64 (a1 - a0) then
  if inI64 ((a1 - a0) + 1) then
  (loopF (F_drive_aimed_nearest_L1 n a0 a1 a2 a3 a4 a5 a6 a7 a8) n (0, false, 0)).bind fun t3 =>
  (F_drive_when_2 n (!t3.2) 18).bind fun t4 =>
  some (t3.1, t4)
  else none
  else none
theorem c_drive_aimed_nearest {n : Nat} {a0 : Int} {a1 : Int} {a2 : Int} {a3 : Int} {a4 : Int} {a5 : Int} {a6 : List D} {a7 : Int} {a8 : Int} {r : Int × Int} (h : F_drive_aimed_nearest n a0 a1 a2 a3 a4 a5 a6 a7 a8 = some r) : Computes cx 58 [.agg [I a0, I a1, I a2, I a3, I a4, I a5, .lst false 3 a6, I a7, I a8]] (.tup [I r.1, I r.2]) := by
  unfold F_drive_aimed_nearest at h
  obtain ⟨h1, h⟩ := grd_of h
  obtain ⟨h2, h⟩ := grd_of h
  obtain ⟨t3, h3, h⟩ := bnd_of h
  obtain ⟨t4, h4, h⟩ := bnd_of h
  replace h := Option.some.inj h
  subst h
  exact run_fr (n := 100) (orc := [.lp [] [1, 4, 5, 19, 20] [0] (.exit 0) [(4, .d (I t3.1)), (5, .d (B t3.2))] [] 73, .ret (I t4)]) (allC (c_drive_when_2 h4) (allC (loopF_to R_drive_aimed_nearest_L1 h3) (allC h2 (allC h1 allN)))) (by kernel_rfl)
/- spillage/drive.Inverted: .agg [I a0, I a1, I a2], .agg [I a3, I a4, I a5], .lst false 3 a6, .agg [I a7, I a8] -/
def F_drive_Inverted (n : Nat) (a0 : Int) (a1 : Int) (a2 : Int) (a3 : Int) (a4 : Int) (a5 : Int) (a6 : List D) (a7 : Int) (a8 : Int) : Option (Int × Int) :=
  (F_drive_aimed_check n a0 a1 a2 a3 a4 a5 a6 a7 a8).bind fun t1 =>
  if t1 = 0 then
    (F_drive_aimed_nearest n a0 a1 a2 a3 a4 a5 a6 a7 a8).bind fun t3 =>
    some (t3.1, t3.2)
  else
  some (0, t1)
theorem c_drive_Inverted {n : Nat} {a0 : Int} {a1 : Int} {a2 : Int} {a3 : Int} {a4 : Int} {a5 : Int} {a6 : List D} {a7 : Int} {a8 : Int} {r : Int × Int} (h : F_drive_Inverted n a0 a1 a2 a3 a4 a5 a6 a7 a8 = some r) : Computes cx 26 [.agg [I a0, I a1, I a2], .agg [I a3, I a4, I a5], .lst false 3 a6, .agg [I a7, I a8]] (.tup [I r.1, I r.2]) := by
  unfold F_drive_Inverted at h
  obtain ⟨t1, h1, h⟩ := bnd_of h
  by_cases h2 : t1 = 0
  · replace h := ite_t h h2
    obtain ⟨t3, h3, h⟩ := bnd_of h
    replace h := Option.some.inj h
    subst h
    exact run_fr (n := 100) (orc := [.ret (I t1), .br false, .ret (.tup [I t3.1, I t3.2])]) (allC (c_drive_aimed_nearest h3) (allC (nef h2) (allC (c_drive_aimed_check h1) allN))) (by kernel_rfl)
  · replace h := ite_f h h2
    replace h := Option.some.inj h
    subst h
    exact run_fr (n := 100) (orc := [.ret (I t1), .br true]) (allC (net h2) (allC (c_drive_aimed_check h1) allN)) (by kernel_rfl)
end Go.Proofs.YtoblljobcafecaaGreatDoor
