/-
  Printed by gsx.py: functions of the program as Lean functions, and that the code computes them.
-/
import Derived.Test.YtmgbmngmmpeaaaaGreatDoorShelf2
set_option linter.unusedVariables false
set_option linter.unusedSimpArgs false
set_option linter.unnecessarySimpa false
set_option maxRecDepth 10000
namespace Go.Proofs.YtmgbmngmmpeaaaaGreatDoor
open Go.SX
/- spillage/spillagelaw03.axis:  -/
def F_law03_axis (n : Nat)  : Option (Int × Int × Int) :=
  some ((-20), 20, 3)
theorem c_law03_axis {n : Nat}  {r : Int × Int × Int} (h : F_law03_axis n  = some r) : Computes cx 82 [] (.agg [I r.1, I r.2.1, I r.2.2]) := by
  unfold F_law03_axis at h
  replace h := Option.some.inj h
  subst h
  exact run (n := 100) (f := 82) (args := []) (orc := []) (r := .agg [I (-20), I 20, I 3]) (ob := []) (by kernel_rfl) trivial
/- spillage/drive.when: B true, I 3 -/
def F_drive_when (n : Nat)  : Option (Int) :=
  some 3
theorem c_drive_when {n : Nat}  {r : Int} (h : F_drive_when n  = some r) : Computes cx 85 [B true, I 3] (I r) := by
  unfold F_drive_when at h
  replace h := Option.some.inj h
  subst h
  exact run (n := 100) (f := 85) (args := [B true, I 3]) (orc := [.no]) (r := I 3) (ob := []) (by kernel_rfl) trivial
/- spillage/drive.when: B a0, I a1 -/
def F_drive_when_2 (n : Nat) (a0 : Bool) (a1 : Int) : Option (Int) :=
  if a0 = true then
    some a1
  else
  some 0
theorem c_drive_when_2 {n : Nat} {a0 : Bool} {a1 : Int} {r : Int} (h : F_drive_when_2 n a0 a1 = some r) : Computes cx 85 [B a0, I a1] (I r) := by
  unfold F_drive_when_2 at h
  by_cases h1 : a0 = true
  · replace h := ite_t h h1
    replace h := Option.some.inj h
    subst h
    exact run (n := 100) (f := 85) (args := [B a0, I a1]) (orc := [.br true]) (r := I a1) (ob := [a0 = true]) (by kernel_rfl) ⟨h1, trivial⟩
  · replace h := ite_f h h1
    replace h := Option.some.inj h
    subst h
    exact run (n := 100) (f := 85) (args := [B a0, I a1]) (orc := [.br false]) (r := I 0) (ob := [a0 = false]) (by kernel_rfl) ⟨(bfalse h1), trivial⟩
/- spillage/drive.within: I a0, I a1, I a2 -/
def F_drive_within (n : Nat) (a0 : Int) (a1 : Int) (a2 : Int) : Option (Int) :=
  if a0 < a1 then
    (F_drive_when n).bind fun t2 =>
    some t2
  else
  (F_drive_when_2 n (decide (a0 > a2)) 3).bind fun t2 =>
  some t2
theorem c_drive_within {n : Nat} {a0 : Int} {a1 : Int} {a2 : Int} {r : Int} (h : F_drive_within n a0 a1 a2 = some r) : Computes cx 89 [I a0, I a1, I a2] (I r) := by
  unfold F_drive_within at h
  by_cases h1 : a0 < a1
  · replace h := ite_t h h1
    obtain ⟨t2, h2, h⟩ := bnd_of h
    replace h := Option.some.inj h
    subst h
    exact run (n := 100) (f := 89) (args := [I a0, I a1, I a2]) (orc := [.br true, .ret (I t2)]) (r := I t2) (ob := [Computes cx 85 [B true, I 3] (I t2), (decide (a0 < a1)) = true]) (by kernel_rfl) ⟨(c_drive_when h2), (decide_eq_true h1), trivial⟩
  · replace h := ite_f h h1
    obtain ⟨t2, h2, h⟩ := bnd_of h
    replace h := Option.some.inj h
    subst h
    exact run (n := 100) (f := 89) (args := [I a0, I a1, I a2]) (orc := [.br false, .ret (I t2)]) (r := I t2) (ob := [Computes cx 85 [B (decide (a0 > a2)), I 3] (I t2), (decide (a0 < a1)) = false]) (by kernel_rfl) ⟨(c_drive_when_2 h2), (decide_eq_false h1), trivial⟩
def enc_i (x : Int) : D := I x
def un_i (d : D) : Option (Int) := un_int .i64 d
theorem un_i_ok {d : D} {x : Int} (h : un_i d = some x) : d = enc_i x := un_int_ok h
def F_drive_first_L1 (n : Nat) (a0 : List D) (sa : (Int)) : Option (((Int)) ⊕ ((Int) ⊕ (Unit))) :=
  if sa < ((a0).length : Int) then
    (el un_i a0 sa).bind fun ta2 =>
    if ta2 = 0 then
      if inI64 (sa + 1) then
      some (.inl (sa + 1))
      else none
    else
    some (.inr (.inl ta2))
  else
  some (.inr (.inr ()))
noncomputable def T_drive_first_L1 (a0 : List D) (sa : (Int)) : List (Nat × AV) := [(5, .d (.lst false 1 a0)), (6, .d (I ((a0).length : Int))), (7, .d (I sa))]
noncomputable def H_drive_first_L1 (a0 : List D) (sa : (Int)) : List (Nat × Blk) := []
noncomputable def X_drive_first_L1 (a0 : List D) (e : (Int) ⊕ (Unit)) : Ex := match e with
  | (.inl e) => .ret
  | (.inr e) => (.exit 0)
noncomputable def XT_drive_first_L1 (a0 : List D) (e : (Int) ⊕ (Unit)) : List (Nat × AV) := match e with
  | (.inl e) => [(2, .d (I e))]
  | (.inr e) => []
noncomputable def XH_drive_first_L1 (a0 : List D) (e : (Int) ⊕ (Unit)) : List (Nat × Blk) := match e with
  | (.inl e) => []
  | (.inr e) => []
theorem R_drive_first_L1 {n : Nat} {a0 : List D} (sa : (Int)) (r) (h : F_drive_first_L1 n a0 sa = some r) : Rd cx (loopAt cx.P 84 0) 15 0 false (T_drive_first_L1 a0) (H_drive_first_L1 a0) (X_drive_first_L1 a0) (XT_drive_first_L1 a0) (XH_drive_first_L1 a0) sa r := by
  unfold F_drive_first_L1 at h
  by_cases ha1 : sa < ((a0).length : Int)
  · replace h := ite_t h ha1
    obtain ⟨ta2, ha2, h⟩ := bnd_of h
    by_cases ha3 : ta2 = 0
    · replace h := ite_t h ha3
      obtain ⟨ha4, h⟩ := grd_of h
      replace h := Option.some.inj h
      subst h
      exact ⟨100, 4, [.br true, .el (I ta2), .br false], [], [5, 6, 7], [], round_of (ob := [inI64 (sa + 1), (ta2 != 0) = false, (0 : Int) ≤ sa, nth (a0) (Int.toNat sa) = some (I ta2), (decide (sa < ((a0).length : Int))) = true]) (by kernel_rfl) ⟨ha4, (nef ha3), (el_ok un_i_ok ha2).1, (el_ok un_i_ok ha2).2, (decide_eq_true ha1), trivial⟩⟩
    · replace h := ite_f h ha3
      replace h := Option.some.inj h
      subst h
      exact ⟨⟨100, 4, [.br true, .el (I ta2), .br true], [], [2], [], round_of (ob := [(ta2 != 0) = true, (0 : Int) ≤ sa, nth (a0) (Int.toNat sa) = some (I ta2), (decide (sa < ((a0).length : Int))) = true]) (by kernel_rfl) ⟨(net ha3), (el_ok un_i_ok ha2).1, (el_ok un_i_ok ha2).2, (decide_eq_true ha1), trivial⟩⟩, nofun⟩
  · replace h := ite_f h ha1
    replace h := Option.some.inj h
    subst h
    exact ⟨⟨100, 4, [.br false], [], [], [], round_of (ob := [(decide (sa < ((a0).length : Int))) = false]) (by kernel_rfl) ⟨(decide_eq_false ha1), trivial⟩⟩, nofun⟩
/- spillage/drive.first: .lst false 1 a0 -/
def F_drive_first (n : Nat) (a0 : List D) : Option (Int) :=
  (loopF (F_drive_first_L1 n a0) n 0).bind fun t1 => match t1 with
    | (.inl t1) => (
      some t1)
    | (.inr t1) => (
      some 0)
theorem c_drive_first {n : Nat} {a0 : List D} {r : Int} (h : F_drive_first n a0 = some r) : Computes cx 84 [.lst false 1 a0] (I r) := by
  unfold F_drive_first at h
  obtain ⟨t1, h1, h⟩ := bnd_of h
  rcases t1 with t1 | t1
  · replace h := Option.some.inj h
    subst h
    exact run (n := 100) (f := 84) (args := [.lst false 1 a0]) (orc := [.lp [] [5, 6, 7] [] .ret [(2, .d (I t1))] [] 23]) (r := I t1) (ob := [LoopN cx (loopAt cx.P 84 0) 15 0 false [(5, .d (.lst false 1 a0)), (6, .d (I ((a0).length : Int))), (7, .d (I 0))] [] .ret [(2, .d (I t1))] []]) (by kernel_rfl) ⟨(loopF_to R_drive_first_L1 h1), trivial⟩
  · replace h := Option.some.inj h
    subst h
    exact run (n := 100) (f := 84) (args := [.lst false 1 a0]) (orc := [.lp [] [5, 6, 7] [] (.exit 0) [] [] 23]) (r := I 0) (ob := [LoopN cx (loopAt cx.P 84 0) 15 0 false [(5, .d (.lst false 1 a0)), (6, .d (I ((a0).length : Int))), (7, .d (I 0))] [] (.exit 0) [] []]) (by kernel_rfl) ⟨(loopF_to R_drive_first_L1 h1), trivial⟩
/- spillage/drive.checkEnds: .agg [I a0, I a1], I a2 -/
def F_drive_checkEnds (n : Nat) (a0 : Int) (a1 : Int) (a2 : Int) : Option (Int) :=
  (F_drive_within n a0 (IntKind.wrap .i64 (0 - a2)) a2).bind fun t1 =>
  (F_drive_within n a1 (IntKind.wrap .i64 (0 - a2)) a2).bind fun t2 =>
  (F_drive_when_2 n (decide (a0 > a1)) 11).bind fun t3 =>
  (F_drive_first n ([I t1, I t2, I t3])).bind fun t4 =>
  some t4
theorem c_drive_checkEnds {n : Nat} {a0 : Int} {a1 : Int} {a2 : Int} {r : Int} (h : F_drive_checkEnds n a0 a1 a2 = some r) : Computes cx 88 [.agg [I a0, I a1], I a2] (I r) := by
  unfold F_drive_checkEnds at h
  obtain ⟨t1, h1, h⟩ := bnd_of h
  obtain ⟨t2, h2, h⟩ := bnd_of h
  obtain ⟨t3, h3, h⟩ := bnd_of h
  obtain ⟨t4, h4, h⟩ := bnd_of h
  replace h := Option.some.inj h
  subst h
  exact run (n := 100) (f := 88) (args := [.agg [I a0, I a1], I a2]) (orc := [.ret (I t1), .ret (I t2), .ret (I t3), .ret (I t4)]) (r := I t4) (ob := [Computes cx 84 [.lst true 1 [I t1, I t2, I t3]] (I t4), Computes cx 85 [B (decide (a0 > a1)), I 11] (I t3), Computes cx 89 [I a1, I (IntKind.wrap .i64 (0 - a2)), I a2] (I t2), Computes cx 89 [I a0, I (IntKind.wrap .i64 (0 - a2)), I a2] (I t1)]) (by kernel_rfl) ⟨((c_drive_first h4).le (.cons (.full _ _ _) (.nil)) (.refl _)), (c_drive_when_2 h3), (c_drive_within h2), (c_drive_within h1), trivial⟩
/- spillage/drive.CheckAxis: .agg [I a0, I a1, I a2] -/
def F_drive_CheckAxis (n : Nat) (a0 : Int) (a1 : Int) (a2 : Int) : Option (Int) :=
  (F_drive_checkEnds n a0 a1 1000).bind fun t1 =>
  (F_drive_within n a2 0 50).bind fun t2 =>
  (F_drive_first n ([I t1, I t2])).bind fun t3 =>
  some t3
theorem c_drive_CheckAxis {n : Nat} {a0 : Int} {a1 : Int} {a2 : Int} {r : Int} (h : F_drive_CheckAxis n a0 a1 a2 = some r) : Computes cx 28 [.agg [I a0, I a1, I a2]] (I r) := by
  unfold F_drive_CheckAxis at h
  obtain ⟨t1, h1, h⟩ := bnd_of h
  obtain ⟨t2, h2, h⟩ := bnd_of h
  obtain ⟨t3, h3, h⟩ := bnd_of h
  replace h := Option.some.inj h
  subst h
  exact run (n := 100) (f := 28) (args := [.agg [I a0, I a1, I a2]]) (orc := [.ret (I t1), .ret (I t2), .ret (I t3)]) (r := I t3) (ob := [Computes cx 84 [.lst true 1 [I t1, I t2]] (I t3), Computes cx 89 [I a2, I 0, I 50] (I t2), Computes cx 88 [.agg [I a0, I a1], I 1000] (I t1)]) (by kernel_rfl) ⟨((c_drive_first h3).le (.cons (.full _ _ _) (.nil)) (.refl _)), (c_drive_within h2), (c_drive_checkEnds h1), trivial⟩
/- spillage/drive.when: B true, I 24 -/
def F_drive_when_3 (n : Nat)  : Option (Int) :=
  some 24
theorem c_drive_when_3 {n : Nat}  {r : Int} (h : F_drive_when_3 n  = some r) : Computes cx 85 [B true, I 24] (I r) := by
  unfold F_drive_when_3 at h
  replace h := Option.some.inj h
  subst h
  exact run (n := 100) (f := 85) (args := [B true, I 24]) (orc := [.no]) (r := I 24) (ob := []) (by kernel_rfl) trivial
/- (spillage/drive.posed).check: .agg [I a0, I a1, I a2, I a3, I a4, I a5] -/
def F_drive_posed_check (n : Nat) (a0 : Int) (a1 : Int) (a2 : Int) (a3 : Int) (a4 : Int) (a5 : Int) : Option (Int) :=
  (F_drive_CheckAxis n a0 a1 a2).bind fun t1 =>
  (F_drive_within n a3 a0 a1).bind fun t2 =>
  (F_drive_first n ([I t1, I t2])).bind fun t3 =>
  if t3 = 0 then
    (F_drive_when_2 n (decide (a4 > a5)) 11).bind fun t5 =>
    if inI64 (a3 - a2) then
    if a4 < (a3 - a2) then
      (F_drive_when_3 n).bind fun t8 =>
      (F_drive_first n ([I t5, I t8])).bind fun t9 =>
      some t9
    else
    (F_drive_when_2 n (decide (a5 > a3)) 24).bind fun t8 =>
    (F_drive_first n ([I t5, I t8])).bind fun t9 =>
    some t9
    else none
  else
  some t3
theorem c_drive_posed_check {n : Nat} {a0 : Int} {a1 : Int} {a2 : Int} {a3 : Int} {a4 : Int} {a5 : Int} {r : Int} (h : F_drive_posed_check n a0 a1 a2 a3 a4 a5 = some r) : Computes cx 90 [.agg [I a0, I a1, I a2, I a3, I a4, I a5]] (I r) := by
  unfold F_drive_posed_check at h
  obtain ⟨t1, h1, h⟩ := bnd_of h
  obtain ⟨t2, h2, h⟩ := bnd_of h
  obtain ⟨t3, h3, h⟩ := bnd_of h
  by_cases h4 : t3 = 0
  · replace h := ite_t h h4
    obtain ⟨t5, h5, h⟩ := bnd_of h
    obtain ⟨h6, h⟩ := grd_of h
    by_cases h7 : a4 < (a3 - a2)
    · replace h := ite_t h h7
      obtain ⟨t8, h8, h⟩ := bnd_of h
      obtain ⟨t9, h9, h⟩ := bnd_of h
      replace h := Option.some.inj h
      subst h
      exact run (n := 100) (f := 90) (args := [.agg [I a0, I a1, I a2, I a3, I a4, I a5]]) (orc := [.ret (I t1), .ret (I t2), .ret (I t3), .br false, .ret (I t5), .br true, .ret (I t8), .ret (I t9)]) (r := I t9) (ob := [Computes cx 84 [.lst true 1 [I t5, I t8]] (I t9), Computes cx 85 [B true, I 24] (I t8), (decide (a4 < (a3 - a2))) = true, inI64 (a3 - a2), Computes cx 85 [B (decide (a4 > a5)), I 11] (I t5), (t3 != 0) = false, Computes cx 84 [.lst true 1 [I t1, I t2]] (I t3), Computes cx 89 [I a3, I a0, I a1] (I t2), Computes cx 28 [.agg [I a0, I a1, I a2]] (I t1)]) (by kernel_rfl) ⟨((c_drive_first h9).le (.cons (.full _ _ _) (.nil)) (.refl _)), (c_drive_when_3 h8), (decide_eq_true h7), h6, (c_drive_when_2 h5), (nef h4), ((c_drive_first h3).le (.cons (.full _ _ _) (.nil)) (.refl _)), (c_drive_within h2), (c_drive_CheckAxis h1), trivial⟩
    · replace h := ite_f h h7
      obtain ⟨t8, h8, h⟩ := bnd_of h
      obtain ⟨t9, h9, h⟩ := bnd_of h
      replace h := Option.some.inj h
      subst h
      exact run (n := 100) (f := 90) (args := [.agg [I a0, I a1, I a2, I a3, I a4, I a5]]) (orc := [.ret (I t1), .ret (I t2), .ret (I t3), .br false, .ret (I t5), .br false, .ret (I t8), .ret (I t9)]) (r := I t9) (ob := [Computes cx 84 [.lst true 1 [I t5, I t8]] (I t9), Computes cx 85 [B (decide (a5 > a3)), I 24] (I t8), (decide (a4 < (a3 - a2))) = false, inI64 (a3 - a2), Computes cx 85 [B (decide (a4 > a5)), I 11] (I t5), (t3 != 0) = false, Computes cx 84 [.lst true 1 [I t1, I t2]] (I t3), Computes cx 89 [I a3, I a0, I a1] (I t2), Computes cx 28 [.agg [I a0, I a1, I a2]] (I t1)]) (by kernel_rfl) ⟨((c_drive_first h9).le (.cons (.full _ _ _) (.nil)) (.refl _)), (c_drive_when_2 h8), (decide_eq_false h7), h6, (c_drive_when_2 h5), (nef h4), ((c_drive_first h3).le (.cons (.full _ _ _) (.nil)) (.refl _)), (c_drive_within h2), (c_drive_CheckAxis h1), trivial⟩
  · replace h := ite_f h h4
    replace h := Option.some.inj h
    subst h
    exact run (n := 100) (f := 90) (args := [.agg [I a0, I a1, I a2, I a3, I a4, I a5]]) (orc := [.ret (I t1), .ret (I t2), .ret (I t3), .br true]) (r := I t3) (ob := [(t3 != 0) = true, Computes cx 84 [.lst true 1 [I t1, I t2]] (I t3), Computes cx 89 [I a3, I a0, I a1] (I t2), Computes cx 28 [.agg [I a0, I a1, I a2]] (I t1)]) (by kernel_rfl) ⟨(net h4), ((c_drive_first h3).le (.cons (.full _ _ _) (.nil)) (.refl _)), (c_drive_within h2), (c_drive_CheckAxis h1), trivial⟩
/- spillage/drive.CheckState: .agg [I a0, I a1, I a2], .agg [I a3, I a4, I a5] -/
def F_drive_CheckState (n : Nat) (a0 : Int) (a1 : Int) (a2 : Int) (a3 : Int) (a4 : Int) (a5 : Int) : Option (Int) :=
  (F_drive_posed_check n a0 a1 a2 a3 a4 a5).bind fun t1 =>
  some t1
theorem c_drive_CheckState {n : Nat} {a0 : Int} {a1 : Int} {a2 : Int} {a3 : Int} {a4 : Int} {a5 : Int} {r : Int} (h : F_drive_CheckState n a0 a1 a2 a3 a4 a5 = some r) : Computes cx 30 [.agg [I a0, I a1, I a2], .agg [I a3, I a4, I a5]] (I r) := by
  unfold F_drive_CheckState at h
  obtain ⟨t1, h1, h⟩ := bnd_of h
  replace h := Option.some.inj h
  subst h
  exact run (n := 100) (f := 30) (args := [.agg [I a0, I a1, I a2], .agg [I a3, I a4, I a5]]) (orc := [.ret (I t1)]) (r := I t1) (ob := [Computes cx 90 [.agg [I a0, I a1, I a2, I a3, I a4, I a5]] (I t1)]) (by kernel_rfl) ⟨(c_drive_posed_check h1), trivial⟩
/- (spillage/drive.posed).at: .agg [I a0, I a1, I a2, I a3, I a4, I a5], I a6 -/
def F_drive_posed_at (n : Nat) (a0 : Int) (a1 : Int) (a2 : Int) (a3 : Int) (a4 : Int) (a5 : Int) (a6 : Int) : Option (Int × Int × Int × Int × Int × Int) :=
  if inI64 (a6 - a2) then
  some (a0, a1, a2, a6, (minI a6 (maxI (a6 - a2) a4)), (minI a6 (maxI (a6 - a2) a5)))
  else none
theorem c_drive_posed_at {n : Nat} {a0 : Int} {a1 : Int} {a2 : Int} {a3 : Int} {a4 : Int} {a5 : Int} {a6 : Int} {r : Int × Int × Int × Int × Int × Int} (h : F_drive_posed_at n a0 a1 a2 a3 a4 a5 a6 = some r) : Computes cx 86 [.agg [I a0, I a1, I a2, I a3, I a4, I a5], I a6] (.agg [I r.1, I r.2.1, I r.2.2.1, I r.2.2.2.1, I r.2.2.2.2.1, I r.2.2.2.2.2]) := by
  unfold F_drive_posed_at at h
  obtain ⟨h1, h⟩ := grd_of h
  replace h := Option.some.inj h
  subst h
  exact run (n := 100) (f := 86) (args := [.agg [I a0, I a1, I a2, I a3, I a4, I a5], I a6]) (orc := [.no, .no]) (r := .agg [I a0, I a1, I a2, I a6, I (minI a6 (maxI (a6 - a2) a4)), I (minI a6 (maxI (a6 - a2) a5))]) (ob := [inI64 (a6 - a2), inI64 (a6 - a2)]) (by kernel_rfl) ⟨h1, h1, trivial⟩
def F_drive_Moved_L1 (n : Nat) (a6 : List D) (sa : (Int × Int × Int × Int × Int × Int × Int)) : Option (((Int × Int × Int × Int × Int × Int × Int)) ⊕ ((Unit) ⊕ (Int × Int × Int × Int × Int × Int))) :=
  if sa.1 < ((a6).length : Int) then
    (el un_i a6 sa.1).bind fun ta2 =>
    if inI64 (sa.2.1 - sa.2.2.2.2.1) then
    if ta2 < (sa.2.1 - sa.2.2.2.2.1) then
      some (.inr (.inl ()))
    else
    if inI64 (sa.2.2.1 - sa.2.2.2.2.1) then
    if ta2 > (sa.2.2.1 - sa.2.2.2.2.1) then
      some (.inr (.inl ()))
    else
    if inI64 (sa.2.2.2.2.1 + ta2) then
    (F_drive_posed_at n sa.2.1 sa.2.2.1 sa.2.2.2.1 sa.2.2.2.2.1 sa.2.2.2.2.2.1 sa.2.2.2.2.2.2 (sa.2.2.2.2.1 + ta2)).bind fun ta8 =>
    if inI64 (sa.1 + 1) then
    some (.inl ((sa.1 + 1), ta8.1, ta8.2.1, ta8.2.2.1, ta8.2.2.2.1, ta8.2.2.2.2.1, ta8.2.2.2.2.2))
    else none
    else none
    else none
    else none
  else
  some (.inr (.inr (sa.2.1, sa.2.2.1, sa.2.2.2.1, sa.2.2.2.2.1, sa.2.2.2.2.2.1, sa.2.2.2.2.2.2)))
noncomputable def T_drive_Moved_L1 (a6 : List D) (sa : (Int × Int × Int × Int × Int × Int × Int)) : List (Nat × AV) := [(6, .ptr 2 0 0 0 0), (9, .ptr 19 0 0 0 0), (28, .d (.lst false 1 a6)), (29, .d (I ((a6).length : Int))), (30, .d (I sa.1))]
noncomputable def H_drive_Moved_L1 (a6 : List D) (sa : (Int × Int × Int × Int × Int × Int × Int)) : List (Nat × Blk) := [(2, .box (.d (.agg [I 0, I 0, I 0]))), (19, .box (.d (.agg [I sa.2.1, I sa.2.2.1, I sa.2.2.2.1, I sa.2.2.2.2.1, I sa.2.2.2.2.2.1, I sa.2.2.2.2.2.2])))]
noncomputable def X_drive_Moved_L1 (a6 : List D) (e : (Unit) ⊕ (Int × Int × Int × Int × Int × Int)) : Ex := match e with
  | (.inl e) => .ret
  | (.inr e) => (.exit 0)
noncomputable def XT_drive_Moved_L1 (a6 : List D) (e : (Unit) ⊕ (Int × Int × Int × Int × Int × Int)) : List (Nat × AV) := match e with
  | (.inl e) => [(6, .ptr 2 0 0 0 0), (7, .d (I 20))]
  | (.inr e) => [(6, .ptr 2 0 0 0 0), (9, .ptr 19 0 0 0 0)]
noncomputable def XH_drive_Moved_L1 (a6 : List D) (e : (Unit) ⊕ (Int × Int × Int × Int × Int × Int)) : List (Nat × Blk) := match e with
  | (.inl e) => [(2, .box (.d (.agg [I 0, I 0, I 0])))]
  | (.inr e) => [(2, .box (.d (.agg [I 0, I 0, I 0]))), (19, .box (.d (.agg [I e.1, I e.2.1, I e.2.2.1, I e.2.2.2.1, I e.2.2.2.2.1, I e.2.2.2.2.2])))]
theorem R_drive_Moved_L1 {n : Nat} {a6 : List D} (sa : (Int × Int × Int × Int × Int × Int × Int)) (r) (h : F_drive_Moved_L1 n a6 sa = some r) : Rd cx (loopAt cx.P 20 0) 65 0 false (T_drive_Moved_L1 a6) (H_drive_Moved_L1 a6) (X_drive_Moved_L1 a6) (XT_drive_Moved_L1 a6) (XH_drive_Moved_L1 a6) sa r := by
  unfold F_drive_Moved_L1 at h
  by_cases ha1 : sa.1 < ((a6).length : Int)
  · replace h := ite_t h ha1
    obtain ⟨ta2, ha2, h⟩ := bnd_of h
    obtain ⟨ha3, h⟩ := grd_of h
    by_cases ha4 : ta2 < (sa.2.1 - sa.2.2.2.2.1)
    · replace h := ite_t h ha4
      replace h := Option.some.inj h
      subst h
      exact ⟨⟨100, 24, [.br true, .el (I ta2), .br true, .no], [], [6, 7], [2], round_of (ob := [(decide (ta2 < (sa.2.1 - sa.2.2.2.2.1))) = true, inI64 (sa.2.1 - sa.2.2.2.2.1), (0 : Int) ≤ sa.1, nth (a6) (Int.toNat sa.1) = some (I ta2), (decide (sa.1 < ((a6).length : Int))) = true]) (by kernel_rfl) ⟨(decide_eq_true ha4), ha3, (el_ok un_i_ok ha2).1, (el_ok un_i_ok ha2).2, (decide_eq_true ha1), trivial⟩⟩, nofun⟩
    · replace h := ite_f h ha4
      obtain ⟨ha5, h⟩ := grd_of h
      by_cases ha6 : ta2 > (sa.2.2.1 - sa.2.2.2.2.1)
      · replace h := ite_t h ha6
        replace h := Option.some.inj h
        subst h
        exact ⟨⟨100, 24, [.br true, .el (I ta2), .br false, .br true], [], [6, 7], [2], round_of (ob := [(decide (ta2 > (sa.2.2.1 - sa.2.2.2.2.1))) = true, inI64 (sa.2.2.1 - sa.2.2.2.2.1), (decide (ta2 < (sa.2.1 - sa.2.2.2.2.1))) = false, inI64 (sa.2.1 - sa.2.2.2.2.1), (0 : Int) ≤ sa.1, nth (a6) (Int.toNat sa.1) = some (I ta2), (decide (sa.1 < ((a6).length : Int))) = true]) (by kernel_rfl) ⟨(decide_eq_true ha6), ha5, (decide_eq_false ha4), ha3, (el_ok un_i_ok ha2).1, (el_ok un_i_ok ha2).2, (decide_eq_true ha1), trivial⟩⟩, nofun⟩
      · replace h := ite_f h ha6
        obtain ⟨ha7, h⟩ := grd_of h
        obtain ⟨ta8, ha8, h⟩ := bnd_of h
        obtain ⟨ha9, h⟩ := grd_of h
        replace h := Option.some.inj h
        subst h
        exact ⟨100, 24, [.br true, .el (I ta2), .br false, .br false, .ret (.agg [I ta8.1, I ta8.2.1, I ta8.2.2.1, I ta8.2.2.2.1, I ta8.2.2.2.2.1, I ta8.2.2.2.2.2])], [], [6, 9, 28, 29, 30], [2, 19], round_of (ob := [inI64 (sa.1 + 1), Computes cx 86 [.agg [I sa.2.1, I sa.2.2.1, I sa.2.2.2.1, I sa.2.2.2.2.1, I sa.2.2.2.2.2.1, I sa.2.2.2.2.2.2], I (sa.2.2.2.2.1 + ta2)] (.agg [I ta8.1, I ta8.2.1, I ta8.2.2.1, I ta8.2.2.2.1, I ta8.2.2.2.2.1, I ta8.2.2.2.2.2]), inI64 (sa.2.2.2.2.1 + ta2), (decide (ta2 > (sa.2.2.1 - sa.2.2.2.2.1))) = false, inI64 (sa.2.2.1 - sa.2.2.2.2.1), (decide (ta2 < (sa.2.1 - sa.2.2.2.2.1))) = false, inI64 (sa.2.1 - sa.2.2.2.2.1), (0 : Int) ≤ sa.1, nth (a6) (Int.toNat sa.1) = some (I ta2), (decide (sa.1 < ((a6).length : Int))) = true]) (by kernel_rfl) ⟨ha9, (c_drive_posed_at ha8), ha7, (decide_eq_false ha6), ha5, (decide_eq_false ha4), ha3, (el_ok un_i_ok ha2).1, (el_ok un_i_ok ha2).2, (decide_eq_true ha1), trivial⟩⟩
  · replace h := ite_f h ha1
    replace h := Option.some.inj h
    subst h
    exact ⟨⟨100, 24, [.br false], [], [6, 9], [2, 19], round_of (ob := [(decide (sa.1 < ((a6).length : Int))) = false]) (by kernel_rfl) ⟨(decide_eq_false ha1), trivial⟩⟩, nofun⟩
/- spillage/drive.Moved: .agg [I a0, I a1, I a2], .agg [I a3, I a4, I a5], .lst false 1 a6 -/
def F_drive_Moved (n : Nat) (a0 : Int) (a1 : Int) (a2 : Int) (a3 : Int) (a4 : Int) (a5 : Int) (a6 : List D) : Option (Int × Int × Int × Int) :=
  (F_drive_CheckState n a0 a1 a2 a3 a4 a5).bind fun t1 =>
  (F_drive_when_2 n (decide (((a6).length : Int) > 256)) 5).bind fun t2 =>
  (F_drive_first n ([I t1, I t2])).bind fun t3 =>
  if t3 = 0 then
    (loopF (F_drive_Moved_L1 n a6) n (0, a0, a1, a2, a3, a4, a5)).bind fun t5 => match t5 with
      | (.inl t5) => (
        some (0, 0, 0, 20))
      | (.inr t5) => (
        some (t5.2.2.2.1, t5.2.2.2.2.1, t5.2.2.2.2.2, 0))
  else
  some (0, 0, 0, t3)
theorem c_drive_Moved {n : Nat} {a0 : Int} {a1 : Int} {a2 : Int} {a3 : Int} {a4 : Int} {a5 : Int} {a6 : List D} {r : Int × Int × Int × Int} (h : F_drive_Moved n a0 a1 a2 a3 a4 a5 a6 = some r) : Computes cx 20 [.agg [I a0, I a1, I a2], .agg [I a3, I a4, I a5], .lst false 1 a6] (.tup [.agg [I r.1, I r.2.1, I r.2.2.1], I r.2.2.2]) := by
  unfold F_drive_Moved at h
  obtain ⟨t1, h1, h⟩ := bnd_of h
  obtain ⟨t2, h2, h⟩ := bnd_of h
  obtain ⟨t3, h3, h⟩ := bnd_of h
  by_cases h4 : t3 = 0
  · replace h := ite_t h h4
    obtain ⟨t5, h5, h⟩ := bnd_of h
    rcases t5 with t5 | t5
    · replace h := Option.some.inj h
      subst h
      exact run (n := 100) (f := 20) (args := [.agg [I a0, I a1, I a2], .agg [I a3, I a4, I a5], .lst false 1 a6]) (orc := [.ret (I t1), .ret (I t2), .ret (I t3), .br false, .lp [] [6, 9, 28, 29, 30] [2, 19] .ret [(6, .ptr 2 0 0 0 0), (7, .d (I 20))] [(2, .box (.d (.agg [I 0, I 0, I 0])))] 69]) (r := .tup [.agg [I 0, I 0, I 0], I 20]) (ob := [LoopN cx (loopAt cx.P 20 0) 65 0 false [(6, .ptr 2 0 0 0 0), (9, .ptr 19 0 0 0 0), (28, .d (.lst false 1 a6)), (29, .d (I ((a6).length : Int))), (30, .d (I 0))] [(2, .box (.d (.agg [I 0, I 0, I 0]))), (19, .box (.d (.agg [I a0, I a1, I a2, I a3, I a4, I a5])))] .ret [(6, .ptr 2 0 0 0 0), (7, .d (I 20))] [(2, .box (.d (.agg [I 0, I 0, I 0])))], (t3 != 0) = false, Computes cx 84 [.lst true 1 [I t1, I t2]] (I t3), Computes cx 85 [B (decide (((a6).length : Int) > 256)), I 5] (I t2), Computes cx 30 [.agg [I a0, I a1, I a2], .agg [I a3, I a4, I a5]] (I t1)]) (by kernel_rfl) ⟨(loopF_to R_drive_Moved_L1 h5), (nef h4), ((c_drive_first h3).le (.cons (.full _ _ _) (.nil)) (.refl _)), (c_drive_when_2 h2), (c_drive_CheckState h1), trivial⟩
    · replace h := Option.some.inj h
      subst h
      exact run (n := 100) (f := 20) (args := [.agg [I a0, I a1, I a2], .agg [I a3, I a4, I a5], .lst false 1 a6]) (orc := [.ret (I t1), .ret (I t2), .ret (I t3), .br false, .lp [] [6, 9, 28, 29, 30] [2, 19] (.exit 0) [(6, .ptr 2 0 0 0 0), (9, .ptr 19 0 0 0 0)] [(2, .box (.d (.agg [I 0, I 0, I 0]))), (19, .box (.d (.agg [I t5.1, I t5.2.1, I t5.2.2.1, I t5.2.2.2.1, I t5.2.2.2.2.1, I t5.2.2.2.2.2])))] 69]) (r := .tup [.agg [I t5.2.2.2.1, I t5.2.2.2.2.1, I t5.2.2.2.2.2], I 0]) (ob := [LoopN cx (loopAt cx.P 20 0) 65 0 false [(6, .ptr 2 0 0 0 0), (9, .ptr 19 0 0 0 0), (28, .d (.lst false 1 a6)), (29, .d (I ((a6).length : Int))), (30, .d (I 0))] [(2, .box (.d (.agg [I 0, I 0, I 0]))), (19, .box (.d (.agg [I a0, I a1, I a2, I a3, I a4, I a5])))] (.exit 0) [(6, .ptr 2 0 0 0 0), (9, .ptr 19 0 0 0 0)] [(2, .box (.d (.agg [I 0, I 0, I 0]))), (19, .box (.d (.agg [I t5.1, I t5.2.1, I t5.2.2.1, I t5.2.2.2.1, I t5.2.2.2.2.1, I t5.2.2.2.2.2])))], (t3 != 0) = false, Computes cx 84 [.lst true 1 [I t1, I t2]] (I t3), Computes cx 85 [B (decide (((a6).length : Int) > 256)), I 5] (I t2), Computes cx 30 [.agg [I a0, I a1, I a2], .agg [I a3, I a4, I a5]] (I t1)]) (by kernel_rfl) ⟨(loopF_to R_drive_Moved_L1 h5), (nef h4), ((c_drive_first h3).le (.cons (.full _ _ _) (.nil)) (.refl _)), (c_drive_when_2 h2), (c_drive_CheckState h1), trivial⟩
  · replace h := ite_f h h4
    replace h := Option.some.inj h
    subst h
    exact run (n := 100) (f := 20) (args := [.agg [I a0, I a1, I a2], .agg [I a3, I a4, I a5], .lst false 1 a6]) (orc := [.ret (I t1), .ret (I t2), .ret (I t3), .br true]) (r := .tup [.agg [I 0, I 0, I 0], I t3]) (ob := [(t3 != 0) = true, Computes cx 84 [.lst true 1 [I t1, I t2]] (I t3), Computes cx 85 [B (decide (((a6).length : Int) > 256)), I 5] (I t2), Computes cx 30 [.agg [I a0, I a1, I a2], .agg [I a3, I a4, I a5]] (I t1)]) (by kernel_rfl) ⟨(net h4), ((c_drive_first h3).le (.cons (.full _ _ _) (.nil)) (.refl _)), (c_drive_when_2 h2), (c_drive_CheckState h1), trivial⟩
/- spillage/drive.Referenced: .agg [I a0, I a1, I a2], .agg [I a3, I a4, I a5] -/
def F_drive_Referenced (n : Nat) (a0 : Int) (a1 : Int) (a2 : Int) (a3 : Int) (a4 : Int) (a5 : Int) : Option (Int × Int × Int × List D × Int) :=
  (F_drive_CheckState n a0 a1 a2 a3 a4 a5).bind fun t1 =>
  if t1 = 0 then
    if inI64 (a0 - a3) then
    (F_drive_Moved n a0 a1 a2 a3 a4 a5 ([I (a0 - a3), I a2])).bind fun t4 =>
    if t4.2.2.2 = 0 then
      some (t4.1, t4.2.1, t4.2.2.1, [I (a0 - a3), I a2], 0)
    else
    some (0, 0, 0, [], t4.2.2.2)
    else none
  else
  some (0, 0, 0, [], t1)
theorem c_drive_Referenced {n : Nat} {a0 : Int} {a1 : Int} {a2 : Int} {a3 : Int} {a4 : Int} {a5 : Int} {r : Int × Int × Int × List D × Int} (h : F_drive_Referenced n a0 a1 a2 a3 a4 a5 = some r) : Computes cx 22 [.agg [I a0, I a1, I a2], .agg [I a3, I a4, I a5]] (.tup [.agg [I r.1, I r.2.1, I r.2.2.1], .lst false 1 r.2.2.2.1, I r.2.2.2.2]) := by
  unfold F_drive_Referenced at h
  obtain ⟨t1, h1, h⟩ := bnd_of h
  by_cases h2 : t1 = 0
  · replace h := ite_t h h2
    obtain ⟨h3, h⟩ := grd_of h
    obtain ⟨t4, h4, h⟩ := bnd_of h
    by_cases h5 : t4.2.2.2 = 0
    · replace h := ite_t h h5
      replace h := Option.some.inj h
      subst h
      exact (run (n := 100) (f := 22) (args := [.agg [I a0, I a1, I a2], .agg [I a3, I a4, I a5]]) (orc := [.ret (I t1), .br false, .ret (.tup [.agg [I t4.1, I t4.2.1, I t4.2.2.1], I t4.2.2.2]), .br false]) (r := .tup [.agg [I t4.1, I t4.2.1, I t4.2.2.1], .lst true 1 [I (a0 - a3), I a2], I 0]) (ob := [(t4.2.2.2 != 0) = false, Computes cx 20 [.agg [I a0, I a1, I a2], .agg [I a3, I a4, I a5], .lst true 1 [I (a0 - a3), I a2]] (.tup [.agg [I t4.1, I t4.2.1, I t4.2.2.1], I t4.2.2.2]), inI64 (a0 - a3), (t1 != 0) = false, Computes cx 30 [.agg [I a0, I a1, I a2], .agg [I a3, I a4, I a5]] (I t1)]) (by kernel_rfl) ⟨(nef h5), ((c_drive_Moved h4).le (.cons (.refl _) (.cons (.refl _) (.cons (.full _ _ _) (.nil)))) (.refl _)), h3, (nef h2), (c_drive_CheckState h1), trivial⟩).le (LEs.refl _) (.tups (.cons (.refl _) (.cons (.full _ _ _) (.cons (.refl _) (.nil)))))
    · replace h := ite_f h h5
      replace h := Option.some.inj h
      subst h
      exact (run (n := 100) (f := 22) (args := [.agg [I a0, I a1, I a2], .agg [I a3, I a4, I a5]]) (orc := [.ret (I t1), .br false, .ret (.tup [.agg [I t4.1, I t4.2.1, I t4.2.2.1], I t4.2.2.2]), .br true]) (r := .tup [.agg [I 0, I 0, I 0], .lst true 0 [], I t4.2.2.2]) (ob := [(t4.2.2.2 != 0) = true, Computes cx 20 [.agg [I a0, I a1, I a2], .agg [I a3, I a4, I a5], .lst true 1 [I (a0 - a3), I a2]] (.tup [.agg [I t4.1, I t4.2.1, I t4.2.2.1], I t4.2.2.2]), inI64 (a0 - a3), (t1 != 0) = false, Computes cx 30 [.agg [I a0, I a1, I a2], .agg [I a3, I a4, I a5]] (I t1)]) (by kernel_rfl) ⟨(net h5), ((c_drive_Moved h4).le (.cons (.refl _) (.cons (.refl _) (.cons (.full _ _ _) (.nil)))) (.refl _)), h3, (nef h2), (c_drive_CheckState h1), trivial⟩).le (LEs.refl _) (.tups (.cons (.refl _) (.cons (.lst _ _ _ _ _ nofun (.inl rfl)) (.cons (.refl _) (.nil)))))
  · replace h := ite_f h h2
    replace h := Option.some.inj h
    subst h
    exact (run (n := 100) (f := 22) (args := [.agg [I a0, I a1, I a2], .agg [I a3, I a4, I a5]]) (orc := [.ret (I t1), .br true]) (r := .tup [.agg [I 0, I 0, I 0], .lst true 0 [], I t1]) (ob := [(t1 != 0) = true, Computes cx 30 [.agg [I a0, I a1, I a2], .agg [I a3, I a4, I a5]] (I t1)]) (by kernel_rfl) ⟨(net h2), (c_drive_CheckState h1), trivial⟩).le (LEs.refl _) (.tups (.cons (.refl _) (.cons (.lst _ _ _ _ _ nofun (.inl rfl)) (.cons (.refl _) (.nil)))))
def enc_Ai3Z (x : Int × Int × Int) : D := .agg [I x.1, I x.2.1, I x.2.2]
def un_Ai3Z : D → Option (Int × Int × Int)
  | .agg [c0, c1, c2] => (un_int .i64 c0).bind fun y0 => (un_int .i64 c1).bind fun y1 => (un_int .i64 c2).bind fun y2 => some (y0, y1, y2)
  | _ => none
theorem un_Ai3Z_ok {d : D} {x : Int × Int × Int} (h : un_Ai3Z d = some x) : d = enc_Ai3Z x := by
  unfold un_Ai3Z at h
  split at h
  case h_2 => cases h
  obtain ⟨y0, h0, h⟩ := bnd_of h
  obtain ⟨y1, h1, h⟩ := bnd_of h
  obtain ⟨y2, h2, h⟩ := bnd_of h
  cases h
  have e0 := un_int_ok h0
  have e1 := un_int_ok h1
  have e2 := un_int_ok h2
  rw [e0, e1, e2]; rfl
/- (spillage/drive.Spot).check: .agg [I a0, I a1, I a2] -/
def F_drive_Spot_check_3 (n : Nat) (a0 : Int) (a1 : Int) (a2 : Int) : Option (Int) :=
  (F_drive_within n a0 (-1000) 1000).bind fun t1 =>
  (F_drive_checkEnds n a1 a2 1000000).bind fun t2 =>
  (F_drive_first n ([I t1, I t2])).bind fun t3 =>
  some t3
theorem c_drive_Spot_check_3 {n : Nat} {a0 : Int} {a1 : Int} {a2 : Int} {r : Int} (h : F_drive_Spot_check_3 n a0 a1 a2 = some r) : Computes cx 96 [.agg [I a0, I a1, I a2]] (I r) := by
  unfold F_drive_Spot_check_3 at h
  obtain ⟨t1, h1, h⟩ := bnd_of h
  obtain ⟨t2, h2, h⟩ := bnd_of h
  obtain ⟨t3, h3, h⟩ := bnd_of h
  replace h := Option.some.inj h
  subst h
  exact run (n := 100) (f := 96) (args := [.agg [I a0, I a1, I a2]]) (orc := [.ret (I t1), .ret (I t2), .ret (I t3)]) (r := I t3) (ob := [Computes cx 84 [.lst true 1 [I t1, I t2]] (I t3), Computes cx 88 [.agg [I a1, I a2], I 1000000] (I t2), Computes cx 89 [I a0, I (-1000), I 1000] (I t1)]) (by kernel_rfl) ⟨((c_drive_first h3).le (.cons (.full _ _ _) (.nil)) (.refl _)), (c_drive_checkEnds h2), (c_drive_within h1), trivial⟩
def F_drive_mapped_g_2_L1 (n : Nat) (a0 : List D) (sa : (Int × List D)) : Option (((Int × List D)) ⊕ ((List D))) :=
  if sa.1 < ((a0).length : Int) then
    (el un_Ai3Z a0 sa.1).bind fun ta2 =>
    (F_drive_Spot_check_3 n ta2.1 ta2.2.1 ta2.2.2).bind fun ta3 =>
    if roomP 8 ((sa.2).length + 1) then
    if inI64 (sa.1 + 1) then
    some (.inl ((sa.1 + 1), (sa.2 ++ ([I ta3] : List D))))
    else none
    else none
  else
  some (.inr sa.2)
noncomputable def T_drive_mapped_g_2_L1 (a0 : List D) (sa : (Int × List D)) : List (Nat × AV) := [(1, .d (.fn (.func 96) [] [])), (5, .own 5 0), (8, .d (.lst false 3 a0)), (9, .d (I ((a0).length : Int))), (10, .d (I sa.1))]
noncomputable def H_drive_mapped_g_2_L1 (a0 : List D) (sa : (Int × List D)) : List (Nat × Blk) := [(5, .row 0 1 sa.2)]
noncomputable def X_drive_mapped_g_2_L1 (a0 : List D) (e : (List D)) : Ex := (.exit 0)
noncomputable def XT_drive_mapped_g_2_L1 (a0 : List D) (e : (List D)) : List (Nat × AV) := [(5, .own 5 0)]
noncomputable def XH_drive_mapped_g_2_L1 (a0 : List D) (e : (List D)) : List (Nat × Blk) := [(5, .row 0 1 e)]
theorem R_drive_mapped_g_2_L1 {n : Nat} {a0 : List D} (sa : (Int × List D)) (r) (h : F_drive_mapped_g_2_L1 n a0 sa = some r) : Rd cx (loopAt cx.P 95 0) 22 0 false (T_drive_mapped_g_2_L1 a0) (H_drive_mapped_g_2_L1 a0) (X_drive_mapped_g_2_L1 a0) (XT_drive_mapped_g_2_L1 a0) (XH_drive_mapped_g_2_L1 a0) sa r := by
  unfold F_drive_mapped_g_2_L1 at h
  by_cases ha1 : sa.1 < ((a0).length : Int)
  · replace h := ite_t h ha1
    obtain ⟨ta2, ha2, h⟩ := bnd_of h
    obtain ⟨ta3, ha3, h⟩ := bnd_of h
    obtain ⟨ha4, h⟩ := grd_of h
    obtain ⟨ha5, h⟩ := grd_of h
    replace h := Option.some.inj h
    subst h
    exact ⟨100, 6, [.br true, .el (.agg [I ta2.1, I ta2.2.1, I ta2.2.2]), .ret (I ta3), .br true], [], [1, 5, 8, 9, 10], [5], round_of (ob := [inI64 (sa.1 + 1), room cx 32 ((sa.2).length + 1), Computes cx 96 [.agg [I ta2.1, I ta2.2.1, I ta2.2.2]] (I ta3), (0 : Int) ≤ sa.1, nth (a0) (Int.toNat sa.1) = some (.agg [I ta2.1, I ta2.2.1, I ta2.2.2]), (decide (sa.1 < ((a0).length : Int))) = true]) (by kernel_rfl) ⟨ha5, (room_of (b := 8) (by kernel_rfl) (by decide) ha4), (c_drive_Spot_check_3 ha3), (el_ok un_Ai3Z_ok ha2).1, (el_ok un_Ai3Z_ok ha2).2, (decide_eq_true ha1), trivial⟩⟩
  · replace h := ite_f h ha1
    replace h := Option.some.inj h
    subst h
    exact ⟨⟨100, 6, [.br false], [], [5], [5], round_of (ob := [(decide (sa.1 < ((a0).length : Int))) = false]) (by kernel_rfl) ⟨(decide_eq_false ha1), trivial⟩⟩, nofun⟩
/- spillage/drive.mapped[spillage/drive.Spot,spillage/api.Errno]: .lst false 3 a0, .fn (.func 96) [] [] -/
def F_drive_mapped_g_2 (n : Nat) (a0 : List D) : Option (List D) :=
  (loopF (F_drive_mapped_g_2_L1 n a0) n (0, [])).bind fun t1 =>
  some t1
theorem c_drive_mapped_g_2 {n : Nat} {a0 : List D} {r : List D} (h : F_drive_mapped_g_2 n a0 = some r) : Computes cx 95 [.lst false 3 a0, .fn (.func 96) [] []] (.lst false 1 r) := by
  unfold F_drive_mapped_g_2 at h
  obtain ⟨t1, h1, h⟩ := bnd_of h
  replace h := Option.some.inj h
  subst h
  exact run (n := 100) (f := 95) (args := [.lst false 3 a0, .fn (.func 96) [] []]) (orc := [.lp [5, 1] [1, 5, 8, 9, 10] [5] (.exit 0) [(5, .own 5 0)] [(5, .row 0 1 t1)] 31]) (r := .lst false 1 t1) (ob := [LoopN cx (loopAt cx.P 95 0) 22 0 false [(1, .d (.fn (.func 96) [] [])), (5, .own 5 0), (8, .d (.lst false 3 a0)), (9, .d (I ((a0).length : Int))), (10, .d (I 0))] [(5, .row 0 1 [])] (.exit 0) [(5, .own 5 0)] [(5, .row 0 1 t1)]]) (by kernel_rfl) ⟨(loopF_to R_drive_mapped_g_2_L1 h1), trivial⟩
/- spillage/drive.CheckSpots: .lst false 3 a0 -/
def F_drive_CheckSpots_2 (n : Nat) (a0 : List D) : Option (Int) :=
  (F_drive_when_2 n (((a0).length : Int) == 0) 12).bind fun t1 =>
  (F_drive_when_2 n (decide (((a0).length : Int) > 16)) 5).bind fun t2 =>
  (F_drive_first n ([I t1, I t2])).bind fun t3 =>
  if t3 = 0 then
    (F_drive_mapped_g_2 n a0).bind fun t5 =>
    (F_drive_first n t5).bind fun t6 =>
    some t6
  else
  some t3
theorem c_drive_CheckSpots_2 {n : Nat} {a0 : List D} {r : Int} (h : F_drive_CheckSpots_2 n a0 = some r) : Computes cx 42 [.lst false 3 a0] (I r) := by
  unfold F_drive_CheckSpots_2 at h
  obtain ⟨t1, h1, h⟩ := bnd_of h
  obtain ⟨t2, h2, h⟩ := bnd_of h
  obtain ⟨t3, h3, h⟩ := bnd_of h
  by_cases h4 : t3 = 0
  · replace h := ite_t h h4
    obtain ⟨t5, h5, h⟩ := bnd_of h
    obtain ⟨t6, h6, h⟩ := bnd_of h
    replace h := Option.some.inj h
    subst h
    exact run (n := 100) (f := 42) (args := [.lst false 3 a0]) (orc := [.ret (I t1), .ret (I t2), .ret (I t3), .br false, .ret (.lst false 1 t5), .ret (I t6)]) (r := I t6) (ob := [Computes cx 84 [.lst false 1 t5] (I t6), Computes cx 95 [.lst false 3 a0, .fn (.func 96) [] []] (.lst false 1 t5), (t3 != 0) = false, Computes cx 84 [.lst true 1 [I t1, I t2]] (I t3), Computes cx 85 [B (decide (((a0).length : Int) > 16)), I 5] (I t2), Computes cx 85 [B (((a0).length : Int) == 0), I 12] (I t1)]) (by kernel_rfl) ⟨(c_drive_first h6), (c_drive_mapped_g_2 h5), (nef h4), ((c_drive_first h3).le (.cons (.full _ _ _) (.nil)) (.refl _)), (c_drive_when_2 h2), (c_drive_when_2 h1), trivial⟩
  · replace h := ite_f h h4
    replace h := Option.some.inj h
    subst h
    exact run (n := 100) (f := 42) (args := [.lst false 3 a0]) (orc := [.ret (I t1), .ret (I t2), .ret (I t3), .br true]) (r := I t3) (ob := [(t3 != 0) = true, Computes cx 84 [.lst true 1 [I t1, I t2]] (I t3), Computes cx 85 [B (decide (((a0).length : Int) > 16)), I 5] (I t2), Computes cx 85 [B (((a0).length : Int) == 0), I 12] (I t1)]) (by kernel_rfl) ⟨(net h4), ((c_drive_first h3).le (.cons (.full _ _ _) (.nil)) (.refl _)), (c_drive_when_2 h2), (c_drive_when_2 h1), trivial⟩
/- spillage/drive.both: .agg [I a0, I a1], .agg [I a2, I a3] -/
def F_drive_both_2 (n : Nat) (a0 : Int) (a1 : Int) (a2 : Int) (a3 : Int) : Option (Int × Int × Bool) :=
  some ((maxI a0 a2), (minI a1 a3), (decide ((maxI a0 a2) ≤ (minI a1 a3))))
theorem c_drive_both_2 {n : Nat} {a0 : Int} {a1 : Int} {a2 : Int} {a3 : Int} {r : Int × Int × Bool} (h : F_drive_both_2 n a0 a1 a2 a3 = some r) : Computes cx 122 [.agg [I a0, I a1], .agg [I a2, I a3]] (.tup [.agg [I r.1, I r.2.1], B r.2.2]) := by
  unfold F_drive_both_2 at h
  replace h := Option.some.inj h
  subst h
  exact run (n := 100) (f := 122) (args := [.agg [I a0, I a1], .agg [I a2, I a3]]) (orc := []) (r := .tup [.agg [I (maxI a0 a2), I (minI a1 a3)], B (decide ((maxI a0 a2) ≤ (minI a1 a3)))]) (ob := []) (by kernel_rfl) trivial
/- (spillage/drive.Band).seen: .agg [I a0, I a1, I a2], .agg [I a3, I a4, I a5] -/
def F_drive_Band_seen_2 (n : Nat) (a0 : Int) (a1 : Int) (a2 : Int) (a3 : Int) (a4 : Int) (a5 : Int) : Option (Int × Int × Int × Bool) :=
  if inI64 (a0 * a3) then
  if inI64 (a4 - (a0 * a3)) then
  if inI64 (a5 - (a0 * a3)) then
  (F_drive_both_2 n a1 a2 (a4 - (a0 * a3)) (a5 - (a0 * a3))).bind fun t4 =>
  some (a0, t4.1, t4.2.1, t4.2.2)
  else none
  else none
  else none
theorem c_drive_Band_seen_2 {n : Nat} {a0 : Int} {a1 : Int} {a2 : Int} {a3 : Int} {a4 : Int} {a5 : Int} {r : Int × Int × Int × Bool} (h : F_drive_Band_seen_2 n a0 a1 a2 a3 a4 a5 = some r) : Computes cx 93 [.agg [I a0, I a1, I a2], .agg [I a3, I a4, I a5]] (.tup [.agg [I r.1, I r.2.1, I r.2.2.1], B r.2.2.2]) := by
  unfold F_drive_Band_seen_2 at h
  obtain ⟨h1, h⟩ := grd_of h
  obtain ⟨h2, h⟩ := grd_of h
  obtain ⟨h3, h⟩ := grd_of h
  obtain ⟨t4, h4, h⟩ := bnd_of h
  replace h := Option.some.inj h
  subst h
  exact run (n := 100) (f := 93) (args := [.agg [I a0, I a1, I a2], .agg [I a3, I a4, I a5]]) (orc := [.ret (.tup [.agg [I t4.1, I t4.2.1], B t4.2.2])]) (r := .tup [.agg [I a0, I t4.1, I t4.2.1], B t4.2.2]) (ob := [Computes cx 122 [.agg [I a1, I a2], .agg [I (a4 - (a0 * a3)), I (a5 - (a0 * a3))]] (.tup [.agg [I t4.1, I t4.2.1], B t4.2.2]), inI64 (a5 - (a0 * a3)), inI64 (a4 - (a0 * a3)), inI64 (a0 * a3)]) (by kernel_rfl) ⟨(c_drive_both_2 h4), h3, h2, h1, trivial⟩
def F_drive_Fitted_2_L2 (n : Nat) (a0 : List D) (a1 : Int) (a2 : Int) (sa : Int × List D) (sb : (Int × Int × Int × Int)) : Option (((Int × Int × Int × Int)) ⊕ ((Unit) ⊕ (Int × Int × Int))) :=
  if sb.1 < ((a0).length : Int) then
    (el un_Ai3Z a0 sb.1).bind fun tb2 =>
    (F_drive_Band_seen_2 n sb.2.1 sb.2.2.1 sb.2.2.2 tb2.1 tb2.2.1 tb2.2.2).bind fun tb3 =>
    if tb3.2.2.2 = true then
      if inI64 (sb.1 + 1) then
      some (.inl ((sb.1 + 1), tb3.1, tb3.2.1, tb3.2.2.1))
      else none
    else
    some (.inr (.inl ()))
  else
  some (.inr (.inr (sb.2.1, sb.2.2.1, sb.2.2.2)))
noncomputable def T_drive_Fitted_2_L2 (a0 : List D) (a1 : Int) (a2 : Int) (sa : Int × List D) (sb : (Int × Int × Int × Int)) : List (Nat × AV) := [(0, .d (.lst false 3 a0)), (3, .ptr 0 0 0 0 0), (7, .own 20 0), (9, .ptr 30 0 0 0 0), (28, .d (I ((a2 - a1) + 1))), (29, .d (I sa.1)), (38, .d (.lst false 3 a0)), (39, .d (I ((a0).length : Int))), (40, .d (I sb.1))]
noncomputable def H_drive_Fitted_2_L2 (a0 : List D) (a1 : Int) (a2 : Int) (sa : Int × List D) (sb : (Int × Int × Int × Int)) : List (Nat × Blk) := [(0, .box (.d (.agg [I a1, I a2]))), (20, .row 0 3 sa.2), (30, .box (.d (.agg [I sb.2.1, I sb.2.2.1, I sb.2.2.2])))]
noncomputable def X_drive_Fitted_2_L2 (a0 : List D) (a1 : Int) (a2 : Int) (sa : Int × List D) (e : (Unit) ⊕ (Int × Int × Int)) : Ex := match e with
  | (.inl e) => (.exit 1)
  | (.inr e) => (.exit 2)
noncomputable def XT_drive_Fitted_2_L2 (a0 : List D) (a1 : Int) (a2 : Int) (sa : Int × List D) (e : (Unit) ⊕ (Int × Int × Int)) : List (Nat × AV) := match e with
  | (.inl e) => [(0, .d (.lst false 3 a0)), (3, .ptr 0 0 0 0 0), (7, .own 20 0), (28, .d (I ((a2 - a1) + 1))), (29, .d (I sa.1))]
  | (.inr e) => [(0, .d (.lst false 3 a0)), (3, .ptr 0 0 0 0 0), (7, .own 20 0), (9, .ptr 30 0 0 0 0), (28, .d (I ((a2 - a1) + 1))), (29, .d (I sa.1))]
noncomputable def XH_drive_Fitted_2_L2 (a0 : List D) (a1 : Int) (a2 : Int) (sa : Int × List D) (e : (Unit) ⊕ (Int × Int × Int)) : List (Nat × Blk) := match e with
  | (.inl e) => [(0, .box (.d (.agg [I a1, I a2]))), (20, .row 0 3 sa.2)]
  | (.inr e) => [(0, .box (.d (.agg [I a1, I a2]))), (20, .row 0 3 sa.2), (30, .box (.d (.agg [I e.1, I e.2.1, I e.2.2])))]
theorem R_drive_Fitted_2_L2 {n : Nat} {a0 : List D} {a1 : Int} {a2 : Int} {sa : Int × List D} (sb : (Int × Int × Int × Int)) (r) (h : F_drive_Fitted_2_L2 n a0 a1 a2 sa sb = some r) : Rd cx (loopAt cx.P 37 1) 72 0 false (T_drive_Fitted_2_L2 a0 a1 a2 sa) (H_drive_Fitted_2_L2 a0 a1 a2 sa) (X_drive_Fitted_2_L2 a0 a1 a2 sa) (XT_drive_Fitted_2_L2 a0 a1 a2 sa) (XH_drive_Fitted_2_L2 a0 a1 a2 sa) sb r := by
  unfold F_drive_Fitted_2_L2 at h
  by_cases hb1 : sb.1 < ((a0).length : Int)
  · replace h := ite_t h hb1
    obtain ⟨tb2, hb2, h⟩ := bnd_of h
    obtain ⟨tb3, hb3, h⟩ := bnd_of h
    by_cases hb4 : tb3.2.2.2 = true
    · replace h := ite_t h hb4
      obtain ⟨hb5, h⟩ := grd_of h
      replace h := Option.some.inj h
      subst h
      exact ⟨100, 35, [.br true, .el (.agg [I tb2.1, I tb2.2.1, I tb2.2.2]), .ret (.tup [.agg [I tb3.1, I tb3.2.1, I tb3.2.2.1], B tb3.2.2.2]), .br false], [], [0, 3, 7, 9, 28, 29, 38, 39, 40], [0, 20, 30], round_of (ob := [inI64 (sb.1 + 1), (!tb3.2.2.2) = false, Computes cx 93 [.agg [I sb.2.1, I sb.2.2.1, I sb.2.2.2], .agg [I tb2.1, I tb2.2.1, I tb2.2.2]] (.tup [.agg [I tb3.1, I tb3.2.1, I tb3.2.2.1], B tb3.2.2.2]), (0 : Int) ≤ sb.1, nth (a0) (Int.toNat sb.1) = some (.agg [I tb2.1, I tb2.2.1, I tb2.2.2]), (decide (sb.1 < ((a0).length : Int))) = true]) (by kernel_rfl) ⟨hb5, (notf hb4), (c_drive_Band_seen_2 hb3), (el_ok un_Ai3Z_ok hb2).1, (el_ok un_Ai3Z_ok hb2).2, (decide_eq_true hb1), trivial⟩⟩
    · replace h := ite_f h hb4
      replace h := Option.some.inj h
      subst h
      exact ⟨⟨100, 35, [.br true, .el (.agg [I tb2.1, I tb2.2.1, I tb2.2.2]), .ret (.tup [.agg [I tb3.1, I tb3.2.1, I tb3.2.2.1], B tb3.2.2.2]), .br true], [], [0, 3, 7, 28, 29], [0, 20], round_of (ob := [(!tb3.2.2.2) = true, Computes cx 93 [.agg [I sb.2.1, I sb.2.2.1, I sb.2.2.2], .agg [I tb2.1, I tb2.2.1, I tb2.2.2]] (.tup [.agg [I tb3.1, I tb3.2.1, I tb3.2.2.1], B tb3.2.2.2]), (0 : Int) ≤ sb.1, nth (a0) (Int.toNat sb.1) = some (.agg [I tb2.1, I tb2.2.1, I tb2.2.2]), (decide (sb.1 < ((a0).length : Int))) = true]) (by kernel_rfl) ⟨(nott (bfalse hb4)), (c_drive_Band_seen_2 hb3), (el_ok un_Ai3Z_ok hb2).1, (el_ok un_Ai3Z_ok hb2).2, (decide_eq_true hb1), trivial⟩⟩, nofun⟩
  · replace h := ite_f h hb1
    replace h := Option.some.inj h
    subst h
    exact ⟨⟨100, 35, [.br false], [], [0, 3, 7, 9, 28, 29], [0, 20, 30], round_of (ob := [(decide (sb.1 < ((a0).length : Int))) = false]) (by kernel_rfl) ⟨(decide_eq_false hb1), trivial⟩⟩, nofun⟩
def F_drive_Fitted_2_L3 (n : Nat) (a0 : List D) (a1 : Int) (a2 : Int) (sa : (Int × List D)) : Option (((Int × List D)) ⊕ ((List D))) :=
  if sa.1 < ((a2 - a1) + 1) then
    if inI64 (a1 + sa.1) then
    (loopF (F_drive_Fitted_2_L2 n a0 a1 a2 sa) n (0, (a1 + sa.1), (-2000000), 2000000)).bind fun ta3 => match ta3 with
      | (.inl ta3) => (
        if inI64 (sa.1 + 1) then
        some (.inl ((sa.1 + 1), sa.2))
        else none)
      | (.inr ta3) => (
        if roomP 24 ((sa.2).length + 1) then
        if inI64 (sa.1 + 1) then
        some (.inl ((sa.1 + 1), (sa.2 ++ ([.agg [I ta3.1, I ta3.2.1, I ta3.2.2]] : List D))))
        else none
        else none)
    else none
  else
  some (.inr sa.2)
noncomputable def T_drive_Fitted_2_L3 (a0 : List D) (a1 : Int) (a2 : Int) (sa : (Int × List D)) : List (Nat × AV) := [(0, .d (.lst false 3 a0)), (3, .ptr 0 0 0 0 0), (7, .own 20 0), (28, .d (I ((a2 - a1) + 1))), (29, .d (I sa.1))]
noncomputable def H_drive_Fitted_2_L3 (a0 : List D) (a1 : Int) (a2 : Int) (sa : (Int × List D)) : List (Nat × Blk) := [(0, .box (.d (.agg [I a1, I a2]))), (20, .row 0 3 sa.2)]
noncomputable def X_drive_Fitted_2_L3 (a0 : List D) (a1 : Int) (a2 : Int) (e : (List D)) : Ex := (.exit 0)
noncomputable def XT_drive_Fitted_2_L3 (a0 : List D) (a1 : Int) (a2 : Int) (e : (List D)) : List (Nat × AV) := [(7, .own 20 0)]
noncomputable def XH_drive_Fitted_2_L3 (a0 : List D) (a1 : Int) (a2 : Int) (e : (List D)) : List (Nat × Blk) := [(20, .row 0 3 e)]
theorem R_drive_Fitted_2_L3 {n : Nat} {a0 : List D} {a1 : Int} {a2 : Int} (sa : (Int × List D)) (r) (h : F_drive_Fitted_2_L3 n a0 a1 a2 sa = some r) : Rd cx (loopAt cx.P 37 0) 72 0 false (T_drive_Fitted_2_L3 a0 a1 a2) (H_drive_Fitted_2_L3 a0 a1 a2) (X_drive_Fitted_2_L3 a0 a1 a2) (XT_drive_Fitted_2_L3 a0 a1 a2) (XH_drive_Fitted_2_L3 a0 a1 a2) sa r := by
  unfold F_drive_Fitted_2_L3 at h
  by_cases ha1 : sa.1 < ((a2 - a1) + 1)
  · replace h := ite_t h ha1
    obtain ⟨ha2, h⟩ := grd_of h
    obtain ⟨ta3, ha3, h⟩ := bnd_of h
    rcases ta3 with ta3 | ta3
    · obtain ⟨ha4, h⟩ := grd_of h
      replace h := Option.some.inj h
      subst h
      exact ⟨100, 21, [.br true, .lp [] [0, 3, 7, 9, 28, 29, 38, 39, 40] [0, 20, 30] (.exit 1) [(0, .d (.lst false 3 a0)), (3, .ptr 0 0 0 0 0), (7, .own 20 0), (28, .d (I ((a2 - a1) + 1))), (29, .d (I sa.1))] [(0, .box (.d (.agg [I a1, I a2]))), (20, .row 0 3 sa.2)] 64], [], [0, 3, 7, 28, 29], [0, 20], round_of (ob := [inI64 (sa.1 + 1), LoopN cx (loopAt cx.P 37 1) 72 0 false [(0, .d (.lst false 3 a0)), (3, .ptr 0 0 0 0 0), (7, .own 20 0), (9, .ptr 30 0 0 0 0), (28, .d (I ((a2 - a1) + 1))), (29, .d (I sa.1)), (38, .d (.lst false 3 a0)), (39, .d (I ((a0).length : Int))), (40, .d (I 0))] [(0, .box (.d (.agg [I a1, I a2]))), (20, .row 0 3 sa.2), (30, .box (.d (.agg [I (a1 + sa.1), I (-2000000), I 2000000])))] (.exit 1) [(0, .d (.lst false 3 a0)), (3, .ptr 0 0 0 0 0), (7, .own 20 0), (28, .d (I ((a2 - a1) + 1))), (29, .d (I sa.1))] [(0, .box (.d (.agg [I a1, I a2]))), (20, .row 0 3 sa.2)], inI64 (a1 + sa.1), (decide (sa.1 < ((a2 - a1) + 1))) = true]) (by kernel_rfl) ⟨ha4, (loopF_to R_drive_Fitted_2_L2 ha3), ha2, (decide_eq_true ha1), trivial⟩⟩
    · obtain ⟨ha4, h⟩ := grd_of h
      obtain ⟨ha5, h⟩ := grd_of h
      replace h := Option.some.inj h
      subst h
      exact ⟨100, 21, [.br true, .lp [] [0, 3, 7, 9, 28, 29, 38, 39, 40] [0, 20, 30] (.exit 2) [(0, .d (.lst false 3 a0)), (3, .ptr 0 0 0 0 0), (7, .own 20 0), (9, .ptr 30 0 0 0 0), (28, .d (I ((a2 - a1) + 1))), (29, .d (I sa.1))] [(0, .box (.d (.agg [I a1, I a2]))), (20, .row 0 3 sa.2), (30, .box (.d (.agg [I ta3.1, I ta3.2.1, I ta3.2.2])))] 64, .br true], [], [0, 3, 7, 28, 29], [0, 20], round_of (ob := [inI64 (sa.1 + 1), room cx 142 ((sa.2).length + 1), LoopN cx (loopAt cx.P 37 1) 72 0 false [(0, .d (.lst false 3 a0)), (3, .ptr 0 0 0 0 0), (7, .own 20 0), (9, .ptr 30 0 0 0 0), (28, .d (I ((a2 - a1) + 1))), (29, .d (I sa.1)), (38, .d (.lst false 3 a0)), (39, .d (I ((a0).length : Int))), (40, .d (I 0))] [(0, .box (.d (.agg [I a1, I a2]))), (20, .row 0 3 sa.2), (30, .box (.d (.agg [I (a1 + sa.1), I (-2000000), I 2000000])))] (.exit 2) [(0, .d (.lst false 3 a0)), (3, .ptr 0 0 0 0 0), (7, .own 20 0), (9, .ptr 30 0 0 0 0), (28, .d (I ((a2 - a1) + 1))), (29, .d (I sa.1))] [(0, .box (.d (.agg [I a1, I a2]))), (20, .row 0 3 sa.2), (30, .box (.d (.agg [I ta3.1, I ta3.2.1, I ta3.2.2])))], inI64 (a1 + sa.1), (decide (sa.1 < ((a2 - a1) + 1))) = true]) (by kernel_rfl) ⟨ha5, (room_of (b := 24) (by kernel_rfl) (by decide) ha4), (loopF_to R_drive_Fitted_2_L2 ha3), ha2, (decide_eq_true ha1), trivial⟩⟩
  · replace h := ite_f h ha1
    replace h := Option.some.inj h
    subst h
    exact ⟨⟨100, 21, [.br false], [], [7], [20], round_of (ob := [(decide (sa.1 < ((a2 - a1) + 1))) = false]) (by kernel_rfl) ⟨(decide_eq_false ha1), trivial⟩⟩, nofun⟩
/- spillage/drive.Fitted: .lst false 3 a0, .agg [I a1, I a2] -/
def F_drive_Fitted_2 (n : Nat) (a0 : List D) (a1 : Int) (a2 : Int) : Option (List D × Int) :=
  (F_drive_CheckSpots_2 n a0).bind fun t1 =>
  (F_drive_checkEnds n a1 a2 1000).bind fun t2 =>
  (F_drive_first n ([I t1, I t2])).bind fun t3 =>
  if t3 = 0 then
    if inI64 (a2 - a1) then
    if inI64 ((a2 - a1) + 1) then
    (loopF (F_drive_Fitted_2_L3 n a0 a1 a2) n (0, [])).bind fun t7 =>
    (F_drive_when_2 n (((t7).length : Int) == 0) 18).bind fun t8 =>
    (F_drive_when_2 n (decide (((t7).length : Int) > 64)) 5).bind fun t9 =>
    (F_drive_first n ([I t8, I t9])).bind fun t10 =>
    if t10 = 0 then
      some (t7, 0)
    else
    some ([], t10)
    else none
    else none
  else
  some ([], t3)
theorem c_drive_Fitted_2 {n : Nat} {a0 : List D} {a1 : Int} {a2 : Int} {r : List D × Int} (h : F_drive_Fitted_2 n a0 a1 a2 = some r) : Computes cx 37 [.lst false 3 a0, .agg [I a1, I a2]] (.tup [.lst false 3 r.1, I r.2]) := by
  unfold F_drive_Fitted_2 at h
  obtain ⟨t1, h1, h⟩ := bnd_of h
  obtain ⟨t2, h2, h⟩ := bnd_of h
  obtain ⟨t3, h3, h⟩ := bnd_of h
  by_cases h4 : t3 = 0
  · replace h := ite_t h h4
    obtain ⟨h5, h⟩ := grd_of h
    obtain ⟨h6, h⟩ := grd_of h
    obtain ⟨t7, h7, h⟩ := bnd_of h
    obtain ⟨t8, h8, h⟩ := bnd_of h
    obtain ⟨t9, h9, h⟩ := bnd_of h
    obtain ⟨t10, h10, h⟩ := bnd_of h
    by_cases h11 : t10 = 0
    · replace h := ite_t h h11
      replace h := Option.some.inj h
      subst h
      exact run (n := 100) (f := 37) (args := [.lst false 3 a0, .agg [I a1, I a2]]) (orc := [.ret (I t1), .ret (I t2), .ret (I t3), .br false, .lp [7, 3] [0, 3, 7, 28, 29] [0, 20] (.exit 0) [(7, .own 20 0)] [(20, .row 0 3 t7)] 82, .ret (I t8), .ret (I t9), .ret (I t10), .br false]) (r := .tup [.lst false 3 t7, I 0]) (ob := [(t10 != 0) = false, Computes cx 84 [.lst true 1 [I t8, I t9]] (I t10), Computes cx 85 [B (decide (((t7).length : Int) > 64)), I 5] (I t9), Computes cx 85 [B (((t7).length : Int) == 0), I 18] (I t8), LoopN cx (loopAt cx.P 37 0) 72 0 false [(0, .d (.lst false 3 a0)), (3, .ptr 0 0 0 0 0), (7, .own 20 0), (28, .d (I ((a2 - a1) + 1))), (29, .d (I 0))] [(0, .box (.d (.agg [I a1, I a2]))), (20, .row 0 3 [])] (.exit 0) [(7, .own 20 0)] [(20, .row 0 3 t7)], inI64 ((a2 - a1) + 1), inI64 (a2 - a1), (t3 != 0) = false, Computes cx 84 [.lst true 1 [I t1, I t2]] (I t3), Computes cx 88 [.agg [I a1, I a2], I 1000] (I t2), Computes cx 42 [.lst false 3 a0] (I t1)]) (by kernel_rfl) ⟨(nef h11), ((c_drive_first h10).le (.cons (.full _ _ _) (.nil)) (.refl _)), (c_drive_when_2 h9), (c_drive_when_2 h8), (loopF_to R_drive_Fitted_2_L3 h7), h6, h5, (nef h4), ((c_drive_first h3).le (.cons (.full _ _ _) (.nil)) (.refl _)), (c_drive_checkEnds h2), (c_drive_CheckSpots_2 h1), trivial⟩
    · replace h := ite_f h h11
      replace h := Option.some.inj h
      subst h
      exact (run (n := 100) (f := 37) (args := [.lst false 3 a0, .agg [I a1, I a2]]) (orc := [.ret (I t1), .ret (I t2), .ret (I t3), .br false, .lp [7, 3] [0, 3, 7, 28, 29] [0, 20] (.exit 0) [(7, .own 20 0)] [(20, .row 0 3 t7)] 82, .ret (I t8), .ret (I t9), .ret (I t10), .br true]) (r := .tup [.lst true 0 [], I t10]) (ob := [(t10 != 0) = true, Computes cx 84 [.lst true 1 [I t8, I t9]] (I t10), Computes cx 85 [B (decide (((t7).length : Int) > 64)), I 5] (I t9), Computes cx 85 [B (((t7).length : Int) == 0), I 18] (I t8), LoopN cx (loopAt cx.P 37 0) 72 0 false [(0, .d (.lst false 3 a0)), (3, .ptr 0 0 0 0 0), (7, .own 20 0), (28, .d (I ((a2 - a1) + 1))), (29, .d (I 0))] [(0, .box (.d (.agg [I a1, I a2]))), (20, .row 0 3 [])] (.exit 0) [(7, .own 20 0)] [(20, .row 0 3 t7)], inI64 ((a2 - a1) + 1), inI64 (a2 - a1), (t3 != 0) = false, Computes cx 84 [.lst true 1 [I t1, I t2]] (I t3), Computes cx 88 [.agg [I a1, I a2], I 1000] (I t2), Computes cx 42 [.lst false 3 a0] (I t1)]) (by kernel_rfl) ⟨(net h11), ((c_drive_first h10).le (.cons (.full _ _ _) (.nil)) (.refl _)), (c_drive_when_2 h9), (c_drive_when_2 h8), (loopF_to R_drive_Fitted_2_L3 h7), h6, h5, (nef h4), ((c_drive_first h3).le (.cons (.full _ _ _) (.nil)) (.refl _)), (c_drive_checkEnds h2), (c_drive_CheckSpots_2 h1), trivial⟩).le (LEs.refl _) (.tups (.cons (.lst _ _ _ _ _ nofun (.inl rfl)) (.cons (.refl _) (.nil))))
  · replace h := ite_f h h4
    replace h := Option.some.inj h
    subst h
    exact (run (n := 100) (f := 37) (args := [.lst false 3 a0, .agg [I a1, I a2]]) (orc := [.ret (I t1), .ret (I t2), .ret (I t3), .br true]) (r := .tup [.lst true 0 [], I t3]) (ob := [(t3 != 0) = true, Computes cx 84 [.lst true 1 [I t1, I t2]] (I t3), Computes cx 88 [.agg [I a1, I a2], I 1000] (I t2), Computes cx 42 [.lst false 3 a0] (I t1)]) (by kernel_rfl) ⟨(net h4), ((c_drive_first h3).le (.cons (.full _ _ _) (.nil)) (.refl _)), (c_drive_checkEnds h2), (c_drive_CheckSpots_2 h1), trivial⟩).le (LEs.refl _) (.tups (.cons (.lst _ _ _ _ _ nofun (.inl rfl)) (.cons (.refl _) (.nil))))
/- spillage/spillagelaw03.model:  -/
def F_law03_model (n : Nat)  : Option (List D) :=
  some [.agg [I 5, I 100, I 102]]
theorem c_law03_model {n : Nat}  {r : List D} (h : F_law03_model n  = some r) : Computes cx 83 [] (.lst false 3 r) := by
  unfold F_law03_model at h
  replace h := Option.some.inj h
  subst h
  exact (run (n := 100) (f := 83) (args := []) (orc := []) (r := .lst true 3 [.agg [I 5, I 100, I 102]]) (ob := []) (by kernel_rfl) trivial).le (LEs.refl _) (.full _ _ _)
def F_drive_CheckModel_L1 (n : Nat) (a0 : List D) (sa : (Int × Int)) : Option (((Int × Int)) ⊕ ((Int) ⊕ (Unit))) :=
  if sa.2 < ((a0).length : Int) then
    (el un_Ai3Z a0 sa.2).bind fun ta2 =>
    (F_drive_within n ta2.1 (-1000) 1000).bind fun ta3 =>
    (F_drive_checkEnds n ta2.2.1 ta2.2.2 2000000).bind fun ta4 =>
    (F_drive_when_2 n (decide (ta2.1 ≤ sa.1)) 11).bind fun ta5 =>
    (F_drive_first n ([I ta3, I ta4, I ta5])).bind fun ta6 =>
    if ta6 = 0 then
      if inI64 (sa.2 + 1) then
      some (.inl (ta2.1, (sa.2 + 1)))
      else none
    else
    some (.inr (.inl ta6))
  else
  some (.inr (.inr ()))
noncomputable def T_drive_CheckModel_L1 (a0 : List D) (sa : (Int × Int)) : List (Nat × AV) := [(4, .d (I sa.1)), (21, .d (.lst false 3 a0)), (22, .d (I ((a0).length : Int))), (23, .d (I sa.2))]
noncomputable def H_drive_CheckModel_L1 (a0 : List D) (sa : (Int × Int)) : List (Nat × Blk) := []
noncomputable def X_drive_CheckModel_L1 (a0 : List D) (e : (Int) ⊕ (Unit)) : Ex := match e with
  | (.inl e) => .ret
  | (.inr e) => (.exit 0)
noncomputable def XT_drive_CheckModel_L1 (a0 : List D) (e : (Int) ⊕ (Unit)) : List (Nat × AV) := match e with
  | (.inl e) => [(2, .d (I e))]
  | (.inr e) => []
noncomputable def XH_drive_CheckModel_L1 (a0 : List D) (e : (Int) ⊕ (Unit)) : List (Nat × Blk) := match e with
  | (.inl e) => []
  | (.inr e) => []
theorem R_drive_CheckModel_L1 {n : Nat} {a0 : List D} (sa : (Int × Int)) (r) (h : F_drive_CheckModel_L1 n a0 sa = some r) : Rd cx (loopAt cx.P 53 0) 46 0 false (T_drive_CheckModel_L1 a0) (H_drive_CheckModel_L1 a0) (X_drive_CheckModel_L1 a0) (XT_drive_CheckModel_L1 a0) (XH_drive_CheckModel_L1 a0) sa r := by
  unfold F_drive_CheckModel_L1 at h
  by_cases ha1 : sa.2 < ((a0).length : Int)
  · replace h := ite_t h ha1
    obtain ⟨ta2, ha2, h⟩ := bnd_of h
    obtain ⟨ta3, ha3, h⟩ := bnd_of h
    obtain ⟨ta4, ha4, h⟩ := bnd_of h
    obtain ⟨ta5, ha5, h⟩ := bnd_of h
    obtain ⟨ta6, ha6, h⟩ := bnd_of h
    by_cases ha7 : ta6 = 0
    · replace h := ite_t h ha7
      obtain ⟨ha8, h⟩ := grd_of h
      replace h := Option.some.inj h
      subst h
      exact ⟨100, 18, [.br true, .el (.agg [I ta2.1, I ta2.2.1, I ta2.2.2]), .ret (I ta3), .ret (I ta4), .ret (I ta5), .ret (I ta6), .br false], [], [4, 21, 22, 23], [], round_of (ob := [inI64 (sa.2 + 1), (ta6 != 0) = false, Computes cx 84 [.lst true 1 [I ta3, I ta4, I ta5]] (I ta6), Computes cx 85 [B (decide (ta2.1 ≤ sa.1)), I 11] (I ta5), Computes cx 88 [.agg [I ta2.2.1, I ta2.2.2], I 2000000] (I ta4), Computes cx 89 [I ta2.1, I (-1000), I 1000] (I ta3), (0 : Int) ≤ sa.2, nth (a0) (Int.toNat sa.2) = some (.agg [I ta2.1, I ta2.2.1, I ta2.2.2]), (decide (sa.2 < ((a0).length : Int))) = true]) (by kernel_rfl) ⟨ha8, (nef ha7), ((c_drive_first ha6).le (.cons (.full _ _ _) (.nil)) (.refl _)), (c_drive_when_2 ha5), (c_drive_checkEnds ha4), (c_drive_within ha3), (el_ok un_Ai3Z_ok ha2).1, (el_ok un_Ai3Z_ok ha2).2, (decide_eq_true ha1), trivial⟩⟩
    · replace h := ite_f h ha7
      replace h := Option.some.inj h
      subst h
      exact ⟨⟨100, 18, [.br true, .el (.agg [I ta2.1, I ta2.2.1, I ta2.2.2]), .ret (I ta3), .ret (I ta4), .ret (I ta5), .ret (I ta6), .br true], [], [2], [], round_of (ob := [(ta6 != 0) = true, Computes cx 84 [.lst true 1 [I ta3, I ta4, I ta5]] (I ta6), Computes cx 85 [B (decide (ta2.1 ≤ sa.1)), I 11] (I ta5), Computes cx 88 [.agg [I ta2.2.1, I ta2.2.2], I 2000000] (I ta4), Computes cx 89 [I ta2.1, I (-1000), I 1000] (I ta3), (0 : Int) ≤ sa.2, nth (a0) (Int.toNat sa.2) = some (.agg [I ta2.1, I ta2.2.1, I ta2.2.2]), (decide (sa.2 < ((a0).length : Int))) = true]) (by kernel_rfl) ⟨(net ha7), ((c_drive_first ha6).le (.cons (.full _ _ _) (.nil)) (.refl _)), (c_drive_when_2 ha5), (c_drive_checkEnds ha4), (c_drive_within ha3), (el_ok un_Ai3Z_ok ha2).1, (el_ok un_Ai3Z_ok ha2).2, (decide_eq_true ha1), trivial⟩⟩, nofun⟩
  · replace h := ite_f h ha1
    replace h := Option.some.inj h
    subst h
    exact ⟨⟨100, 18, [.br false], [], [], [], round_of (ob := [(decide (sa.2 < ((a0).length : Int))) = false]) (by kernel_rfl) ⟨(decide_eq_false ha1), trivial⟩⟩, nofun⟩
end Go.Proofs.YtmgbmngmmpeaaaaGreatDoor
