/-
  Printed by gsx.py: functions of the program as Lean functions, and that the code computes them.
-/
import Derived.Test.YtegcijomjkffgaaDoorBase
set_option linter.unusedVariables false
set_option linter.unusedSimpArgs false
set_option linter.unnecessarySimpa false
set_option maxRecDepth 10000
namespace Go.Proofs.YtegcijomjkffgaaDoor
open Go.SX
def enc_i (x : Int) : D := I x
def un_i (d : D) : Option (Int) := un_int .i64 d
theorem un_i_ok {d : D} {x : Int} (h : un_i d = some x) : d = enc_i x := un_int_ok h
def F_drive_first_L1 (n : Nat) (a0 : List D) (sa : (Int)) : Option (((Int)) ⊕ ((Int) ⊕ (Unit))) :=
  if sa < ((a0).length : Int) then
    (el un_i a0 sa).bind fun ta2 =>
    if ta2 = 0 then
      if inI64 (sa + 1) then
      some (.inl (sa + 1))
      else none
    else
    some (.inr (.inl ta2))
  else
  some (.inr (.inr ()))
noncomputable def T_drive_first_L1 (a0 : List D) (sa : (Int)) : List (Nat × AV) := [(5, .d (.lst false 1 a0)), (6, .d (I ((a0).length : Int))), (7, .d (I sa))]
noncomputable def H_drive_first_L1 (a0 : List D) (sa : (Int)) : List (Nat × Blk) := []
noncomputable def X_drive_first_L1 (a0 : List D) (e : (Int) ⊕ (Unit)) : Ex := match e with
  | (.inl e) => .ret
  | (.inr e) => (.exit 0)
noncomputable def XT_drive_first_L1 (a0 : List D) (e : (Int) ⊕ (Unit)) : List (Nat × AV) := match e with
  | (.inl e) => [(2, .d (I e))]
  | (.inr e) => []
noncomputable def XH_drive_first_L1 (a0 : List D) (e : (Int) ⊕ (Unit)) : List (Nat × Blk) := match e with
  | (.inl e) => []
  | (.inr e) => []
theorem R_drive_first_L1 {n : Nat} {a0 : List D} (sa : (Int)) (r) (h : F_drive_first_L1 n a0 sa = some r) : Rd cx (loopAt cx.P 29 0) 15 0 false (T_drive_first_L1 a0) (H_drive_first_L1 a0) (X_drive_first_L1 a0) (XT_drive_first_L1 a0) (XH_drive_first_L1 a0) sa r := by
  unfold F_drive_first_L1 at h
  by_cases ha1 : sa < ((a0).length : Int)
  · replace h := ite_t h ha1
    obtain ⟨ta2, ha2, h⟩ := bnd_of h
    by_cases ha3 : ta2 = 0
    · replace h := ite_t h ha3
      obtain ⟨ha4, h⟩ := grd_of h
      replace h := Option.some.inj h
      subst h
      exact ⟨100, 4, [.br true, .el (I ta2), .br false], [], [5, 6, 7], [], round_of (ob := [inI64 (sa + 1), (ta2 != 0) = false, (0 : Int) ≤ sa, nth (a0) (Int.toNat sa) = some (I ta2), (decide (sa < ((a0).length : Int))) = true]) (by kernel_rfl) ⟨ha4, (nef ha3), (el_ok un_i_ok ha2).1, (el_ok un_i_ok ha2).2, (decide_eq_true ha1), trivial⟩⟩
    · replace h := ite_f h ha3
      replace h := Option.some.inj h
      subst h
      exact ⟨⟨100, 4, [.br true, .el (I ta2), .br true], [], [2], [], round_of (ob := [(ta2 != 0) = true, (0 : Int) ≤ sa, nth (a0) (Int.toNat sa) = some (I ta2), (decide (sa < ((a0).length : Int))) = true]) (by kernel_rfl) ⟨(net ha3), (el_ok un_i_ok ha2).1, (el_ok un_i_ok ha2).2, (decide_eq_true ha1), trivial⟩⟩, nofun⟩
  · replace h := ite_f h ha1
    replace h := Option.some.inj h
    subst h
    exact ⟨⟨100, 4, [.br false], [], [], [], round_of (ob := [(decide (sa < ((a0).length : Int))) = false]) (by kernel_rfl) ⟨(decide_eq_false ha1), trivial⟩⟩, nofun⟩
/- spillage/drive.first: .lst false 1 a0 -/
def F_drive_first (n : Nat) (a0 : List D) : Option (Int) :=
  (loopF (F_drive_first_L1 n a0) n 0).bind fun t1 => match t1 with
    | (.inl t1) => (
      some t1)
    | (.inr t1) => (
      some 0)
theorem c_drive_first {n : Nat} {a0 : List D} {r : Int} (h : F_drive_first n a0 = some r) : Computes cx 29 [.lst false 1 a0] (I r) := by
  unfold F_drive_first at h
  obtain ⟨t1, h1, h⟩ := bnd_of h
  rcases t1 with t1 | t1
  · replace h := Option.some.inj h
    subst h
    exact run (n := 100) (f := 29) (args := [.lst false 1 a0]) (orc := [.lp [] [5, 6, 7] [] .ret [(2, .d (I t1))] [] 23]) (r := I t1) (ob := [LoopN cx (loopAt cx.P 29 0) 15 0 false [(5, .d (.lst false 1 a0)), (6, .d (I ((a0).length : Int))), (7, .d (I 0))] [] .ret [(2, .d (I t1))] []]) (by kernel_rfl) ⟨(loopF_to R_drive_first_L1 h1), trivial⟩
  · replace h := Option.some.inj h
    subst h
    exact run (n := 100) (f := 29) (args := [.lst false 1 a0]) (orc := [.lp [] [5, 6, 7] [] (.exit 0) [] [] 23]) (r := I 0) (ob := [LoopN cx (loopAt cx.P 29 0) 15 0 false [(5, .d (.lst false 1 a0)), (6, .d (I ((a0).length : Int))), (7, .d (I 0))] [] (.exit 0) [] []]) (by kernel_rfl) ⟨(loopF_to R_drive_first_L1 h1), trivial⟩
/- spillage/drive.when: B a0, I a1 -/
def F_drive_when_5 (n : Nat) (a0 : Bool) (a1 : Int) : Option (Int) :=
  if a0 = true then
    some a1
  else
  some 0
theorem c_drive_when_5 {n : Nat} {a0 : Bool} {a1 : Int} {r : Int} (h : F_drive_when_5 n a0 a1 = some r) : Computes cx 33 [B a0, I a1] (I r) := by
  unfold F_drive_when_5 at h
  by_cases h1 : a0 = true
  · replace h := ite_t h h1
    replace h := Option.some.inj h
    subst h
    exact run (n := 100) (f := 33) (args := [B a0, I a1]) (orc := [.br true]) (r := I a1) (ob := [a0 = true]) (by kernel_rfl) ⟨h1, trivial⟩
  · replace h := ite_f h h1
    replace h := Option.some.inj h
    subst h
    exact run (n := 100) (f := 33) (args := [B a0, I a1]) (orc := [.br false]) (r := I 0) (ob := [a0 = false]) (by kernel_rfl) ⟨(bfalse h1), trivial⟩
def enc_Ai3Z (x : Int × Int × Int) : D := .agg [I x.1, I x.2.1, I x.2.2]
def un_Ai3Z : D → Option (Int × Int × Int)
  | .agg [c0, c1, c2] => (un_int .i64 c0).bind fun y0 => (un_int .i64 c1).bind fun y1 => (un_int .i64 c2).bind fun y2 => some (y0, y1, y2)
  | _ => none
theorem un_Ai3Z_ok {d : D} {x : Int × Int × Int} (h : un_Ai3Z d = some x) : d = enc_Ai3Z x := by
  unfold un_Ai3Z at h
  split at h
  case h_2 => cases h
  obtain ⟨y0, h0, h⟩ := bnd_of h
  obtain ⟨y1, h1, h⟩ := bnd_of h
  obtain ⟨y2, h2, h⟩ := bnd_of h
  cases h
  have e0 := un_int_ok h0
  have e1 := un_int_ok h1
  have e2 := un_int_ok h2
  rw [e0, e1, e2]; rfl
/- spillage/drive.when: B true, I 3 -/
def F_drive_when_6 (n : Nat)  : Option (Int) :=
  some 3
theorem c_drive_when_6 {n : Nat}  {r : Int} (h : F_drive_when_6 n  = some r) : Computes cx 33 [B true, I 3] (I r) := by
  unfold F_drive_when_6 at h
  replace h := Option.some.inj h
  subst h
  exact run (n := 100) (f := 33) (args := [B true, I 3]) (orc := [.no]) (r := I 3) (ob := []) (by kernel_rfl) trivial
/- spillage/drive.within: I a0, I a1, I a2 -/
def F_drive_within_3 (n : Nat) (a0 : Int) (a1 : Int) (a2 : Int) : Option (Int) :=
  if a0 < a1 then
    (F_drive_when_6 n).bind fun t2 =>
    some t2
  else
  (F_drive_when_5 n (decide (a0 > a2)) 3).bind fun t2 =>
  some t2
theorem c_drive_within_3 {n : Nat} {a0 : Int} {a1 : Int} {a2 : Int} {r : Int} (h : F_drive_within_3 n a0 a1 a2 = some r) : Computes cx 35 [I a0, I a1, I a2] (I r) := by
  unfold F_drive_within_3 at h
  by_cases h1 : a0 < a1
  · replace h := ite_t h h1
    obtain ⟨t2, h2, h⟩ := bnd_of h
    replace h := Option.some.inj h
    subst h
    exact run (n := 100) (f := 35) (args := [I a0, I a1, I a2]) (orc := [.br true, .ret (I t2)]) (r := I t2) (ob := [Computes cx 33 [B true, I 3] (I t2), (decide (a0 < a1)) = true]) (by kernel_rfl) ⟨(c_drive_when_6 h2), (decide_eq_true h1), trivial⟩
  · replace h := ite_f h h1
    obtain ⟨t2, h2, h⟩ := bnd_of h
    replace h := Option.some.inj h
    subst h
    exact run (n := 100) (f := 35) (args := [I a0, I a1, I a2]) (orc := [.br false, .ret (I t2)]) (r := I t2) (ob := [Computes cx 33 [B (decide (a0 > a2)), I 3] (I t2), (decide (a0 < a1)) = false]) (by kernel_rfl) ⟨(c_drive_when_5 h2), (decide_eq_false h1), trivial⟩
/- spillage/drive.checkEnds: .agg [I a0, I a1], I a2 -/
def F_drive_checkEnds_2 (n : Nat) (a0 : Int) (a1 : Int) (a2 : Int) : Option (Int) :=
  (F_drive_within_3 n a0 (IntKind.wrap .i64 (0 - a2)) a2).bind fun t1 =>
  (F_drive_within_3 n a1 (IntKind.wrap .i64 (0 - a2)) a2).bind fun t2 =>
  (F_drive_when_5 n (decide (a0 > a1)) 11).bind fun t3 =>
  (F_drive_first n ([I t1, I t2, I t3])).bind fun t4 =>
  some t4
theorem c_drive_checkEnds_2 {n : Nat} {a0 : Int} {a1 : Int} {a2 : Int} {r : Int} (h : F_drive_checkEnds_2 n a0 a1 a2 = some r) : Computes cx 31 [.agg [I a0, I a1], I a2] (I r) := by
  unfold F_drive_checkEnds_2 at h
  obtain ⟨t1, h1, h⟩ := bnd_of h
  obtain ⟨t2, h2, h⟩ := bnd_of h
  obtain ⟨t3, h3, h⟩ := bnd_of h
  obtain ⟨t4, h4, h⟩ := bnd_of h
  replace h := Option.some.inj h
  subst h
  exact run (n := 100) (f := 31) (args := [.agg [I a0, I a1], I a2]) (orc := [.ret (I t1), .ret (I t2), .ret (I t3), .ret (I t4)]) (r := I t4) (ob := [Computes cx 29 [.lst true 1 [I t1, I t2, I t3]] (I t4), Computes cx 33 [B (decide (a0 > a1)), I 11] (I t3), Computes cx 35 [I a1, I (IntKind.wrap .i64 (0 - a2)), I a2] (I t2), Computes cx 35 [I a0, I (IntKind.wrap .i64 (0 - a2)), I a2] (I t1)]) (by kernel_rfl) ⟨((c_drive_first h4).le (.cons (.full _ _ _) (.nil)) (.refl _)), (c_drive_when_5 h3), (c_drive_within_3 h2), (c_drive_within_3 h1), trivial⟩
def F_drive_CheckModel_2_L1 (n : Nat) (a0 : List D) (sa : (Int × Int)) : Option (((Int × Int)) ⊕ ((Int) ⊕ (Unit))) :=
  if sa.2 < ((a0).length : Int) then
    (el un_Ai3Z a0 sa.2).bind fun ta2 =>
    (F_drive_within_3 n ta2.1 (-1000) 1000).bind fun ta3 =>
    (F_drive_checkEnds_2 n ta2.2.1 ta2.2.2 2000000).bind fun ta4 =>
    (F_drive_when_5 n (decide (ta2.1 ≤ sa.1)) 11).bind fun ta5 =>
    (F_drive_first n ([I ta3, I ta4, I ta5])).bind fun ta6 =>
    if ta6 = 0 then
      if inI64 (sa.2 + 1) then
      some (.inl (ta2.1, (sa.2 + 1)))
      else none
    else
    some (.inr (.inl ta6))
  else
  some (.inr (.inr ()))
noncomputable def T_drive_CheckModel_2_L1 (a0 : List D) (sa : (Int × Int)) : List (Nat × AV) := [(4, .d (I sa.1)), (21, .d (.lst false 3 a0)), (22, .d (I ((a0).length : Int))), (23, .d (I sa.2))]
noncomputable def H_drive_CheckModel_2_L1 (a0 : List D) (sa : (Int × Int)) : List (Nat × Blk) := []
noncomputable def X_drive_CheckModel_2_L1 (a0 : List D) (e : (Int) ⊕ (Unit)) : Ex := match e with
  | (.inl e) => .ret
  | (.inr e) => (.exit 0)
noncomputable def XT_drive_CheckModel_2_L1 (a0 : List D) (e : (Int) ⊕ (Unit)) : List (Nat × AV) := match e with
  | (.inl e) => [(2, .d (I e))]
  | (.inr e) => []
noncomputable def XH_drive_CheckModel_2_L1 (a0 : List D) (e : (Int) ⊕ (Unit)) : List (Nat × Blk) := match e with
  | (.inl e) => []
  | (.inr e) => []
theorem R_drive_CheckModel_2_L1 {n : Nat} {a0 : List D} (sa : (Int × Int)) (r) (h : F_drive_CheckModel_2_L1 n a0 sa = some r) : Rd cx (loopAt cx.P 34 0) 46 0 false (T_drive_CheckModel_2_L1 a0) (H_drive_CheckModel_2_L1 a0) (X_drive_CheckModel_2_L1 a0) (XT_drive_CheckModel_2_L1 a0) (XH_drive_CheckModel_2_L1 a0) sa r := by
  unfold F_drive_CheckModel_2_L1 at h
  by_cases ha1 : sa.2 < ((a0).length : Int)
  · replace h := ite_t h ha1
    obtain ⟨ta2, ha2, h⟩ := bnd_of h
    obtain ⟨ta3, ha3, h⟩ := bnd_of h
    obtain ⟨ta4, ha4, h⟩ := bnd_of h
    obtain ⟨ta5, ha5, h⟩ := bnd_of h
    obtain ⟨ta6, ha6, h⟩ := bnd_of h
    by_cases ha7 : ta6 = 0
    · replace h := ite_t h ha7
      obtain ⟨ha8, h⟩ := grd_of h
      replace h := Option.some.inj h
      subst h
      exact ⟨100, 18, [.br true, .el (.agg [I ta2.1, I ta2.2.1, I ta2.2.2]), .ret (I ta3), .ret (I ta4), .ret (I ta5), .ret (I ta6), .br false], [], [4, 21, 22, 23], [], round_of (ob := [inI64 (sa.2 + 1), (ta6 != 0) = false, Computes cx 29 [.lst true 1 [I ta3, I ta4, I ta5]] (I ta6), Computes cx 33 [B (decide (ta2.1 ≤ sa.1)), I 11] (I ta5), Computes cx 31 [.agg [I ta2.2.1, I ta2.2.2], I 2000000] (I ta4), Computes cx 35 [I ta2.1, I (-1000), I 1000] (I ta3), (0 : Int) ≤ sa.2, nth (a0) (Int.toNat sa.2) = some (.agg [I ta2.1, I ta2.2.1, I ta2.2.2]), (decide (sa.2 < ((a0).length : Int))) = true]) (by kernel_rfl) ⟨ha8, (nef ha7), ((c_drive_first ha6).le (.cons (.full _ _ _) (.nil)) (.refl _)), (c_drive_when_5 ha5), (c_drive_checkEnds_2 ha4), (c_drive_within_3 ha3), (el_ok un_Ai3Z_ok ha2).1, (el_ok un_Ai3Z_ok ha2).2, (decide_eq_true ha1), trivial⟩⟩
    · replace h := ite_f h ha7
      replace h := Option.some.inj h
      subst h
      exact ⟨⟨100, 18, [.br true, .el (.agg [I ta2.1, I ta2.2.1, I ta2.2.2]), .ret (I ta3), .ret (I ta4), .ret (I ta5), .ret (I ta6), .br true], [], [2], [], round_of (ob := [(ta6 != 0) = true, Computes cx 29 [.lst true 1 [I ta3, I ta4, I ta5]] (I ta6), Computes cx 33 [B (decide (ta2.1 ≤ sa.1)), I 11] (I ta5), Computes cx 31 [.agg [I ta2.2.1, I ta2.2.2], I 2000000] (I ta4), Computes cx 35 [I ta2.1, I (-1000), I 1000] (I ta3), (0 : Int) ≤ sa.2, nth (a0) (Int.toNat sa.2) = some (.agg [I ta2.1, I ta2.2.1, I ta2.2.2]), (decide (sa.2 < ((a0).length : Int))) = true]) (by kernel_rfl) ⟨(net ha7), ((c_drive_first ha6).le (.cons (.full _ _ _) (.nil)) (.refl _)), (c_drive_when_5 ha5), (c_drive_checkEnds_2 ha4), (c_drive_within_3 ha3), (el_ok un_Ai3Z_ok ha2).1, (el_ok un_Ai3Z_ok ha2).2, (decide_eq_true ha1), trivial⟩⟩, nofun⟩
  · replace h := ite_f h ha1
    replace h := Option.some.inj h
    subst h
    exact ⟨⟨100, 18, [.br false], [], [], [], round_of (ob := [(decide (sa.2 < ((a0).length : Int))) = false]) (by kernel_rfl) ⟨(decide_eq_false ha1), trivial⟩⟩, nofun⟩
/- spillage/drive.CheckModel: .lst false 3 a0 -/
def F_drive_CheckModel_2 (n : Nat) (a0 : List D) : Option (Int) :=
  (F_drive_when_5 n (((a0).length : Int) == 0) 12).bind fun t1 =>
  (F_drive_when_5 n (decide (((a0).length : Int) > 64)) 5).bind fun t2 =>
  (F_drive_first n ([I t1, I t2])).bind fun t3 =>
  if t3 = 0 then
    (loopF (F_drive_CheckModel_2_L1 n a0) n ((-1001), 0)).bind fun t5 => match t5 with
      | (.inl t5) => (
        some t5)
      | (.inr t5) => (
        some 0)
  else
  some t3
theorem c_drive_CheckModel_2 {n : Nat} {a0 : List D} {r : Int} (h : F_drive_CheckModel_2 n a0 = some r) : Computes cx 34 [.lst false 3 a0] (I r) := by
  unfold F_drive_CheckModel_2 at h
  obtain ⟨t1, h1, h⟩ := bnd_of h
  obtain ⟨t2, h2, h⟩ := bnd_of h
  obtain ⟨t3, h3, h⟩ := bnd_of h
  by_cases h4 : t3 = 0
  · replace h := ite_t h h4
    obtain ⟨t5, h5, h⟩ := bnd_of h
    rcases t5 with t5 | t5
    · replace h := Option.some.inj h
      subst h
      exact run (n := 100) (f := 34) (args := [.lst false 3 a0]) (orc := [.ret (I t1), .ret (I t2), .ret (I t3), .br false, .lp [] [4, 21, 22, 23] [] .ret [(2, .d (I t5))] [] 55]) (r := I t5) (ob := [LoopN cx (loopAt cx.P 34 0) 46 0 false [(4, .d (I (-1001))), (21, .d (.lst false 3 a0)), (22, .d (I ((a0).length : Int))), (23, .d (I 0))] [] .ret [(2, .d (I t5))] [], (t3 != 0) = false, Computes cx 29 [.lst true 1 [I t1, I t2]] (I t3), Computes cx 33 [B (decide (((a0).length : Int) > 64)), I 5] (I t2), Computes cx 33 [B (((a0).length : Int) == 0), I 12] (I t1)]) (by kernel_rfl) ⟨(loopF_to R_drive_CheckModel_2_L1 h5), (nef h4), ((c_drive_first h3).le (.cons (.full _ _ _) (.nil)) (.refl _)), (c_drive_when_5 h2), (c_drive_when_5 h1), trivial⟩
    · replace h := Option.some.inj h
      subst h
      exact run (n := 100) (f := 34) (args := [.lst false 3 a0]) (orc := [.ret (I t1), .ret (I t2), .ret (I t3), .br false, .lp [] [4, 21, 22, 23] [] (.exit 0) [] [] 55]) (r := I 0) (ob := [LoopN cx (loopAt cx.P 34 0) 46 0 false [(4, .d (I (-1001))), (21, .d (.lst false 3 a0)), (22, .d (I ((a0).length : Int))), (23, .d (I 0))] [] (.exit 0) [] [], (t3 != 0) = false, Computes cx 29 [.lst true 1 [I t1, I t2]] (I t3), Computes cx 33 [B (decide (((a0).length : Int) > 64)), I 5] (I t2), Computes cx 33 [B (((a0).length : Int) == 0), I 12] (I t1)]) (by kernel_rfl) ⟨(loopF_to R_drive_CheckModel_2_L1 h5), (nef h4), ((c_drive_first h3).le (.cons (.full _ _ _) (.nil)) (.refl _)), (c_drive_when_5 h2), (c_drive_when_5 h1), trivial⟩
  · replace h := ite_f h h4
    replace h := Option.some.inj h
    subst h
    exact run (n := 100) (f := 34) (args := [.lst false 3 a0]) (orc := [.ret (I t1), .ret (I t2), .ret (I t3), .br true]) (r := I t3) (ob := [(t3 != 0) = true, Computes cx 29 [.lst true 1 [I t1, I t2]] (I t3), Computes cx 33 [B (decide (((a0).length : Int) > 64)), I 5] (I t2), Computes cx 33 [B (((a0).length : Int) == 0), I 12] (I t1)]) (by kernel_rfl) ⟨(net h4), ((c_drive_first h3).le (.cons (.full _ _ _) (.nil)) (.refl _)), (c_drive_when_5 h2), (c_drive_when_5 h1), trivial⟩
def F_slices_Min_g_L1 (n : Nat) (a0 : List D) (sa : (Int × Int)) : Option (((Int × Int)) ⊕ ((Int))) :=
  if sa.2 < ((a0).length : Int) then
    (el un_i a0 sa.2).bind fun ta2 =>
    if inI64 (sa.2 + 1) then
    some (.inl ((minI sa.1 ta2), (sa.2 + 1)))
    else none
  else
  some (.inr sa.1)
noncomputable def T_slices_Min_g_L1 (a0 : List D) (sa : (Int × Int)) : List (Nat × AV) := [(0, .d (.lst false 1 a0)), (3, .d (I sa.1)), (4, .d (I sa.2))]
noncomputable def H_slices_Min_g_L1 (a0 : List D) (sa : (Int × Int)) : List (Nat × Blk) := []
noncomputable def X_slices_Min_g_L1 (a0 : List D) (e : (Int)) : Ex := (.exit 0)
noncomputable def XT_slices_Min_g_L1 (a0 : List D) (e : (Int)) : List (Nat × AV) := [(3, .d (I e))]
noncomputable def XH_slices_Min_g_L1 (a0 : List D) (e : (Int)) : List (Nat × Blk) := []
theorem R_slices_Min_g_L1 {n : Nat} {a0 : List D} (sa : (Int × Int)) (r) (h : F_slices_Min_g_L1 n a0 sa = some r) : Rd cx (loopAt cx.P 63 0) 25 0 false (T_slices_Min_g_L1 a0) (H_slices_Min_g_L1 a0) (X_slices_Min_g_L1 a0) (XT_slices_Min_g_L1 a0) (XH_slices_Min_g_L1 a0) sa r := by
  unfold F_slices_Min_g_L1 at h
  by_cases ha1 : sa.2 < ((a0).length : Int)
  · replace h := ite_t h ha1
    obtain ⟨ta2, ha2, h⟩ := bnd_of h
    obtain ⟨ha3, h⟩ := grd_of h
    replace h := Option.some.inj h
    subst h
    exact ⟨100, 9, [.br true, .el (I ta2)], [], [0, 3, 4], [], round_of (ob := [inI64 (sa.2 + 1), (0 : Int) ≤ sa.2, nth (a0) (Int.toNat sa.2) = some (I ta2), (decide (sa.2 < ((a0).length : Int))) = true]) (by kernel_rfl) ⟨ha3, (el_ok un_i_ok ha2).1, (el_ok un_i_ok ha2).2, (decide_eq_true ha1), trivial⟩⟩
  · replace h := ite_f h ha1
    replace h := Option.some.inj h
    subst h
    exact ⟨⟨100, 9, [.br false], [], [3], [], round_of (ob := [(decide (sa.2 < ((a0).length : Int))) = false]) (by kernel_rfl) ⟨(decide_eq_false ha1), trivial⟩⟩, nofun⟩
/- slices.Min[[]int,int]: .lst false 1 a0 -/
def F_slices_Min_g (n : Nat) (a0 : List D) : Option (Int) :=
  if ((a0).length : Int) < 1 then
    none /- operation makeInterface at sort.go:67 -/
  else
  (el un_i a0 0).bind fun t2 =>
  (loopF (F_slices_Min_g_L1 n a0) n (t2, 1)).bind fun t3 =>
  some t3
theorem c_slices_Min_g {n : Nat} {a0 : List D} {r : Int} (h : F_slices_Min_g n a0 = some r) : Computes cx 63 [.lst false 1 a0] (I r) := by
  unfold F_slices_Min_g at h
  by_cases h1 : ((a0).length : Int) < 1
  · replace h := ite_t h h1
    cases h
  · replace h := ite_f h h1
    obtain ⟨t2, h2, h⟩ := bnd_of h
    obtain ⟨t3, h3, h⟩ := bnd_of h
    replace h := Option.some.inj h
    subst h
    exact run (n := 100) (f := 63) (args := [.lst false 1 a0]) (orc := [.br false, .el (I t2), .lp [] [0, 3, 4] [] (.exit 0) [(3, .d (I t3))] [] 34]) (r := I t3) (ob := [LoopN cx (loopAt cx.P 63 0) 25 0 false [(0, .d (.lst false 1 a0)), (3, .d (I t2)), (4, .d (I 1))] [] (.exit 0) [(3, .d (I t3))] [], (0 : Int) ≤ 0, nth (a0) (Int.toNat 0) = some (I t2), (decide (((a0).length : Int) < 1)) = false]) (by kernel_rfl) ⟨(loopF_to R_slices_Min_g_L1 h3), (el_ok un_i_ok h2).1, (el_ok un_i_ok h2).2, (decide_eq_false h1), trivial⟩
def F_slices_Max_g_L1 (n : Nat) (a0 : List D) (sa : (Int × Int)) : Option (((Int × Int)) ⊕ ((Int))) :=
  if sa.2 < ((a0).length : Int) then
    (el un_i a0 sa.2).bind fun ta2 =>
    if inI64 (sa.2 + 1) then
    some (.inl ((maxI sa.1 ta2), (sa.2 + 1)))
    else none
  else
  some (.inr sa.1)
noncomputable def T_slices_Max_g_L1 (a0 : List D) (sa : (Int × Int)) : List (Nat × AV) := [(0, .d (.lst false 1 a0)), (3, .d (I sa.1)), (4, .d (I sa.2))]
noncomputable def H_slices_Max_g_L1 (a0 : List D) (sa : (Int × Int)) : List (Nat × Blk) := []
noncomputable def X_slices_Max_g_L1 (a0 : List D) (e : (Int)) : Ex := (.exit 0)
noncomputable def XT_slices_Max_g_L1 (a0 : List D) (e : (Int)) : List (Nat × AV) := [(3, .d (I e))]
noncomputable def XH_slices_Max_g_L1 (a0 : List D) (e : (Int)) : List (Nat × Blk) := []
theorem R_slices_Max_g_L1 {n : Nat} {a0 : List D} (sa : (Int × Int)) (r) (h : F_slices_Max_g_L1 n a0 sa = some r) : Rd cx (loopAt cx.P 64 0) 25 0 false (T_slices_Max_g_L1 a0) (H_slices_Max_g_L1 a0) (X_slices_Max_g_L1 a0) (XT_slices_Max_g_L1 a0) (XH_slices_Max_g_L1 a0) sa r := by
  unfold F_slices_Max_g_L1 at h
  by_cases ha1 : sa.2 < ((a0).length : Int)
  · replace h := ite_t h ha1
    obtain ⟨ta2, ha2, h⟩ := bnd_of h
    obtain ⟨ha3, h⟩ := grd_of h
    replace h := Option.some.inj h
    subst h
    exact ⟨100, 9, [.br true, .el (I ta2)], [], [0, 3, 4], [], round_of (ob := [inI64 (sa.2 + 1), (0 : Int) ≤ sa.2, nth (a0) (Int.toNat sa.2) = some (I ta2), (decide (sa.2 < ((a0).length : Int))) = true]) (by kernel_rfl) ⟨ha3, (el_ok un_i_ok ha2).1, (el_ok un_i_ok ha2).2, (decide_eq_true ha1), trivial⟩⟩
  · replace h := ite_f h ha1
    replace h := Option.some.inj h
    subst h
    exact ⟨⟨100, 9, [.br false], [], [3], [], round_of (ob := [(decide (sa.2 < ((a0).length : Int))) = false]) (by kernel_rfl) ⟨(decide_eq_false ha1), trivial⟩⟩, nofun⟩
/- slices.Max[[]int,int]: .lst false 1 a0 -/
def F_slices_Max_g (n : Nat) (a0 : List D) : Option (Int) :=
  if ((a0).length : Int) < 1 then
    none /- operation makeInterface at sort.go:97 -/
  else
  (el un_i a0 0).bind fun t2 =>
  (loopF (F_slices_Max_g_L1 n a0) n (t2, 1)).bind fun t3 =>
  some t3
theorem c_slices_Max_g {n : Nat} {a0 : List D} {r : Int} (h : F_slices_Max_g n a0 = some r) : Computes cx 64 [.lst false 1 a0] (I r) := by
  unfold F_slices_Max_g at h
  by_cases h1 : ((a0).length : Int) < 1
  · replace h := ite_t h h1
    cases h
  · replace h := ite_f h h1
    obtain ⟨t2, h2, h⟩ := bnd_of h
    obtain ⟨t3, h3, h⟩ := bnd_of h
    replace h := Option.some.inj h
    subst h
    exact run (n := 100) (f := 64) (args := [.lst false 1 a0]) (orc := [.br false, .el (I t2), .lp [] [0, 3, 4] [] (.exit 0) [(3, .d (I t3))] [] 34]) (r := I t3) (ob := [LoopN cx (loopAt cx.P 64 0) 25 0 false [(0, .d (.lst false 1 a0)), (3, .d (I t2)), (4, .d (I 1))] [] (.exit 0) [(3, .d (I t3))] [], (0 : Int) ≤ 0, nth (a0) (Int.toNat 0) = some (I t2), (decide (((a0).length : Int) < 1)) = false]) (by kernel_rfl) ⟨(loopF_to R_slices_Max_g_L1 h3), (el_ok un_i_ok h2).1, (el_ok un_i_ok h2).2, (decide_eq_false h1), trivial⟩
/- spillage/drive.end: .agg [I a0, I a1], .agg [I a2, I a3] -/
def F_drive_end_5 (n : Nat) (a0 : Int) (a1 : Int) (a2 : Int) (a3 : Int) : Option (Int) :=
  if inI64 (a2 * a0) then
  if inI64 (a3 * a1) then
  if inI64 ((a2 * a0) + (a3 * a1)) then
  some ((a2 * a0) + (a3 * a1))
  else none
  else none
  else none
theorem c_drive_end_5 {n : Nat} {a0 : Int} {a1 : Int} {a2 : Int} {a3 : Int} {r : Int} (h : F_drive_end_5 n a0 a1 a2 a3 = some r) : Computes cx 62 [.agg [I a0, I a1], .agg [I a2, I a3]] (I r) := by
  unfold F_drive_end_5 at h
  obtain ⟨h1, h⟩ := grd_of h
  obtain ⟨h2, h⟩ := grd_of h
  obtain ⟨h3, h⟩ := grd_of h
  replace h := Option.some.inj h
  subst h
  exact run (n := 100) (f := 62) (args := [.agg [I a0, I a1], .agg [I a2, I a3]]) (orc := []) (r := I ((a2 * a0) + (a3 * a1))) (ob := [inI64 ((a2 * a0) + (a3 * a1)), inI64 (a3 * a1), inI64 (a2 * a0)]) (by kernel_rfl) ⟨h3, h2, h1, trivial⟩
def F_drive_places_2_L1 (n : Nat) (a0 : List D) (a1 : Int) (a2 : Int) (sa : (Unit) ⊕ (Int × List D)) : Option (((Unit) ⊕ (Int × List D)) ⊕ ((Unit) ⊕ (List D))) := match sa with
  | (.inl sa) => (
    if 0 < ((a0).length : Int) then
      (el un_Ai3Z a0 0).bind fun ta2 =>
      (F_drive_end_5 n ta2.2.1 ta2.2.2 1 0).bind fun ta3 =>
      (F_drive_end_5 n a1 a2 1 0).bind fun ta4 =>
      if inI64 (ta2.1 * ta4) then
      if inI64 (ta3 + (ta2.1 * ta4)) then
      (F_drive_end_5 n a1 a2 0 1).bind fun ta7 =>
      if inI64 (ta2.1 * ta7) then
      if inI64 (ta3 + (ta2.1 * ta7)) then
      (F_drive_end_5 n ta2.2.1 ta2.2.2 0 1).bind fun ta10 =>
      if inI64 (ta10 + (ta2.1 * ta4)) then
      if inI64 (ta10 + (ta2.1 * ta7)) then
      some (.inl (.inr (1, [I (ta3 + (ta2.1 * ta4)), I (ta3 + (ta2.1 * ta7)), I (ta10 + (ta2.1 * ta4)), I (ta10 + (ta2.1 * ta7))])))
      else none
      else none
      else none
      else none
      else none
      else none
    else
    some (.inr (.inl ())))
  | (.inr sa) => (
    if sa.1 < ((a0).length : Int) then
      (el un_Ai3Z a0 sa.1).bind fun ta2 =>
      (F_drive_end_5 n ta2.2.1 ta2.2.2 1 0).bind fun ta3 =>
      (F_drive_end_5 n a1 a2 1 0).bind fun ta4 =>
      if inI64 (ta2.1 * ta4) then
      if inI64 (ta3 + (ta2.1 * ta4)) then
      if roomP 8 ((sa.2).length + 1) then
      (F_drive_end_5 n a1 a2 0 1).bind fun ta8 =>
      if inI64 (ta2.1 * ta8) then
      if inI64 (ta3 + (ta2.1 * ta8)) then
      if roomP 8 (((sa.2 ++ ([I (ta3 + (ta2.1 * ta4))] : List D)) : List D).length + 1) then
      (F_drive_end_5 n ta2.2.1 ta2.2.2 0 1).bind fun ta12 =>
      if inI64 (ta12 + (ta2.1 * ta4)) then
      if roomP 8 ((((sa.2 ++ ([I (ta3 + (ta2.1 * ta4))] : List D)) ++ ([I (ta3 + (ta2.1 * ta8))] : List D)) : List D).length + 1) then
      if inI64 (ta12 + (ta2.1 * ta8)) then
      if roomP 8 (((((sa.2 ++ ([I (ta3 + (ta2.1 * ta4))] : List D)) ++ ([I (ta3 + (ta2.1 * ta8))] : List D)) ++ ([I (ta12 + (ta2.1 * ta4))] : List D)) : List D).length + 1) then
      if inI64 (sa.1 + 1) then
      some (.inl (.inr ((sa.1 + 1), ((((sa.2 ++ ([I (ta3 + (ta2.1 * ta4))] : List D)) ++ ([I (ta3 + (ta2.1 * ta8))] : List D)) ++ ([I (ta12 + (ta2.1 * ta4))] : List D)) ++ ([I (ta12 + (ta2.1 * ta8))] : List D)))))
      else none
      else none
      else none
      else none
      else none
      else none
      else none
      else none
      else none
      else none
      else none
    else
    some (.inr (.inr sa.2)))
noncomputable def T_drive_places_2_L1 (a0 : List D) (a1 : Int) (a2 : Int) (sa : (Unit) ⊕ (Int × List D)) : List (Nat × AV) := match sa with
  | (.inl sa) => [(0, .own 9 0), (7, .d (.lst false 3 a0)), (8, .d (I ((a0).length : Int))), (9, .d (I 0))]
  | (.inr sa) => [(0, .own 9 0), (7, .d (.lst false 3 a0)), (8, .d (I ((a0).length : Int))), (9, .d (I sa.1))]
noncomputable def H_drive_places_2_L1 (a0 : List D) (a1 : Int) (a2 : Int) (sa : (Unit) ⊕ (Int × List D)) : List (Nat × Blk) := match sa with
  | (.inl sa) => [(0, .box (.d (.agg [I a1, I a2]))), (1, .box (.d (.agg [I 0, I 0]))), (2, .box (.d (.lst true 0 []))), (5, .box (.d (.lst false 3 a0))), (9, .loop true [(10, .fn (.func 67) [] [.ptr 5 0 0 0 0]), (9, .d (.lst false 3 a0)), (5, .ptr 2 0 0 0 0), (4, .ptr 1 0 0 0 0), (3, .ptr 0 0 0 0 0), (1, .d (.agg [I a1, I a2])), (0, .d (.lst false 3 a0))] [11] (rangeAt cx.P 42 0).1 (rangeAt cx.P 42 0).2 34)]
  | (.inr sa) => [(0, .box (.d (.agg [I a1, I a2]))), (1, .box (.d (.agg [I 0, I 0]))), (2, .box (.own 53 0)), (5, .box (.d (.lst false 3 a0))), (9, .loop true [(10, .fn (.func 67) [] [.ptr 5 0 0 0 0]), (9, .d (.lst false 3 a0)), (5, .ptr 2 0 0 0 0), (4, .ptr 1 0 0 0 0), (3, .ptr 0 0 0 0 0), (1, .d (.agg [I a1, I a2])), (0, .d (.lst false 3 a0))] [11] (rangeAt cx.P 42 0).1 (rangeAt cx.P 42 0).2 34), (53, .row 0 1 sa.2)]
noncomputable def X_drive_places_2_L1 (a0 : List D) (a1 : Int) (a2 : Int) (e : (Unit) ⊕ (List D)) : Ex := match e with
  | (.inl e) => (.exit 0)
  | (.inr e) => (.exit 0)
noncomputable def XT_drive_places_2_L1 (a0 : List D) (a1 : Int) (a2 : Int) (e : (Unit) ⊕ (List D)) : List (Nat × AV) := match e with
  | (.inl e) => []
  | (.inr e) => []
noncomputable def XH_drive_places_2_L1 (a0 : List D) (a1 : Int) (a2 : Int) (e : (Unit) ⊕ (List D)) : List (Nat × Blk) := match e with
  | (.inl e) => [(0, .box (.d (.agg [I a1, I a2]))), (1, .box (.d (.agg [I 0, I 0]))), (2, .box (.d (.lst true 0 []))), (5, .box (.d (.lst false 3 a0))), (9, .loop true [(10, .fn (.func 67) [] [.ptr 5 0 0 0 0]), (9, .d (.lst false 3 a0)), (5, .ptr 2 0 0 0 0), (4, .ptr 1 0 0 0 0), (3, .ptr 0 0 0 0 0), (1, .d (.agg [I a1, I a2])), (0, .d (.lst false 3 a0))] [11] (rangeAt cx.P 42 0).1 (rangeAt cx.P 42 0).2 34)]
  | (.inr e) => [(0, .box (.d (.agg [I a1, I a2]))), (1, .box (.d (.agg [I 0, I 0]))), (2, .box (.own 53 0)), (5, .box (.d (.lst false 3 a0))), (9, .loop true [(10, .fn (.func 67) [] [.ptr 5 0 0 0 0]), (9, .d (.lst false 3 a0)), (5, .ptr 2 0 0 0 0), (4, .ptr 1 0 0 0 0), (3, .ptr 0 0 0 0 0), (1, .d (.agg [I a1, I a2])), (0, .d (.lst false 3 a0))] [11] (rangeAt cx.P 42 0).1 (rangeAt cx.P 42 0).2 34), (53, .row 0 1 e)]
theorem R_drive_places_2_L1 {n : Nat} {a0 : List D} {a1 : Int} {a2 : Int} (sa : (Unit) ⊕ (Int × List D)) (r) (h : F_drive_places_2_L1 n a0 a1 a2 sa = some r) : Rd cx (loopAt cx.P 67 0) 29 10 false (T_drive_places_2_L1 a0 a1 a2) (H_drive_places_2_L1 a0 a1 a2) (X_drive_places_2_L1 a0 a1 a2) (XT_drive_places_2_L1 a0 a1 a2) (XH_drive_places_2_L1 a0 a1 a2) sa r := by
  unfold F_drive_places_2_L1 at h
  rcases sa with sa | sa
  · by_cases ha1 : 0 < ((a0).length : Int)
    · replace h := ite_t h ha1
      obtain ⟨ta2, ha2, h⟩ := bnd_of h
      obtain ⟨ta3, ha3, h⟩ := bnd_of h
      obtain ⟨ta4, ha4, h⟩ := bnd_of h
      obtain ⟨ha5, h⟩ := grd_of h
      obtain ⟨ha6, h⟩ := grd_of h
      obtain ⟨ta7, ha7, h⟩ := bnd_of h
      obtain ⟨ha8, h⟩ := grd_of h
      obtain ⟨ha9, h⟩ := grd_of h
      obtain ⟨ta10, ha10, h⟩ := bnd_of h
      obtain ⟨ha11, h⟩ := grd_of h
      obtain ⟨ha12, h⟩ := grd_of h
      replace h := Option.some.inj h
      subst h
      exact ⟨100, 13, [.br true, .el (.agg [I ta2.1, I ta2.2.1, I ta2.2.2]), .no, .no, .ret (I ta3), .no, .no, .ret (I ta4), .no, .no, .no, .no, .ret (I ta7), .no, .no, .no, .no, .no, .no, .ret (I ta10), .no, .no, .ret (I ta4), .no, .no, .no, .ret (I ta7), .no, .no, .no, .no, .no, .no], [], [0, 7, 8, 9], [0, 1, 2, 5, 9, 53], round_of (ob := [inI64 1, inI64 2, inI64 2, inI64 (ta10 + (ta2.1 * ta7)), inI64 (ta2.1 * ta7), Computes cx 62 [.agg [I a1, I a2], .agg [I 0, I 1]] (I ta7), inI64 1, inI64 (ta10 + (ta2.1 * ta4)), inI64 (ta2.1 * ta4), Computes cx 62 [.agg [I a1, I a2], .agg [I 1, I 0]] (I ta4), Computes cx 62 [.agg [I ta2.2.1, I ta2.2.2], .agg [I 0, I 1]] (I ta10), inI64 1, inI64 2, inI64 (ta3 + (ta2.1 * ta7)), inI64 (ta2.1 * ta7), Computes cx 62 [.agg [I a1, I a2], .agg [I 0, I 1]] (I ta7), inI64 1, inI64 (ta3 + (ta2.1 * ta4)), inI64 (ta2.1 * ta4), Computes cx 62 [.agg [I a1, I a2], .agg [I 1, I 0]] (I ta4), Computes cx 62 [.agg [I ta2.2.1, I ta2.2.2], .agg [I 1, I 0]] (I ta3), (0 : Int) ≤ 0, nth (a0) (Int.toNat 0) = some (.agg [I ta2.1, I ta2.2.1, I ta2.2.2]), (decide (0 < ((a0).length : Int))) = true]) (by kernel_rfl) ⟨(by unfold inI64; omega), (by unfold inI64; omega), (by unfold inI64; omega), ha12, ha8, (c_drive_end_5 ha7), (by unfold inI64; omega), ha11, ha5, (c_drive_end_5 ha4), (c_drive_end_5 ha10), (by unfold inI64; omega), (by unfold inI64; omega), ha9, ha8, (c_drive_end_5 ha7), (by unfold inI64; omega), ha6, ha5, (c_drive_end_5 ha4), (c_drive_end_5 ha3), (el_ok un_Ai3Z_ok ha2).1, (el_ok un_Ai3Z_ok ha2).2, (decide_eq_true ha1), trivial⟩⟩
    · replace h := ite_f h ha1
      replace h := Option.some.inj h
      subst h
      exact ⟨⟨100, 13, [.br false], [], [], [0, 1, 2, 5, 9], round_of (ob := [(decide (0 < ((a0).length : Int))) = false]) (by kernel_rfl) ⟨(decide_eq_false ha1), trivial⟩⟩, nofun⟩
  · by_cases ha1 : sa.1 < ((a0).length : Int)
    · replace h := ite_t h ha1
      obtain ⟨ta2, ha2, h⟩ := bnd_of h
      obtain ⟨ta3, ha3, h⟩ := bnd_of h
      obtain ⟨ta4, ha4, h⟩ := bnd_of h
      obtain ⟨ha5, h⟩ := grd_of h
      obtain ⟨ha6, h⟩ := grd_of h
      obtain ⟨ha7, h⟩ := grd_of h
      obtain ⟨ta8, ha8, h⟩ := bnd_of h
      obtain ⟨ha9, h⟩ := grd_of h
      obtain ⟨ha10, h⟩ := grd_of h
      obtain ⟨ha11, h⟩ := grd_of h
      obtain ⟨ta12, ha12, h⟩ := bnd_of h
      obtain ⟨ha13, h⟩ := grd_of h
      obtain ⟨ha14, h⟩ := grd_of h
      obtain ⟨ha15, h⟩ := grd_of h
      obtain ⟨ha16, h⟩ := grd_of h
      obtain ⟨ha17, h⟩ := grd_of h
      replace h := Option.some.inj h
      subst h
      exact ⟨100, 54, [.br true, .el (.agg [I ta2.1, I ta2.2.1, I ta2.2.2]), .no, .no, .ret (I ta3), .no, .no, .ret (I ta4), .br true, .no, .no, .ret (I ta8), .br true, .no, .no, .no, .no, .no, .ret (I ta12), .no, .no, .ret (I ta4), .br true, .no, .no, .ret (I ta8), .br true, .no, .no, .no, .no, .no], [], [0, 7, 8, 9], [0, 1, 2, 5, 9, 53], round_of (ob := [inI64 (sa.1 + 1), inI64 2, inI64 2, room cx 3 (((((sa.2 ++ ([I (ta3 + (ta2.1 * ta4))] : List D)) ++ ([I (ta3 + (ta2.1 * ta8))] : List D)) ++ ([I (ta12 + (ta2.1 * ta4))] : List D)) : List D).length + 1), inI64 (ta12 + (ta2.1 * ta8)), inI64 (ta2.1 * ta8), Computes cx 62 [.agg [I a1, I a2], .agg [I 0, I 1]] (I ta8), inI64 1, room cx 3 ((((sa.2 ++ ([I (ta3 + (ta2.1 * ta4))] : List D)) ++ ([I (ta3 + (ta2.1 * ta8))] : List D)) : List D).length + 1), inI64 (ta12 + (ta2.1 * ta4)), inI64 (ta2.1 * ta4), Computes cx 62 [.agg [I a1, I a2], .agg [I 1, I 0]] (I ta4), Computes cx 62 [.agg [I ta2.2.1, I ta2.2.2], .agg [I 0, I 1]] (I ta12), inI64 1, inI64 2, room cx 3 (((sa.2 ++ ([I (ta3 + (ta2.1 * ta4))] : List D)) : List D).length + 1), inI64 (ta3 + (ta2.1 * ta8)), inI64 (ta2.1 * ta8), Computes cx 62 [.agg [I a1, I a2], .agg [I 0, I 1]] (I ta8), inI64 1, room cx 3 ((sa.2).length + 1), inI64 (ta3 + (ta2.1 * ta4)), inI64 (ta2.1 * ta4), Computes cx 62 [.agg [I a1, I a2], .agg [I 1, I 0]] (I ta4), Computes cx 62 [.agg [I ta2.2.1, I ta2.2.2], .agg [I 1, I 0]] (I ta3), (0 : Int) ≤ sa.1, nth (a0) (Int.toNat sa.1) = some (.agg [I ta2.1, I ta2.2.1, I ta2.2.2]), (decide (sa.1 < ((a0).length : Int))) = true]) (by kernel_rfl) ⟨ha17, (by unfold inI64; omega), (by unfold inI64; omega), (room_of (b := 8) (by kernel_rfl) (by decide) ha16), ha15, ha9, (c_drive_end_5 ha8), (by unfold inI64; omega), (room_of (b := 8) (by kernel_rfl) (by decide) ha14), ha13, ha5, (c_drive_end_5 ha4), (c_drive_end_5 ha12), (by unfold inI64; omega), (by unfold inI64; omega), (room_of (b := 8) (by kernel_rfl) (by decide) ha11), ha10, ha9, (c_drive_end_5 ha8), (by unfold inI64; omega), (room_of (b := 8) (by kernel_rfl) (by decide) ha7), ha6, ha5, (c_drive_end_5 ha4), (c_drive_end_5 ha3), (el_ok un_Ai3Z_ok ha2).1, (el_ok un_Ai3Z_ok ha2).2, (decide_eq_true ha1), trivial⟩⟩
    · replace h := ite_f h ha1
      replace h := Option.some.inj h
      subst h
      exact ⟨⟨100, 54, [.br false], [], [], [0, 1, 2, 5, 9, 53], round_of (ob := [(decide (sa.1 < ((a0).length : Int))) = false]) (by kernel_rfl) ⟨(decide_eq_false ha1), trivial⟩⟩, nofun⟩
/- spillage/drive.places: .lst false 3 a0, .agg [I a1, I a2] -/
def F_drive_places_2 (n : Nat) (a0 : List D) (a1 : Int) (a2 : Int) : Option (Int × Int) :=
  (loopF (F_drive_places_2_L1 n a0 a1 a2) n (.inl ())).bind fun t1 => match t1 with
    | (.inl t1) => (
      (F_slices_Min_g n ([])).bind fun t2 =>
      (F_slices_Max_g n ([])).bind fun t3 =>
      some (t2, t3))
    | (.inr t1) => (
      (F_slices_Min_g n t1).bind fun t2 =>
      (F_slices_Max_g n t1).bind fun t3 =>
      some (t2, t3))
theorem c_drive_places_2 {n : Nat} {a0 : List D} {a1 : Int} {a2 : Int} {r : Int × Int} (h : F_drive_places_2 n a0 a1 a2 = some r) : Computes cx 42 [.lst false 3 a0, .agg [I a1, I a2]] (.agg [I r.1, I r.2]) := by
  unfold F_drive_places_2 at h
  obtain ⟨t1, h1, h⟩ := bnd_of h
  rcases t1 with t1 | t1
  · obtain ⟨t2, h2, h⟩ := bnd_of h
    obtain ⟨t3, h3, h⟩ := bnd_of h
    replace h := Option.some.inj h
    subst h
    exact run (n := 100) (f := 42) (args := [.lst false 3 a0, .agg [I a1, I a2]]) (orc := [.br true, .lp [] [0, 7, 8, 9] [0, 1, 2, 5, 9] (.exit 0) [] [(0, .box (.d (.agg [I a1, I a2]))), (1, .box (.d (.agg [I 0, I 0]))), (2, .box (.d (.lst true 0 []))), (5, .box (.d (.lst false 3 a0))), (9, .loop true [(10, .fn (.func 67) [] [.ptr 5 0 0 0 0]), (9, .d (.lst false 3 a0)), (5, .ptr 2 0 0 0 0), (4, .ptr 1 0 0 0 0), (3, .ptr 0 0 0 0 0), (1, .d (.agg [I a1, I a2])), (0, .d (.lst false 3 a0))] [11] (rangeAt cx.P 42 0).1 (rangeAt cx.P 42 0).2 34)] 193, .ret (I t2), .ret (I t3)]) (r := .agg [I t2, I t3]) (ob := [Computes cx 64 [.lst true 0 []] (I t3), Computes cx 63 [.lst true 0 []] (I t2), LoopN cx (loopAt cx.P 67 0) 29 10 false [(0, .own 9 0), (7, .d (.lst false 3 a0)), (8, .d (I ((a0).length : Int))), (9, .d (I 0))] [(0, .box (.d (.agg [I a1, I a2]))), (1, .box (.d (.agg [I 0, I 0]))), (2, .box (.d (.lst true 0 []))), (5, .box (.d (.lst false 3 a0))), (9, .loop true [(10, .fn (.func 67) [] [.ptr 5 0 0 0 0]), (9, .d (.lst false 3 a0)), (5, .ptr 2 0 0 0 0), (4, .ptr 1 0 0 0 0), (3, .ptr 0 0 0 0 0), (1, .d (.agg [I a1, I a2])), (0, .d (.lst false 3 a0))] [11] (rangeAt cx.P 42 0).1 (rangeAt cx.P 42 0).2 34)] (.exit 0) [] [(0, .box (.d (.agg [I a1, I a2]))), (1, .box (.d (.agg [I 0, I 0]))), (2, .box (.d (.lst true 0 []))), (5, .box (.d (.lst false 3 a0))), (9, .loop true [(10, .fn (.func 67) [] [.ptr 5 0 0 0 0]), (9, .d (.lst false 3 a0)), (5, .ptr 2 0 0 0 0), (4, .ptr 1 0 0 0 0), (3, .ptr 0 0 0 0 0), (1, .d (.agg [I a1, I a2])), (0, .d (.lst false 3 a0))] [11] (rangeAt cx.P 42 0).1 (rangeAt cx.P 42 0).2 34)]]) (by kernel_rfl) ⟨((c_slices_Max_g h3).le (.cons (.lst _ _ _ _ _ nofun (.inl rfl)) (.nil)) (.refl _)), ((c_slices_Min_g h2).le (.cons (.lst _ _ _ _ _ nofun (.inl rfl)) (.nil)) (.refl _)), (loopF_to R_drive_places_2_L1 h1), trivial⟩
  · obtain ⟨t2, h2, h⟩ := bnd_of h
    obtain ⟨t3, h3, h⟩ := bnd_of h
    replace h := Option.some.inj h
    subst h
    exact run (n := 100) (f := 42) (args := [.lst false 3 a0, .agg [I a1, I a2]]) (orc := [.br true, .lp [] [0, 7, 8, 9] [0, 1, 2, 5, 9] (.exit 0) [] [(0, .box (.d (.agg [I a1, I a2]))), (1, .box (.d (.agg [I 0, I 0]))), (2, .box (.own 53 0)), (5, .box (.d (.lst false 3 a0))), (9, .loop true [(10, .fn (.func 67) [] [.ptr 5 0 0 0 0]), (9, .d (.lst false 3 a0)), (5, .ptr 2 0 0 0 0), (4, .ptr 1 0 0 0 0), (3, .ptr 0 0 0 0 0), (1, .d (.agg [I a1, I a2])), (0, .d (.lst false 3 a0))] [11] (rangeAt cx.P 42 0).1 (rangeAt cx.P 42 0).2 34), (53, .row 0 1 t1)] 193, .lp [] [] [53] .ret [] [] 0, .ret (I t2), .ret (I t3)]) (r := .agg [I t2, I t3]) (ob := [Computes cx 64 [.lst false 1 t1] (I t3), Computes cx 63 [.lst false 1 t1] (I t2), LoopN cx (loopAt cx.P 67 0) 29 10 false [(0, .own 9 0), (7, .d (.lst false 3 a0)), (8, .d (I ((a0).length : Int))), (9, .d (I 0))] [(0, .box (.d (.agg [I a1, I a2]))), (1, .box (.d (.agg [I 0, I 0]))), (2, .box (.d (.lst true 0 []))), (5, .box (.d (.lst false 3 a0))), (9, .loop true [(10, .fn (.func 67) [] [.ptr 5 0 0 0 0]), (9, .d (.lst false 3 a0)), (5, .ptr 2 0 0 0 0), (4, .ptr 1 0 0 0 0), (3, .ptr 0 0 0 0 0), (1, .d (.agg [I a1, I a2])), (0, .d (.lst false 3 a0))] [11] (rangeAt cx.P 42 0).1 (rangeAt cx.P 42 0).2 34)] (.exit 0) [] [(0, .box (.d (.agg [I a1, I a2]))), (1, .box (.d (.agg [I 0, I 0]))), (2, .box (.own 53 0)), (5, .box (.d (.lst false 3 a0))), (9, .loop true [(10, .fn (.func 67) [] [.ptr 5 0 0 0 0]), (9, .d (.lst false 3 a0)), (5, .ptr 2 0 0 0 0), (4, .ptr 1 0 0 0 0), (3, .ptr 0 0 0 0 0), (1, .d (.agg [I a1, I a2])), (0, .d (.lst false 3 a0))] [11] (rangeAt cx.P 42 0).1 (rangeAt cx.P 42 0).2 34), (53, .row 0 1 t1)]]) (by kernel_rfl) ⟨(c_slices_Max_g h3), (c_slices_Min_g h2), (loopF_to R_drive_places_2_L1 h1), trivial⟩
/- spillage/drive.Within: .lst false 3 a0, .agg [I a1, I a2] -/
def F_drive_Within_2 (n : Nat) (a0 : List D) (a1 : Int) (a2 : Int) : Option (Int × Int × Int) :=
  (F_drive_CheckModel_2 n a0).bind fun t1 =>
  (F_drive_checkEnds_2 n a1 a2 1000).bind fun t2 =>
  (F_drive_first n ([I t1, I t2])).bind fun t3 =>
  if t3 = 0 then
    (F_drive_places_2 n a0 a1 a2).bind fun t5 =>
    some (t5.1, t5.2, 0)
  else
  some (0, 0, t3)
theorem c_drive_Within_2 {n : Nat} {a0 : List D} {a1 : Int} {a2 : Int} {r : Int × Int × Int} (h : F_drive_Within_2 n a0 a1 a2 = some r) : Computes cx 19 [.lst false 3 a0, .agg [I a1, I a2]] (.tup [.agg [I r.1, I r.2.1], I r.2.2]) := by
  unfold F_drive_Within_2 at h
  obtain ⟨t1, h1, h⟩ := bnd_of h
  obtain ⟨t2, h2, h⟩ := bnd_of h
  obtain ⟨t3, h3, h⟩ := bnd_of h
  by_cases h4 : t3 = 0
  · replace h := ite_t h h4
    obtain ⟨t5, h5, h⟩ := bnd_of h
    replace h := Option.some.inj h
    subst h
    exact run (n := 100) (f := 19) (args := [.lst false 3 a0, .agg [I a1, I a2]]) (orc := [.ret (I t1), .ret (I t2), .ret (I t3), .br false, .ret (.agg [I t5.1, I t5.2])]) (r := .tup [.agg [I t5.1, I t5.2], I 0]) (ob := [Computes cx 42 [.lst false 3 a0, .agg [I a1, I a2]] (.agg [I t5.1, I t5.2]), (t3 != 0) = false, Computes cx 29 [.lst true 1 [I t1, I t2]] (I t3), Computes cx 31 [.agg [I a1, I a2], I 1000] (I t2), Computes cx 34 [.lst false 3 a0] (I t1)]) (by kernel_rfl) ⟨(c_drive_places_2 h5), (nef h4), ((c_drive_first h3).le (.cons (.full _ _ _) (.nil)) (.refl _)), (c_drive_checkEnds_2 h2), (c_drive_CheckModel_2 h1), trivial⟩
  · replace h := ite_f h h4
    replace h := Option.some.inj h
    subst h
    exact run (n := 100) (f := 19) (args := [.lst false 3 a0, .agg [I a1, I a2]]) (orc := [.ret (I t1), .ret (I t2), .ret (I t3), .br true]) (r := .tup [.agg [I 0, I 0], I t3]) (ob := [(t3 != 0) = true, Computes cx 29 [.lst true 1 [I t1, I t2]] (I t3), Computes cx 31 [.agg [I a1, I a2], I 1000] (I t2), Computes cx 34 [.lst false 3 a0] (I t1)]) (by kernel_rfl) ⟨(net h4), ((c_drive_first h3).le (.cons (.full _ _ _) (.nil)) (.refl _)), (c_drive_checkEnds_2 h2), (c_drive_CheckModel_2 h1), trivial⟩
def F_light_first_L1 (n : Nat) (a0 : List D) (sa : (Int)) : Option (((Int)) ⊕ ((Int) ⊕ (Unit))) :=
  if sa < ((a0).length : Int) then
    (el un_i a0 sa).bind fun ta2 =>
    if ta2 = 0 then
      if inI64 (sa + 1) then
      some (.inl (sa + 1))
      else none
    else
    some (.inr (.inl ta2))
  else
  some (.inr (.inr ()))
noncomputable def T_light_first_L1 (a0 : List D) (sa : (Int)) : List (Nat × AV) := [(5, .d (.lst false 1 a0)), (6, .d (I ((a0).length : Int))), (7, .d (I sa))]
noncomputable def H_light_first_L1 (a0 : List D) (sa : (Int)) : List (Nat × Blk) := []
noncomputable def X_light_first_L1 (a0 : List D) (e : (Int) ⊕ (Unit)) : Ex := match e with
  | (.inl e) => .ret
  | (.inr e) => (.exit 0)
noncomputable def XT_light_first_L1 (a0 : List D) (e : (Int) ⊕ (Unit)) : List (Nat × AV) := match e with
  | (.inl e) => [(2, .d (I e))]
  | (.inr e) => []
noncomputable def XH_light_first_L1 (a0 : List D) (e : (Int) ⊕ (Unit)) : List (Nat × Blk) := match e with
  | (.inl e) => []
  | (.inr e) => []
theorem R_light_first_L1 {n : Nat} {a0 : List D} (sa : (Int)) (r) (h : F_light_first_L1 n a0 sa = some r) : Rd cx (loopAt cx.P 45 0) 15 0 false (T_light_first_L1 a0) (H_light_first_L1 a0) (X_light_first_L1 a0) (XT_light_first_L1 a0) (XH_light_first_L1 a0) sa r := by
  unfold F_light_first_L1 at h
  by_cases ha1 : sa < ((a0).length : Int)
  · replace h := ite_t h ha1
    obtain ⟨ta2, ha2, h⟩ := bnd_of h
    by_cases ha3 : ta2 = 0
    · replace h := ite_t h ha3
      obtain ⟨ha4, h⟩ := grd_of h
      replace h := Option.some.inj h
      subst h
      exact ⟨100, 4, [.br true, .el (I ta2), .br false], [], [5, 6, 7], [], round_of (ob := [inI64 (sa + 1), (ta2 != 0) = false, (0 : Int) ≤ sa, nth (a0) (Int.toNat sa) = some (I ta2), (decide (sa < ((a0).length : Int))) = true]) (by kernel_rfl) ⟨ha4, (nef ha3), (el_ok un_i_ok ha2).1, (el_ok un_i_ok ha2).2, (decide_eq_true ha1), trivial⟩⟩
    · replace h := ite_f h ha3
      replace h := Option.some.inj h
      subst h
      exact ⟨⟨100, 4, [.br true, .el (I ta2), .br true], [], [2], [], round_of (ob := [(ta2 != 0) = true, (0 : Int) ≤ sa, nth (a0) (Int.toNat sa) = some (I ta2), (decide (sa < ((a0).length : Int))) = true]) (by kernel_rfl) ⟨(net ha3), (el_ok un_i_ok ha2).1, (el_ok un_i_ok ha2).2, (decide_eq_true ha1), trivial⟩⟩, nofun⟩
  · replace h := ite_f h ha1
    replace h := Option.some.inj h
    subst h
    exact ⟨⟨100, 4, [.br false], [], [], [], round_of (ob := [(decide (sa < ((a0).length : Int))) = false]) (by kernel_rfl) ⟨(decide_eq_false ha1), trivial⟩⟩, nofun⟩
/- spillage/light.first: .lst false 1 a0 -/
def F_light_first (n : Nat) (a0 : List D) : Option (Int) :=
  (loopF (F_light_first_L1 n a0) n 0).bind fun t1 => match t1 with
    | (.inl t1) => (
      some t1)
    | (.inr t1) => (
      some 0)
theorem c_light_first {n : Nat} {a0 : List D} {r : Int} (h : F_light_first n a0 = some r) : Computes cx 45 [.lst false 1 a0] (I r) := by
  unfold F_light_first at h
  obtain ⟨t1, h1, h⟩ := bnd_of h
  rcases t1 with t1 | t1
  · replace h := Option.some.inj h
    subst h
    exact run (n := 100) (f := 45) (args := [.lst false 1 a0]) (orc := [.lp [] [5, 6, 7] [] .ret [(2, .d (I t1))] [] 23]) (r := I t1) (ob := [LoopN cx (loopAt cx.P 45 0) 15 0 false [(5, .d (.lst false 1 a0)), (6, .d (I ((a0).length : Int))), (7, .d (I 0))] [] .ret [(2, .d (I t1))] []]) (by kernel_rfl) ⟨(loopF_to R_light_first_L1 h1), trivial⟩
  · replace h := Option.some.inj h
    subst h
    exact run (n := 100) (f := 45) (args := [.lst false 1 a0]) (orc := [.lp [] [5, 6, 7] [] (.exit 0) [] [] 23]) (r := I 0) (ob := [LoopN cx (loopAt cx.P 45 0) 15 0 false [(5, .d (.lst false 1 a0)), (6, .d (I ((a0).length : Int))), (7, .d (I 0))] [] (.exit 0) [] []]) (by kernel_rfl) ⟨(loopF_to R_light_first_L1 h1), trivial⟩
def F_sun_common_L1 (n : Nat)  (sa : (Int × Int)) : Option (((Int × Int)) ⊕ ((Int))) :=
  if sa.2 = 0 then
    some (.inr sa.1)
  else
  if sa.2 ≠ 0 then
  some (.inl (sa.2, (Int.tmod sa.1 sa.2)))
  else none
noncomputable def T_sun_common_L1  (sa : (Int × Int)) : List (Nat × AV) := [(0, .d (I sa.1)), (1, .d (I sa.2))]
noncomputable def H_sun_common_L1  (sa : (Int × Int)) : List (Nat × Blk) := []
noncomputable def X_sun_common_L1  (e : (Int)) : Ex := (.exit 0)
noncomputable def XT_sun_common_L1  (e : (Int)) : List (Nat × AV) := [(0, .d (I e))]
noncomputable def XH_sun_common_L1  (e : (Int)) : List (Nat × Blk) := []
theorem R_sun_common_L1 {n : Nat}  (sa : (Int × Int)) (r) (h : F_sun_common_L1 n  sa = some r) : Rd cx (loopAt cx.P 49 0) 15 0 false (T_sun_common_L1 ) (H_sun_common_L1 ) (X_sun_common_L1 ) (XT_sun_common_L1 ) (XH_sun_common_L1 ) sa r := by
  unfold F_sun_common_L1 at h
  by_cases ha1 : sa.2 = 0
  · replace h := ite_t h ha1
    replace h := Option.some.inj h
    subst h
    exact ⟨⟨100, 1, [.br false], [], [0], [], round_of (ob := [(sa.2 != 0) = false]) (by kernel_rfl) ⟨(nef ha1), trivial⟩⟩, nofun⟩
  · replace h := ite_f h ha1
    obtain ⟨ha2, h⟩ := grd_of h
    replace h := Option.some.inj h
    subst h
    exact ⟨100, 1, [.br true], [], [0, 1], [], round_of (ob := [sa.2 ≠ 0, (sa.2 != 0) = true]) (by kernel_rfl) ⟨ha2, (net ha1), trivial⟩⟩
/- spillage/sun.common: I a0, I a1 -/
def F_sun_common (n : Nat) (a0 : Int) (a1 : Int) : Option (Int) :=
  (loopF (F_sun_common_L1 n) n (a0, a1)).bind fun t1 =>
  some (maxI t1 (IntKind.wrap .i64 (0 - t1)))
theorem c_sun_common {n : Nat} {a0 : Int} {a1 : Int} {r : Int} (h : F_sun_common n a0 a1 = some r) : Computes cx 49 [I a0, I a1] (I r) := by
  unfold F_sun_common at h
  obtain ⟨t1, h1, h⟩ := bnd_of h
  replace h := Option.some.inj h
  subst h
  exact run (n := 100) (f := 49) (args := [I a0, I a1]) (orc := [.lp [] [0, 1] [] (.exit 0) [(0, .d (I t1))] [] 20]) (r := I (maxI t1 (IntKind.wrap .i64 (0 - t1)))) (ob := [LoopN cx (loopAt cx.P 49 0) 15 0 false [(0, .d (I a0)), (1, .d (I a1))] [] (.exit 0) [(0, .d (I t1))] []]) (by kernel_rfl) ⟨(loopF_to R_sun_common_L1 h1), trivial⟩
/- spillage/sun.vector: .agg [I a0, I a1, I a2] -/
def F_sun_vector (n : Nat) (a0 : Int) (a1 : Int) (a2 : Int) : Option (Int × Int × Int) :=
  some (a0, a1, a2)
theorem c_sun_vector {n : Nat} {a0 : Int} {a1 : Int} {a2 : Int} {r : Int × Int × Int} (h : F_sun_vector n a0 a1 a2 = some r) : Computes cx 50 [.agg [I a0, I a1, I a2]] (.agg [I r.1, I r.2.1, I r.2.2]) := by
  unfold F_sun_vector at h
  replace h := Option.some.inj h
  subst h
  exact run (n := 100) (f := 50) (args := [.agg [I a0, I a1, I a2]]) (orc := []) (r := .agg [I a0, I a1, I a2]) (ob := []) (by kernel_rfl) trivial
/- spillage/sun.parts: .agg [I a0, I a1, I a2] -/
def F_sun_parts_2 (n : Nat) (a0 : Int) (a1 : Int) (a2 : Int) : Option (Int × Int × Int) :=
  some (a0, a1, a2)
theorem c_sun_parts_2 {n : Nat} {a0 : Int} {a1 : Int} {a2 : Int} {r : Int × Int × Int} (h : F_sun_parts_2 n a0 a1 a2 = some r) : Computes cx 48 [.agg [I a0, I a1, I a2]] (.agg [I r.1, I r.2.1, I r.2.2]) := by
  unfold F_sun_parts_2 at h
  replace h := Option.some.inj h
  subst h
  exact run (n := 100) (f := 48) (args := [.agg [I a0, I a1, I a2]]) (orc := []) (r := .agg [I a0, I a1, I a2]) (ob := []) (by kernel_rfl) trivial
/- spillage/sun.reduced: .agg [I a0, I a1, I a2] -/
def F_sun_reduced_2 (n : Nat) (a0 : Int) (a1 : Int) (a2 : Int) : Option (Int × Int × Int) :=
  (F_sun_parts_2 n a0 a1 a2).bind fun t1 =>
  (F_sun_common n 0 t1.1).bind fun t2 =>
  (F_sun_common n t2 t1.2.1).bind fun t3 =>
  (F_sun_common n t3 t1.2.2).bind fun t4 =>
  if t4 = 0 then
    some (a0, a1, a2)
  else
  if t4 ≠ 0 then
  if inI64 (Int.tdiv t1.1 t4) then
  if inI64 (Int.tdiv t1.2.1 t4) then
  if inI64 (Int.tdiv t1.2.2 t4) then
  (F_sun_vector n (Int.tdiv t1.1 t4) (Int.tdiv t1.2.1 t4) (Int.tdiv t1.2.2 t4)).bind fun t10 =>
  some (t10.1, t10.2.1, t10.2.2)
  else none
  else none
  else none
  else none
theorem c_sun_reduced_2 {n : Nat} {a0 : Int} {a1 : Int} {a2 : Int} {r : Int × Int × Int} (h : F_sun_reduced_2 n a0 a1 a2 = some r) : Computes cx 22 [.agg [I a0, I a1, I a2]] (.agg [I r.1, I r.2.1, I r.2.2]) := by
  unfold F_sun_reduced_2 at h
  obtain ⟨t1, h1, h⟩ := bnd_of h
  obtain ⟨t2, h2, h⟩ := bnd_of h
  obtain ⟨t3, h3, h⟩ := bnd_of h
  obtain ⟨t4, h4, h⟩ := bnd_of h
  by_cases h5 : t4 = 0
  · replace h := ite_t h h5
    replace h := Option.some.inj h
    subst h
    exact run (n := 100) (f := 22) (args := [.agg [I a0, I a1, I a2]]) (orc := [.ret (.agg [I t1.1, I t1.2.1, I t1.2.2]), .no, .no, .ret (I t2), .no, .no, .ret (I t3), .no, .no, .ret (I t4), .no, .no, .br true]) (r := .agg [I a0, I a1, I a2]) (ob := [(t4 == 0) = true, inI64 3, Computes cx 49 [I t3, I t1.2.2] (I t4), inI64 2, Computes cx 49 [I t2, I t1.2.1] (I t3), inI64 1, Computes cx 49 [I 0, I t1.1] (I t2), Computes cx 48 [.agg [I a0, I a1, I a2]] (.agg [I t1.1, I t1.2.1, I t1.2.2])]) (by kernel_rfl) ⟨(eqt h5), (by unfold inI64; omega), (c_sun_common h4), (by unfold inI64; omega), (c_sun_common h3), (by unfold inI64; omega), (c_sun_common h2), (c_sun_parts_2 h1), trivial⟩
  · replace h := ite_f h h5
    obtain ⟨h6, h⟩ := grd_of h
    obtain ⟨h7, h⟩ := grd_of h
    obtain ⟨h8, h⟩ := grd_of h
    obtain ⟨h9, h⟩ := grd_of h
    obtain ⟨t10, h10, h⟩ := bnd_of h
    replace h := Option.some.inj h
    subst h
    exact run (n := 100) (f := 22) (args := [.agg [I a0, I a1, I a2]]) (orc := [.ret (.agg [I t1.1, I t1.2.1, I t1.2.2]), .no, .no, .ret (I t2), .no, .no, .ret (I t3), .no, .no, .ret (I t4), .no, .no, .br false, .no, .no, .no, .no, .no, .no, .no, .no, .ret (.agg [I t10.1, I t10.2.1, I t10.2.2])]) (r := .agg [I t10.1, I t10.2.1, I t10.2.2]) (ob := [Computes cx 50 [.agg [I (Int.tdiv t1.1 t4), I (Int.tdiv t1.2.1 t4), I (Int.tdiv t1.2.2 t4)]] (.agg [I t10.1, I t10.2.1, I t10.2.2]), inI64 3, t4 ≠ 0, inI64 (Int.tdiv t1.2.2 t4), inI64 2, t4 ≠ 0, inI64 (Int.tdiv t1.2.1 t4), inI64 1, t4 ≠ 0, inI64 (Int.tdiv t1.1 t4), (t4 == 0) = false, inI64 3, Computes cx 49 [I t3, I t1.2.2] (I t4), inI64 2, Computes cx 49 [I t2, I t1.2.1] (I t3), inI64 1, Computes cx 49 [I 0, I t1.1] (I t2), Computes cx 48 [.agg [I a0, I a1, I a2]] (.agg [I t1.1, I t1.2.1, I t1.2.2])]) (by kernel_rfl) ⟨(c_sun_vector h10), (by unfold inI64; omega), h6, h9, (by unfold inI64; omega), h6, h8, (by unfold inI64; omega), h6, h7, (eqf h5), (by unfold inI64; omega), (c_sun_common h4), (by unfold inI64; omega), (c_sun_common h3), (by unfold inI64; omega), (c_sun_common h2), (c_sun_parts_2 h1), trivial⟩
/- spillage/light.when: B true, I 3 -/
def F_light_when_3 (n : Nat)  : Option (Int) :=
  some 3
theorem c_light_when_3 {n : Nat}  {r : Int} (h : F_light_when_3 n  = some r) : Computes cx 47 [B true, I 3] (I r) := by
  unfold F_light_when_3 at h
  replace h := Option.some.inj h
  subst h
  exact run (n := 100) (f := 47) (args := [B true, I 3]) (orc := [.no]) (r := I 3) (ob := []) (by kernel_rfl) trivial
/- spillage/light.when: B a0, I a1 -/
def F_light_when_4 (n : Nat) (a0 : Bool) (a1 : Int) : Option (Int) :=
  if a0 = true then
    some a1
  else
  some 0
theorem c_light_when_4 {n : Nat} {a0 : Bool} {a1 : Int} {r : Int} (h : F_light_when_4 n a0 a1 = some r) : Computes cx 47 [B a0, I a1] (I r) := by
  unfold F_light_when_4 at h
  by_cases h1 : a0 = true
  · replace h := ite_t h h1
    replace h := Option.some.inj h
    subst h
    exact run (n := 100) (f := 47) (args := [B a0, I a1]) (orc := [.br true]) (r := I a1) (ob := [a0 = true]) (by kernel_rfl) ⟨h1, trivial⟩
  · replace h := ite_f h h1
    replace h := Option.some.inj h
    subst h
    exact run (n := 100) (f := 47) (args := [B a0, I a1]) (orc := [.br false]) (r := I 0) (ob := [a0 = false]) (by kernel_rfl) ⟨(bfalse h1), trivial⟩
/- spillage/light.within: I a0, I a1, I a2 -/
def F_light_within_4 (n : Nat) (a0 : Int) (a1 : Int) (a2 : Int) : Option (Int) :=
  if a0 < a1 then
    (F_light_when_3 n).bind fun t2 =>
    some t2
  else
  (F_light_when_4 n (decide (a0 > a2)) 3).bind fun t2 =>
  some t2
theorem c_light_within_4 {n : Nat} {a0 : Int} {a1 : Int} {a2 : Int} {r : Int} (h : F_light_within_4 n a0 a1 a2 = some r) : Computes cx 65 [I a0, I a1, I a2] (I r) := by
  unfold F_light_within_4 at h
  by_cases h1 : a0 < a1
  · replace h := ite_t h h1
    obtain ⟨t2, h2, h⟩ := bnd_of h
    replace h := Option.some.inj h
    subst h
    exact run (n := 100) (f := 65) (args := [I a0, I a1, I a2]) (orc := [.br true, .ret (I t2)]) (r := I t2) (ob := [Computes cx 47 [B true, I 3] (I t2), (decide (a0 < a1)) = true]) (by kernel_rfl) ⟨(c_light_when_3 h2), (decide_eq_true h1), trivial⟩
  · replace h := ite_f h h1
    obtain ⟨t2, h2, h⟩ := bnd_of h
    replace h := Option.some.inj h
    subst h
    exact run (n := 100) (f := 65) (args := [I a0, I a1, I a2]) (orc := [.br false, .ret (I t2)]) (r := I t2) (ob := [Computes cx 47 [B (decide (a0 > a2)), I 3] (I t2), (decide (a0 < a1)) = false]) (by kernel_rfl) ⟨(c_light_when_4 h2), (decide_eq_false h1), trivial⟩
/- spillage/light.CheckVector: .agg [I a0, I a1, I a2] -/
def F_light_CheckVector_2 (n : Nat) (a0 : Int) (a1 : Int) (a2 : Int) : Option (Int) :=
  (F_light_within_4 n a0 (-1048576) 1048576).bind fun t1 =>
  (F_light_within_4 n a1 (-1048576) 1048576).bind fun t2 =>
  (F_light_within_4 n a2 (-1048576) 1048576).bind fun t3 =>
  (F_light_first n ([I t1, I t2, I t3])).bind fun t4 =>
  some t4
theorem c_light_CheckVector_2 {n : Nat} {a0 : Int} {a1 : Int} {a2 : Int} {r : Int} (h : F_light_CheckVector_2 n a0 a1 a2 = some r) : Computes cx 46 [.agg [I a0, I a1, I a2]] (I r) := by
  unfold F_light_CheckVector_2 at h
  obtain ⟨t1, h1, h⟩ := bnd_of h
  obtain ⟨t2, h2, h⟩ := bnd_of h
  obtain ⟨t3, h3, h⟩ := bnd_of h
  obtain ⟨t4, h4, h⟩ := bnd_of h
  replace h := Option.some.inj h
  subst h
  exact run (n := 100) (f := 46) (args := [.agg [I a0, I a1, I a2]]) (orc := [.ret (I t1), .ret (I t2), .ret (I t3), .ret (I t4)]) (r := I t4) (ob := [Computes cx 45 [.lst true 1 [I t1, I t2, I t3]] (I t4), Computes cx 65 [I a2, I (-1048576), I 1048576] (I t3), Computes cx 65 [I a1, I (-1048576), I 1048576] (I t2), Computes cx 65 [I a0, I (-1048576), I 1048576] (I t1)]) (by kernel_rfl) ⟨((c_light_first h4).le (.cons (.full _ _ _) (.nil)) (.refl _)), (c_light_within_4 h3), (c_light_within_4 h2), (c_light_within_4 h1), trivial⟩
/- spillage/light.CheckDirection: .agg [I a0, I a1, I a2] -/
def F_light_CheckDirection_2 (n : Nat) (a0 : Int) (a1 : Int) (a2 : Int) : Option (Int) :=
  (F_light_CheckVector_2 n a0 a1 a2).bind fun t1 =>
  (F_light_when_4 n ((a0 == 0) && ((a1 == 0) && ((a2 == 0) && true))) 6).bind fun t2 =>
  (F_light_first n ([I t1, I t2])).bind fun t3 =>
  some t3
theorem c_light_CheckDirection_2 {n : Nat} {a0 : Int} {a1 : Int} {a2 : Int} {r : Int} (h : F_light_CheckDirection_2 n a0 a1 a2 = some r) : Computes cx 21 [.agg [I a0, I a1, I a2]] (I r) := by
  unfold F_light_CheckDirection_2 at h
  obtain ⟨t1, h1, h⟩ := bnd_of h
  obtain ⟨t2, h2, h⟩ := bnd_of h
  obtain ⟨t3, h3, h⟩ := bnd_of h
  replace h := Option.some.inj h
  subst h
  exact run (n := 100) (f := 21) (args := [.agg [I a0, I a1, I a2]]) (orc := [.ret (I t1), .ret (I t2), .ret (I t3)]) (r := I t3) (ob := [Computes cx 45 [.lst true 1 [I t1, I t2]] (I t3), Computes cx 47 [B ((a0 == 0) && ((a1 == 0) && ((a2 == 0) && true))), I 6] (I t2), Computes cx 46 [.agg [I a0, I a1, I a2]] (I t1)]) (by kernel_rfl) ⟨((c_light_first h3).le (.cons (.full _ _ _) (.nil)) (.refl _)), (c_light_when_4 h2), (c_light_CheckVector_2 h1), trivial⟩
/- spillage/sun.Reduced: .agg [I a0, I a1, I a2] -/
def F_sun_Reduced_2 (n : Nat) (a0 : Int) (a1 : Int) (a2 : Int) : Option (Int × Int × Int × Int) :=
  (F_light_CheckDirection_2 n a0 a1 a2).bind fun t1 =>
  if t1 = 0 then
    (F_sun_reduced_2 n a0 a1 a2).bind fun t3 =>
    some (t3.1, t3.2.1, t3.2.2, 0)
  else
  some (0, 0, 0, t1)
theorem c_sun_Reduced_2 {n : Nat} {a0 : Int} {a1 : Int} {a2 : Int} {r : Int × Int × Int × Int} (h : F_sun_Reduced_2 n a0 a1 a2 = some r) : Computes cx 6 [.agg [I a0, I a1, I a2]] (.tup [.agg [I r.1, I r.2.1, I r.2.2.1], I r.2.2.2]) := by
  unfold F_sun_Reduced_2 at h
  obtain ⟨t1, h1, h⟩ := bnd_of h
  by_cases h2 : t1 = 0
  · replace h := ite_t h h2
    obtain ⟨t3, h3, h⟩ := bnd_of h
    replace h := Option.some.inj h
    subst h
    exact run (n := 100) (f := 6) (args := [.agg [I a0, I a1, I a2]]) (orc := [.ret (I t1), .br false, .ret (.agg [I t3.1, I t3.2.1, I t3.2.2])]) (r := .tup [.agg [I t3.1, I t3.2.1, I t3.2.2], I 0]) (ob := [Computes cx 22 [.agg [I a0, I a1, I a2]] (.agg [I t3.1, I t3.2.1, I t3.2.2]), (t1 != 0) = false, Computes cx 21 [.agg [I a0, I a1, I a2]] (I t1)]) (by kernel_rfl) ⟨(c_sun_reduced_2 h3), (nef h2), (c_light_CheckDirection_2 h1), trivial⟩
  · replace h := ite_f h h2
    replace h := Option.some.inj h
    subst h
    exact run (n := 100) (f := 6) (args := [.agg [I a0, I a1, I a2]]) (orc := [.ret (I t1), .br true]) (r := .tup [.agg [I 0, I 0, I 0], I t1]) (ob := [(t1 != 0) = true, Computes cx 21 [.agg [I a0, I a1, I a2]] (I t1)]) (by kernel_rfl) ⟨(net h2), (c_light_CheckDirection_2 h1), trivial⟩
/- spillage/sun.when: B true, I 3 -/
def F_sun_when (n : Nat)  : Option (Int) :=
  some 3
theorem c_sun_when {n : Nat}  {r : Int} (h : F_sun_when n  = some r) : Computes cx 54 [B true, I 3] (I r) := by
  unfold F_sun_when at h
  replace h := Option.some.inj h
  subst h
  exact run (n := 100) (f := 54) (args := [B true, I 3]) (orc := [.no]) (r := I 3) (ob := []) (by kernel_rfl) trivial
/- spillage/sun.when: B a0, I a1 -/
def F_sun_when_2 (n : Nat) (a0 : Bool) (a1 : Int) : Option (Int) :=
  if a0 = true then
    some a1
  else
  some 0
theorem c_sun_when_2 {n : Nat} {a0 : Bool} {a1 : Int} {r : Int} (h : F_sun_when_2 n a0 a1 = some r) : Computes cx 54 [B a0, I a1] (I r) := by
  unfold F_sun_when_2 at h
  by_cases h1 : a0 = true
  · replace h := ite_t h h1
    replace h := Option.some.inj h
    subst h
    exact run (n := 100) (f := 54) (args := [B a0, I a1]) (orc := [.br true]) (r := I a1) (ob := [a0 = true]) (by kernel_rfl) ⟨h1, trivial⟩
  · replace h := ite_f h h1
    replace h := Option.some.inj h
    subst h
    exact run (n := 100) (f := 54) (args := [B a0, I a1]) (orc := [.br false]) (r := I 0) (ob := [a0 = false]) (by kernel_rfl) ⟨(bfalse h1), trivial⟩
end Go.Proofs.YtegcijomjkffgaaDoor
