/-
  Printed by gsx.py: functions of the program as Lean functions, and that the code computes them.
-/
import Derived.Test.YtbjnjffckhdhgaaGreatDoorWake
set_option linter.unusedVariables false
set_option linter.unusedSimpArgs false
set_option linter.unnecessarySimpa false
set_option maxRecDepth 10000
namespace Go.Proofs.YtbjnjffckhdhgaaGreatDoor
open Go.SX
/- spillage/spillagelaw04.points: .lst false 2 a0 -/
def F_law04_points (n : Nat) (a0 : List D) : Option (List D) :=
  if roomP 16 (0 + (a0).length) then
  if isNilL a0 = true then
    some []
  else
  some a0
  else none
theorem c_law04_points {n : Nat} {a0 : List D} {r : List D} (h : F_law04_points n a0 = some r) : Computes cx 8 [.lst false 2 a0] (.lst false 2 r) := by
  unfold F_law04_points at h
  obtain ⟨h1, h⟩ := grd_of h
  by_cases h2 : isNilL a0 = true
  · replace h := ite_t h h2
    replace h := Option.some.inj h
    subst h
    exact (run_fr (n := 100) (r := .lst true 2 []) (orc := [.br true, .br true]) (allC h2 (allC ((room_of (b := 16) (by kernel_rfl) (by decide) h1) : room cx 25 (0 + (a0).length)) allN)) (by kernel_rfl)).le (LEs.refl _) (.full _ _ _)
  · replace h := ite_f h h2
    replace h := Option.some.inj h
    subst h
    exact run_fr (n := 100) (orc := [.br true, .br false]) (allC (bfalse h2) (allC ((room_of (b := 16) (by kernel_rfl) (by decide) h1) : room cx 25 (0 + (a0).length)) allN)) (by kernel_rfl)
def F_law04_FieldParted_L1 (n : Nat) (a0 : List D) (a1 : List D) (sa : (Int)) : Option (((Int)) ⊕ ((Unit) ⊕ (Unit))) :=
  if sa < ((a0).length : Int) then
    (el un_Ai2Z a0 sa).bind fun ta2 =>
    (F_ref01_CheckRange n ta2.1 (-100) 100).bind fun ta3 =>
    if ta3 = 0 then
      (F_ref01_CheckRange n ta2.2 (-100) 100).bind fun ta5 =>
      if ta5 = 0 then
        if inI64 (sa + 1) then
        some (.inl (sa + 1))
        else none
      else
      some (.inr (.inl ()))
    else
    some (.inr (.inl ()))
  else
  some (.inr (.inr ()))
noncomputable def T_law04_FieldParted_L1 (a0 : List D) (a1 : List D) (sa : (Int)) : List (Nat × AV) := [(0, .d (.lst false 2 a0)), (1, .d (.lst false 2 a1)), (56, .d (.agg [.lst false 2 a0, .lst false 2 a1])), (57, .d (I 0)), (60, .d (.lst false 2 a0)), (61, .d (I ((a0).length : Int))), (62, .d (I sa))]
noncomputable def H_law04_FieldParted_L1 (a0 : List D) (a1 : List D) (sa : (Int)) : List (Nat × Blk) := []
noncomputable def X_law04_FieldParted_L1 (a0 : List D) (a1 : List D) (e : (Unit) ⊕ (Unit)) : Ex := match e with
  | (.inl e) => .ret
  | (.inr e) => (.exit 2)
noncomputable def XT_law04_FieldParted_L1 (a0 : List D) (a1 : List D) (e : (Unit) ⊕ (Unit)) : List (Nat × AV) := match e with
  | (.inl e) => [(4, .d (B true))]
  | (.inr e) => [(0, .d (.lst false 2 a0)), (1, .d (.lst false 2 a1)), (56, .d (.agg [.lst false 2 a0, .lst false 2 a1])), (57, .d (I 0))]
noncomputable def XH_law04_FieldParted_L1 (a0 : List D) (a1 : List D) (e : (Unit) ⊕ (Unit)) : List (Nat × Blk) := match e with
  | (.inl e) => []
  | (.inr e) => []
theorem R_law04_FieldParted_L1 {n : Nat} {a0 : List D} {a1 : List D} (sa : (Int)) (r) (h : F_law04_FieldParted_L1 n a0 a1 sa = some r) : Rd cx (loopAt cx.P 4 1) 254 0 false (T_law04_FieldParted_L1 a0 a1) (H_law04_FieldParted_L1 a0 a1) (X_law04_FieldParted_L1 a0 a1) (XT_law04_FieldParted_L1 a0 a1) (XH_law04_FieldParted_L1 a0 a1) sa r := by
  unfold F_law04_FieldParted_L1 at h
  by_cases ha1 : sa < ((a0).length : Int)
  · replace h := ite_t h ha1
    obtain ⟨ta2, ha2, h⟩ := bnd_of h
    obtain ⟨ta3, ha3, h⟩ := bnd_of h
    by_cases ha4 : ta3 = 0
    · replace h := ite_t h ha4
      obtain ⟨ta5, ha5, h⟩ := bnd_of h
      by_cases ha6 : ta5 = 0
      · replace h := ite_t h ha6
        obtain ⟨ha7, h⟩ := grd_of h
        replace h := Option.some.inj h
        subst h
        exact ⟨100, 33, [.br true, .el (enc_Ai2Z ta2), .ret (I ta3), .br false, .ret (I ta5), .br false], [], [0, 1, 56, 57, 60, 61, 62], [], round_fr (allC ha7 (allC (nef ha6) (allC (c_ref01_CheckRange ha5) (allC (nef ha4) (allC (c_ref01_CheckRange ha3) (allC (el_ok un_Ai2Z_ok ha2).1 (allC (el_ok un_Ai2Z_ok ha2).2 (allC (decide_eq_true ha1) allN)))))))) (by kernel_rfl)⟩
      · replace h := ite_f h ha6
        replace h := Option.some.inj h
        subst h
        exact ⟨⟨100, 33, [.br true, .el (enc_Ai2Z ta2), .ret (I ta3), .br false, .ret (I ta5), .br true], [], [4], [], round_fr (allC (net ha6) (allC (c_ref01_CheckRange ha5) (allC (nef ha4) (allC (c_ref01_CheckRange ha3) (allC (el_ok un_Ai2Z_ok ha2).1 (allC (el_ok un_Ai2Z_ok ha2).2 (allC (decide_eq_true ha1) allN))))))) (by kernel_rfl)⟩, nofun⟩
    · replace h := ite_f h ha4
      replace h := Option.some.inj h
      subst h
      exact ⟨⟨100, 33, [.br true, .el (enc_Ai2Z ta2), .ret (I ta3), .br true, .no], [], [4], [], round_fr (allC (net ha4) (allC (c_ref01_CheckRange ha3) (allC (el_ok un_Ai2Z_ok ha2).1 (allC (el_ok un_Ai2Z_ok ha2).2 (allC (decide_eq_true ha1) allN))))) (by kernel_rfl)⟩, nofun⟩
  · replace h := ite_f h ha1
    replace h := Option.some.inj h
    subst h
    exact ⟨⟨100, 33, [.br false], [], [0, 1, 56, 57], [], round_fr (allC (decide_eq_false ha1) allN) (by kernel_rfl)⟩, nofun⟩
def F_law04_FieldParted_L2 (n : Nat) (a0 : List D) (a1 : List D) (sa : (Int)) : Option (((Int)) ⊕ ((Unit) ⊕ (Unit))) :=
  if sa < ((a1).length : Int) then
    (el un_Ai2Z a1 sa).bind fun ta2 =>
    (F_ref01_CheckRange n ta2.1 (-100) 100).bind fun ta3 =>
    if ta3 = 0 then
      (F_ref01_CheckRange n ta2.2 (-100) 100).bind fun ta5 =>
      if ta5 = 0 then
        if inI64 (sa + 1) then
        some (.inl (sa + 1))
        else none
      else
      some (.inr (.inl ()))
    else
    some (.inr (.inl ()))
  else
  some (.inr (.inr ()))
noncomputable def T_law04_FieldParted_L2 (a0 : List D) (a1 : List D) (sa : (Int)) : List (Nat × AV) := [(0, .d (.lst false 2 a0)), (1, .d (.lst false 2 a1)), (56, .d (.agg [.lst false 2 a0, .lst false 2 a1])), (57, .d (I 1)), (60, .d (.lst false 2 a1)), (61, .d (I ((a1).length : Int))), (62, .d (I sa))]
noncomputable def H_law04_FieldParted_L2 (a0 : List D) (a1 : List D) (sa : (Int)) : List (Nat × Blk) := []
noncomputable def X_law04_FieldParted_L2 (a0 : List D) (a1 : List D) (e : (Unit) ⊕ (Unit)) : Ex := match e with
  | (.inl e) => .ret
  | (.inr e) => (.exit 2)
noncomputable def XT_law04_FieldParted_L2 (a0 : List D) (a1 : List D) (e : (Unit) ⊕ (Unit)) : List (Nat × AV) := match e with
  | (.inl e) => [(4, .d (B true))]
  | (.inr e) => [(0, .d (.lst false 2 a0)), (1, .d (.lst false 2 a1)), (56, .d (.agg [.lst false 2 a0, .lst false 2 a1])), (57, .d (I 1))]
noncomputable def XH_law04_FieldParted_L2 (a0 : List D) (a1 : List D) (e : (Unit) ⊕ (Unit)) : List (Nat × Blk) := match e with
  | (.inl e) => []
  | (.inr e) => []
theorem R_law04_FieldParted_L2 {n : Nat} {a0 : List D} {a1 : List D} (sa : (Int)) (r) (h : F_law04_FieldParted_L2 n a0 a1 sa = some r) : Rd cx (loopAt cx.P 4 1) 254 0 false (T_law04_FieldParted_L2 a0 a1) (H_law04_FieldParted_L2 a0 a1) (X_law04_FieldParted_L2 a0 a1) (XT_law04_FieldParted_L2 a0 a1) (XH_law04_FieldParted_L2 a0 a1) sa r := by
  unfold F_law04_FieldParted_L2 at h
  by_cases ha1 : sa < ((a1).length : Int)
  · replace h := ite_t h ha1
    obtain ⟨ta2, ha2, h⟩ := bnd_of h
    obtain ⟨ta3, ha3, h⟩ := bnd_of h
    by_cases ha4 : ta3 = 0
    · replace h := ite_t h ha4
      obtain ⟨ta5, ha5, h⟩ := bnd_of h
      by_cases ha6 : ta5 = 0
      · replace h := ite_t h ha6
        obtain ⟨ha7, h⟩ := grd_of h
        replace h := Option.some.inj h
        subst h
        exact ⟨100, 69, [.br true, .el (enc_Ai2Z ta2), .ret (I ta3), .br false, .ret (I ta5), .br false], [], [0, 1, 56, 57, 60, 61, 62], [], round_fr (allC ha7 (allC (nef ha6) (allC (c_ref01_CheckRange ha5) (allC (nef ha4) (allC (c_ref01_CheckRange ha3) (allC (el_ok un_Ai2Z_ok ha2).1 (allC (el_ok un_Ai2Z_ok ha2).2 (allC (decide_eq_true ha1) allN)))))))) (by kernel_rfl)⟩
      · replace h := ite_f h ha6
        replace h := Option.some.inj h
        subst h
        exact ⟨⟨100, 69, [.br true, .el (enc_Ai2Z ta2), .ret (I ta3), .br false, .ret (I ta5), .br true], [], [4], [], round_fr (allC (net ha6) (allC (c_ref01_CheckRange ha5) (allC (nef ha4) (allC (c_ref01_CheckRange ha3) (allC (el_ok un_Ai2Z_ok ha2).1 (allC (el_ok un_Ai2Z_ok ha2).2 (allC (decide_eq_true ha1) allN))))))) (by kernel_rfl)⟩, nofun⟩
    · replace h := ite_f h ha4
      replace h := Option.some.inj h
      subst h
      exact ⟨⟨100, 69, [.br true, .el (enc_Ai2Z ta2), .ret (I ta3), .br true, .no], [], [4], [], round_fr (allC (net ha4) (allC (c_ref01_CheckRange ha3) (allC (el_ok un_Ai2Z_ok ha2).1 (allC (el_ok un_Ai2Z_ok ha2).2 (allC (decide_eq_true ha1) allN))))) (by kernel_rfl)⟩, nofun⟩
  · replace h := ite_f h ha1
    replace h := Option.some.inj h
    subst h
    exact ⟨⟨100, 69, [.br false], [], [0, 1, 56, 57], [], round_fr (allC (decide_eq_false ha1) allN) (by kernel_rfl)⟩, nofun⟩
def F_law04_FieldParted_L3 (n : Nat) (t10 : List D × Int) (t21 : Int × Int × Int) (sa : (Int)) : Option (((Int)) ⊕ ((Unit))) :=
  if sa < ((t10.1).length : Int) then
    (el un_Ai2Z t10.1 sa).bind fun ta2 =>
    (el un_Ai2Z t10.1 t21.2.1).bind fun ta3 =>
    if inI64 (t21.2.1 + 1) then
    if ((t10.1).length : Int) ≠ 0 then
    (el un_Ai2Z t10.1 (Int.tmod (t21.2.1 + 1) ((t10.1).length : Int))).bind fun ta6 =>
    (F_ref04_Side n ta3.1 ta3.2 ta6.1 ta6.2 ta2.1 ta2.2).bind fun ta7 =>
    if ta7 > 0 then
      none /- false -/
    else
    (F_law04_points n t10.1).bind fun ta9 =>
    (F_field_Holds n ta9 ta2.1 ta2.2).bind fun ta10 =>
    if ta10.2 = 0 then
      if ta10.1 > 0 then
        none /- false -/
      else
      if inI64 (sa + 1) then
      some (.inl (sa + 1))
      else none
    else
    none /- false -/
    else none
    else none
  else
  some (.inr ())
noncomputable def T_law04_FieldParted_L3 (t10 : List D × Int) (t21 : Int × Int × Int) (sa : (Int)) : List (Nat × AV) := [(9, .d (.lst false 2 t10.1)), (13, .ptr 138 0 0 0 0), (18, .d (.lst false 2 t10.1)), (182, .d (.lst false 2 t10.1)), (183, .d (I ((t10.1).length : Int))), (184, .d (I sa))]
noncomputable def H_law04_FieldParted_L3 (t10 : List D × Int) (t21 : Int × Int × Int) (sa : (Int)) : List (Nat × Blk) := [(138, .box (.d (.agg [I t21.1, I t21.2.1])))]
noncomputable def X_law04_FieldParted_L3 (t10 : List D × Int) (t21 : Int × Int × Int) (e : (Unit)) : Ex := (.exit 4)
noncomputable def XT_law04_FieldParted_L3 (t10 : List D × Int) (t21 : Int × Int × Int) (e : (Unit)) : List (Nat × AV) := [(9, .d (.lst false 2 t10.1))]
noncomputable def XH_law04_FieldParted_L3 (t10 : List D × Int) (t21 : Int × Int × Int) (e : (Unit)) : List (Nat × Blk) := []
theorem R_law04_FieldParted_L3 {n : Nat} {t10 : List D × Int} {t21 : Int × Int × Int} (sa : (Int)) (r) (h : F_law04_FieldParted_L3 n t10 t21 sa = some r) : Rd cx (loopAt cx.P 4 2) 254 0 false (T_law04_FieldParted_L3 t10 t21) (H_law04_FieldParted_L3 t10 t21) (X_law04_FieldParted_L3 t10 t21) (XT_law04_FieldParted_L3 t10 t21) (XH_law04_FieldParted_L3 t10 t21) sa r := by
  unfold F_law04_FieldParted_L3 at h
  by_cases ha1 : sa < ((t10.1).length : Int)
  · replace h := ite_t h ha1
    obtain ⟨ta2, ha2, h⟩ := bnd_of h
    obtain ⟨ta3, ha3, h⟩ := bnd_of h
    obtain ⟨ha4, h⟩ := grd_of h
    obtain ⟨ha5, h⟩ := grd_of h
    obtain ⟨ta6, ha6, h⟩ := bnd_of h
    obtain ⟨ta7, ha7, h⟩ := bnd_of h
    by_cases ha8 : ta7 > 0
    · replace h := ite_t h ha8
      cases h
    · replace h := ite_f h ha8
      obtain ⟨ta9, ha9, h⟩ := bnd_of h
      obtain ⟨ta10, ha10, h⟩ := bnd_of h
      by_cases ha11 : ta10.2 = 0
      · replace h := ite_t h ha11
        by_cases ha12 : ta10.1 > 0
        · replace h := ite_t h ha12
          cases h
        · replace h := ite_f h ha12
          obtain ⟨ha13, h⟩ := grd_of h
          replace h := Option.some.inj h
          subst h
          exact ⟨100, 207, [.br true, .el (enc_Ai2Z ta2), .el (enc_Ai2Z ta3), .el (enc_Ai2Z ta6), .ret (I ta7), .br false, .ret (.lst false 2 ta9), .ret (.tup [I ta10.1, I ta10.2]), .br false, .br false], [], [9, 13, 18, 182, 183, 184], [138], round_fr (allC ha13 (allC (decide_eq_false ha12) (allC (nef ha11) (allC (c_field_Holds ha10) (allC (c_law04_points ha9) (allC (decide_eq_false ha8) (allC (c_ref04_Side ha7) (allC (el_ok un_Ai2Z_ok ha6).1 (allC (el_ok un_Ai2Z_ok ha6).2 (allC ha5 (allC ha4 (allC (el_ok un_Ai2Z_ok ha3).1 (allC (el_ok un_Ai2Z_ok ha3).2 (allC (el_ok un_Ai2Z_ok ha2).1 (allC (el_ok un_Ai2Z_ok ha2).2 (allC (decide_eq_true ha1) allN)))))))))))))))) (by kernel_rfl)⟩
      · replace h := ite_f h ha11
        cases h
  · replace h := ite_f h ha1
    replace h := Option.some.inj h
    subst h
    exact ⟨⟨100, 207, [.br false], [], [9], [], round_fr (allC (decide_eq_false ha1) allN) (by kernel_rfl)⟩, nofun⟩
def F_law04_FieldParted_L4 (n : Nat) (t10 : List D × Int) (sa : (Int × List D)) : Option (((Int × List D)) ⊕ ((List D))) :=
  if sa.1 < ((t10.1).length : Int) then
    (el un_Ai2Z t10.1 sa.1).bind fun ta2 =>
    if inI64 (ta2.1 + 201) then
    if roomP 16 ((sa.2).length + 1) then
    if inI64 (sa.1 + 1) then
    some (.inl ((sa.1 + 1), (sa.2 ++ ([.agg [I (ta2.1 + 201), I ta2.2]] : List D))))
    else none
    else none
    else none
  else
  some (.inr sa.2)
noncomputable def T_law04_FieldParted_L4 (t10 : List D × Int) (sa : (Int × List D)) : List (Nat × AV) := [(9, .d (.lst false 2 t10.1)), (26, .own 274 0), (229, .d (.lst false 2 t10.1)), (230, .d (I ((t10.1).length : Int))), (231, .d (I sa.1))]
noncomputable def H_law04_FieldParted_L4 (t10 : List D × Int) (sa : (Int × List D)) : List (Nat × Blk) := [(274, .row 0 2 sa.2)]
noncomputable def X_law04_FieldParted_L4 (t10 : List D × Int) (e : (List D)) : Ex := (.exit 6)
noncomputable def XT_law04_FieldParted_L4 (t10 : List D × Int) (e : (List D)) : List (Nat × AV) := [(9, .d (.lst false 2 t10.1)), (26, .own 274 0)]
noncomputable def XH_law04_FieldParted_L4 (t10 : List D × Int) (e : (List D)) : List (Nat × Blk) := [(274, .row 0 2 e)]
theorem R_law04_FieldParted_L4 {n : Nat} {t10 : List D × Int} (sa : (Int × List D)) (r) (h : F_law04_FieldParted_L4 n t10 sa = some r) : Rd cx (loopAt cx.P 4 3) 254 0 false (T_law04_FieldParted_L4 t10) (H_law04_FieldParted_L4 t10) (X_law04_FieldParted_L4 t10) (XT_law04_FieldParted_L4 t10) (XH_law04_FieldParted_L4 t10) sa r := by
  unfold F_law04_FieldParted_L4 at h
  by_cases ha1 : sa.1 < ((t10.1).length : Int)
  · replace h := ite_t h ha1
    obtain ⟨ta2, ha2, h⟩ := bnd_of h
    obtain ⟨ha3, h⟩ := grd_of h
    obtain ⟨ha4, h⟩ := grd_of h
    obtain ⟨ha5, h⟩ := grd_of h
    replace h := Option.some.inj h
    subst h
    exact ⟨100, 275, [.br true, .el (enc_Ai2Z ta2), .br true], [], [9, 26, 229, 230, 231], [274], round_fr (allC ha5 (allC ((room_of (b := 16) (by kernel_rfl) (by decide) ha4) : room cx 25 ((sa.2).length + 1)) (allC ha3 (allC (el_ok un_Ai2Z_ok ha2).1 (allC (el_ok un_Ai2Z_ok ha2).2 (allC (decide_eq_true ha1) allN)))))) (by kernel_rfl)⟩
  · replace h := ite_f h ha1
    replace h := Option.some.inj h
    subst h
    exact ⟨⟨100, 275, [.br false], [], [9, 26], [274], round_fr (allC (decide_eq_false ha1) allN) (by kernel_rfl)⟩, nofun⟩
def F_law04_FieldParted_L5 (n : Nat) (t10 : List D × Int) (t12 : List D × Int) (t21 : Int × Int × Int) (sa : (Int)) : Option (((Int)) ⊕ ((Unit))) :=
  if sa < ((t12.1).length : Int) then
    (el un_Ai2Z t12.1 sa).bind fun ta2 =>
    (el un_Ai2Z t10.1 t21.2.1).bind fun ta3 =>
    if inI64 (t21.2.1 + 1) then
    if ((t10.1).length : Int) ≠ 0 then
    (el un_Ai2Z t10.1 (Int.tmod (t21.2.1 + 1) ((t10.1).length : Int))).bind fun ta6 =>
    (F_ref04_Side n ta3.1 ta3.2 ta6.1 ta6.2 ta2.1 ta2.2).bind fun ta7 =>
    if ta7 > 0 then
      none /- false -/
    else
    (F_law04_points n t10.1).bind fun ta9 =>
    (F_field_Holds n ta9 ta2.1 ta2.2).bind fun ta10 =>
    if ta10.2 = 0 then
      if ta10.1 > 0 then
        none /- false -/
      else
      if inI64 (sa + 1) then
      some (.inl (sa + 1))
      else none
    else
    none /- false -/
    else none
    else none
  else
  some (.inr ())
noncomputable def T_law04_FieldParted_L5 (t10 : List D × Int) (t12 : List D × Int) (t21 : Int × Int × Int) (sa : (Int)) : List (Nat × AV) := [(9, .d (.lst false 2 t10.1)), (13, .ptr 138 0 0 0 0), (18, .d (.lst false 2 t10.1)), (182, .d (.lst false 2 t12.1)), (183, .d (I ((t12.1).length : Int))), (184, .d (I sa))]
noncomputable def H_law04_FieldParted_L5 (t10 : List D × Int) (t12 : List D × Int) (t21 : Int × Int × Int) (sa : (Int)) : List (Nat × Blk) := [(138, .box (.d (.agg [I t21.1, I t21.2.1])))]
noncomputable def X_law04_FieldParted_L5 (t10 : List D × Int) (t12 : List D × Int) (t21 : Int × Int × Int) (e : (Unit)) : Ex := (.exit 4)
noncomputable def XT_law04_FieldParted_L5 (t10 : List D × Int) (t12 : List D × Int) (t21 : Int × Int × Int) (e : (Unit)) : List (Nat × AV) := [(9, .d (.lst false 2 t10.1))]
noncomputable def XH_law04_FieldParted_L5 (t10 : List D × Int) (t12 : List D × Int) (t21 : Int × Int × Int) (e : (Unit)) : List (Nat × Blk) := []
theorem R_law04_FieldParted_L5 {n : Nat} {t10 : List D × Int} {t12 : List D × Int} {t21 : Int × Int × Int} (sa : (Int)) (r) (h : F_law04_FieldParted_L5 n t10 t12 t21 sa = some r) : Rd cx (loopAt cx.P 4 2) 254 0 false (T_law04_FieldParted_L5 t10 t12 t21) (H_law04_FieldParted_L5 t10 t12 t21) (X_law04_FieldParted_L5 t10 t12 t21) (XT_law04_FieldParted_L5 t10 t12 t21) (XH_law04_FieldParted_L5 t10 t12 t21) sa r := by
  unfold F_law04_FieldParted_L5 at h
  by_cases ha1 : sa < ((t12.1).length : Int)
  · replace h := ite_t h ha1
    obtain ⟨ta2, ha2, h⟩ := bnd_of h
    obtain ⟨ta3, ha3, h⟩ := bnd_of h
    obtain ⟨ha4, h⟩ := grd_of h
    obtain ⟨ha5, h⟩ := grd_of h
    obtain ⟨ta6, ha6, h⟩ := bnd_of h
    obtain ⟨ta7, ha7, h⟩ := bnd_of h
    by_cases ha8 : ta7 > 0
    · replace h := ite_t h ha8
      cases h
    · replace h := ite_f h ha8
      obtain ⟨ta9, ha9, h⟩ := bnd_of h
      obtain ⟨ta10, ha10, h⟩ := bnd_of h
      by_cases ha11 : ta10.2 = 0
      · replace h := ite_t h ha11
        by_cases ha12 : ta10.1 > 0
        · replace h := ite_t h ha12
          cases h
        · replace h := ite_f h ha12
          obtain ⟨ha13, h⟩ := grd_of h
          replace h := Option.some.inj h
          subst h
          exact ⟨100, 207, [.br true, .el (enc_Ai2Z ta2), .el (enc_Ai2Z ta3), .el (enc_Ai2Z ta6), .ret (I ta7), .br false, .ret (.lst false 2 ta9), .ret (.tup [I ta10.1, I ta10.2]), .br false, .br false], [], [9, 13, 18, 182, 183, 184], [138], round_fr (allC ha13 (allC (decide_eq_false ha12) (allC (nef ha11) (allC (c_field_Holds ha10) (allC (c_law04_points ha9) (allC (decide_eq_false ha8) (allC (c_ref04_Side ha7) (allC (el_ok un_Ai2Z_ok ha6).1 (allC (el_ok un_Ai2Z_ok ha6).2 (allC ha5 (allC ha4 (allC (el_ok un_Ai2Z_ok ha3).1 (allC (el_ok un_Ai2Z_ok ha3).2 (allC (el_ok un_Ai2Z_ok ha2).1 (allC (el_ok un_Ai2Z_ok ha2).2 (allC (decide_eq_true ha1) allN)))))))))))))))) (by kernel_rfl)⟩
      · replace h := ite_f h ha11
        cases h
  · replace h := ite_f h ha1
    replace h := Option.some.inj h
    subst h
    exact ⟨⟨100, 207, [.br false], [], [9], [], round_fr (allC (decide_eq_false ha1) allN) (by kernel_rfl)⟩, nofun⟩
def F_law04_FieldParted_L6 (n : Nat) (t10 : List D × Int) (t12 : List D × Int) (t21 : Int × Int × Int) (sa : (Int)) : Option (((Int)) ⊕ ((Unit))) :=
  if sa < ((t10.1).length : Int) then
    (el un_Ai2Z t10.1 sa).bind fun ta2 =>
    (el un_Ai2Z t12.1 t21.2.1).bind fun ta3 =>
    if inI64 (t21.2.1 + 1) then
    if ((t12.1).length : Int) ≠ 0 then
    (el un_Ai2Z t12.1 (Int.tmod (t21.2.1 + 1) ((t12.1).length : Int))).bind fun ta6 =>
    (F_ref04_Side n ta3.1 ta3.2 ta6.1 ta6.2 ta2.1 ta2.2).bind fun ta7 =>
    if ta7 > 0 then
      none /- false -/
    else
    (F_law04_points n t12.1).bind fun ta9 =>
    (F_field_Holds n ta9 ta2.1 ta2.2).bind fun ta10 =>
    if ta10.2 = 0 then
      if ta10.1 > 0 then
        none /- false -/
      else
      if inI64 (sa + 1) then
      some (.inl (sa + 1))
      else none
    else
    none /- false -/
    else none
    else none
  else
  some (.inr ())
noncomputable def T_law04_FieldParted_L6 (t10 : List D × Int) (t12 : List D × Int) (t21 : Int × Int × Int) (sa : (Int)) : List (Nat × AV) := [(9, .d (.lst false 2 t10.1)), (13, .ptr 138 0 0 0 0), (18, .d (.lst false 2 t12.1)), (182, .d (.lst false 2 t10.1)), (183, .d (I ((t10.1).length : Int))), (184, .d (I sa))]
noncomputable def H_law04_FieldParted_L6 (t10 : List D × Int) (t12 : List D × Int) (t21 : Int × Int × Int) (sa : (Int)) : List (Nat × Blk) := [(138, .box (.d (.agg [I t21.1, I t21.2.1])))]
noncomputable def X_law04_FieldParted_L6 (t10 : List D × Int) (t12 : List D × Int) (t21 : Int × Int × Int) (e : (Unit)) : Ex := (.exit 4)
noncomputable def XT_law04_FieldParted_L6 (t10 : List D × Int) (t12 : List D × Int) (t21 : Int × Int × Int) (e : (Unit)) : List (Nat × AV) := [(9, .d (.lst false 2 t10.1))]
noncomputable def XH_law04_FieldParted_L6 (t10 : List D × Int) (t12 : List D × Int) (t21 : Int × Int × Int) (e : (Unit)) : List (Nat × Blk) := []
theorem R_law04_FieldParted_L6 {n : Nat} {t10 : List D × Int} {t12 : List D × Int} {t21 : Int × Int × Int} (sa : (Int)) (r) (h : F_law04_FieldParted_L6 n t10 t12 t21 sa = some r) : Rd cx (loopAt cx.P 4 2) 254 0 false (T_law04_FieldParted_L6 t10 t12 t21) (H_law04_FieldParted_L6 t10 t12 t21) (X_law04_FieldParted_L6 t10 t12 t21) (XT_law04_FieldParted_L6 t10 t12 t21) (XH_law04_FieldParted_L6 t10 t12 t21) sa r := by
  unfold F_law04_FieldParted_L6 at h
  by_cases ha1 : sa < ((t10.1).length : Int)
  · replace h := ite_t h ha1
    obtain ⟨ta2, ha2, h⟩ := bnd_of h
    obtain ⟨ta3, ha3, h⟩ := bnd_of h
    obtain ⟨ha4, h⟩ := grd_of h
    obtain ⟨ha5, h⟩ := grd_of h
    obtain ⟨ta6, ha6, h⟩ := bnd_of h
    obtain ⟨ta7, ha7, h⟩ := bnd_of h
    by_cases ha8 : ta7 > 0
    · replace h := ite_t h ha8
      cases h
    · replace h := ite_f h ha8
      obtain ⟨ta9, ha9, h⟩ := bnd_of h
      obtain ⟨ta10, ha10, h⟩ := bnd_of h
      by_cases ha11 : ta10.2 = 0
      · replace h := ite_t h ha11
        by_cases ha12 : ta10.1 > 0
        · replace h := ite_t h ha12
          cases h
        · replace h := ite_f h ha12
          obtain ⟨ha13, h⟩ := grd_of h
          replace h := Option.some.inj h
          subst h
          exact ⟨100, 207, [.br true, .el (enc_Ai2Z ta2), .el (enc_Ai2Z ta3), .el (enc_Ai2Z ta6), .ret (I ta7), .br false, .ret (.lst false 2 ta9), .ret (.tup [I ta10.1, I ta10.2]), .br false, .br false], [], [9, 13, 18, 182, 183, 184], [138], round_fr (allC ha13 (allC (decide_eq_false ha12) (allC (nef ha11) (allC (c_field_Holds ha10) (allC (c_law04_points ha9) (allC (decide_eq_false ha8) (allC (c_ref04_Side ha7) (allC (el_ok un_Ai2Z_ok ha6).1 (allC (el_ok un_Ai2Z_ok ha6).2 (allC ha5 (allC ha4 (allC (el_ok un_Ai2Z_ok ha3).1 (allC (el_ok un_Ai2Z_ok ha3).2 (allC (el_ok un_Ai2Z_ok ha2).1 (allC (el_ok un_Ai2Z_ok ha2).2 (allC (decide_eq_true ha1) allN)))))))))))))))) (by kernel_rfl)⟩
      · replace h := ite_f h ha11
        cases h
  · replace h := ite_f h ha1
    replace h := Option.some.inj h
    subst h
    exact ⟨⟨100, 207, [.br false], [], [9], [], round_fr (allC (decide_eq_false ha1) allN) (by kernel_rfl)⟩, nofun⟩
def F_law04_FieldParted_L7 (n : Nat) (t10 : List D × Int) (t12 : List D × Int) (t21 : Int × Int × Int) (sa : (Int)) : Option (((Int)) ⊕ ((Unit))) :=
  if sa < ((t12.1).length : Int) then
    (el un_Ai2Z t12.1 sa).bind fun ta2 =>
    (el un_Ai2Z t12.1 t21.2.1).bind fun ta3 =>
    if inI64 (t21.2.1 + 1) then
    if ((t12.1).length : Int) ≠ 0 then
    (el un_Ai2Z t12.1 (Int.tmod (t21.2.1 + 1) ((t12.1).length : Int))).bind fun ta6 =>
    (F_ref04_Side n ta3.1 ta3.2 ta6.1 ta6.2 ta2.1 ta2.2).bind fun ta7 =>
    if ta7 > 0 then
      none /- false -/
    else
    (F_law04_points n t12.1).bind fun ta9 =>
    (F_field_Holds n ta9 ta2.1 ta2.2).bind fun ta10 =>
    if ta10.2 = 0 then
      if ta10.1 > 0 then
        none /- false -/
      else
      if inI64 (sa + 1) then
      some (.inl (sa + 1))
      else none
    else
    none /- false -/
    else none
    else none
  else
  some (.inr ())
noncomputable def T_law04_FieldParted_L7 (t10 : List D × Int) (t12 : List D × Int) (t21 : Int × Int × Int) (sa : (Int)) : List (Nat × AV) := [(9, .d (.lst false 2 t10.1)), (13, .ptr 138 0 0 0 0), (18, .d (.lst false 2 t12.1)), (182, .d (.lst false 2 t12.1)), (183, .d (I ((t12.1).length : Int))), (184, .d (I sa))]
noncomputable def H_law04_FieldParted_L7 (t10 : List D × Int) (t12 : List D × Int) (t21 : Int × Int × Int) (sa : (Int)) : List (Nat × Blk) := [(138, .box (.d (.agg [I t21.1, I t21.2.1])))]
noncomputable def X_law04_FieldParted_L7 (t10 : List D × Int) (t12 : List D × Int) (t21 : Int × Int × Int) (e : (Unit)) : Ex := (.exit 4)
noncomputable def XT_law04_FieldParted_L7 (t10 : List D × Int) (t12 : List D × Int) (t21 : Int × Int × Int) (e : (Unit)) : List (Nat × AV) := [(9, .d (.lst false 2 t10.1))]
noncomputable def XH_law04_FieldParted_L7 (t10 : List D × Int) (t12 : List D × Int) (t21 : Int × Int × Int) (e : (Unit)) : List (Nat × Blk) := []
theorem R_law04_FieldParted_L7 {n : Nat} {t10 : List D × Int} {t12 : List D × Int} {t21 : Int × Int × Int} (sa : (Int)) (r) (h : F_law04_FieldParted_L7 n t10 t12 t21 sa = some r) : Rd cx (loopAt cx.P 4 2) 254 0 false (T_law04_FieldParted_L7 t10 t12 t21) (H_law04_FieldParted_L7 t10 t12 t21) (X_law04_FieldParted_L7 t10 t12 t21) (XT_law04_FieldParted_L7 t10 t12 t21) (XH_law04_FieldParted_L7 t10 t12 t21) sa r := by
  unfold F_law04_FieldParted_L7 at h
  by_cases ha1 : sa < ((t12.1).length : Int)
  · replace h := ite_t h ha1
    obtain ⟨ta2, ha2, h⟩ := bnd_of h
    obtain ⟨ta3, ha3, h⟩ := bnd_of h
    obtain ⟨ha4, h⟩ := grd_of h
    obtain ⟨ha5, h⟩ := grd_of h
    obtain ⟨ta6, ha6, h⟩ := bnd_of h
    obtain ⟨ta7, ha7, h⟩ := bnd_of h
    by_cases ha8 : ta7 > 0
    · replace h := ite_t h ha8
      cases h
    · replace h := ite_f h ha8
      obtain ⟨ta9, ha9, h⟩ := bnd_of h
      obtain ⟨ta10, ha10, h⟩ := bnd_of h
      by_cases ha11 : ta10.2 = 0
      · replace h := ite_t h ha11
        by_cases ha12 : ta10.1 > 0
        · replace h := ite_t h ha12
          cases h
        · replace h := ite_f h ha12
          obtain ⟨ha13, h⟩ := grd_of h
          replace h := Option.some.inj h
          subst h
          exact ⟨100, 207, [.br true, .el (enc_Ai2Z ta2), .el (enc_Ai2Z ta3), .el (enc_Ai2Z ta6), .ret (I ta7), .br false, .ret (.lst false 2 ta9), .ret (.tup [I ta10.1, I ta10.2]), .br false, .br false], [], [9, 13, 18, 182, 183, 184], [138], round_fr (allC ha13 (allC (decide_eq_false ha12) (allC (nef ha11) (allC (c_field_Holds ha10) (allC (c_law04_points ha9) (allC (decide_eq_false ha8) (allC (c_ref04_Side ha7) (allC (el_ok un_Ai2Z_ok ha6).1 (allC (el_ok un_Ai2Z_ok ha6).2 (allC ha5 (allC ha4 (allC (el_ok un_Ai2Z_ok ha3).1 (allC (el_ok un_Ai2Z_ok ha3).2 (allC (el_ok un_Ai2Z_ok ha2).1 (allC (el_ok un_Ai2Z_ok ha2).2 (allC (decide_eq_true ha1) allN)))))))))))))))) (by kernel_rfl)⟩
      · replace h := ite_f h ha11
        cases h
  · replace h := ite_f h ha1
    replace h := Option.some.inj h
    subst h
    exact ⟨⟨100, 207, [.br false], [], [9], [], round_fr (allC (decide_eq_false ha1) allN) (by kernel_rfl)⟩, nofun⟩
def F_law04_FieldParted_L8 (n : Nat) (t10 : List D × Int) (sa : (Int × List D)) : Option (((Int × List D)) ⊕ ((List D))) :=
  if sa.1 < ((t10.1).length : Int) then
    (el un_Ai2Z t10.1 sa.1).bind fun ta2 =>
    if inI64 (ta2.1 + 201) then
    if roomP 16 ((sa.2).length + 1) then
    if inI64 (sa.1 + 1) then
    some (.inl ((sa.1 + 1), (sa.2 ++ ([.agg [I (ta2.1 + 201), I ta2.2]] : List D))))
    else none
    else none
    else none
  else
  some (.inr sa.2)
noncomputable def T_law04_FieldParted_L8 (t10 : List D × Int) (sa : (Int × List D)) : List (Nat × AV) := [(9, .d (.lst false 2 t10.1)), (26, .own 182 0), (229, .d (.lst false 2 t10.1)), (230, .d (I ((t10.1).length : Int))), (231, .d (I sa.1))]
noncomputable def H_law04_FieldParted_L8 (t10 : List D × Int) (sa : (Int × List D)) : List (Nat × Blk) := [(182, .row 0 2 sa.2)]
noncomputable def X_law04_FieldParted_L8 (t10 : List D × Int) (e : (List D)) : Ex := (.exit 6)
noncomputable def XT_law04_FieldParted_L8 (t10 : List D × Int) (e : (List D)) : List (Nat × AV) := [(9, .d (.lst false 2 t10.1)), (26, .own 182 0)]
noncomputable def XH_law04_FieldParted_L8 (t10 : List D × Int) (e : (List D)) : List (Nat × Blk) := [(182, .row 0 2 e)]
theorem R_law04_FieldParted_L8 {n : Nat} {t10 : List D × Int} (sa : (Int × List D)) (r) (h : F_law04_FieldParted_L8 n t10 sa = some r) : Rd cx (loopAt cx.P 4 3) 254 0 false (T_law04_FieldParted_L8 t10) (H_law04_FieldParted_L8 t10) (X_law04_FieldParted_L8 t10) (XT_law04_FieldParted_L8 t10) (XH_law04_FieldParted_L8 t10) sa r := by
  unfold F_law04_FieldParted_L8 at h
  by_cases ha1 : sa.1 < ((t10.1).length : Int)
  · replace h := ite_t h ha1
    obtain ⟨ta2, ha2, h⟩ := bnd_of h
    obtain ⟨ha3, h⟩ := grd_of h
    obtain ⟨ha4, h⟩ := grd_of h
    obtain ⟨ha5, h⟩ := grd_of h
    replace h := Option.some.inj h
    subst h
    exact ⟨100, 183, [.br true, .el (enc_Ai2Z ta2), .br true], [], [9, 26, 229, 230, 231], [182], round_fr (allC ha5 (allC ((room_of (b := 16) (by kernel_rfl) (by decide) ha4) : room cx 25 ((sa.2).length + 1)) (allC ha3 (allC (el_ok un_Ai2Z_ok ha2).1 (allC (el_ok un_Ai2Z_ok ha2).2 (allC (decide_eq_true ha1) allN)))))) (by kernel_rfl)⟩
  · replace h := ite_f h ha1
    replace h := Option.some.inj h
    subst h
    exact ⟨⟨100, 183, [.br false], [], [9, 26], [182], round_fr (allC (decide_eq_false ha1) allN) (by kernel_rfl)⟩, nofun⟩
theorem e_law04_FieldParted_0 (a0 : List D) (a1 : List D) (t1 : Bool) : runFn true 100 cx 4 [.lst false 2 a0, .lst false 2 a1] [.ret (B t1), .br false, .br true, .no, .no, .no, .ret (B t1)] = some (B t1, [Computes cx 5 [] (B t1), (decide (((a0).length : Int) < 3)) = true, (!t1) = false, Computes cx 5 [] (B t1)]) := by kernel_rfl
theorem e_law04_FieldParted_1 (a0 : List D) (a1 : List D) (t1 : Bool) : runFn true 100 cx 4 [.lst false 2 a0, .lst false 2 a1] [.ret (B t1), .br false, .br false, .br true, .no, .no, .ret (B t1)] = some (B t1, [Computes cx 5 [] (B t1), (decide (((a0).length : Int) > 8)) = true, (decide (((a0).length : Int) < 3)) = false, (!t1) = false, Computes cx 5 [] (B t1)]) := by kernel_rfl
theorem e_law04_FieldParted_2 (a0 : List D) (a1 : List D) (t1 : Bool) : runFn true 100 cx 4 [.lst false 2 a0, .lst false 2 a1] [.ret (B t1), .br false, .br false, .br false, .br true, .no, .ret (B t1)] = some (B t1, [Computes cx 5 [] (B t1), (decide (((a1).length : Int) < 3)) = true, (decide (((a0).length : Int) > 8)) = false, (decide (((a0).length : Int) < 3)) = false, (!t1) = false, Computes cx 5 [] (B t1)]) := by kernel_rfl
theorem e_law04_FieldParted_3 (a0 : List D) (a1 : List D) (t1 : Bool) : runFn true 100 cx 4 [.lst false 2 a0, .lst false 2 a1] [.ret (B t1), .br false, .br false, .br false, .br false, .br true, .ret (B t1)] = some (B t1, [Computes cx 5 [] (B t1), (decide (((a1).length : Int) > 8)) = true, (decide (((a1).length : Int) < 3)) = false, (decide (((a0).length : Int) > 8)) = false, (decide (((a0).length : Int) < 3)) = false, (!t1) = false, Computes cx 5 [] (B t1)]) := by kernel_rfl
theorem e_law04_FieldParted_4 (a0 : List D) (a1 : List D) (t1 : Bool) : runFn true 100 cx 4 [.lst false 2 a0, .lst false 2 a1] [.ret (B t1), .br false, .br false, .br false, .br false, .br false, .no, .no, .lp [] [0, 1, 56, 57, 60, 61, 62] [] .ret [(4, .d (B true))] [] 61] = some (B true, [LoopN cx (loopAt cx.P 4 1) 254 0 false [(0, .d (.lst false 2 a0)), (1, .d (.lst false 2 a1)), (56, .d (.agg [.lst false 2 a0, .lst false 2 a1])), (57, .d (I 0)), (60, .d (.lst false 2 a0)), (61, .d (I ((a0).length : Int))), (62, .d (I 0))] [] .ret [(4, .d (B true))] [], (decide (((a1).length : Int) > 8)) = false, (decide (((a1).length : Int) < 3)) = false, (decide (((a0).length : Int) > 8)) = false, (decide (((a0).length : Int) < 3)) = false, (!t1) = false, Computes cx 5 [] (B t1)]) := by kernel_rfl
theorem e_law04_FieldParted_5 (a0 : List D) (a1 : List D) (t1 : Bool) : runFn true 100 cx 4 [.lst false 2 a0, .lst false 2 a1] [.ret (B t1), .br false, .br false, .br false, .br false, .br false, .no, .no, .lp [] [0, 1, 56, 57, 60, 61, 62] [] (.exit 2) [(0, .d (.lst false 2 a0)), (1, .d (.lst false 2 a1)), (56, .d (.agg [.lst false 2 a0, .lst false 2 a1])), (57, .d (I 0))] [] 61, .no, .no, .lp [] [0, 1, 56, 57, 60, 61, 62] [] .ret [(4, .d (B true))] [] 97] = some (B true, [LoopN cx (loopAt cx.P 4 1) 254 0 false [(0, .d (.lst false 2 a0)), (1, .d (.lst false 2 a1)), (56, .d (.agg [.lst false 2 a0, .lst false 2 a1])), (57, .d (I 1)), (60, .d (.lst false 2 a1)), (61, .d (I ((a1).length : Int))), (62, .d (I 0))] [] .ret [(4, .d (B true))] [], inI64 1, LoopN cx (loopAt cx.P 4 1) 254 0 false [(0, .d (.lst false 2 a0)), (1, .d (.lst false 2 a1)), (56, .d (.agg [.lst false 2 a0, .lst false 2 a1])), (57, .d (I 0)), (60, .d (.lst false 2 a0)), (61, .d (I ((a0).length : Int))), (62, .d (I 0))] [] (.exit 2) [(0, .d (.lst false 2 a0)), (1, .d (.lst false 2 a1)), (56, .d (.agg [.lst false 2 a0, .lst false 2 a1])), (57, .d (I 0))] [], (decide (((a1).length : Int) > 8)) = false, (decide (((a1).length : Int) < 3)) = false, (decide (((a0).length : Int) > 8)) = false, (decide (((a0).length : Int) < 3)) = false, (!t1) = false, Computes cx 5 [] (B t1)]) := by kernel_rfl
theorem e_law04_FieldParted_10 (a0 : List D) (a1 : List D) (t1 : Bool) (t9 : List D) (t10 : List D × Int) (t11 : List D) (t12 : List D × Int) (t15 : Int) (t17 : Int) (t19 : List D) (t20 : List D) (t21 : Int × Int × Int) (t22 : Int × Int × Int) (t33 : Int × Int × Int) (t35 : List D) (t36 : Int × Int × Int) : runFn true 100 cx 4 [.lst false 2 a0, .lst false 2 a1] [.ret (B t1), .br false, .br false, .br false, .br false, .br false, .no, .no, .lp [] [0, 1, 56, 57, 60, 61, 62] [] (.exit 2) [(0, .d (.lst false 2 a0)), (1, .d (.lst false 2 a1)), (56, .d (.agg [.lst false 2 a0, .lst false 2 a1])), (57, .d (I 0))] [] 61, .no, .no, .lp [] [0, 1, 56, 57, 60, 61, 62] [] (.exit 2) [(0, .d (.lst false 2 a0)), (1, .d (.lst false 2 a1)), (56, .d (.agg [.lst false 2 a0, .lst false 2 a1])), (57, .d (I 1))] [] 97, .no, .no, .ret (.lst false 2 t9), .ret (.tup [.lst false 2 t10.1, I t10.2]), .ret (.lst false 2 t11), .ret (.tup [.lst false 2 t12.1, I t12.2]), .br false, .br false, .ret (I t15), .br false, .ret (I t17), .br false, .ret (.lst false 2 t19), .ret (.lst false 2 t20), .ret (.tup [.agg [I t21.1, I t21.2.1], I t21.2.2]), .ret (.lst false 2 t20), .ret (.lst false 2 t19), .ret (.tup [.agg [I t22.1, I t22.2.1], I t22.2.2]), .br false, .br false, .no, .br true, .br false, .br false, .br false, .ix 1, .ix 0, .ix 0, .br false, .ix 0, .ix 0, .ix 0, .ix 0, .lp [] [9, 13, 18, 182, 183, 184] [138] (.exit 4) [(9, .d (.lst false 2 t10.1))] [] 257, .ret (.lst false 2 t19), .ret (.lst false 2 t19), .ret (.tup [.agg [I t33.1, I t33.2.1], I t33.2.2]), .br false, .lp [26, 2] [9, 26, 229, 230, 231] [274] (.exit 6) [(9, .d (.lst false 2 t10.1)), (26, .own 274 0)] [(274, .row 0 2 t35)] 303, .ret (.lst false 2 t19), .ret (.tup [.agg [I t36.1, I t36.2.1], I t36.2.2])] = some (B (t36.2.2 == 0), [Computes cx 15 [.lst false 2 t19, .lst false 2 t35] (.tup [.agg [I t36.1, I t36.2.1], I t36.2.2]), Computes cx 8 [.lst false 2 t10.1] (.lst false 2 t19), LoopN cx (loopAt cx.P 4 3) 254 0 false [(9, .d (.lst false 2 t10.1)), (26, .own 274 0), (229, .d (.lst false 2 t10.1)), (230, .d (I ((t10.1).length : Int))), (231, .d (I 0))] [(274, .row 0 2 [])] (.exit 6) [(9, .d (.lst false 2 t10.1)), (26, .own 274 0)] [(274, .row 0 2 t35)], (t33.2.2 != 15) = false, Computes cx 15 [.lst false 2 t19, .lst false 2 t19] (.tup [.agg [I t33.1, I t33.2.1], I t33.2.2]), Computes cx 8 [.lst false 2 t10.1] (.lst false 2 t19), Computes cx 8 [.lst false 2 t10.1] (.lst false 2 t19), LoopN cx (loopAt cx.P 4 2) 254 0 false [(9, .d (.lst false 2 t10.1)), (13, .ptr 138 0 0 0 0), (18, .d (.lst false 2 t10.1)), (182, .d (.lst false 2 t10.1)), (183, .d (I ((t10.1).length : Int))), (184, .d (I 0))] [(138, .box (.d (.agg [I t21.1, I t21.2.1])))] (.exit 4) [(9, .d (.lst false 2 t10.1))] [], (1 - t21.1) = 0, inI64 (1 - t21.1), (0 : Int) = 0, t21.1 = 0, (0 : Int) = 0, (decide (t21.2.1 ≥ ((t10.1).length : Int))) = false, t21.1 = 0, (0 : Int) = 0, (1 : Int) = 1, (decide (t21.2.1 < 0)) = false, (decide (t21.1 > 1)) = false, (decide (t21.1 < 0)) = false, (t21.2.2 == 0) = true, (t21.2.2 != 0) = false, (t21.2.2 != t22.2.2) = false, Computes cx 15 [.lst false 2 t20, .lst false 2 t19] (.tup [.agg [I t22.1, I t22.2.1], I t22.2.2]), Computes cx 8 [.lst false 2 t10.1] (.lst false 2 t19), Computes cx 8 [.lst false 2 t12.1] (.lst false 2 t20), Computes cx 15 [.lst false 2 t19, .lst false 2 t20] (.tup [.agg [I t21.1, I t21.2.1], I t21.2.2]), Computes cx 8 [.lst false 2 t12.1] (.lst false 2 t20), Computes cx 8 [.lst false 2 t10.1] (.lst false 2 t19), (t17 != 0) = false, Computes cx 11 [.lst false 2 t12.1] (I t17), (t15 != 0) = false, Computes cx 11 [.lst false 2 t10.1] (I t15), (t12.2 != 0) = false, (t10.2 != 0) = false, Computes cx 7 [.lst false 2 t11] (.tup [.lst false 2 t12.1, I t12.2]), Computes cx 8 [.lst false 2 a1] (.lst false 2 t11), Computes cx 7 [.lst false 2 t9] (.tup [.lst false 2 t10.1, I t10.2]), Computes cx 8 [.lst false 2 a0] (.lst false 2 t9), inI64 2, LoopN cx (loopAt cx.P 4 1) 254 0 false [(0, .d (.lst false 2 a0)), (1, .d (.lst false 2 a1)), (56, .d (.agg [.lst false 2 a0, .lst false 2 a1])), (57, .d (I 1)), (60, .d (.lst false 2 a1)), (61, .d (I ((a1).length : Int))), (62, .d (I 0))] [] (.exit 2) [(0, .d (.lst false 2 a0)), (1, .d (.lst false 2 a1)), (56, .d (.agg [.lst false 2 a0, .lst false 2 a1])), (57, .d (I 1))] [], inI64 1, LoopN cx (loopAt cx.P 4 1) 254 0 false [(0, .d (.lst false 2 a0)), (1, .d (.lst false 2 a1)), (56, .d (.agg [.lst false 2 a0, .lst false 2 a1])), (57, .d (I 0)), (60, .d (.lst false 2 a0)), (61, .d (I ((a0).length : Int))), (62, .d (I 0))] [] (.exit 2) [(0, .d (.lst false 2 a0)), (1, .d (.lst false 2 a1)), (56, .d (.agg [.lst false 2 a0, .lst false 2 a1])), (57, .d (I 0))] [], (decide (((a1).length : Int) > 8)) = false, (decide (((a1).length : Int) < 3)) = false, (decide (((a0).length : Int) > 8)) = false, (decide (((a0).length : Int) < 3)) = false, (!t1) = false, Computes cx 5 [] (B t1)]) := by kernel_rfl
theorem e_law04_FieldParted_12 (a0 : List D) (a1 : List D) (t1 : Bool) (t9 : List D) (t10 : List D × Int) (t11 : List D) (t12 : List D × Int) (t15 : Int) (t17 : Int) (t19 : List D) (t20 : List D) (t21 : Int × Int × Int) (t22 : Int × Int × Int) (t34 : Int × Int × Int) (t36 : List D) (t37 : Int × Int × Int) : runFn true 100 cx 4 [.lst false 2 a0, .lst false 2 a1] [.ret (B t1), .br false, .br false, .br false, .br false, .br false, .no, .no, .lp [] [0, 1, 56, 57, 60, 61, 62] [] (.exit 2) [(0, .d (.lst false 2 a0)), (1, .d (.lst false 2 a1)), (56, .d (.agg [.lst false 2 a0, .lst false 2 a1])), (57, .d (I 0))] [] 61, .no, .no, .lp [] [0, 1, 56, 57, 60, 61, 62] [] (.exit 2) [(0, .d (.lst false 2 a0)), (1, .d (.lst false 2 a1)), (56, .d (.agg [.lst false 2 a0, .lst false 2 a1])), (57, .d (I 1))] [] 97, .no, .no, .ret (.lst false 2 t9), .ret (.tup [.lst false 2 t10.1, I t10.2]), .ret (.lst false 2 t11), .ret (.tup [.lst false 2 t12.1, I t12.2]), .br false, .br false, .ret (I t15), .br false, .ret (I t17), .br false, .ret (.lst false 2 t19), .ret (.lst false 2 t20), .ret (.tup [.agg [I t21.1, I t21.2.1], I t21.2.2]), .ret (.lst false 2 t20), .ret (.lst false 2 t19), .ret (.tup [.agg [I t22.1, I t22.2.1], I t22.2.2]), .br false, .br false, .no, .br true, .br false, .br false, .br false, .ix 1, .ix 0, .ix 0, .br false, .ix 0, .ix 0, .ix 0, .ix 1, .lp [] [9, 13, 18, 182, 183, 184] [138] (.exit 4) [(9, .d (.lst false 2 t10.1))] [] 257, .ret (.lst false 2 t19), .ret (.lst false 2 t19), .ret (.tup [.agg [I t34.1, I t34.2.1], I t34.2.2]), .br false, .lp [26, 2] [9, 26, 229, 230, 231] [274] (.exit 6) [(9, .d (.lst false 2 t10.1)), (26, .own 274 0)] [(274, .row 0 2 t36)] 303, .ret (.lst false 2 t19), .ret (.tup [.agg [I t37.1, I t37.2.1], I t37.2.2])] = some (B (t37.2.2 == 0), [Computes cx 15 [.lst false 2 t19, .lst false 2 t36] (.tup [.agg [I t37.1, I t37.2.1], I t37.2.2]), Computes cx 8 [.lst false 2 t10.1] (.lst false 2 t19), LoopN cx (loopAt cx.P 4 3) 254 0 false [(9, .d (.lst false 2 t10.1)), (26, .own 274 0), (229, .d (.lst false 2 t10.1)), (230, .d (I ((t10.1).length : Int))), (231, .d (I 0))] [(274, .row 0 2 [])] (.exit 6) [(9, .d (.lst false 2 t10.1)), (26, .own 274 0)] [(274, .row 0 2 t36)], (t34.2.2 != 15) = false, Computes cx 15 [.lst false 2 t19, .lst false 2 t19] (.tup [.agg [I t34.1, I t34.2.1], I t34.2.2]), Computes cx 8 [.lst false 2 t10.1] (.lst false 2 t19), Computes cx 8 [.lst false 2 t10.1] (.lst false 2 t19), LoopN cx (loopAt cx.P 4 2) 254 0 false [(9, .d (.lst false 2 t10.1)), (13, .ptr 138 0 0 0 0), (18, .d (.lst false 2 t10.1)), (182, .d (.lst false 2 t12.1)), (183, .d (I ((t12.1).length : Int))), (184, .d (I 0))] [(138, .box (.d (.agg [I t21.1, I t21.2.1])))] (.exit 4) [(9, .d (.lst false 2 t10.1))] [], (1 - t21.1) = 1, inI64 (1 - t21.1), (0 : Int) = 0, t21.1 = 0, (0 : Int) = 0, (decide (t21.2.1 ≥ ((t10.1).length : Int))) = false, t21.1 = 0, (0 : Int) = 0, (1 : Int) = 1, (decide (t21.2.1 < 0)) = false, (decide (t21.1 > 1)) = false, (decide (t21.1 < 0)) = false, (t21.2.2 == 0) = true, (t21.2.2 != 0) = false, (t21.2.2 != t22.2.2) = false, Computes cx 15 [.lst false 2 t20, .lst false 2 t19] (.tup [.agg [I t22.1, I t22.2.1], I t22.2.2]), Computes cx 8 [.lst false 2 t10.1] (.lst false 2 t19), Computes cx 8 [.lst false 2 t12.1] (.lst false 2 t20), Computes cx 15 [.lst false 2 t19, .lst false 2 t20] (.tup [.agg [I t21.1, I t21.2.1], I t21.2.2]), Computes cx 8 [.lst false 2 t12.1] (.lst false 2 t20), Computes cx 8 [.lst false 2 t10.1] (.lst false 2 t19), (t17 != 0) = false, Computes cx 11 [.lst false 2 t12.1] (I t17), (t15 != 0) = false, Computes cx 11 [.lst false 2 t10.1] (I t15), (t12.2 != 0) = false, (t10.2 != 0) = false, Computes cx 7 [.lst false 2 t11] (.tup [.lst false 2 t12.1, I t12.2]), Computes cx 8 [.lst false 2 a1] (.lst false 2 t11), Computes cx 7 [.lst false 2 t9] (.tup [.lst false 2 t10.1, I t10.2]), Computes cx 8 [.lst false 2 a0] (.lst false 2 t9), inI64 2, LoopN cx (loopAt cx.P 4 1) 254 0 false [(0, .d (.lst false 2 a0)), (1, .d (.lst false 2 a1)), (56, .d (.agg [.lst false 2 a0, .lst false 2 a1])), (57, .d (I 1)), (60, .d (.lst false 2 a1)), (61, .d (I ((a1).length : Int))), (62, .d (I 0))] [] (.exit 2) [(0, .d (.lst false 2 a0)), (1, .d (.lst false 2 a1)), (56, .d (.agg [.lst false 2 a0, .lst false 2 a1])), (57, .d (I 1))] [], inI64 1, LoopN cx (loopAt cx.P 4 1) 254 0 false [(0, .d (.lst false 2 a0)), (1, .d (.lst false 2 a1)), (56, .d (.agg [.lst false 2 a0, .lst false 2 a1])), (57, .d (I 0)), (60, .d (.lst false 2 a0)), (61, .d (I ((a0).length : Int))), (62, .d (I 0))] [] (.exit 2) [(0, .d (.lst false 2 a0)), (1, .d (.lst false 2 a1)), (56, .d (.agg [.lst false 2 a0, .lst false 2 a1])), (57, .d (I 0))] [], (decide (((a1).length : Int) > 8)) = false, (decide (((a1).length : Int) < 3)) = false, (decide (((a0).length : Int) > 8)) = false, (decide (((a0).length : Int) < 3)) = false, (!t1) = false, Computes cx 5 [] (B t1)]) := by kernel_rfl
theorem e_law04_FieldParted_15 (a0 : List D) (a1 : List D) (t1 : Bool) (t9 : List D) (t10 : List D × Int) (t11 : List D) (t12 : List D × Int) (t15 : Int) (t17 : Int) (t19 : List D) (t20 : List D) (t21 : Int × Int × Int) (t22 : Int × Int × Int) (t34 : Int × Int × Int) (t36 : List D) (t37 : Int × Int × Int) : runFn true 100 cx 4 [.lst false 2 a0, .lst false 2 a1] [.ret (B t1), .br false, .br false, .br false, .br false, .br false, .no, .no, .lp [] [0, 1, 56, 57, 60, 61, 62] [] (.exit 2) [(0, .d (.lst false 2 a0)), (1, .d (.lst false 2 a1)), (56, .d (.agg [.lst false 2 a0, .lst false 2 a1])), (57, .d (I 0))] [] 61, .no, .no, .lp [] [0, 1, 56, 57, 60, 61, 62] [] (.exit 2) [(0, .d (.lst false 2 a0)), (1, .d (.lst false 2 a1)), (56, .d (.agg [.lst false 2 a0, .lst false 2 a1])), (57, .d (I 1))] [] 97, .no, .no, .ret (.lst false 2 t9), .ret (.tup [.lst false 2 t10.1, I t10.2]), .ret (.lst false 2 t11), .ret (.tup [.lst false 2 t12.1, I t12.2]), .br false, .br false, .ret (I t15), .br false, .ret (I t17), .br false, .ret (.lst false 2 t19), .ret (.lst false 2 t20), .ret (.tup [.agg [I t21.1, I t21.2.1], I t21.2.2]), .ret (.lst false 2 t20), .ret (.lst false 2 t19), .ret (.tup [.agg [I t22.1, I t22.2.1], I t22.2.2]), .br false, .br false, .no, .br true, .br false, .br false, .br false, .ix 1, .ix 0, .ix 1, .br false, .ix 0, .ix 1, .ix 0, .ix 0, .lp [] [9, 13, 18, 182, 183, 184] [138] (.exit 4) [(9, .d (.lst false 2 t10.1))] [] 257, .ret (.lst false 2 t19), .ret (.lst false 2 t19), .ret (.tup [.agg [I t34.1, I t34.2.1], I t34.2.2]), .br false, .lp [26, 2] [9, 26, 229, 230, 231] [274] (.exit 6) [(9, .d (.lst false 2 t10.1)), (26, .own 274 0)] [(274, .row 0 2 t36)] 303, .ret (.lst false 2 t19), .ret (.tup [.agg [I t37.1, I t37.2.1], I t37.2.2])] = some (B (t37.2.2 == 0), [Computes cx 15 [.lst false 2 t19, .lst false 2 t36] (.tup [.agg [I t37.1, I t37.2.1], I t37.2.2]), Computes cx 8 [.lst false 2 t10.1] (.lst false 2 t19), LoopN cx (loopAt cx.P 4 3) 254 0 false [(9, .d (.lst false 2 t10.1)), (26, .own 274 0), (229, .d (.lst false 2 t10.1)), (230, .d (I ((t10.1).length : Int))), (231, .d (I 0))] [(274, .row 0 2 [])] (.exit 6) [(9, .d (.lst false 2 t10.1)), (26, .own 274 0)] [(274, .row 0 2 t36)], (t34.2.2 != 15) = false, Computes cx 15 [.lst false 2 t19, .lst false 2 t19] (.tup [.agg [I t34.1, I t34.2.1], I t34.2.2]), Computes cx 8 [.lst false 2 t10.1] (.lst false 2 t19), Computes cx 8 [.lst false 2 t10.1] (.lst false 2 t19), LoopN cx (loopAt cx.P 4 2) 254 0 false [(9, .d (.lst false 2 t10.1)), (13, .ptr 138 0 0 0 0), (18, .d (.lst false 2 t12.1)), (182, .d (.lst false 2 t10.1)), (183, .d (I ((t10.1).length : Int))), (184, .d (I 0))] [(138, .box (.d (.agg [I t21.1, I t21.2.1])))] (.exit 4) [(9, .d (.lst false 2 t10.1))] [], (1 - t21.1) = 0, inI64 (1 - t21.1), (0 : Int) = 0, t21.1 = 1, (0 : Int) = 0, (decide (t21.2.1 ≥ ((t12.1).length : Int))) = false, t21.1 = 1, (0 : Int) = 0, (1 : Int) = 1, (decide (t21.2.1 < 0)) = false, (decide (t21.1 > 1)) = false, (decide (t21.1 < 0)) = false, (t21.2.2 == 0) = true, (t21.2.2 != 0) = false, (t21.2.2 != t22.2.2) = false, Computes cx 15 [.lst false 2 t20, .lst false 2 t19] (.tup [.agg [I t22.1, I t22.2.1], I t22.2.2]), Computes cx 8 [.lst false 2 t10.1] (.lst false 2 t19), Computes cx 8 [.lst false 2 t12.1] (.lst false 2 t20), Computes cx 15 [.lst false 2 t19, .lst false 2 t20] (.tup [.agg [I t21.1, I t21.2.1], I t21.2.2]), Computes cx 8 [.lst false 2 t12.1] (.lst false 2 t20), Computes cx 8 [.lst false 2 t10.1] (.lst false 2 t19), (t17 != 0) = false, Computes cx 11 [.lst false 2 t12.1] (I t17), (t15 != 0) = false, Computes cx 11 [.lst false 2 t10.1] (I t15), (t12.2 != 0) = false, (t10.2 != 0) = false, Computes cx 7 [.lst false 2 t11] (.tup [.lst false 2 t12.1, I t12.2]), Computes cx 8 [.lst false 2 a1] (.lst false 2 t11), Computes cx 7 [.lst false 2 t9] (.tup [.lst false 2 t10.1, I t10.2]), Computes cx 8 [.lst false 2 a0] (.lst false 2 t9), inI64 2, LoopN cx (loopAt cx.P 4 1) 254 0 false [(0, .d (.lst false 2 a0)), (1, .d (.lst false 2 a1)), (56, .d (.agg [.lst false 2 a0, .lst false 2 a1])), (57, .d (I 1)), (60, .d (.lst false 2 a1)), (61, .d (I ((a1).length : Int))), (62, .d (I 0))] [] (.exit 2) [(0, .d (.lst false 2 a0)), (1, .d (.lst false 2 a1)), (56, .d (.agg [.lst false 2 a0, .lst false 2 a1])), (57, .d (I 1))] [], inI64 1, LoopN cx (loopAt cx.P 4 1) 254 0 false [(0, .d (.lst false 2 a0)), (1, .d (.lst false 2 a1)), (56, .d (.agg [.lst false 2 a0, .lst false 2 a1])), (57, .d (I 0)), (60, .d (.lst false 2 a0)), (61, .d (I ((a0).length : Int))), (62, .d (I 0))] [] (.exit 2) [(0, .d (.lst false 2 a0)), (1, .d (.lst false 2 a1)), (56, .d (.agg [.lst false 2 a0, .lst false 2 a1])), (57, .d (I 0))] [], (decide (((a1).length : Int) > 8)) = false, (decide (((a1).length : Int) < 3)) = false, (decide (((a0).length : Int) > 8)) = false, (decide (((a0).length : Int) < 3)) = false, (!t1) = false, Computes cx 5 [] (B t1)]) := by kernel_rfl
theorem e_law04_FieldParted_17 (a0 : List D) (a1 : List D) (t1 : Bool) (t9 : List D) (t10 : List D × Int) (t11 : List D) (t12 : List D × Int) (t15 : Int) (t17 : Int) (t19 : List D) (t20 : List D) (t21 : Int × Int × Int) (t22 : Int × Int × Int) (t35 : Int × Int × Int) (t37 : List D) (t38 : Int × Int × Int) : runFn true 100 cx 4 [.lst false 2 a0, .lst false 2 a1] [.ret (B t1), .br false, .br false, .br false, .br false, .br false, .no, .no, .lp [] [0, 1, 56, 57, 60, 61, 62] [] (.exit 2) [(0, .d (.lst false 2 a0)), (1, .d (.lst false 2 a1)), (56, .d (.agg [.lst false 2 a0, .lst false 2 a1])), (57, .d (I 0))] [] 61, .no, .no, .lp [] [0, 1, 56, 57, 60, 61, 62] [] (.exit 2) [(0, .d (.lst false 2 a0)), (1, .d (.lst false 2 a1)), (56, .d (.agg [.lst false 2 a0, .lst false 2 a1])), (57, .d (I 1))] [] 97, .no, .no, .ret (.lst false 2 t9), .ret (.tup [.lst false 2 t10.1, I t10.2]), .ret (.lst false 2 t11), .ret (.tup [.lst false 2 t12.1, I t12.2]), .br false, .br false, .ret (I t15), .br false, .ret (I t17), .br false, .ret (.lst false 2 t19), .ret (.lst false 2 t20), .ret (.tup [.agg [I t21.1, I t21.2.1], I t21.2.2]), .ret (.lst false 2 t20), .ret (.lst false 2 t19), .ret (.tup [.agg [I t22.1, I t22.2.1], I t22.2.2]), .br false, .br false, .no, .br true, .br false, .br false, .br false, .ix 1, .ix 0, .ix 1, .br false, .ix 0, .ix 1, .ix 0, .ix 1, .lp [] [9, 13, 18, 182, 183, 184] [138] (.exit 4) [(9, .d (.lst false 2 t10.1))] [] 257, .ret (.lst false 2 t19), .ret (.lst false 2 t19), .ret (.tup [.agg [I t35.1, I t35.2.1], I t35.2.2]), .br false, .lp [26, 2] [9, 26, 229, 230, 231] [274] (.exit 6) [(9, .d (.lst false 2 t10.1)), (26, .own 274 0)] [(274, .row 0 2 t37)] 303, .ret (.lst false 2 t19), .ret (.tup [.agg [I t38.1, I t38.2.1], I t38.2.2])] = some (B (t38.2.2 == 0), [Computes cx 15 [.lst false 2 t19, .lst false 2 t37] (.tup [.agg [I t38.1, I t38.2.1], I t38.2.2]), Computes cx 8 [.lst false 2 t10.1] (.lst false 2 t19), LoopN cx (loopAt cx.P 4 3) 254 0 false [(9, .d (.lst false 2 t10.1)), (26, .own 274 0), (229, .d (.lst false 2 t10.1)), (230, .d (I ((t10.1).length : Int))), (231, .d (I 0))] [(274, .row 0 2 [])] (.exit 6) [(9, .d (.lst false 2 t10.1)), (26, .own 274 0)] [(274, .row 0 2 t37)], (t35.2.2 != 15) = false, Computes cx 15 [.lst false 2 t19, .lst false 2 t19] (.tup [.agg [I t35.1, I t35.2.1], I t35.2.2]), Computes cx 8 [.lst false 2 t10.1] (.lst false 2 t19), Computes cx 8 [.lst false 2 t10.1] (.lst false 2 t19), LoopN cx (loopAt cx.P 4 2) 254 0 false [(9, .d (.lst false 2 t10.1)), (13, .ptr 138 0 0 0 0), (18, .d (.lst false 2 t12.1)), (182, .d (.lst false 2 t12.1)), (183, .d (I ((t12.1).length : Int))), (184, .d (I 0))] [(138, .box (.d (.agg [I t21.1, I t21.2.1])))] (.exit 4) [(9, .d (.lst false 2 t10.1))] [], (1 - t21.1) = 1, inI64 (1 - t21.1), (0 : Int) = 0, t21.1 = 1, (0 : Int) = 0, (decide (t21.2.1 ≥ ((t12.1).length : Int))) = false, t21.1 = 1, (0 : Int) = 0, (1 : Int) = 1, (decide (t21.2.1 < 0)) = false, (decide (t21.1 > 1)) = false, (decide (t21.1 < 0)) = false, (t21.2.2 == 0) = true, (t21.2.2 != 0) = false, (t21.2.2 != t22.2.2) = false, Computes cx 15 [.lst false 2 t20, .lst false 2 t19] (.tup [.agg [I t22.1, I t22.2.1], I t22.2.2]), Computes cx 8 [.lst false 2 t10.1] (.lst false 2 t19), Computes cx 8 [.lst false 2 t12.1] (.lst false 2 t20), Computes cx 15 [.lst false 2 t19, .lst false 2 t20] (.tup [.agg [I t21.1, I t21.2.1], I t21.2.2]), Computes cx 8 [.lst false 2 t12.1] (.lst false 2 t20), Computes cx 8 [.lst false 2 t10.1] (.lst false 2 t19), (t17 != 0) = false, Computes cx 11 [.lst false 2 t12.1] (I t17), (t15 != 0) = false, Computes cx 11 [.lst false 2 t10.1] (I t15), (t12.2 != 0) = false, (t10.2 != 0) = false, Computes cx 7 [.lst false 2 t11] (.tup [.lst false 2 t12.1, I t12.2]), Computes cx 8 [.lst false 2 a1] (.lst false 2 t11), Computes cx 7 [.lst false 2 t9] (.tup [.lst false 2 t10.1, I t10.2]), Computes cx 8 [.lst false 2 a0] (.lst false 2 t9), inI64 2, LoopN cx (loopAt cx.P 4 1) 254 0 false [(0, .d (.lst false 2 a0)), (1, .d (.lst false 2 a1)), (56, .d (.agg [.lst false 2 a0, .lst false 2 a1])), (57, .d (I 1)), (60, .d (.lst false 2 a1)), (61, .d (I ((a1).length : Int))), (62, .d (I 0))] [] (.exit 2) [(0, .d (.lst false 2 a0)), (1, .d (.lst false 2 a1)), (56, .d (.agg [.lst false 2 a0, .lst false 2 a1])), (57, .d (I 1))] [], inI64 1, LoopN cx (loopAt cx.P 4 1) 254 0 false [(0, .d (.lst false 2 a0)), (1, .d (.lst false 2 a1)), (56, .d (.agg [.lst false 2 a0, .lst false 2 a1])), (57, .d (I 0)), (60, .d (.lst false 2 a0)), (61, .d (I ((a0).length : Int))), (62, .d (I 0))] [] (.exit 2) [(0, .d (.lst false 2 a0)), (1, .d (.lst false 2 a1)), (56, .d (.agg [.lst false 2 a0, .lst false 2 a1])), (57, .d (I 0))] [], (decide (((a1).length : Int) > 8)) = false, (decide (((a1).length : Int) < 3)) = false, (decide (((a0).length : Int) > 8)) = false, (decide (((a0).length : Int) < 3)) = false, (!t1) = false, Computes cx 5 [] (B t1)]) := by kernel_rfl
theorem e_law04_FieldParted_19 (a0 : List D) (a1 : List D) (t1 : Bool) (t9 : List D) (t10 : List D × Int) (t11 : List D) (t12 : List D × Int) (t15 : Int) (t17 : Int) (t19 : List D) (t20 : List D) (t21 : Int × Int × Int) (t22 : Int × Int × Int) (t26 : Int × Int × Int) (t28 : List D) (t29 : Int × Int × Int) : runFn true 100 cx 4 [.lst false 2 a0, .lst false 2 a1] [.ret (B t1), .br false, .br false, .br false, .br false, .br false, .no, .no, .lp [] [0, 1, 56, 57, 60, 61, 62] [] (.exit 2) [(0, .d (.lst false 2 a0)), (1, .d (.lst false 2 a1)), (56, .d (.agg [.lst false 2 a0, .lst false 2 a1])), (57, .d (I 0))] [] 61, .no, .no, .lp [] [0, 1, 56, 57, 60, 61, 62] [] (.exit 2) [(0, .d (.lst false 2 a0)), (1, .d (.lst false 2 a1)), (56, .d (.agg [.lst false 2 a0, .lst false 2 a1])), (57, .d (I 1))] [] 97, .no, .no, .ret (.lst false 2 t9), .ret (.tup [.lst false 2 t10.1, I t10.2]), .ret (.lst false 2 t11), .ret (.tup [.lst false 2 t12.1, I t12.2]), .br false, .br false, .ret (I t15), .br false, .ret (I t17), .br false, .ret (.lst false 2 t19), .ret (.lst false 2 t20), .ret (.tup [.agg [I t21.1, I t21.2.1], I t21.2.2]), .ret (.lst false 2 t20), .ret (.lst false 2 t19), .ret (.tup [.agg [I t22.1, I t22.2.1], I t22.2.2]), .br false, .br true, .br false, .br false, .ret (.lst false 2 t19), .ret (.lst false 2 t19), .ret (.tup [.agg [I t26.1, I t26.2.1], I t26.2.2]), .br false, .lp [26, 2] [9, 26, 229, 230, 231] [182] (.exit 6) [(9, .d (.lst false 2 t10.1)), (26, .own 182 0)] [(182, .row 0 2 t28)] 211, .ret (.lst false 2 t19), .ret (.tup [.agg [I t29.1, I t29.2.1], I t29.2.2])] = some (B (t29.2.2 == 0), [Computes cx 15 [.lst false 2 t19, .lst false 2 t28] (.tup [.agg [I t29.1, I t29.2.1], I t29.2.2]), Computes cx 8 [.lst false 2 t10.1] (.lst false 2 t19), LoopN cx (loopAt cx.P 4 3) 254 0 false [(9, .d (.lst false 2 t10.1)), (26, .own 182 0), (229, .d (.lst false 2 t10.1)), (230, .d (I ((t10.1).length : Int))), (231, .d (I 0))] [(182, .row 0 2 [])] (.exit 6) [(9, .d (.lst false 2 t10.1)), (26, .own 182 0)] [(182, .row 0 2 t28)], (t26.2.2 != 15) = false, Computes cx 15 [.lst false 2 t19, .lst false 2 t19] (.tup [.agg [I t26.1, I t26.2.1], I t26.2.2]), Computes cx 8 [.lst false 2 t10.1] (.lst false 2 t19), Computes cx 8 [.lst false 2 t10.1] (.lst false 2 t19), (t21.2.2 == 0) = false, (t21.2.2 != 15) = false, (t21.2.2 != 0) = true, (t21.2.2 != t22.2.2) = false, Computes cx 15 [.lst false 2 t20, .lst false 2 t19] (.tup [.agg [I t22.1, I t22.2.1], I t22.2.2]), Computes cx 8 [.lst false 2 t10.1] (.lst false 2 t19), Computes cx 8 [.lst false 2 t12.1] (.lst false 2 t20), Computes cx 15 [.lst false 2 t19, .lst false 2 t20] (.tup [.agg [I t21.1, I t21.2.1], I t21.2.2]), Computes cx 8 [.lst false 2 t12.1] (.lst false 2 t20), Computes cx 8 [.lst false 2 t10.1] (.lst false 2 t19), (t17 != 0) = false, Computes cx 11 [.lst false 2 t12.1] (I t17), (t15 != 0) = false, Computes cx 11 [.lst false 2 t10.1] (I t15), (t12.2 != 0) = false, (t10.2 != 0) = false, Computes cx 7 [.lst false 2 t11] (.tup [.lst false 2 t12.1, I t12.2]), Computes cx 8 [.lst false 2 a1] (.lst false 2 t11), Computes cx 7 [.lst false 2 t9] (.tup [.lst false 2 t10.1, I t10.2]), Computes cx 8 [.lst false 2 a0] (.lst false 2 t9), inI64 2, LoopN cx (loopAt cx.P 4 1) 254 0 false [(0, .d (.lst false 2 a0)), (1, .d (.lst false 2 a1)), (56, .d (.agg [.lst false 2 a0, .lst false 2 a1])), (57, .d (I 1)), (60, .d (.lst false 2 a1)), (61, .d (I ((a1).length : Int))), (62, .d (I 0))] [] (.exit 2) [(0, .d (.lst false 2 a0)), (1, .d (.lst false 2 a1)), (56, .d (.agg [.lst false 2 a0, .lst false 2 a1])), (57, .d (I 1))] [], inI64 1, LoopN cx (loopAt cx.P 4 1) 254 0 false [(0, .d (.lst false 2 a0)), (1, .d (.lst false 2 a1)), (56, .d (.agg [.lst false 2 a0, .lst false 2 a1])), (57, .d (I 0)), (60, .d (.lst false 2 a0)), (61, .d (I ((a0).length : Int))), (62, .d (I 0))] [] (.exit 2) [(0, .d (.lst false 2 a0)), (1, .d (.lst false 2 a1)), (56, .d (.agg [.lst false 2 a0, .lst false 2 a1])), (57, .d (I 0))] [], (decide (((a1).length : Int) > 8)) = false, (decide (((a1).length : Int) < 3)) = false, (decide (((a0).length : Int) > 8)) = false, (decide (((a0).length : Int) < 3)) = false, (!t1) = false, Computes cx 5 [] (B t1)]) := by kernel_rfl
theorem e_law04_FieldParted_25 (a0 : List D) (a1 : List D) (t1 : Bool) (t9 : List D) (t10 : List D × Int) (t11 : List D) (t12 : List D × Int) : runFn true 100 cx 4 [.lst false 2 a0, .lst false 2 a1] [.ret (B t1), .br false, .br false, .br false, .br false, .br false, .no, .no, .lp [] [0, 1, 56, 57, 60, 61, 62] [] (.exit 2) [(0, .d (.lst false 2 a0)), (1, .d (.lst false 2 a1)), (56, .d (.agg [.lst false 2 a0, .lst false 2 a1])), (57, .d (I 0))] [] 61, .no, .no, .lp [] [0, 1, 56, 57, 60, 61, 62] [] (.exit 2) [(0, .d (.lst false 2 a0)), (1, .d (.lst false 2 a1)), (56, .d (.agg [.lst false 2 a0, .lst false 2 a1])), (57, .d (I 1))] [] 97, .no, .no, .ret (.lst false 2 t9), .ret (.tup [.lst false 2 t10.1, I t10.2]), .ret (.lst false 2 t11), .ret (.tup [.lst false 2 t12.1, I t12.2]), .br false, .br true, .br true, .no, .br false] = some (B (t12.2 == 17), [(t12.2 == 0) = false, (t10.2 == 0) = true, (t12.2 != 0) = true, (t10.2 != 0) = false, Computes cx 7 [.lst false 2 t11] (.tup [.lst false 2 t12.1, I t12.2]), Computes cx 8 [.lst false 2 a1] (.lst false 2 t11), Computes cx 7 [.lst false 2 t9] (.tup [.lst false 2 t10.1, I t10.2]), Computes cx 8 [.lst false 2 a0] (.lst false 2 t9), inI64 2, LoopN cx (loopAt cx.P 4 1) 254 0 false [(0, .d (.lst false 2 a0)), (1, .d (.lst false 2 a1)), (56, .d (.agg [.lst false 2 a0, .lst false 2 a1])), (57, .d (I 1)), (60, .d (.lst false 2 a1)), (61, .d (I ((a1).length : Int))), (62, .d (I 0))] [] (.exit 2) [(0, .d (.lst false 2 a0)), (1, .d (.lst false 2 a1)), (56, .d (.agg [.lst false 2 a0, .lst false 2 a1])), (57, .d (I 1))] [], inI64 1, LoopN cx (loopAt cx.P 4 1) 254 0 false [(0, .d (.lst false 2 a0)), (1, .d (.lst false 2 a1)), (56, .d (.agg [.lst false 2 a0, .lst false 2 a1])), (57, .d (I 0)), (60, .d (.lst false 2 a0)), (61, .d (I ((a0).length : Int))), (62, .d (I 0))] [] (.exit 2) [(0, .d (.lst false 2 a0)), (1, .d (.lst false 2 a1)), (56, .d (.agg [.lst false 2 a0, .lst false 2 a1])), (57, .d (I 0))] [], (decide (((a1).length : Int) > 8)) = false, (decide (((a1).length : Int) < 3)) = false, (decide (((a0).length : Int) > 8)) = false, (decide (((a0).length : Int) < 3)) = false, (!t1) = false, Computes cx 5 [] (B t1)]) := by kernel_rfl
theorem e_law04_FieldParted_26 (a0 : List D) (a1 : List D) (t1 : Bool) (t9 : List D) (t10 : List D × Int) (t11 : List D) (t12 : List D × Int) : runFn true 100 cx 4 [.lst false 2 a0, .lst false 2 a1] [.ret (B t1), .br false, .br false, .br false, .br false, .br false, .no, .no, .lp [] [0, 1, 56, 57, 60, 61, 62] [] (.exit 2) [(0, .d (.lst false 2 a0)), (1, .d (.lst false 2 a1)), (56, .d (.agg [.lst false 2 a0, .lst false 2 a1])), (57, .d (I 0))] [] 61, .no, .no, .lp [] [0, 1, 56, 57, 60, 61, 62] [] (.exit 2) [(0, .d (.lst false 2 a0)), (1, .d (.lst false 2 a1)), (56, .d (.agg [.lst false 2 a0, .lst false 2 a1])), (57, .d (I 1))] [] 97, .no, .no, .ret (.lst false 2 t9), .ret (.tup [.lst false 2 t10.1, I t10.2]), .ret (.lst false 2 t11), .ret (.tup [.lst false 2 t12.1, I t12.2]), .br true, .no, .br false, .br true, .br true] = some (B true, [(t12.2 == 0) = true, (t10.2 == 17) = true, (t10.2 == 0) = false, (t10.2 != 0) = true, Computes cx 7 [.lst false 2 t11] (.tup [.lst false 2 t12.1, I t12.2]), Computes cx 8 [.lst false 2 a1] (.lst false 2 t11), Computes cx 7 [.lst false 2 t9] (.tup [.lst false 2 t10.1, I t10.2]), Computes cx 8 [.lst false 2 a0] (.lst false 2 t9), inI64 2, LoopN cx (loopAt cx.P 4 1) 254 0 false [(0, .d (.lst false 2 a0)), (1, .d (.lst false 2 a1)), (56, .d (.agg [.lst false 2 a0, .lst false 2 a1])), (57, .d (I 1)), (60, .d (.lst false 2 a1)), (61, .d (I ((a1).length : Int))), (62, .d (I 0))] [] (.exit 2) [(0, .d (.lst false 2 a0)), (1, .d (.lst false 2 a1)), (56, .d (.agg [.lst false 2 a0, .lst false 2 a1])), (57, .d (I 1))] [], inI64 1, LoopN cx (loopAt cx.P 4 1) 254 0 false [(0, .d (.lst false 2 a0)), (1, .d (.lst false 2 a1)), (56, .d (.agg [.lst false 2 a0, .lst false 2 a1])), (57, .d (I 0)), (60, .d (.lst false 2 a0)), (61, .d (I ((a0).length : Int))), (62, .d (I 0))] [] (.exit 2) [(0, .d (.lst false 2 a0)), (1, .d (.lst false 2 a1)), (56, .d (.agg [.lst false 2 a0, .lst false 2 a1])), (57, .d (I 0))] [], (decide (((a1).length : Int) > 8)) = false, (decide (((a1).length : Int) < 3)) = false, (decide (((a0).length : Int) > 8)) = false, (decide (((a0).length : Int) < 3)) = false, (!t1) = false, Computes cx 5 [] (B t1)]) := by kernel_rfl
theorem e_law04_FieldParted_27 (a0 : List D) (a1 : List D) (t1 : Bool) (t9 : List D) (t10 : List D × Int) (t11 : List D) (t12 : List D × Int) : runFn true 100 cx 4 [.lst false 2 a0, .lst false 2 a1] [.ret (B t1), .br false, .br false, .br false, .br false, .br false, .no, .no, .lp [] [0, 1, 56, 57, 60, 61, 62] [] (.exit 2) [(0, .d (.lst false 2 a0)), (1, .d (.lst false 2 a1)), (56, .d (.agg [.lst false 2 a0, .lst false 2 a1])), (57, .d (I 0))] [] 61, .no, .no, .lp [] [0, 1, 56, 57, 60, 61, 62] [] (.exit 2) [(0, .d (.lst false 2 a0)), (1, .d (.lst false 2 a1)), (56, .d (.agg [.lst false 2 a0, .lst false 2 a1])), (57, .d (I 1))] [] 97, .no, .no, .ret (.lst false 2 t9), .ret (.tup [.lst false 2 t10.1, I t10.2]), .ret (.lst false 2 t11), .ret (.tup [.lst false 2 t12.1, I t12.2]), .br true, .no, .br false, .br true, .br false] = some (B (t12.2 == 17), [(t12.2 == 0) = false, (t10.2 == 17) = true, (t10.2 == 0) = false, (t10.2 != 0) = true, Computes cx 7 [.lst false 2 t11] (.tup [.lst false 2 t12.1, I t12.2]), Computes cx 8 [.lst false 2 a1] (.lst false 2 t11), Computes cx 7 [.lst false 2 t9] (.tup [.lst false 2 t10.1, I t10.2]), Computes cx 8 [.lst false 2 a0] (.lst false 2 t9), inI64 2, LoopN cx (loopAt cx.P 4 1) 254 0 false [(0, .d (.lst false 2 a0)), (1, .d (.lst false 2 a1)), (56, .d (.agg [.lst false 2 a0, .lst false 2 a1])), (57, .d (I 1)), (60, .d (.lst false 2 a1)), (61, .d (I ((a1).length : Int))), (62, .d (I 0))] [] (.exit 2) [(0, .d (.lst false 2 a0)), (1, .d (.lst false 2 a1)), (56, .d (.agg [.lst false 2 a0, .lst false 2 a1])), (57, .d (I 1))] [], inI64 1, LoopN cx (loopAt cx.P 4 1) 254 0 false [(0, .d (.lst false 2 a0)), (1, .d (.lst false 2 a1)), (56, .d (.agg [.lst false 2 a0, .lst false 2 a1])), (57, .d (I 0)), (60, .d (.lst false 2 a0)), (61, .d (I ((a0).length : Int))), (62, .d (I 0))] [] (.exit 2) [(0, .d (.lst false 2 a0)), (1, .d (.lst false 2 a1)), (56, .d (.agg [.lst false 2 a0, .lst false 2 a1])), (57, .d (I 0))] [], (decide (((a1).length : Int) > 8)) = false, (decide (((a1).length : Int) < 3)) = false, (decide (((a0).length : Int) > 8)) = false, (decide (((a0).length : Int) < 3)) = false, (!t1) = false, Computes cx 5 [] (B t1)]) := by kernel_rfl
theorem e_law04_FieldParted_29 (a0 : List D) (a1 : List D) (t1 : Bool) : runFn true 100 cx 4 [.lst false 2 a0, .lst false 2 a1] [.ret (B t1), .br true, .no, .no, .no, .no, .ret (B t1)] = some (B t1, [Computes cx 5 [] (B t1), (!t1) = true, Computes cx 5 [] (B t1)]) := by kernel_rfl
/- spillage/spillagelaw04.FieldParted: .lst false 2 a0, .lst false 2 a1 -/
def F_law04_FieldParted (n : Nat) (a0 : List D) (a1 : List D) : Option (Bool) :=
  (F_law04_awake n).bind fun t1 =>
  if t1 = true then
    if ((a0).length : Int) < 3 then
      some t1
    else
    if ((a0).length : Int) > 8 then
      some t1
    else
    if ((a1).length : Int) < 3 then
      some t1
    else
    if ((a1).length : Int) > 8 then
      some t1
    else
    (loopF (F_law04_FieldParted_L1 n a0 a1) n 0).bind fun t7 => match t7 with
      | (.inl t7) => (
        some true)
      | (.inr t7) => (
        (loopF (F_law04_FieldParted_L2 n a0 a1) n 0).bind fun t8 => match t8 with
          | (.inl t8) => (
            some true)
          | (.inr t8) => (
            (F_law04_points n a0).bind fun t9 =>
            (F_field_Hull n t9).bind fun t10 =>
            (F_law04_points n a1).bind fun t11 =>
            (F_field_Hull n t11).bind fun t12 =>
            if t10.2 = 0 then
              if t12.2 = 0 then
                (F_ref04_CheckPolygon n t10.1).bind fun t15 =>
                if t15 = 0 then
                  (F_ref04_CheckPolygon n t12.1).bind fun t17 =>
                  if t17 = 0 then
                    (F_law04_points n t10.1).bind fun t19 =>
                    (F_law04_points n t12.1).bind fun t20 =>
                    (F_field_Apart n t19 t20).bind fun t21 =>
                    (F_field_Apart n t20 t19).bind fun t22 =>
                    if t21.2.2 = t22.2.2 then
                      if t21.2.2 = 0 then
                        if t21.1 < 0 then
                          none /- false -/
                        else
                        if t21.1 > 1 then
                          none /- false -/
                        else
                        if t21.2.1 < 0 then
                          none /- false -/
                        else
                        if t21.1 = 0 then
                          if t21.2.1 ≥ ((t10.1).length : Int) then
                            none /- false -/
                          else
                          if inI64 (1 - t21.1) then
                          if (1 - t21.1) = 0 then
                            (loopF (F_law04_FieldParted_L3 n t10 t21) n 0).bind fun t32 =>
                            (F_field_Apart n t19 t19).bind fun t33 =>
                            if t33.2.2 = 15 then
                              (loopF (F_law04_FieldParted_L4 n t10) n (0, [])).bind fun t35 =>
                              (F_field_Apart n t19 t35).bind fun t36 =>
                              some (t36.2.2 == 0)
                            else
                            none /- false -/
                          else
                          if (1 - t21.1) = 1 then
                          (loopF (F_law04_FieldParted_L5 n t10 t12 t21) n 0).bind fun t33 =>
                          (F_field_Apart n t19 t19).bind fun t34 =>
                          if t34.2.2 = 15 then
                            (loopF (F_law04_FieldParted_L4 n t10) n (0, [])).bind fun t36 =>
                            (F_field_Apart n t19 t36).bind fun t37 =>
                            some (t37.2.2 == 0)
                          else
                          none /- false -/
                          else none
                          else none
                        else
                        if t21.1 = 1 then
                        if t21.2.1 ≥ ((t12.1).length : Int) then
                          none /- false -/
                        else
                        if inI64 (1 - t21.1) then
                        if (1 - t21.1) = 0 then
                          (loopF (F_law04_FieldParted_L6 n t10 t12 t21) n 0).bind fun t33 =>
                          (F_field_Apart n t19 t19).bind fun t34 =>
                          if t34.2.2 = 15 then
                            (loopF (F_law04_FieldParted_L4 n t10) n (0, [])).bind fun t36 =>
                            (F_field_Apart n t19 t36).bind fun t37 =>
                            some (t37.2.2 == 0)
                          else
                          none /- false -/
                        else
                        if (1 - t21.1) = 1 then
                        (loopF (F_law04_FieldParted_L7 n t10 t12 t21) n 0).bind fun t34 =>
                        (F_field_Apart n t19 t19).bind fun t35 =>
                        if t35.2.2 = 15 then
                          (loopF (F_law04_FieldParted_L4 n t10) n (0, [])).bind fun t37 =>
                          (F_field_Apart n t19 t37).bind fun t38 =>
                          some (t38.2.2 == 0)
                        else
                        none /- false -/
                        else none
                        else none
                        else none
                      else
                      if t21.2.2 = 15 then
                        (F_field_Apart n t19 t19).bind fun t26 =>
                        if t26.2.2 = 15 then
                          (loopF (F_law04_FieldParted_L8 n t10) n (0, [])).bind fun t28 =>
                          (F_field_Apart n t19 t28).bind fun t29 =>
                          some (t29.2.2 == 0)
                        else
                        none /- false -/
                      else
                      none /- false -/
                    else
                    none /- false -/
                  else
                  none /- false -/
                else
                none /- false -/
              else
              some (t12.2 == 17)
            else
            if t10.2 = 17 then
              if t12.2 = 0 then
                some true
              else
              some (t12.2 == 17)
            else
            none /- false -/))
  else
  some t1
theorem c_law04_FieldParted {n : Nat} {a0 : List D} {a1 : List D} {r : Bool} (h : F_law04_FieldParted n a0 a1 = some r) : Computes cx 4 [.lst false 2 a0, .lst false 2 a1] (B r) := by
  unfold F_law04_FieldParted at h
  obtain ⟨t1, h1, h⟩ := bnd_of h
  by_cases h2 : t1 = true
  · replace h := ite_t h h2
    by_cases h3 : ((a0).length : Int) < 3
    · replace h := ite_t h h3
      replace h := Option.some.inj h
      subst h
      exact run (e_law04_FieldParted_0 a0 a1 t1) ⟨(c_law04_awake h1), (decide_eq_true h3), (notf h2), (c_law04_awake h1), trivial⟩
    · replace h := ite_f h h3
      by_cases h4 : ((a0).length : Int) > 8
      · replace h := ite_t h h4
        replace h := Option.some.inj h
        subst h
        exact run (e_law04_FieldParted_1 a0 a1 t1) ⟨(c_law04_awake h1), (decide_eq_true h4), (decide_eq_false h3), (notf h2), (c_law04_awake h1), trivial⟩
      · replace h := ite_f h h4
        by_cases h5 : ((a1).length : Int) < 3
        · replace h := ite_t h h5
          replace h := Option.some.inj h
          subst h
          exact run (e_law04_FieldParted_2 a0 a1 t1) ⟨(c_law04_awake h1), (decide_eq_true h5), (decide_eq_false h4), (decide_eq_false h3), (notf h2), (c_law04_awake h1), trivial⟩
        · replace h := ite_f h h5
          by_cases h6 : ((a1).length : Int) > 8
          · replace h := ite_t h h6
            replace h := Option.some.inj h
            subst h
            exact run (e_law04_FieldParted_3 a0 a1 t1) ⟨(c_law04_awake h1), (decide_eq_true h6), (decide_eq_false h5), (decide_eq_false h4), (decide_eq_false h3), (notf h2), (c_law04_awake h1), trivial⟩
          · replace h := ite_f h h6
            obtain ⟨t7, h7, h⟩ := bnd_of h
            rcases t7 with t7 | t7
            · replace h := Option.some.inj h
              subst h
              exact run (e_law04_FieldParted_4 a0 a1 t1) ⟨(loopF_to R_law04_FieldParted_L1 h7), (decide_eq_false h6), (decide_eq_false h5), (decide_eq_false h4), (decide_eq_false h3), (notf h2), (c_law04_awake h1), trivial⟩
            · obtain ⟨t8, h8, h⟩ := bnd_of h
              rcases t8 with t8 | t8
              · replace h := Option.some.inj h
                subst h
                exact run (e_law04_FieldParted_5 a0 a1 t1) ⟨(loopF_to R_law04_FieldParted_L2 h8), (by unfold inI64; omega), (loopF_to R_law04_FieldParted_L1 h7), (decide_eq_false h6), (decide_eq_false h5), (decide_eq_false h4), (decide_eq_false h3), (notf h2), (c_law04_awake h1), trivial⟩
              · obtain ⟨t9, h9, h⟩ := bnd_of h
                obtain ⟨t10, h10, h⟩ := bnd_of h
                obtain ⟨t11, h11, h⟩ := bnd_of h
                obtain ⟨t12, h12, h⟩ := bnd_of h
                by_cases h13 : t10.2 = 0
                · replace h := ite_t h h13
                  by_cases h14 : t12.2 = 0
                  · replace h := ite_t h h14
                    obtain ⟨t15, h15, h⟩ := bnd_of h
                    by_cases h16 : t15 = 0
                    · replace h := ite_t h h16
                      obtain ⟨t17, h17, h⟩ := bnd_of h
                      by_cases h18 : t17 = 0
                      · replace h := ite_t h h18
                        obtain ⟨t19, h19, h⟩ := bnd_of h
                        obtain ⟨t20, h20, h⟩ := bnd_of h
                        obtain ⟨t21, h21, h⟩ := bnd_of h
                        obtain ⟨t22, h22, h⟩ := bnd_of h
                        by_cases h23 : t21.2.2 = t22.2.2
                        · replace h := ite_t h h23
                          by_cases h24 : t21.2.2 = 0
                          · replace h := ite_t h h24
                            by_cases h25 : t21.1 < 0
                            · replace h := ite_t h h25
                              cases h
                            · replace h := ite_f h h25
                              by_cases h26 : t21.1 > 1
                              · replace h := ite_t h h26
                                cases h
                              · replace h := ite_f h h26
                                by_cases h27 : t21.2.1 < 0
                                · replace h := ite_t h h27
                                  cases h
                                · replace h := ite_f h h27
                                  by_cases h28 : t21.1 = 0
                                  · replace h := ite_t h h28
                                    by_cases h29 : t21.2.1 ≥ ((t10.1).length : Int)
                                    · replace h := ite_t h h29
                                      cases h
                                    · replace h := ite_f h h29
                                      obtain ⟨h30, h⟩ := grd_of h
                                      by_cases h31 : (1 - t21.1) = 0
                                      · replace h := ite_t h h31
                                        obtain ⟨t32, h32, h⟩ := bnd_of h
                                        obtain ⟨t33, h33, h⟩ := bnd_of h
                                        by_cases h34 : t33.2.2 = 15
                                        · replace h := ite_t h h34
                                          obtain ⟨t35, h35, h⟩ := bnd_of h
                                          obtain ⟨t36, h36, h⟩ := bnd_of h
                                          replace h := Option.some.inj h
                                          subst h
                                          exact run (e_law04_FieldParted_10 a0 a1 t1 t9 t10 t11 t12 t15 t17 t19 t20 t21 t22 t33 t35 t36) ⟨(c_field_Apart h36), (c_law04_points h19), (loopF_to R_law04_FieldParted_L4 h35), (nef h34), (c_field_Apart h33), (c_law04_points h19), (c_law04_points h19), (loopF_to R_law04_FieldParted_L3 h32), h31, h30, rfl, h28, rfl, (decide_eq_false h29), h28, rfl, rfl, (decide_eq_false h27), (decide_eq_false h26), (decide_eq_false h25), (eqt h24), (nef h24), (nef h23), (c_field_Apart h22), (c_law04_points h19), (c_law04_points h20), (c_field_Apart h21), (c_law04_points h20), (c_law04_points h19), (nef h18), (c_ref04_CheckPolygon h17), (nef h16), (c_ref04_CheckPolygon h15), (nef h14), (nef h13), (c_field_Hull h12), (c_law04_points h11), (c_field_Hull h10), (c_law04_points h9), (by unfold inI64; omega), (loopF_to R_law04_FieldParted_L2 h8), (by unfold inI64; omega), (loopF_to R_law04_FieldParted_L1 h7), (decide_eq_false h6), (decide_eq_false h5), (decide_eq_false h4), (decide_eq_false h3), (notf h2), (c_law04_awake h1), trivial⟩
                                        · replace h := ite_f h h34
                                          cases h
                                      · replace h := ite_f h h31
                                        obtain ⟨h32, h⟩ := grd_of h
                                        obtain ⟨t33, h33, h⟩ := bnd_of h
                                        obtain ⟨t34, h34, h⟩ := bnd_of h
                                        by_cases h35 : t34.2.2 = 15
                                        · replace h := ite_t h h35
                                          obtain ⟨t36, h36, h⟩ := bnd_of h
                                          obtain ⟨t37, h37, h⟩ := bnd_of h
                                          replace h := Option.some.inj h
                                          subst h
                                          exact run (e_law04_FieldParted_12 a0 a1 t1 t9 t10 t11 t12 t15 t17 t19 t20 t21 t22 t34 t36 t37) ⟨(c_field_Apart h37), (c_law04_points h19), (loopF_to R_law04_FieldParted_L4 h36), (nef h35), (c_field_Apart h34), (c_law04_points h19), (c_law04_points h19), (loopF_to R_law04_FieldParted_L5 h33), h32, h30, rfl, h28, rfl, (decide_eq_false h29), h28, rfl, rfl, (decide_eq_false h27), (decide_eq_false h26), (decide_eq_false h25), (eqt h24), (nef h24), (nef h23), (c_field_Apart h22), (c_law04_points h19), (c_law04_points h20), (c_field_Apart h21), (c_law04_points h20), (c_law04_points h19), (nef h18), (c_ref04_CheckPolygon h17), (nef h16), (c_ref04_CheckPolygon h15), (nef h14), (nef h13), (c_field_Hull h12), (c_law04_points h11), (c_field_Hull h10), (c_law04_points h9), (by unfold inI64; omega), (loopF_to R_law04_FieldParted_L2 h8), (by unfold inI64; omega), (loopF_to R_law04_FieldParted_L1 h7), (decide_eq_false h6), (decide_eq_false h5), (decide_eq_false h4), (decide_eq_false h3), (notf h2), (c_law04_awake h1), trivial⟩
                                        · replace h := ite_f h h35
                                          cases h
                                  · replace h := ite_f h h28
                                    obtain ⟨h29, h⟩ := grd_of h
                                    by_cases h30 : t21.2.1 ≥ ((t12.1).length : Int)
                                    · replace h := ite_t h h30
                                      cases h
                                    · replace h := ite_f h h30
                                      obtain ⟨h31, h⟩ := grd_of h
                                      by_cases h32 : (1 - t21.1) = 0
                                      · replace h := ite_t h h32
                                        obtain ⟨t33, h33, h⟩ := bnd_of h
                                        obtain ⟨t34, h34, h⟩ := bnd_of h
                                        by_cases h35 : t34.2.2 = 15
                                        · replace h := ite_t h h35
                                          obtain ⟨t36, h36, h⟩ := bnd_of h
                                          obtain ⟨t37, h37, h⟩ := bnd_of h
                                          replace h := Option.some.inj h
                                          subst h
                                          exact run (e_law04_FieldParted_15 a0 a1 t1 t9 t10 t11 t12 t15 t17 t19 t20 t21 t22 t34 t36 t37) ⟨(c_field_Apart h37), (c_law04_points h19), (loopF_to R_law04_FieldParted_L4 h36), (nef h35), (c_field_Apart h34), (c_law04_points h19), (c_law04_points h19), (loopF_to R_law04_FieldParted_L6 h33), h32, h31, rfl, h29, rfl, (decide_eq_false h30), h29, rfl, rfl, (decide_eq_false h27), (decide_eq_false h26), (decide_eq_false h25), (eqt h24), (nef h24), (nef h23), (c_field_Apart h22), (c_law04_points h19), (c_law04_points h20), (c_field_Apart h21), (c_law04_points h20), (c_law04_points h19), (nef h18), (c_ref04_CheckPolygon h17), (nef h16), (c_ref04_CheckPolygon h15), (nef h14), (nef h13), (c_field_Hull h12), (c_law04_points h11), (c_field_Hull h10), (c_law04_points h9), (by unfold inI64; omega), (loopF_to R_law04_FieldParted_L2 h8), (by unfold inI64; omega), (loopF_to R_law04_FieldParted_L1 h7), (decide_eq_false h6), (decide_eq_false h5), (decide_eq_false h4), (decide_eq_false h3), (notf h2), (c_law04_awake h1), trivial⟩
                                        · replace h := ite_f h h35
                                          cases h
                                      · replace h := ite_f h h32
                                        obtain ⟨h33, h⟩ := grd_of h
                                        obtain ⟨t34, h34, h⟩ := bnd_of h
                                        obtain ⟨t35, h35, h⟩ := bnd_of h
                                        by_cases h36 : t35.2.2 = 15
                                        · replace h := ite_t h h36
                                          obtain ⟨t37, h37, h⟩ := bnd_of h
                                          obtain ⟨t38, h38, h⟩ := bnd_of h
                                          replace h := Option.some.inj h
                                          subst h
                                          exact run (e_law04_FieldParted_17 a0 a1 t1 t9 t10 t11 t12 t15 t17 t19 t20 t21 t22 t35 t37 t38) ⟨(c_field_Apart h38), (c_law04_points h19), (loopF_to R_law04_FieldParted_L4 h37), (nef h36), (c_field_Apart h35), (c_law04_points h19), (c_law04_points h19), (loopF_to R_law04_FieldParted_L7 h34), h33, h31, rfl, h29, rfl, (decide_eq_false h30), h29, rfl, rfl, (decide_eq_false h27), (decide_eq_false h26), (decide_eq_false h25), (eqt h24), (nef h24), (nef h23), (c_field_Apart h22), (c_law04_points h19), (c_law04_points h20), (c_field_Apart h21), (c_law04_points h20), (c_law04_points h19), (nef h18), (c_ref04_CheckPolygon h17), (nef h16), (c_ref04_CheckPolygon h15), (nef h14), (nef h13), (c_field_Hull h12), (c_law04_points h11), (c_field_Hull h10), (c_law04_points h9), (by unfold inI64; omega), (loopF_to R_law04_FieldParted_L2 h8), (by unfold inI64; omega), (loopF_to R_law04_FieldParted_L1 h7), (decide_eq_false h6), (decide_eq_false h5), (decide_eq_false h4), (decide_eq_false h3), (notf h2), (c_law04_awake h1), trivial⟩
                                        · replace h := ite_f h h36
                                          cases h
                          · replace h := ite_f h h24
                            by_cases h25 : t21.2.2 = 15
                            · replace h := ite_t h h25
                              obtain ⟨t26, h26, h⟩ := bnd_of h
                              by_cases h27 : t26.2.2 = 15
                              · replace h := ite_t h h27
                                obtain ⟨t28, h28, h⟩ := bnd_of h
                                obtain ⟨t29, h29, h⟩ := bnd_of h
                                replace h := Option.some.inj h
                                subst h
                                exact run (e_law04_FieldParted_19 a0 a1 t1 t9 t10 t11 t12 t15 t17 t19 t20 t21 t22 t26 t28 t29) ⟨(c_field_Apart h29), (c_law04_points h19), (loopF_to R_law04_FieldParted_L8 h28), (nef h27), (c_field_Apart h26), (c_law04_points h19), (c_law04_points h19), (eqf h24), (nef h25), (net h24), (nef h23), (c_field_Apart h22), (c_law04_points h19), (c_law04_points h20), (c_field_Apart h21), (c_law04_points h20), (c_law04_points h19), (nef h18), (c_ref04_CheckPolygon h17), (nef h16), (c_ref04_CheckPolygon h15), (nef h14), (nef h13), (c_field_Hull h12), (c_law04_points h11), (c_field_Hull h10), (c_law04_points h9), (by unfold inI64; omega), (loopF_to R_law04_FieldParted_L2 h8), (by unfold inI64; omega), (loopF_to R_law04_FieldParted_L1 h7), (decide_eq_false h6), (decide_eq_false h5), (decide_eq_false h4), (decide_eq_false h3), (notf h2), (c_law04_awake h1), trivial⟩
                              · replace h := ite_f h h27
                                cases h
                            · replace h := ite_f h h25
                              cases h
                        · replace h := ite_f h h23
                          cases h
                      · replace h := ite_f h h18
                        cases h
                    · replace h := ite_f h h16
                      cases h
                  · replace h := ite_f h h14
                    replace h := Option.some.inj h
                    subst h
                    exact run (e_law04_FieldParted_25 a0 a1 t1 t9 t10 t11 t12) ⟨(eqf h14), (eqt h13), (net h14), (nef h13), (c_field_Hull h12), (c_law04_points h11), (c_field_Hull h10), (c_law04_points h9), (by unfold inI64; omega), (loopF_to R_law04_FieldParted_L2 h8), (by unfold inI64; omega), (loopF_to R_law04_FieldParted_L1 h7), (decide_eq_false h6), (decide_eq_false h5), (decide_eq_false h4), (decide_eq_false h3), (notf h2), (c_law04_awake h1), trivial⟩
                · replace h := ite_f h h13
                  by_cases h14 : t10.2 = 17
                  · replace h := ite_t h h14
                    by_cases h15 : t12.2 = 0
                    · replace h := ite_t h h15
                      replace h := Option.some.inj h
                      subst h
                      exact run (e_law04_FieldParted_26 a0 a1 t1 t9 t10 t11 t12) ⟨(eqt h15), (eqt h14), (eqf h13), (net h13), (c_field_Hull h12), (c_law04_points h11), (c_field_Hull h10), (c_law04_points h9), (by unfold inI64; omega), (loopF_to R_law04_FieldParted_L2 h8), (by unfold inI64; omega), (loopF_to R_law04_FieldParted_L1 h7), (decide_eq_false h6), (decide_eq_false h5), (decide_eq_false h4), (decide_eq_false h3), (notf h2), (c_law04_awake h1), trivial⟩
                    · replace h := ite_f h h15
                      replace h := Option.some.inj h
                      subst h
                      exact run (e_law04_FieldParted_27 a0 a1 t1 t9 t10 t11 t12) ⟨(eqf h15), (eqt h14), (eqf h13), (net h13), (c_field_Hull h12), (c_law04_points h11), (c_field_Hull h10), (c_law04_points h9), (by unfold inI64; omega), (loopF_to R_law04_FieldParted_L2 h8), (by unfold inI64; omega), (loopF_to R_law04_FieldParted_L1 h7), (decide_eq_false h6), (decide_eq_false h5), (decide_eq_false h4), (decide_eq_false h3), (notf h2), (c_law04_awake h1), trivial⟩
                  · replace h := ite_f h h14
                    cases h
  · replace h := ite_f h h2
    replace h := Option.some.inj h
    subst h
    exact run (e_law04_FieldParted_29 a0 a1 t1) ⟨(c_law04_awake h1), (nott (bfalse h2)), (c_law04_awake h1), trivial⟩
end Go.Proofs.YtbjnjffckhdhgaaGreatDoor
