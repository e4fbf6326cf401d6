/-
  Printed by gsx.py: functions of the program as Lean functions, and that the code computes them.
-/
import Derived.Test.YtoblljobcafecaaGreatDoorGen2
set_option linter.unusedVariables false
set_option linter.unusedSimpArgs false
set_option linter.unnecessarySimpa false
set_option maxRecDepth 10000
set_option maxHeartbeats 4000000
namespace Go.Proofs.YtoblljobcafecaaGreatDoor
open Go.SX
/- (spillage/drive.Band).line: .agg [I a0, I a1, I a2] -/
def F_drive_Band_line (n : Nat) (a0 : Int) (a1 : Int) (a2 : Int) : Option (ByteArray) :=
  (F_drive_mapped_g_6 n ([I a0, I a1, I a2])).bind fun t1 =>
  if roomP 16 (1 + (t1).length) then
  if isNilL t1 = true then
    (F_strings_Join n ([.v (.string ⟨#[98, 97, 110, 100]⟩)]) (⟨#[32]⟩)).bind fun t4 =>
    if t4.size + (⟨#[10]⟩ : ByteArray).size ≤ 9223372036854775807 then
    some (t4 ++ (⟨#[10]⟩ : ByteArray))
    else none
  else
  (F_strings_Join n (.v (.string ⟨#[98, 97, 110, 100]⟩) :: t1) (⟨#[32]⟩)).bind fun t4 =>
  if t4.size + (⟨#[10]⟩ : ByteArray).size ≤ 9223372036854775807 then
  some (t4 ++ (⟨#[10]⟩ : ByteArray))
  else none
  else none
theorem c_drive_Band_line {n : Nat} {a0 : Int} {a1 : Int} {a2 : Int} {r : ByteArray} (h : F_drive_Band_line n a0 a1 a2 = some r) : Computes cx 36 [.agg [I a0, I a1, I a2]] (.v (.string r)) := by
  unfold F_drive_Band_line at h
  obtain ⟨t1, h1, h⟩ := bnd_of h
  obtain ⟨h2, h⟩ := grd_of h
  by_cases h3 : isNilL t1 = true
  · replace h := ite_t h h3
    obtain ⟨t4, h4, h⟩ := bnd_of h
    obtain ⟨h5, h⟩ := grd_of h
    replace h := Option.some.inj h
    subst h
    exact run_fr (n := 100) (orc := [.ret (.lst false 1 t1), .br true, .br true, .ret (.v (.string t4))]) (allC h5 (allC (((c_strings_Join h4).le (.cons (.full _ _ _) (.cons (.refl _) (.nil))) (.refl _)) : Computes cx 34 [.lst true 1 [.v (.string ⟨#[98, 97, 110, 100]⟩)], .v (.string ⟨#[32]⟩)] (.v (.string t4))) (allC h3 (allC ((room_of (b := 16) (by kernel_rfl) (by decide) h2) : room cx 9 (1 + (t1).length)) (allC (((c_drive_mapped_g_6 h1).le (.cons (.full _ _ _) (.cons (.refl _) (.nil))) (.refl _)) : Computes cx 70 [.lst true 1 [I a0, I a1, I a2], .fn (.func 71) [] []] (.lst false 1 t1)) allN))))) (by kernel_rfl)
  · replace h := ite_f h h3
    obtain ⟨t4, h4, h⟩ := bnd_of h
    obtain ⟨h5, h⟩ := grd_of h
    replace h := Option.some.inj h
    subst h
    exact run_fr (n := 100) (orc := [.ret (.lst false 1 t1), .br true, .br false, .ret (.v (.string t4))]) (allC h5 (allC ((c_strings_Join h4) : Computes cx 34 [.lst false 1 (.v (.string ⟨#[98, 97, 110, 100]⟩) :: t1), .v (.string ⟨#[32]⟩)] (.v (.string t4))) (allC (bfalse h3) (allC ((room_of (b := 16) (by kernel_rfl) (by decide) h2) : room cx 9 (1 + (t1).length)) (allC (((c_drive_mapped_g_6 h1).le (.cons (.full _ _ _) (.cons (.refl _) (.nil))) (.refl _)) : Computes cx 70 [.lst true 1 [I a0, I a1, I a2], .fn (.func 71) [] []] (.lst false 1 t1)) allN))))) (by kernel_rfl)
def F_drive_mapped_g_5_L1 (n : Nat) (a0 : List D) (sa : (Int × List D)) : Option (((Int × List D)) ⊕ ((List D))) :=
  if sa.1 < ((a0).length : Int) then
    (el un_Ai3Z a0 sa.1).bind fun ta2 =>
    (F_drive_Band_line n ta2.1 ta2.2.1 ta2.2.2).bind fun ta3 =>
    if roomP 16 ((sa.2).length + 1) then
    if inI64 (sa.1 + 1) then
    some (.inl ((sa.1 + 1), (sa.2 ++ ([.v (.string ta3)] : List D))))
    else none
    else none
  else
  some (.inr sa.2)
noncomputable def T_drive_mapped_g_5_L1 (a0 : List D) (sa : (Int × List D)) : List (Nat × AV) := [(1, .d (.fn (.func 36) [] [])), (5, .own 5 0), (8, .d (.lst false 3 a0)), (9, .d (I ((a0).length : Int))), (10, .d (I sa.1))]
noncomputable def H_drive_mapped_g_5_L1 (a0 : List D) (sa : (Int × List D)) : List (Nat × Blk) := [(5, .row 0 1 sa.2)]
noncomputable def X_drive_mapped_g_5_L1 (a0 : List D) (e : (List D)) : Ex := (.exit 0)
noncomputable def XT_drive_mapped_g_5_L1 (a0 : List D) (e : (List D)) : List (Nat × AV) := [(5, .own 5 0)]
noncomputable def XH_drive_mapped_g_5_L1 (a0 : List D) (e : (List D)) : List (Nat × Blk) := [(5, .row 0 1 e)]
theorem R_drive_mapped_g_5_L1 {n : Nat} {a0 : List D} (sa : (Int × List D)) (r) (h : F_drive_mapped_g_5_L1 n a0 sa = some r) : Rd cx (loopAt cx.P 35 0) 22 0 false (T_drive_mapped_g_5_L1 a0) (H_drive_mapped_g_5_L1 a0) (X_drive_mapped_g_5_L1 a0) (XT_drive_mapped_g_5_L1 a0) (XH_drive_mapped_g_5_L1 a0) sa r := by
  unfold F_drive_mapped_g_5_L1 at h
  by_cases ha1 : sa.1 < ((a0).length : Int)
  · replace h := ite_t h ha1
    obtain ⟨ta2, ha2, h⟩ := bnd_of h
    obtain ⟨ta3, ha3, h⟩ := bnd_of h
    obtain ⟨ha4, h⟩ := grd_of h
    obtain ⟨ha5, h⟩ := grd_of h
    replace h := Option.some.inj h
    subst h
    exact ⟨100, 6, [.br true, .el (enc_Ai3Z ta2), .ret (.v (.string ta3)), .br true], [], [1, 5, 8, 9, 10], [5], round_fr (allC ha5 (allC ((room_of (b := 16) (by kernel_rfl) (by decide) ha4) : room cx 9 ((sa.2).length + 1)) (allC (c_drive_Band_line ha3) (allC (el_ok un_Ai3Z_ok ha2).1 (allC (el_ok un_Ai3Z_ok ha2).2 (allC (decide_eq_true ha1) allN)))))) (by kernel_rfl)⟩
  · replace h := ite_f h ha1
    replace h := Option.some.inj h
    subst h
    exact ⟨⟨100, 6, [.br false], [], [5], [5], round_fr (allC (decide_eq_false ha1) allN) (by kernel_rfl)⟩, nofun⟩
/- spillage/drive.mapped[spillage/drive.Band,string]: .lst false 3 a0, .fn (.func 36) [] [] -/
def F_drive_mapped_g_5 (n : Nat) (a0 : List D) : Option (List D) :=
  (loopF (F_drive_mapped_g_5_L1 n a0) n (0, [])).bind fun t1 =>
  some t1
theorem c_drive_mapped_g_5 {n : Nat} {a0 : List D} {r : List D} (h : F_drive_mapped_g_5 n a0 = some r) : Computes cx 35 [.lst false 3 a0, .fn (.func 36) [] []] (.lst false 1 r) := by
  unfold F_drive_mapped_g_5 at h
  obtain ⟨t1, h1, h⟩ := bnd_of h
  replace h := Option.some.inj h
  subst h
  exact run_fr (n := 100) (orc := [.lp [5, 1] [1, 5, 8, 9, 10] [5] (.exit 0) [(5, .own 5 0)] [(5, .row 0 1 t1)] 31]) (allC (loopF_to R_drive_mapped_g_5_L1 h1) allN) (by kernel_rfl)
/- spillage/drive.Print: .lst false 3 a0 -/
def F_drive_Print (n : Nat) (a0 : List D) : Option (ByteArray × Int) :=
  (F_drive_CheckModel n a0).bind fun t1 =>
  if t1 = 0 then
    (F_drive_mapped_g_5 n a0).bind fun t3 =>
    (F_strings_Join n t3 (⟨#[]⟩)).bind fun t4 =>
    some (t4, 0)
  else
  some (⟨#[]⟩, t1)
theorem c_drive_Print {n : Nat} {a0 : List D} {r : ByteArray × Int} (h : F_drive_Print n a0 = some r) : Computes cx 7 [.lst false 3 a0] (.tup [.v (.string r.1), I r.2]) := by
  unfold F_drive_Print at h
  obtain ⟨t1, h1, h⟩ := bnd_of h
  by_cases h2 : t1 = 0
  · replace h := ite_t h h2
    obtain ⟨t3, h3, h⟩ := bnd_of h
    obtain ⟨t4, h4, h⟩ := bnd_of h
    replace h := Option.some.inj h
    subst h
    exact run_fr (n := 100) (orc := [.ret (I t1), .br false, .ret (.lst false 1 t3), .ret (.v (.string t4))]) (allC ((c_strings_Join h4) : Computes cx 34 [.lst false 1 t3, .v (.string ⟨#[]⟩)] (.v (.string t4))) (allC (c_drive_mapped_g_5 h3) (allC (nef h2) (allC (c_drive_CheckModel h1) allN)))) (by kernel_rfl)
  · replace h := ite_f h h2
    replace h := Option.some.inj h
    subst h
    exact run_fr (n := 100) (orc := [.ret (I t1), .br true]) (allC (net h2) (allC (c_drive_CheckModel h1) allN)) (by kernel_rfl)
def enc_Ai2Z (x : Int × Int) : D := .agg [I x.1, I x.2]
def un_Ai2Z : D → Option (Int × Int)
  | .agg [c0, c1] => (un_int .i64 c0).bind fun y0 => (un_int .i64 c1).bind fun y1 => some (y0, y1)
  | _ => none
theorem un_Ai2Z_ok {d : D} {x : Int × Int} (h : un_Ai2Z d = some x) : d = enc_Ai2Z x := by
  unfold un_Ai2Z at h
  split at h
  case h_2 => cases h
  obtain ⟨y0, h0, h⟩ := bnd_of h
  obtain ⟨y1, h1, h⟩ := bnd_of h
  cases h
  have e0 := un_int_ok h0
  have e1 := un_int_ok h1
  rw [e0, e1]; rfl
def F_ref03_SamePoses_L1 (n : Nat) (a0 : List D) (a1 : List D) (sa : (Int)) : Option (((Int)) ⊕ ((Unit) ⊕ (Unit))) :=
  if sa < ((a0).length : Int) then
    (el un_Ai2Z a0 sa).bind fun ta2 =>
    (el un_Ai2Z a1 sa).bind fun ta3 =>
    if ((ta2.1 == ta3.1) && ((ta2.2 == ta3.2) && true)) = true then
      if inI64 (sa + 1) then
      some (.inl (sa + 1))
      else none
    else
    some (.inr (.inl ()))
  else
  some (.inr (.inr ()))
noncomputable def T_ref03_SamePoses_L1 (a0 : List D) (a1 : List D) (sa : (Int)) : List (Nat × AV) := [(0, .d (.lst false 2 a0)), (1, .d (.lst false 2 a1)), (5, .d (I sa))]
noncomputable def H_ref03_SamePoses_L1 (a0 : List D) (a1 : List D) (sa : (Int)) : List (Nat × Blk) := []
noncomputable def X_ref03_SamePoses_L1 (a0 : List D) (a1 : List D) (e : (Unit) ⊕ (Unit)) : Ex := match e with
  | (.inl e) => .ret
  | (.inr e) => (.exit 0)
noncomputable def XT_ref03_SamePoses_L1 (a0 : List D) (a1 : List D) (e : (Unit) ⊕ (Unit)) : List (Nat × AV) := match e with
  | (.inl e) => [(4, .d (B false))]
  | (.inr e) => []
noncomputable def XH_ref03_SamePoses_L1 (a0 : List D) (a1 : List D) (e : (Unit) ⊕ (Unit)) : List (Nat × Blk) := match e with
  | (.inl e) => []
  | (.inr e) => []
theorem R_ref03_SamePoses_L1 {n : Nat} {a0 : List D} {a1 : List D} (sa : (Int)) (r) (h : F_ref03_SamePoses_L1 n a0 a1 sa = some r) : Rd cx (loopAt cx.P 31 0) 26 0 false (T_ref03_SamePoses_L1 a0 a1) (H_ref03_SamePoses_L1 a0 a1) (X_ref03_SamePoses_L1 a0 a1) (XT_ref03_SamePoses_L1 a0 a1) (XH_ref03_SamePoses_L1 a0 a1) sa r := by
  unfold F_ref03_SamePoses_L1 at h
  by_cases ha1 : sa < ((a0).length : Int)
  · replace h := ite_t h ha1
    obtain ⟨ta2, ha2, h⟩ := bnd_of h
    obtain ⟨ta3, ha3, h⟩ := bnd_of h
    by_cases ha4 : ((ta2.1 == ta3.1) && ((ta2.2 == ta3.2) && true)) = true
    · replace h := ite_t h ha4
      obtain ⟨ha5, h⟩ := grd_of h
      replace h := Option.some.inj h
      subst h
      exact ⟨100, 7, [.br true, .el (enc_Ai2Z ta2), .el (enc_Ai2Z ta3), .br false], [], [0, 1, 5], [], round_fr (allC ha5 (allC (notf ha4) (allC (el_ok un_Ai2Z_ok ha3).1 (allC (el_ok un_Ai2Z_ok ha3).2 (allC (el_ok un_Ai2Z_ok ha2).1 (allC (el_ok un_Ai2Z_ok ha2).2 (allC (decide_eq_true ha1) allN))))))) (by kernel_rfl)⟩
    · replace h := ite_f h ha4
      replace h := Option.some.inj h
      subst h
      exact ⟨⟨100, 7, [.br true, .el (enc_Ai2Z ta2), .el (enc_Ai2Z ta3), .br true], [], [4], [], round_fr (allC (nott (bfalse ha4)) (allC (el_ok un_Ai2Z_ok ha3).1 (allC (el_ok un_Ai2Z_ok ha3).2 (allC (el_ok un_Ai2Z_ok ha2).1 (allC (el_ok un_Ai2Z_ok ha2).2 (allC (decide_eq_true ha1) allN)))))) (by kernel_rfl)⟩, nofun⟩
  · replace h := ite_f h ha1
    replace h := Option.some.inj h
    subst h
    exact ⟨⟨100, 7, [.br false], [], [], [], round_fr (allC (decide_eq_false ha1) allN) (by kernel_rfl)⟩, nofun⟩
/- spillage/spillageref03.SamePoses: .lst false 2 a0, .lst false 2 a1 -/
def F_ref03_SamePoses (n : Nat) (a0 : List D) (a1 : List D) : Option (Bool) :=
  if ((a0).length : Int) = ((a1).length : Int) then
    (loopF (F_ref03_SamePoses_L1 n a0 a1) n 0).bind fun t2 => match t2 with
      | (.inl t2) => (
        some false)
      | (.inr t2) => (
        some true)
  else
  some false
theorem c_ref03_SamePoses {n : Nat} {a0 : List D} {a1 : List D} {r : Bool} (h : F_ref03_SamePoses n a0 a1 = some r) : Computes cx 31 [.lst false 2 a0, .lst false 2 a1] (B r) := by
  unfold F_ref03_SamePoses at h
  by_cases h1 : ((a0).length : Int) = ((a1).length : Int)
  · replace h := ite_t h h1
    obtain ⟨t2, h2, h⟩ := bnd_of h
    rcases t2 with t2 | t2
    · replace h := Option.some.inj h
      subst h
      exact run_fr (n := 100) (orc := [.br false, .lp [] [0, 1, 5] [] .ret [(4, .d (B false))] [] 34]) (allC (loopF_to R_ref03_SamePoses_L1 h2) (allC (nef h1) allN)) (by kernel_rfl)
    · replace h := Option.some.inj h
      subst h
      exact run_fr (n := 100) (orc := [.br false, .lp [] [0, 1, 5] [] (.exit 0) [] [] 34]) (allC (loopF_to R_ref03_SamePoses_L1 h2) (allC (nef h1) allN)) (by kernel_rfl)
  · replace h := ite_f h h1
    replace h := Option.some.inj h
    subst h
    exact run_fr (n := 100) (orc := [.br true]) (allC (net h1) allN) (by kernel_rfl)
def F_ref01_SameSpans_L1 (n : Nat) (a0 : List D) (a1 : List D) (sa : (Int)) : Option (((Int)) ⊕ ((Unit) ⊕ (Unit))) :=
  if sa < ((a0).length : Int) then
    (el un_Ai2Z a0 sa).bind fun ta2 =>
    (el un_Ai2Z a1 sa).bind fun ta3 =>
    if ((ta2.1 == ta3.1) && ((ta2.2 == ta3.2) && true)) = true then
      if inI64 (sa + 1) then
      some (.inl (sa + 1))
      else none
    else
    some (.inr (.inl ()))
  else
  some (.inr (.inr ()))
noncomputable def T_ref01_SameSpans_L1 (a0 : List D) (a1 : List D) (sa : (Int)) : List (Nat × AV) := [(0, .d (.lst false 2 a0)), (1, .d (.lst false 2 a1)), (5, .d (I sa))]
noncomputable def H_ref01_SameSpans_L1 (a0 : List D) (a1 : List D) (sa : (Int)) : List (Nat × Blk) := []
noncomputable def X_ref01_SameSpans_L1 (a0 : List D) (a1 : List D) (e : (Unit) ⊕ (Unit)) : Ex := match e with
  | (.inl e) => .ret
  | (.inr e) => (.exit 0)
noncomputable def XT_ref01_SameSpans_L1 (a0 : List D) (a1 : List D) (e : (Unit) ⊕ (Unit)) : List (Nat × AV) := match e with
  | (.inl e) => [(4, .d (B false))]
  | (.inr e) => []
noncomputable def XH_ref01_SameSpans_L1 (a0 : List D) (a1 : List D) (e : (Unit) ⊕ (Unit)) : List (Nat × Blk) := match e with
  | (.inl e) => []
  | (.inr e) => []
theorem R_ref01_SameSpans_L1 {n : Nat} {a0 : List D} {a1 : List D} (sa : (Int)) (r) (h : F_ref01_SameSpans_L1 n a0 a1 sa = some r) : Rd cx (loopAt cx.P 32 0) 26 0 false (T_ref01_SameSpans_L1 a0 a1) (H_ref01_SameSpans_L1 a0 a1) (X_ref01_SameSpans_L1 a0 a1) (XT_ref01_SameSpans_L1 a0 a1) (XH_ref01_SameSpans_L1 a0 a1) sa r := by
  unfold F_ref01_SameSpans_L1 at h
  by_cases ha1 : sa < ((a0).length : Int)
  · replace h := ite_t h ha1
    obtain ⟨ta2, ha2, h⟩ := bnd_of h
    obtain ⟨ta3, ha3, h⟩ := bnd_of h
    by_cases ha4 : ((ta2.1 == ta3.1) && ((ta2.2 == ta3.2) && true)) = true
    · replace h := ite_t h ha4
      obtain ⟨ha5, h⟩ := grd_of h
      replace h := Option.some.inj h
      subst h
      exact ⟨100, 7, [.br true, .el (enc_Ai2Z ta2), .el (enc_Ai2Z ta3), .br false], [], [0, 1, 5], [], round_fr (allC ha5 (allC (notf ha4) (allC (el_ok un_Ai2Z_ok ha3).1 (allC (el_ok un_Ai2Z_ok ha3).2 (allC (el_ok un_Ai2Z_ok ha2).1 (allC (el_ok un_Ai2Z_ok ha2).2 (allC (decide_eq_true ha1) allN))))))) (by kernel_rfl)⟩
    · replace h := ite_f h ha4
      replace h := Option.some.inj h
      subst h
      exact ⟨⟨100, 7, [.br true, .el (enc_Ai2Z ta2), .el (enc_Ai2Z ta3), .br true], [], [4], [], round_fr (allC (nott (bfalse ha4)) (allC (el_ok un_Ai2Z_ok ha3).1 (allC (el_ok un_Ai2Z_ok ha3).2 (allC (el_ok un_Ai2Z_ok ha2).1 (allC (el_ok un_Ai2Z_ok ha2).2 (allC (decide_eq_true ha1) allN)))))) (by kernel_rfl)⟩, nofun⟩
  · replace h := ite_f h ha1
    replace h := Option.some.inj h
    subst h
    exact ⟨⟨100, 7, [.br false], [], [], [], round_fr (allC (decide_eq_false ha1) allN) (by kernel_rfl)⟩, nofun⟩
/- spillage/spillageref01.SameSpans: .lst false 2 a0, .lst false 2 a1 -/
def F_ref01_SameSpans (n : Nat) (a0 : List D) (a1 : List D) : Option (Bool) :=
  if ((a0).length : Int) = ((a1).length : Int) then
    (loopF (F_ref01_SameSpans_L1 n a0 a1) n 0).bind fun t2 => match t2 with
      | (.inl t2) => (
        some false)
      | (.inr t2) => (
        some true)
  else
  some false
theorem c_ref01_SameSpans {n : Nat} {a0 : List D} {a1 : List D} {r : Bool} (h : F_ref01_SameSpans n a0 a1 = some r) : Computes cx 32 [.lst false 2 a0, .lst false 2 a1] (B r) := by
  unfold F_ref01_SameSpans at h
  by_cases h1 : ((a0).length : Int) = ((a1).length : Int)
  · replace h := ite_t h h1
    obtain ⟨t2, h2, h⟩ := bnd_of h
    rcases t2 with t2 | t2
    · replace h := Option.some.inj h
      subst h
      exact run_fr (n := 100) (orc := [.br false, .lp [] [0, 1, 5] [] .ret [(4, .d (B false))] [] 34]) (allC (loopF_to R_ref01_SameSpans_L1 h2) (allC (nef h1) allN)) (by kernel_rfl)
    · replace h := Option.some.inj h
      subst h
      exact run_fr (n := 100) (orc := [.br false, .lp [] [0, 1, 5] [] (.exit 0) [] [] 34]) (allC (loopF_to R_ref01_SameSpans_L1 h2) (allC (nef h1) allN)) (by kernel_rfl)
  · replace h := ite_f h h1
    replace h := Option.some.inj h
    subst h
    exact run_fr (n := 100) (orc := [.br true]) (allC (net h1) allN) (by kernel_rfl)
theorem e_law03_awake_0 (t1 : Int × Int × Int) (t2 : Int × Int × Int × Int) (t3 : Int × Int × Int × List D × Int) (t4 : List D × Int) (t5 : List D) (t6 : List D × Int) (t7 : List D × Int) (t8 : Int × Int) (t9 : Int × Int × Int) (t19 : Bool) (t21 : List D) (t22 : List D) (t23 : Bool) (t25 : List D) (t26 : Bool) (t28 : List D) (t29 : Bool) (t33 : Int × Int) (t34 : Int × Int) (t35 : Int × Int × Int) (t36 : List D × Int) (t37 : Int × Int × Int) (t38 : Int × Int × Int) (t39 : Int × Int × Int) (t40 : List D × Int) (t41 : ByteArray × Int) (t54 : Bool) (t60 : Bool) : runFn true 100 cx 6 [] [.ret (.agg [I t1.1, I t1.2.1, I t1.2.2]), .ret (.tup [.agg [I t2.1, I t2.2.1, I t2.2.2.1], I t2.2.2.2]), .ret (.agg [I t1.1, I t1.2.1, I t1.2.2]), .ret (.tup [.agg [I t3.1, I t3.2.1, I t3.2.2.1], .lst false 1 t3.2.2.2.1, I t3.2.2.2.2]), .ret (.tup [.lst false 3 t4.1, I t4.2]), .ret (.lst false 3 t5), .ret (.tup [.lst false 3 t6.1, I t6.2]), .ret (.lst false 3 t5), .ret (.tup [.lst false 3 t7.1, I t7.2]), .ret (.lst false 3 t5), .ret (.tup [I t8.1, I t8.2]), .ret (.lst false 3 t5), .ret (.tup [.agg [I t9.1, I t9.2.1], I t9.2.2]), .br false, .br false, .br false, .ret (B t19), .br false, .ret (.lst false 3 t21), .ret (.lst false 3 t5), .ret (.lst false 3 t22), .ret (B t23), .br false, .ret (.lst false 3 t25), .ret (B t26), .br false, .ret (.lst false 3 t28), .ret (B t29), .br false, .br false, .br false, .ret (.agg [I t1.1, I t1.2.1, I t1.2.2]), .ret (.lst false 3 t5), .ret (.tup [I t33.1, I t33.2]), .ret (.agg [I t1.1, I t1.2.1, I t1.2.2]), .ret (.lst false 3 t5), .ret (.tup [I t34.1, I t34.2]), .ret (.agg [I t1.1, I t1.2.1, I t1.2.2]), .ret (.lst false 3 t5), .ret (.tup [.agg [I t35.1, I t35.2.1], I t35.2.2]), .ret (.tup [.lst false 2 t36.1, I t36.2]), .ret (.tup [I t37.1, I t37.2.1, I t37.2.2]), .ret (.tup [I t38.1, I t38.2.1, I t38.2.2]), .ret (.tup [I t39.1, I t39.2.1, I t39.2.2]), .ret (.tup [.lst false 2 t40.1, I t40.2]), .ret (.lst false 3 t5), .ret (.tup [.v (.string t41.1), I t41.2]), .br true, .br true, .br true, .br true, .br true, .ret (B t54), .br true, .br true, .br true, .br true, .br true, .ret (B t60), .br true] = some (B (t41.1.toList == (⟨#[98, 97, 110, 100, 32, 53, 32, 49, 48, 48, 32, 49, 48, 50, 10]⟩ : ByteArray).toList), [t60 = true, Computes cx 32 [.lst false 2 t40.1, .lst true 2 [.agg [I 1, I 3]]] (B t60), (t38.2.1 == (-1)) = true, (t38.1 == 13) = true, (t37.2.1 == 1) = true, (t37.1 == 12) = true, t54 = true, Computes cx 31 [.lst false 2 t36.1, .lst true 2 [.agg [I 0, I 0], .agg [I 2, I (-2)], .agg [I 4, I (-2)], .agg [I 5, I (-2)]]] (B t54), ((t35.1 == 125) && ((t35.2.1 == 127) && true)) = true, (t34.1 == 3) = true, (t33.1 == 11) = true, (t39.2.2 == 7) = true, ((((((((t33.2 + t34.2) + t35.2.2) + t36.2) + t37.2.2) + t38.2.2) + t40.2) + t41.2) == 0) = true, inI64 (((((((t33.2 + t34.2) + t35.2.2) + t36.2) + t37.2.2) + t38.2.2) + t40.2) + t41.2), inI64 ((((((t33.2 + t34.2) + t35.2.2) + t36.2) + t37.2.2) + t38.2.2) + t40.2), inI64 (((((t33.2 + t34.2) + t35.2.2) + t36.2) + t37.2.2) + t38.2.2), inI64 ((((t33.2 + t34.2) + t35.2.2) + t36.2) + t37.2.2), inI64 (((t33.2 + t34.2) + t35.2.2) + t36.2), inI64 ((t33.2 + t34.2) + t35.2.2), inI64 (t33.2 + t34.2), Computes cx 7 [.lst false 3 t5] (.tup [.v (.string t41.1), I t41.2]), Computes cx 21 [] (.lst false 3 t5), Computes cx 30 [.lst true 1 [.v (.float .f32 1065353216), .v (.float .f32 1084227584), .v (.float .f32 1086324736), .v (.float .f32 1073741824), .v (.float .f32 1088421888)], .v (.float .f32 1082130432), I 2] (.tup [.lst false 2 t40.1, I t40.2]), Computes cx 29 [.agg [I 10, I 50, I 12], I 1] (.tup [I t39.1, I t39.2.1, I t39.2.2]), Computes cx 29 [.agg [I 10, I 13, I 16], I 5] (.tup [I t38.1, I t38.2.1, I t38.2.2]), Computes cx 29 [.agg [I 10, I 50, I 12], I 5] (.tup [I t37.1, I t37.2.1, I t37.2.2]), Computes cx 28 [.agg [I 0, I 0], .agg [I 5, I (-2)], .agg [I 2, I 2]] (.tup [.lst false 2 t36.1, I t36.2]), Computes cx 27 [.agg [I t1.1, I t1.2.1, I t1.2.2], .agg [I 5, I 5, I 5], .lst false 3 t5, .agg [I 110, I 130], I 5] (.tup [.agg [I t35.1, I t35.2.1], I t35.2.2]), Computes cx 21 [] (.lst false 3 t5), Computes cx 17 [] (.agg [I t1.1, I t1.2.1, I t1.2.2]), Computes cx 26 [.agg [I t1.1, I t1.2.1, I t1.2.2], .agg [I 5, I 5, I 5], .lst false 3 t5, .agg [I 115, I 118]] (.tup [I t34.1, I t34.2]), Computes cx 21 [] (.lst false 3 t5), Computes cx 17 [] (.agg [I t1.1, I t1.2.1, I t1.2.2]), Computes cx 26 [.agg [I t1.1, I t1.2.1, I t1.2.2], .agg [I 5, I 5, I 5], .lst false 3 t5, .agg [I 140, I 143]] (.tup [I t33.1, I t33.2]), Computes cx 21 [] (.lst false 3 t5), Computes cx 17 [] (.agg [I t1.1, I t1.2.1, I t1.2.2]), (!((t9.1 == 120) && ((t9.2.1 == 127) && true))) = false, (t8.1 != 3) = false, (!t29) = false, Computes cx 13 [.lst false 3 t28, .lst true 3 [.agg [I 5, I 99, I 104]]] (B t29), Computes cx 14 [.lst false 3 t7.1] (.lst false 3 t28), (!t26) = false, Computes cx 13 [.lst false 3 t25, .lst true 3 [.agg [I 5, I 101, I 102]]] (B t26), Computes cx 14 [.lst false 3 t6.1] (.lst false 3 t25), (!t23) = false, Computes cx 13 [.lst false 3 t21, .lst false 3 t22] (B t23), Computes cx 14 [.lst false 3 t5] (.lst false 3 t22), Computes cx 21 [] (.lst false 3 t5), Computes cx 14 [.lst false 3 t4.1] (.lst false 3 t21), (!t19) = false, Computes cx 25 [.lst false 1 t3.2.2.2.1, .lst true 1 [I (-25), I 3]] (B t19), (!((t3.1 == (-17)) && (((t3.2.1 == (-20)) && ((t3.2.2.1 == (-20)) && true)) && true))) = false, (!((t2.1 == 2) && (((t2.2.1 == 2) && ((t2.2.2.1 == 2) && true)) && true))) = false, (((((((t2.2.2.2 + t3.2.2.2.2) + t4.2) + t6.2) + t7.2) + t8.2) + t9.2.2) != 0) = false, inI64 ((((((t2.2.2.2 + t3.2.2.2.2) + t4.2) + t6.2) + t7.2) + t8.2) + t9.2.2), inI64 (((((t2.2.2.2 + t3.2.2.2.2) + t4.2) + t6.2) + t7.2) + t8.2), inI64 ((((t2.2.2.2 + t3.2.2.2.2) + t4.2) + t6.2) + t7.2), inI64 (((t2.2.2.2 + t3.2.2.2.2) + t4.2) + t6.2), inI64 ((t2.2.2.2 + t3.2.2.2.2) + t4.2), inI64 (t2.2.2.2 + t3.2.2.2.2), Computes cx 24 [.lst false 3 t5, .agg [I 4, I 5]] (.tup [.agg [I t9.1, I t9.2.1], I t9.2.2]), Computes cx 21 [] (.lst false 3 t5), Computes cx 23 [.lst false 3 t5] (.tup [I t8.1, I t8.2]), Computes cx 21 [] (.lst false 3 t5), Computes cx 22 [.lst false 3 t5, .agg [I (-1), I 2]] (.tup [.lst false 3 t7.1, I t7.2]), Computes cx 21 [] (.lst false 3 t5), Computes cx 20 [.lst false 3 t5, .agg [I 4, I 121, I 130]] (.tup [.lst false 3 t6.1, I t6.2]), Computes cx 21 [] (.lst false 3 t5), Computes cx 19 [.lst true 3 [.agg [I 0, I 100, I 104], .agg [I 10, I 150, I 152]], .agg [I 4, I 6]] (.tup [.lst false 3 t4.1, I t4.2]), Computes cx 18 [.agg [I t1.1, I t1.2.1, I t1.2.2], .agg [I 5, I 2, I 5]] (.tup [.agg [I t3.1, I t3.2.1, I t3.2.2.1], .lst false 1 t3.2.2.2.1, I t3.2.2.2.2]), Computes cx 17 [] (.agg [I t1.1, I t1.2.1, I t1.2.2]), Computes cx 16 [.agg [I t1.1, I t1.2.1, I t1.2.2], .agg [I 5, I 2, I 5], .lst true 1 [I 2, I (-1), I (-4)]] (.tup [.agg [I t2.1, I t2.2.1, I t2.2.2.1], I t2.2.2.2]), Computes cx 17 [] (.agg [I t1.1, I t1.2.1, I t1.2.2])]) := by kernel_rfl
/- spillage/spillagelaw03.awake:  -/
def F_law03_awake (n : Nat)  : Option (Bool) :=
  (F_law03_axis n).bind fun t1 =>
  (F_drive_Moved n t1.1 t1.2.1 t1.2.2 5 2 5 ([I 2, I (-1), I (-4)])).bind fun t2 =>
  (F_drive_Referenced n t1.1 t1.2.1 t1.2.2 5 2 5).bind fun t3 =>
  (F_drive_Fitted_2 n ([.agg [I 0, I 100, I 104], .agg [I 10, I 150, I 152]]) 4 6).bind fun t4 =>
  (F_law03_model n).bind fun t5 =>
  (F_drive_Refined n t5 4 121 130).bind fun t6 =>
  (F_drive_Drifted n t5 (-1) 2).bind fun t7 =>
  (F_drive_Pairs n t5).bind fun t8 =>
  (F_drive_Within n t5 4 5).bind fun t9 =>
  if inI64 (t2.2.2.2 + t3.2.2.2.2) then
  if inI64 ((t2.2.2.2 + t3.2.2.2.2) + t4.2) then
  if inI64 (((t2.2.2.2 + t3.2.2.2.2) + t4.2) + t6.2) then
  if inI64 ((((t2.2.2.2 + t3.2.2.2.2) + t4.2) + t6.2) + t7.2) then
  if inI64 (((((t2.2.2.2 + t3.2.2.2.2) + t4.2) + t6.2) + t7.2) + t8.2) then
  if inI64 ((((((t2.2.2.2 + t3.2.2.2.2) + t4.2) + t6.2) + t7.2) + t8.2) + t9.2.2) then
  if ((((((t2.2.2.2 + t3.2.2.2.2) + t4.2) + t6.2) + t7.2) + t8.2) + t9.2.2) = 0 then
    if ((t2.1 == 2) && (((t2.2.1 == 2) && ((t2.2.2.1 == 2) && true)) && true)) = true then
      if ((t3.1 == (-17)) && (((t3.2.1 == (-20)) && ((t3.2.2.1 == (-20)) && true)) && true)) = true then
        (F_ref01_SameInts n t3.2.2.2.1 ([I (-25), I 3])).bind fun t19 =>
        if t19 = true then
          (F_law03_bands n t4.1).bind fun t21 =>
          (F_law03_bands n t5).bind fun t22 =>
          (F_ref03_SameModel n t21 t22).bind fun t23 =>
          if t23 = true then
            (F_law03_bands n t6.1).bind fun t25 =>
            (F_ref03_SameModel n t25 ([.agg [I 5, I 101, I 102]])).bind fun t26 =>
            if t26 = true then
              (F_law03_bands n t7.1).bind fun t28 =>
              (F_ref03_SameModel n t28 ([.agg [I 5, I 99, I 104]])).bind fun t29 =>
              if t29 = true then
                if t8.1 = 3 then
                  if ((t9.1 == 120) && ((t9.2.1 == 127) && true)) = true then
                    (F_drive_Inverted n t1.1 t1.2.1 t1.2.2 5 5 5 t5 140 143).bind fun t33 =>
                    (F_drive_Inverted n t1.1 t1.2.1 t1.2.2 5 5 5 t5 115 118).bind fun t34 =>
                    (F_drive_CheckInverted n t1.1 t1.2.1 t1.2.2 5 5 5 t5 110 130 5).bind fun t35 =>
                    (F_drive_Track_2 n 0 0 5 (-2) 2 2).bind fun t36 =>
                    (F_drive_Voted_2 n 10 50 12 5).bind fun t37 =>
                    (F_drive_Voted_2 n 10 13 16 5).bind fun t38 =>
                    (F_drive_Voted_2 n 10 50 12 1).bind fun t39 =>
                    (F_drive_Overloads_2 n ([.v (.float .f32 1065353216), .v (.float .f32 1084227584), .v (.float .f32 1086324736), .v (.float .f32 1073741824), .v (.float .f32 1088421888)]) 1082130432 2).bind fun t40 =>
                    (F_drive_Print n t5).bind fun t41 =>
                    if inI64 (t33.2 + t34.2) then
                    if inI64 ((t33.2 + t34.2) + t35.2.2) then
                    if inI64 (((t33.2 + t34.2) + t35.2.2) + t36.2) then
                    if inI64 ((((t33.2 + t34.2) + t35.2.2) + t36.2) + t37.2.2) then
                    if inI64 (((((t33.2 + t34.2) + t35.2.2) + t36.2) + t37.2.2) + t38.2.2) then
                    if inI64 ((((((t33.2 + t34.2) + t35.2.2) + t36.2) + t37.2.2) + t38.2.2) + t40.2) then
                    if inI64 (((((((t33.2 + t34.2) + t35.2.2) + t36.2) + t37.2.2) + t38.2.2) + t40.2) + t41.2) then
                    if (((((((t33.2 + t34.2) + t35.2.2) + t36.2) + t37.2.2) + t38.2.2) + t40.2) + t41.2) = 0 then
                      if t39.2.2 = 7 then
                        if t33.1 = 11 then
                          if t34.1 = 3 then
                            if ((t35.1 == 125) && ((t35.2.1 == 127) && true)) = true then
                              (F_ref03_SamePoses n t36.1 ([.agg [I 0, I 0], .agg [I 2, I (-2)], .agg [I 4, I (-2)], .agg [I 5, I (-2)]])).bind fun t54 =>
                              if t54 = true then
                                if t37.1 = 12 then
                                  if t37.2.1 = 1 then
                                    if t38.1 = 13 then
                                      if t38.2.1 = (-1) then
                                        (F_ref01_SameSpans n t40.1 ([.agg [I 1, I 3]])).bind fun t60 =>
                                        if t60 = true then
                                          some (t41.1.toList == (⟨#[98, 97, 110, 100, 32, 53, 32, 49, 48, 48, 32, 49, 48, 50, 10]⟩ : ByteArray).toList)
                                        else
                                        none /- false -/
                                      else
                                      none /- false -/
                                    else
                                    none /- false -/
                                  else
                                  none /- false -/
                                else
                                none /- false -/
                              else
                              none /- false -/
                            else
                            none /- false -/
                          else
                          none /- false -/
                        else
                        none /- false -/
                      else
                      none /- false -/
                    else
                    none /- false -/
                    else none
                    else none
                    else none
                    else none
                    else none
                    else none
                    else none
                  else
                  none /- false -/
                else
                none /- false -/
              else
              none /- false -/
            else
            none /- false -/
          else
          none /- false -/
        else
        none /- false -/
      else
      none /- false -/
    else
    none /- false -/
  else
  none /- false -/
  else none
  else none
  else none
  else none
  else none
  else none
theorem c_law03_awake {n : Nat}  {r : Bool} (h : F_law03_awake n  = some r) : Computes cx 6 [] (B r) := by
  unfold F_law03_awake at h
  obtain ⟨t1, h1, h⟩ := bnd_of h
  obtain ⟨t2, h2, h⟩ := bnd_of h
  obtain ⟨t3, h3, h⟩ := bnd_of h
  obtain ⟨t4, h4, h⟩ := bnd_of h
  obtain ⟨t5, h5, h⟩ := bnd_of h
  obtain ⟨t6, h6, h⟩ := bnd_of h
  obtain ⟨t7, h7, h⟩ := bnd_of h
  obtain ⟨t8, h8, h⟩ := bnd_of h
  obtain ⟨t9, h9, h⟩ := bnd_of h
  obtain ⟨h10, h⟩ := grd_of h
  obtain ⟨h11, h⟩ := grd_of h
  obtain ⟨h12, h⟩ := grd_of h
  obtain ⟨h13, h⟩ := grd_of h
  obtain ⟨h14, h⟩ := grd_of h
  obtain ⟨h15, h⟩ := grd_of h
  by_cases h16 : ((((((t2.2.2.2 + t3.2.2.2.2) + t4.2) + t6.2) + t7.2) + t8.2) + t9.2.2) = 0
  · replace h := ite_t h h16
    by_cases h17 : ((t2.1 == 2) && (((t2.2.1 == 2) && ((t2.2.2.1 == 2) && true)) && true)) = true
    · replace h := ite_t h h17
      by_cases h18 : ((t3.1 == (-17)) && (((t3.2.1 == (-20)) && ((t3.2.2.1 == (-20)) && true)) && true)) = true
      · replace h := ite_t h h18
        obtain ⟨t19, h19, h⟩ := bnd_of h
        by_cases h20 : t19 = true
        · replace h := ite_t h h20
          obtain ⟨t21, h21, h⟩ := bnd_of h
          obtain ⟨t22, h22, h⟩ := bnd_of h
          obtain ⟨t23, h23, h⟩ := bnd_of h
          by_cases h24 : t23 = true
          · replace h := ite_t h h24
            obtain ⟨t25, h25, h⟩ := bnd_of h
            obtain ⟨t26, h26, h⟩ := bnd_of h
            by_cases h27 : t26 = true
            · replace h := ite_t h h27
              obtain ⟨t28, h28, h⟩ := bnd_of h
              obtain ⟨t29, h29, h⟩ := bnd_of h
              by_cases h30 : t29 = true
              · replace h := ite_t h h30
                by_cases h31 : t8.1 = 3
                · replace h := ite_t h h31
                  by_cases h32 : ((t9.1 == 120) && ((t9.2.1 == 127) && true)) = true
                  · replace h := ite_t h h32
                    obtain ⟨t33, h33, h⟩ := bnd_of h
                    obtain ⟨t34, h34, h⟩ := bnd_of h
                    obtain ⟨t35, h35, h⟩ := bnd_of h
                    obtain ⟨t36, h36, h⟩ := bnd_of h
                    obtain ⟨t37, h37, h⟩ := bnd_of h
                    obtain ⟨t38, h38, h⟩ := bnd_of h
                    obtain ⟨t39, h39, h⟩ := bnd_of h
                    obtain ⟨t40, h40, h⟩ := bnd_of h
                    obtain ⟨t41, h41, h⟩ := bnd_of h
                    obtain ⟨h42, h⟩ := grd_of h
                    obtain ⟨h43, h⟩ := grd_of h
                    obtain ⟨h44, h⟩ := grd_of h
                    obtain ⟨h45, h⟩ := grd_of h
                    obtain ⟨h46, h⟩ := grd_of h
                    obtain ⟨h47, h⟩ := grd_of h
                    obtain ⟨h48, h⟩ := grd_of h
                    by_cases h49 : (((((((t33.2 + t34.2) + t35.2.2) + t36.2) + t37.2.2) + t38.2.2) + t40.2) + t41.2) = 0
                    · replace h := ite_t h h49
                      by_cases h50 : t39.2.2 = 7
                      · replace h := ite_t h h50
                        by_cases h51 : t33.1 = 11
                        · replace h := ite_t h h51
                          by_cases h52 : t34.1 = 3
                          · replace h := ite_t h h52
                            by_cases h53 : ((t35.1 == 125) && ((t35.2.1 == 127) && true)) = true
                            · replace h := ite_t h h53
                              obtain ⟨t54, h54, h⟩ := bnd_of h
                              by_cases h55 : t54 = true
                              · replace h := ite_t h h55
                                by_cases h56 : t37.1 = 12
                                · replace h := ite_t h h56
                                  by_cases h57 : t37.2.1 = 1
                                  · replace h := ite_t h h57
                                    by_cases h58 : t38.1 = 13
                                    · replace h := ite_t h h58
                                      by_cases h59 : t38.2.1 = (-1)
                                      · replace h := ite_t h h59
                                        obtain ⟨t60, h60, h⟩ := bnd_of h
                                        by_cases h61 : t60 = true
                                        · replace h := ite_t h h61
                                          replace h := Option.some.inj h
                                          subst h
                                          exact run (e_law03_awake_0 t1 t2 t3 t4 t5 t6 t7 t8 t9 t19 t21 t22 t23 t25 t26 t28 t29 t33 t34 t35 t36 t37 t38 t39 t40 t41 t54 t60) ⟨h61, ((c_ref01_SameSpans h60).le (.cons (.refl _) (.cons (.full _ _ _) (.nil))) (.refl _)), (eqt h59), (eqt h58), (eqt h57), (eqt h56), h55, ((c_ref03_SamePoses h54).le (.cons (.refl _) (.cons (.full _ _ _) (.nil))) (.refl _)), h53, (eqt h52), (eqt h51), (eqt h50), (eqt h49), h48, h47, h46, h45, h44, h43, h42, (c_drive_Print h41), (c_law03_model h5), ((c_drive_Overloads_2 h40).le (.cons (.full _ _ _) (.cons (.refl _) (.cons (.refl _) (.nil)))) (.refl _)), (c_drive_Voted_2 h39), (c_drive_Voted_2 h38), (c_drive_Voted_2 h37), (c_drive_Track_2 h36), (c_drive_CheckInverted h35), (c_law03_model h5), (c_law03_axis h1), (c_drive_Inverted h34), (c_law03_model h5), (c_law03_axis h1), (c_drive_Inverted h33), (c_law03_model h5), (c_law03_axis h1), (notf h32), (nef h31), (notf h30), ((c_ref03_SameModel h29).le (.cons (.refl _) (.cons (.full _ _ _) (.nil))) (.refl _)), (c_law03_bands h28), (notf h27), ((c_ref03_SameModel h26).le (.cons (.refl _) (.cons (.full _ _ _) (.nil))) (.refl _)), (c_law03_bands h25), (notf h24), (c_ref03_SameModel h23), (c_law03_bands h22), (c_law03_model h5), (c_law03_bands h21), (notf h20), ((c_ref01_SameInts h19).le (.cons (.refl _) (.cons (.full _ _ _) (.nil))) (.refl _)), (notf h18), (notf h17), (nef h16), h15, h14, h13, h12, h11, h10, (c_drive_Within h9), (c_law03_model h5), (c_drive_Pairs h8), (c_law03_model h5), (c_drive_Drifted h7), (c_law03_model h5), (c_drive_Refined h6), (c_law03_model h5), ((c_drive_Fitted_2 h4).le (.cons (.full _ _ _) (.cons (.refl _) (.nil))) (.refl _)), (c_drive_Referenced h3), (c_law03_axis h1), ((c_drive_Moved h2).le (.cons (.refl _) (.cons (.refl _) (.cons (.full _ _ _) (.nil)))) (.refl _)), (c_law03_axis h1), trivial⟩
                                        · replace h := ite_f h h61
                                          cases h
                                      · replace h := ite_f h h59
                                        cases h
                                    · replace h := ite_f h h58
                                      cases h
                                  · replace h := ite_f h h57
                                    cases h
                                · replace h := ite_f h h56
                                  cases h
                              · replace h := ite_f h h55
                                cases h
                            · replace h := ite_f h h53
                              cases h
                          · replace h := ite_f h h52
                            cases h
                        · replace h := ite_f h h51
                          cases h
                      · replace h := ite_f h h50
                        cases h
                    · replace h := ite_f h h49
                      cases h
                  · replace h := ite_f h h32
                    cases h
                · replace h := ite_f h h31
                  cases h
              · replace h := ite_f h h30
                cases h
            · replace h := ite_f h h27
              cases h
          · replace h := ite_f h h24
            cases h
        · replace h := ite_f h h20
          cases h
      · replace h := ite_f h h18
        cases h
    · replace h := ite_f h h17
      cases h
  · replace h := ite_f h h16
    cases h
/- spillage/spillageref03.ShortModel: .lst false 3 a0 -/
def F_ref03_ShortModel (n : Nat) (a0 : List D) : Option (Bool) :=
  if ((a0).length : Int) ≤ 8 then
    some true
  else
  some (((a0).length : Int) == 65)
theorem c_ref03_ShortModel {n : Nat} {a0 : List D} {r : Bool} (h : F_ref03_ShortModel n a0 = some r) : Computes cx 5 [.lst false 3 a0] (B r) := by
  unfold F_ref03_ShortModel at h
  by_cases h1 : ((a0).length : Int) ≤ 8
  · replace h := ite_t h h1
    replace h := Option.some.inj h
    subst h
    exact run_fr (n := 100) (orc := [.br true]) (allC (decide_eq_true h1) allN) (by kernel_rfl)
  · replace h := ite_f h h1
    replace h := Option.some.inj h
    subst h
    exact run_fr (n := 100) (orc := [.br false]) (allC (decide_eq_false h1) allN) (by kernel_rfl)
def F_law03_given_L1 (n : Nat) (a0 : List D) (sa : (Int × List D)) : Option (((Int × List D)) ⊕ ((List D))) :=
  if sa.1 < ((a0).length : Int) then
    (el un_Ai3Z a0 sa.1).bind fun ta2 =>
    if roomP 24 ((sa.2).length + 1) then
    if inI64 (sa.1 + 1) then
    some (.inl ((sa.1 + 1), (sa.2 ++ ([.agg [I ta2.1, I ta2.2.1, I ta2.2.2]] : List D))))
    else none
    else none
  else
  some (.inr sa.2)
noncomputable def T_law03_given_L1 (a0 : List D) (sa : (Int × List D)) : List (Nat × AV) := [(3, .own 5 0), (6, .d (.lst false 3 a0)), (7, .d (I ((a0).length : Int))), (8, .d (I sa.1))]
noncomputable def H_law03_given_L1 (a0 : List D) (sa : (Int × List D)) : List (Nat × Blk) := [(5, .row 0 3 sa.2)]
noncomputable def X_law03_given_L1 (a0 : List D) (e : (List D)) : Ex := (.exit 0)
noncomputable def XT_law03_given_L1 (a0 : List D) (e : (List D)) : List (Nat × AV) := [(3, .own 5 0)]
noncomputable def XH_law03_given_L1 (a0 : List D) (e : (List D)) : List (Nat × Blk) := [(5, .row 0 3 e)]
theorem R_law03_given_L1 {n : Nat} {a0 : List D} (sa : (Int × List D)) (r) (h : F_law03_given_L1 n a0 sa = some r) : Rd cx (loopAt cx.P 8 0) 18 0 false (T_law03_given_L1 a0) (H_law03_given_L1 a0) (X_law03_given_L1 a0) (XT_law03_given_L1 a0) (XH_law03_given_L1 a0) sa r := by
  unfold F_law03_given_L1 at h
  by_cases ha1 : sa.1 < ((a0).length : Int)
  · replace h := ite_t h ha1
    obtain ⟨ta2, ha2, h⟩ := bnd_of h
    obtain ⟨ha3, h⟩ := grd_of h
    obtain ⟨ha4, h⟩ := grd_of h
    replace h := Option.some.inj h
    subst h
    exact ⟨100, 6, [.br true, .el (enc_Ai3Z ta2), .br true], [], [3, 6, 7, 8], [5], round_fr (allC ha4 (allC ((room_of (b := 24) (by kernel_rfl) (by decide) ha3) : room cx 89 ((sa.2).length + 1)) (allC (el_ok un_Ai3Z_ok ha2).1 (allC (el_ok un_Ai3Z_ok ha2).2 (allC (decide_eq_true ha1) allN))))) (by kernel_rfl)⟩
  · replace h := ite_f h ha1
    replace h := Option.some.inj h
    subst h
    exact ⟨⟨100, 6, [.br false], [], [3], [5], round_fr (allC (decide_eq_false ha1) allN) (by kernel_rfl)⟩, nofun⟩
/- spillage/spillagelaw03.given: .lst false 3 a0 -/
def F_law03_given (n : Nat) (a0 : List D) : Option (List D) :=
  (loopF (F_law03_given_L1 n a0) n (0, [])).bind fun t1 =>
  some t1
theorem c_law03_given {n : Nat} {a0 : List D} {r : List D} (h : F_law03_given n a0 = some r) : Computes cx 8 [.lst false 3 a0] (.lst false 3 r) := by
  unfold F_law03_given at h
  obtain ⟨t1, h1, h⟩ := bnd_of h
  replace h := Option.some.inj h
  subst h
  exact run_fr (n := 100) (orc := [.lp [3, 3] [3, 6, 7, 8] [5] (.exit 0) [(3, .own 5 0)] [(5, .row 0 3 t1)] 29]) (allC (loopF_to R_law03_given_L1 h1) allN) (by kernel_rfl)
/- internal/stringslite.HasSuffix: .v (.string a0), .v (.string ⟨#[10]⟩) -/
def F_stringslite_HasSuffix (n : Nat) (a0 : ByteArray) : Option (Bool) :=
  if (a0.size : Int) ≥ 1 then
    if inI64 ((a0.size : Int) - 1) then
    (strSub a0 (some ((a0.size : Int) - 1)) none).bind fun t3 =>
    some (t3.toList == (⟨#[10]⟩ : ByteArray).toList)
    else none
  else
  some false
theorem c_stringslite_HasSuffix {n : Nat} {a0 : ByteArray} {r : Bool} (h : F_stringslite_HasSuffix n a0 = some r) : Computes cx 101 [.v (.string a0), .v (.string ⟨#[10]⟩)] (B r) := by
  unfold F_stringslite_HasSuffix at h
  by_cases h1 : (a0.size : Int) ≥ 1
  · replace h := ite_t h h1
    obtain ⟨h2, h⟩ := grd_of h
    obtain ⟨t3, h3, h⟩ := bnd_of h
    replace h := Option.some.inj h
    subst h
    exact run_fr (n := 100) (orc := [.br true, .el (.v (.string t3))]) (allC (strSub_ok h3 : pureRun cx.P (Instr.sliceAt 9 (.string a0) (some (.int .i64 ((a0.size : Int) - 1))) none none) = some (.string t3)) (allC h2 (allC (decide_eq_true h1) allN))) (by kernel_rfl)
  · replace h := ite_f h h1
    replace h := Option.some.inj h
    subst h
    exact run_fr (n := 100) (orc := [.br false]) (allC (decide_eq_false h1) allN) (by kernel_rfl)
/- internal/stringslite.CutSuffix: .v (.string a0), .v (.string ⟨#[10]⟩) -/
def F_stringslite_CutSuffix (n : Nat) (a0 : ByteArray) : Option (ByteArray × Bool) :=
  (F_stringslite_HasSuffix n a0).bind fun t1 =>
  if t1 = true then
    if inI64 ((a0.size : Int) - 1) then
    (strSub a0 none (some ((a0.size : Int) - 1))).bind fun t4 =>
    some (t4, true)
    else none
  else
  some (a0, false)
theorem c_stringslite_CutSuffix {n : Nat} {a0 : ByteArray} {r : ByteArray × Bool} (h : F_stringslite_CutSuffix n a0 = some r) : Computes cx 74 [.v (.string a0), .v (.string ⟨#[10]⟩)] (.tup [.v (.string r.1), B r.2]) := by
  unfold F_stringslite_CutSuffix at h
  obtain ⟨t1, h1, h⟩ := bnd_of h
  by_cases h2 : t1 = true
  · replace h := ite_t h h2
    obtain ⟨h3, h⟩ := grd_of h
    obtain ⟨t4, h4, h⟩ := bnd_of h
    replace h := Option.some.inj h
    subst h
    exact run_fr (n := 100) (orc := [.ret (B t1), .br false, .el (.v (.string t4))]) (allC (strSub_ok h4 : pureRun cx.P (Instr.sliceAt 9 (.string a0) none (some (.int .i64 ((a0.size : Int) - 1))) none) = some (.string t4)) (allC h3 (allC (notf h2) (allC (c_stringslite_HasSuffix h1) allN)))) (by kernel_rfl)
  · replace h := ite_f h h2
    replace h := Option.some.inj h
    subst h
    exact run_fr (n := 100) (orc := [.ret (B t1), .br true]) (allC (nott (bfalse h2)) (allC (c_stringslite_HasSuffix h1) allN)) (by kernel_rfl)
/- strings.CutSuffix: .v (.string a0), .v (.string ⟨#[10]⟩) -/
def F_strings_CutSuffix (n : Nat) (a0 : ByteArray) : Option (ByteArray × Bool) :=
  (F_stringslite_CutSuffix n a0).bind fun t1 =>
  some (t1.1, t1.2)
theorem c_strings_CutSuffix {n : Nat} {a0 : ByteArray} {r : ByteArray × Bool} (h : F_strings_CutSuffix n a0 = some r) : Computes cx 38 [.v (.string a0), .v (.string ⟨#[10]⟩)] (.tup [.v (.string r.1), B r.2]) := by
  unfold F_strings_CutSuffix at h
  obtain ⟨t1, h1, h⟩ := bnd_of h
  replace h := Option.some.inj h
  subst h
  exact run_fr (n := 100) (orc := [.ret (.tup [.v (.string t1.1), B t1.2])]) (allC (c_stringslite_CutSuffix h1) allN) (by kernel_rfl)
/- internal/stringslite.Index: .v (.string a0), .v (.string ⟨#[32]⟩) -/
def F_stringslite_Index (n : Nat) (a0 : ByteArray) : Option (Int) :=
  if ((⟨#[32]⟩ : ByteArray).toList == a0.toList) = true then
    some 0
  else
  (F_lite_IndexByte n a0 32).bind fun t2 =>
  some t2
theorem c_stringslite_Index {n : Nat} {a0 : ByteArray} {r : Int} (h : F_stringslite_Index n a0 = some r) : Computes cx 128 [.v (.string a0), .v (.string ⟨#[32]⟩)] (I r) := by
  unfold F_stringslite_Index at h
  by_cases h1 : ((⟨#[32]⟩ : ByteArray).toList == a0.toList) = true
  · replace h := ite_t h h1
    replace h := Option.some.inj h
    subst h
    exact run_fr (n := 100) (orc := [.no, .br true]) (allC h1 allN) (by kernel_rfl)
  · replace h := ite_f h h1
    obtain ⟨t2, h2, h⟩ := bnd_of h
    replace h := Option.some.inj h
    subst h
    exact run_fr (n := 100) (orc := [.no, .br false, .no, .no, .ret (I t2)]) (allC (c_lite_IndexByte h2) (allC (bfalse h1) allN)) (by kernel_rfl)
/- strings.Index: .v (.string a0), .v (.string ⟨#[32]⟩) -/
def F_strings_Index (n : Nat) (a0 : ByteArray) : Option (Int) :=
  (F_stringslite_Index n a0).bind fun t1 =>
  some t1
theorem c_strings_Index {n : Nat} {a0 : ByteArray} {r : Int} (h : F_strings_Index n a0 = some r) : Computes cx 104 [.v (.string a0), .v (.string ⟨#[32]⟩)] (I r) := by
  unfold F_strings_Index at h
  obtain ⟨t1, h1, h⟩ := bnd_of h
  replace h := Option.some.inj h
  subst h
  exact run_fr (n := 100) (orc := [.ret (I t1)]) (allC (c_stringslite_Index h1) allN) (by kernel_rfl)
def F_strings_genSplit_L1 (n : Nat) (a0 : ByteArray) (t1 : Int) (sa : (ByteArray × Int × List D)) : Option (((ByteArray × Int × List D)) ⊕ ((ByteArray × Int × List D))) :=
  if sa.2.1 < ((minI (t1 + 1) ((a0.size : Int) + 1)) - 1) then
    (F_strings_Index n sa.1).bind fun ta2 =>
    if ta2 < 0 then
      some (.inr (sa.1, sa.2.1, sa.2.2))
    else
    if inI64 (ta2 + 0) then
    (strSub sa.1 none (some (ta2 + 0))).bind fun ta5 =>
    if 0 ≤ sa.2.1 ∧ sa.2.1 < ((sa.2.2).length : Int) then
    if (Int.toNat sa.2.1) < (sa.2.2).length then
    if inI64 (ta2 + 1) then
    (strSub sa.1 (some (ta2 + 1)) none).bind fun ta9 =>
    if inI64 (sa.2.1 + 1) then
    some (.inl (ta9, (sa.2.1 + 1), (List.set sa.2.2 (Int.toNat sa.2.1) (.v (.string ta5) : D))))
    else none
    else none
    else none
    else none
    else none
  else
  some (.inr (sa.1, sa.2.1, sa.2.2))
noncomputable def T_strings_genSplit_L1 (a0 : ByteArray) (t1 : Int) (sa : (ByteArray × Int × List D)) : List (Nat × AV) := [(0, .d (.v (.string sa.1))), (1, .d (.v (.string ⟨#[32]⟩))), (2, .d (I 0)), (3, .d (I ((minI (t1 + 1) ((a0.size : Int) + 1)) - 1))), (9, .own 19 0), (10, .d (I sa.2.1))]
noncomputable def H_strings_genSplit_L1 (a0 : ByteArray) (t1 : Int) (sa : (ByteArray × Int × List D)) : List (Nat × Blk) := [(19, .row 0 1 sa.2.2)]
noncomputable def X_strings_genSplit_L1 (a0 : ByteArray) (t1 : Int) (e : (ByteArray × Int × List D)) : Ex := (.exit 0)
noncomputable def XT_strings_genSplit_L1 (a0 : ByteArray) (t1 : Int) (e : (ByteArray × Int × List D)) : List (Nat × AV) := [(0, .d (.v (.string e.1))), (9, .own 19 0), (10, .d (I e.2.1))]
noncomputable def XH_strings_genSplit_L1 (a0 : ByteArray) (t1 : Int) (e : (ByteArray × Int × List D)) : List (Nat × Blk) := [(19, .row 0 1 e.2.2)]
theorem R_strings_genSplit_L1 {n : Nat} {a0 : ByteArray} {t1 : Int} (sa : (ByteArray × Int × List D)) (r) (h : F_strings_genSplit_L1 n a0 t1 sa = some r) : Rd cx (loopAt cx.P 75 0) 66 0 false (T_strings_genSplit_L1 a0 t1) (H_strings_genSplit_L1 a0 t1) (X_strings_genSplit_L1 a0 t1) (XT_strings_genSplit_L1 a0 t1) (XH_strings_genSplit_L1 a0 t1) sa r := by
  unfold F_strings_genSplit_L1 at h
  by_cases ha1 : sa.2.1 < ((minI (t1 + 1) ((a0.size : Int) + 1)) - 1)
  · replace h := ite_t h ha1
    obtain ⟨ta2, ha2, h⟩ := bnd_of h
    by_cases ha3 : ta2 < 0
    · replace h := ite_t h ha3
      replace h := Option.some.inj h
      subst h
      exact ⟨⟨100, 25, [.br true, .ret (I ta2), .br true], [], [0, 9, 10], [19], round_fr (allC (decide_eq_true ha3) (allC (c_strings_Index ha2) (allC (decide_eq_true ha1) allN))) (by kernel_rfl)⟩, nofun⟩
    · replace h := ite_f h ha3
      obtain ⟨ha4, h⟩ := grd_of h
      obtain ⟨ta5, ha5, h⟩ := bnd_of h
      obtain ⟨ha6, h⟩ := grd_of h
      obtain ⟨ha7, h⟩ := grd_of h
      obtain ⟨ha8, h⟩ := grd_of h
      obtain ⟨ta9, ha9, h⟩ := bnd_of h
      obtain ⟨ha10, h⟩ := grd_of h
      replace h := Option.some.inj h
      subst h
      exact ⟨100, 25, [.br true, .ret (I ta2), .br false, .el (.v (.string ta5)), .br true, .br true, .el (.v (.string ta9))], [], [0, 1, 2, 3, 9, 10], [19], round_fr (allC ha10 (allC (strSub_ok ha9 : pureRun cx.P (Instr.sliceAt 9 (.string sa.1) (some (.int .i64 (ta2 + 1))) none none) = some (.string ta9)) (allC ha8 (allC ha7 (allC ha6 (allC (strSub_ok ha5 : pureRun cx.P (Instr.sliceAt 9 (.string sa.1) none (some (.int .i64 (ta2 + 0))) none) = some (.string ta5)) (allC ha4 (allC (decide_eq_false ha3) (allC (c_strings_Index ha2) (allC (decide_eq_true ha1) allN)))))))))) (by kernel_rfl)⟩
  · replace h := ite_f h ha1
    replace h := Option.some.inj h
    subst h
    exact ⟨⟨100, 25, [.br false], [], [0, 9, 10], [19], round_fr (allC (decide_eq_false ha1) allN) (by kernel_rfl)⟩, nofun⟩
/- strings.genSplit: .v (.string a0), .v (.string ⟨#[32]⟩), I 0, I (-1) -/
def F_strings_genSplit (n : Nat) (a0 : ByteArray) : Option (List D) :=
  (F_strings_Count n a0 (⟨#[32]⟩)).bind fun t1 =>
  if inI64 (t1 + 1) then
  if inI64 ((a0.size : Int) + 1) then
  if 0 ≤ (minI (t1 + 1) ((a0.size : Int) + 1)) ∧ (minI (t1 + 1) ((a0.size : Int) + 1)) ≤ (minI (t1 + 1) ((a0.size : Int) + 1)) ∧ 16 * (minI (t1 + 1) ((a0.size : Int) + 1)) ≤ 281474976710656 ∧ (minI (t1 + 1) ((a0.size : Int) + 1)) ≤ 9223372036854775807 then
  if inI64 ((minI (t1 + 1) ((a0.size : Int) + 1)) - 1) then
  (loopF (F_strings_genSplit_L1 n a0 t1) n (a0, 0, (List.replicate (Int.toNat (minI (t1 + 1) ((a0.size : Int) + 1))) (.v (.string ⟨#[]⟩) : D)))).bind fun t6 =>
  if 0 ≤ t6.2.1 ∧ t6.2.1 < ((t6.2.2).length : Int) then
  if (Int.toNat t6.2.1) < (t6.2.2).length then
  if inI64 (t6.2.1 + 1) then
  if (0 : Int) ≤ 0 ∧ 0 ≤ (t6.2.1 + 1) ∧ (t6.2.1 + 1) ≤ (((List.set t6.2.2 (Int.toNat t6.2.1) (.v (.string t6.1) : D)) : List D).length : Int) ∧ ((List.set t6.2.2 (Int.toNat t6.2.1) (.v (.string t6.1) : D)) = [] ∨ 1 = 1) then
  some (((List.set t6.2.2 (Int.toNat t6.2.1) (.v (.string t6.1) : D)).take (Int.toNat (t6.2.1 + 1))).drop (Int.toNat 0))
  else none
  else none
  else none
  else none
  else none
  else none
  else none
  else none
theorem c_strings_genSplit {n : Nat} {a0 : ByteArray} {r : List D} (h : F_strings_genSplit n a0 = some r) : Computes cx 75 [.v (.string a0), .v (.string ⟨#[32]⟩), I 0, I (-1)] (.lst false 1 r) := by
  unfold F_strings_genSplit at h
  obtain ⟨t1, h1, h⟩ := bnd_of h
  obtain ⟨h2, h⟩ := grd_of h
  obtain ⟨h3, h⟩ := grd_of h
  obtain ⟨h4, h⟩ := grd_of h
  obtain ⟨h5, h⟩ := grd_of h
  obtain ⟨t6, h6, h⟩ := bnd_of h
  obtain ⟨h7, h⟩ := grd_of h
  obtain ⟨h8, h⟩ := grd_of h
  obtain ⟨h9, h⟩ := grd_of h
  obtain ⟨h10, h⟩ := grd_of h
  replace h := Option.some.inj h
  subst h
  exact run_fr (n := 100) (orc := [.no, .no, .no, .ret (I t1), .br true, .lp [] [0, 1, 2, 3, 9, 10] [19] (.exit 0) [(0, .d (.v (.string t6.1))), (9, .own 19 0), (10, .d (I t6.2.1))] [(19, .row 0 1 t6.2.2)] 64, .br true, .br true, .br true]) (allC h10 (allC h9 (allC h8 (allC h7 (allC (loopF_to R_strings_genSplit_L1 h6) (allC h5 (allC h4 (allC h3 (allC h2 (allC (c_strings_Count h1) allN)))))))))) (by kernel_rfl)
/- strings.Split: .v (.string a0), .v (.string ⟨#[32]⟩) -/
def F_strings_Split (n : Nat) (a0 : ByteArray) : Option (List D) :=
  (F_strings_genSplit n a0).bind fun t1 =>
  some t1
theorem c_strings_Split {n : Nat} {a0 : ByteArray} {r : List D} (h : F_strings_Split n a0 = some r) : Computes cx 39 [.v (.string a0), .v (.string ⟨#[32]⟩)] (.lst false 1 r) := by
  unfold F_strings_Split at h
  obtain ⟨t1, h1, h⟩ := bnd_of h
  replace h := Option.some.inj h
  subst h
  exact run_fr (n := 100) (orc := [.ret (.lst false 1 t1)]) (allC (c_strings_genSplit h1) allN) (by kernel_rfl)
def enc_s (x : ByteArray) : D := .v (.string x)
def un_s (d : D) : Option (ByteArray) := un_str d
theorem un_s_ok {d : D} {x : ByteArray} (h : un_s d = some x) : d = enc_s x := un_str_ok h
/- spillage/drive.setters:  -/
def F_drive_setters (n : Nat)  : Option (Unit) :=
  some ()
theorem c_drive_setters {n : Nat}  {r : Unit} (h : F_drive_setters n  = some r) : Computes cx 42 [] (.agg [.fn (.func 77) [] [], .fn (.func 78) [] [], .fn (.func 79) [] []]) := by
  unfold F_drive_setters at h
  replace h := Option.some.inj h
  subst h
  exact run_fr (n := 100) (orc := []) allN (by kernel_rfl)
/- internal/stringslite.HasPrefix: .v (.string a0), .v (.string ⟨#[45]⟩) -/
def F_stringslite_HasPrefix_2 (n : Nat) (a0 : ByteArray) : Option (Bool) :=
  if (a0.size : Int) ≥ 1 then
    (strSub a0 none (some 1)).bind fun t2 =>
    some (t2.toList == (⟨#[45]⟩ : ByteArray).toList)
  else
  some false
theorem c_stringslite_HasPrefix_2 {n : Nat} {a0 : ByteArray} {r : Bool} (h : F_stringslite_HasPrefix_2 n a0 = some r) : Computes cx 146 [.v (.string a0), .v (.string ⟨#[45]⟩)] (B r) := by
  unfold F_stringslite_HasPrefix_2 at h
  by_cases h1 : (a0.size : Int) ≥ 1
  · replace h := ite_t h h1
    obtain ⟨t2, h2, h⟩ := bnd_of h
    replace h := Option.some.inj h
    subst h
    exact run_fr (n := 100) (orc := [.br true, .el (.v (.string t2))]) (allC (strSub_ok h2 : pureRun cx.P (Instr.sliceAt 9 (.string a0) none (some (.int .i64 1)) none) = some (.string t2)) (allC (decide_eq_true h1) allN)) (by kernel_rfl)
  · replace h := ite_f h h1
    replace h := Option.some.inj h
    subst h
    exact run_fr (n := 100) (orc := [.br false]) (allC (decide_eq_false h1) allN) (by kernel_rfl)
/- internal/stringslite.CutPrefix: .v (.string a0), .v (.string ⟨#[45]⟩) -/
def F_stringslite_CutPrefix_2 (n : Nat) (a0 : ByteArray) : Option (ByteArray × Bool) :=
  (F_stringslite_HasPrefix_2 n a0).bind fun t1 =>
  if t1 = true then
    (strSub a0 (some 1) none).bind fun t3 =>
    some (t3, true)
  else
  some (a0, false)
theorem c_stringslite_CutPrefix_2 {n : Nat} {a0 : ByteArray} {r : ByteArray × Bool} (h : F_stringslite_CutPrefix_2 n a0 = some r) : Computes cx 129 [.v (.string a0), .v (.string ⟨#[45]⟩)] (.tup [.v (.string r.1), B r.2]) := by
  unfold F_stringslite_CutPrefix_2 at h
  obtain ⟨t1, h1, h⟩ := bnd_of h
  by_cases h2 : t1 = true
  · replace h := ite_t h h2
    obtain ⟨t3, h3, h⟩ := bnd_of h
    replace h := Option.some.inj h
    subst h
    exact run_fr (n := 100) (orc := [.ret (B t1), .br false, .el (.v (.string t3))]) (allC (strSub_ok h3 : pureRun cx.P (Instr.sliceAt 9 (.string a0) (some (.int .i64 1)) none none) = some (.string t3)) (allC (notf h2) (allC (c_stringslite_HasPrefix_2 h1) allN))) (by kernel_rfl)
  · replace h := ite_f h h2
    replace h := Option.some.inj h
    subst h
    exact run_fr (n := 100) (orc := [.ret (B t1), .br true]) (allC (nott (bfalse h2)) (allC (c_stringslite_HasPrefix_2 h1) allN)) (by kernel_rfl)
/- strings.CutPrefix: .v (.string a0), .v (.string ⟨#[45]⟩) -/
def F_strings_CutPrefix_2 (n : Nat) (a0 : ByteArray) : Option (ByteArray × Bool) :=
  (F_stringslite_CutPrefix_2 n a0).bind fun t1 =>
  some (t1.1, t1.2)
theorem c_strings_CutPrefix_2 {n : Nat} {a0 : ByteArray} {r : ByteArray × Bool} (h : F_strings_CutPrefix_2 n a0 = some r) : Computes cx 105 [.v (.string a0), .v (.string ⟨#[45]⟩)] (.tup [.v (.string r.1), B r.2]) := by
  unfold F_strings_CutPrefix_2 at h
  obtain ⟨t1, h1, h⟩ := bnd_of h
  replace h := Option.some.inj h
  subst h
  exact run_fr (n := 100) (orc := [.ret (.tup [.v (.string t1.1), B t1.2])]) (allC (c_stringslite_CutPrefix_2 h1) allN) (by kernel_rfl)
def F_drive_integer_L1 (n : Nat) (t1 : ByteArray × Bool) (sa : (Int × Nat)) : Option (((Int × Nat)) ⊕ ((Unit) ⊕ (Int))) :=
  if sa.2 < t1.1.size then
    if ((Utf8.decode t1.1 sa.2).1 : Int) < 48 then
      some (.inr (.inl ()))
    else
    if ((Utf8.decode t1.1 sa.2).1 : Int) > 57 then
      some (.inr (.inl ()))
    else
    if (t1.1.size : Int) > 9 then
      some (.inr (.inl ()))
    else
    if inI64 (10 * sa.1) then
    if inI64 ((10 * sa.1) + (IntKind.wrap .i64 (IntKind.wrap .i32 (((Utf8.decode t1.1 sa.2).1 : Int) - 48)))) then
    some (.inl (((10 * sa.1) + (IntKind.wrap .i64 (IntKind.wrap .i32 (((Utf8.decode t1.1 sa.2).1 : Int) - 48)))), (sa.2 + (Utf8.decode t1.1 sa.2).2)))
    else none
    else none
  else
  some (.inr (.inr sa.1))
noncomputable def T_drive_integer_L1 (t1 : ByteArray × Bool) (sa : (Int × Nat)) : List (Nat × AV) := [(4, .d (.v (.string t1.1))), (5, .d (B t1.2)), (6, .d (I sa.1)), (16, .own 11 0)]
noncomputable def H_drive_integer_L1 (t1 : ByteArray × Bool) (sa : (Int × Nat)) : List (Nat × Blk) := [(11, .it t1.1 sa.2)]
noncomputable def X_drive_integer_L1 (t1 : ByteArray × Bool) (e : (Unit) ⊕ (Int)) : Ex := match e with
  | (.inl e) => .ret
  | (.inr e) => (.exit 0)
noncomputable def XT_drive_integer_L1 (t1 : ByteArray × Bool) (e : (Unit) ⊕ (Int)) : List (Nat × AV) := match e with
  | (.inl e) => [(2, .d (I 0)), (3, .d (B false))]
  | (.inr e) => [(4, .d (.v (.string t1.1))), (5, .d (B t1.2)), (6, .d (I e))]
noncomputable def XH_drive_integer_L1 (t1 : ByteArray × Bool) (e : (Unit) ⊕ (Int)) : List (Nat × Blk) := match e with
  | (.inl e) => []
  | (.inr e) => []
theorem R_drive_integer_L1 {n : Nat} {t1 : ByteArray × Bool} (sa : (Int × Nat)) (r) (h : F_drive_integer_L1 n t1 sa = some r) : Rd cx (loopAt cx.P 76 0) 57 0 false (T_drive_integer_L1 t1) (H_drive_integer_L1 t1) (X_drive_integer_L1 t1) (XT_drive_integer_L1 t1) (XH_drive_integer_L1 t1) sa r := by
  unfold F_drive_integer_L1 at h
  by_cases ha1 : sa.2 < t1.1.size
  · replace h := ite_t h ha1
    by_cases ha2 : ((Utf8.decode t1.1 sa.2).1 : Int) < 48
    · replace h := ite_t h ha2
      replace h := Option.some.inj h
      subst h
      exact ⟨⟨100, 12, [.br true, .no, .br true, .no, .no], [], [2, 3], [], round_fr (allC (decide_eq_true ha2) (allC ha1 allN)) (by kernel_rfl)⟩, nofun⟩
    · replace h := ite_f h ha2
      by_cases ha3 : ((Utf8.decode t1.1 sa.2).1 : Int) > 57
      · replace h := ite_t h ha3
        replace h := Option.some.inj h
        subst h
        exact ⟨⟨100, 12, [.br true, .no, .br false, .br true, .no], [], [2, 3], [], round_fr (allC (decide_eq_true ha3) (allC (decide_eq_false ha2) (allC ha1 allN))) (by kernel_rfl)⟩, nofun⟩
      · replace h := ite_f h ha3
        by_cases ha4 : (t1.1.size : Int) > 9
        · replace h := ite_t h ha4
          replace h := Option.some.inj h
          subst h
          exact ⟨⟨100, 12, [.br true, .no, .br false, .br false, .br true], [], [2, 3], [], round_fr (allC (decide_eq_true ha4) (allC (decide_eq_false ha3) (allC (decide_eq_false ha2) (allC ha1 allN)))) (by kernel_rfl)⟩, nofun⟩
        · replace h := ite_f h ha4
          obtain ⟨ha5, h⟩ := grd_of h
          obtain ⟨ha6, h⟩ := grd_of h
          replace h := Option.some.inj h
          subst h
          exact ⟨100, 12, [.br true, .no, .br false, .br false, .br false], [], [4, 5, 6, 16], [11], round_fr (allC ha6 (allC ha5 (allC (decide_eq_false ha4) (allC (decide_eq_false ha3) (allC (decide_eq_false ha2) (allC ha1 allN)))))) (by kernel_rfl)⟩
  · replace h := ite_f h ha1
    replace h := Option.some.inj h
    subst h
    exact ⟨⟨100, 12, [.br false, .no], [], [4, 5, 6], [], round_fr (allC ha1 allN) (by kernel_rfl)⟩, nofun⟩
/- spillage/drive.integer: .v (.string a0) -/
def F_drive_integer_2 (n : Nat) (a0 : ByteArray) : Option (Int × Bool) :=
  (F_strings_CutPrefix_2 n a0).bind fun t1 =>
  (loopF (F_drive_integer_L1 n t1) n (0, 0)).bind fun t2 => match t2 with
    | (.inl t2) => (
      some (0, false))
    | (.inr t2) => (
      if (!(t1.1.toList == (⟨#[]⟩ : ByteArray).toList)) = true then
        (strAt t1.1 0).bind fun t4 =>
        if t4 = 48 then
          if (t1.1.toList == (⟨#[48]⟩ : ByteArray).toList) = true then
            if t1.2 = true then
              some ((IntKind.wrap .i64 (0 - t2)), (!t1.2))
            else
            some (t2, (!t1.2))
          else
          if t1.2 = true then
            some ((IntKind.wrap .i64 (0 - t2)), false)
          else
          some (t2, false)
        else
        if t1.2 = true then
          some ((IntKind.wrap .i64 (0 - t2)), true)
        else
        some (t2, true)
      else
      if t1.2 = true then
        some ((IntKind.wrap .i64 (0 - t2)), false)
      else
      some (t2, false))
theorem c_drive_integer_2 {n : Nat} {a0 : ByteArray} {r : Int × Bool} (h : F_drive_integer_2 n a0 = some r) : Computes cx 76 [.v (.string a0)] (.tup [I r.1, B r.2]) := by
  unfold F_drive_integer_2 at h
  obtain ⟨t1, h1, h⟩ := bnd_of h
  obtain ⟨t2, h2, h⟩ := bnd_of h
  rcases t2 with t2 | t2
  · replace h := Option.some.inj h
    subst h
    exact run_fr (n := 100) (orc := [.ret (.tup [.v (.string t1.1), B t1.2]), .lp [] [4, 5, 6, 16] [11] .ret [(2, .d (I 0)), (3, .d (B false))] [] 45]) (allC (loopF_to R_drive_integer_L1 h2) (allC (c_strings_CutPrefix_2 h1) allN)) (by kernel_rfl)
  · by_cases h3 : (!(t1.1.toList == (⟨#[]⟩ : ByteArray).toList)) = true
    · replace h := ite_t h h3
      obtain ⟨t4, h4, h⟩ := bnd_of h
      by_cases h5 : t4 = 48
      · replace h := ite_t h h5
        by_cases h6 : (t1.1.toList == (⟨#[48]⟩ : ByteArray).toList) = true
        · replace h := ite_t h h6
          by_cases h7 : t1.2 = true
          · replace h := ite_t h h7
            replace h := Option.some.inj h
            subst h
            exact run_fr (n := 100) (orc := [.ret (.tup [.v (.string t1.1), B t1.2]), .lp [] [4, 5, 6, 16] [11] (.exit 0) [(4, .d (.v (.string t1.1))), (5, .d (B t1.2)), (6, .d (I t2))] [] 45, .br true, .el (.v (.int .u8 t4)), .br false, .br true, .br true]) (allC h7 (allC h6 (allC (nef h5) (allC (strAt_ok h4 : pureRun cx.P (Instr.index 9 (.string t1.1) (.int .i64 0)) = some (.int .u8 t4)) (allC h3 (allC (loopF_to R_drive_integer_L1 h2) (allC (c_strings_CutPrefix_2 h1) allN))))))) (by kernel_rfl)
          · replace h := ite_f h h7
            replace h := Option.some.inj h
            subst h
            exact run_fr (n := 100) (orc := [.ret (.tup [.v (.string t1.1), B t1.2]), .lp [] [4, 5, 6, 16] [11] (.exit 0) [(4, .d (.v (.string t1.1))), (5, .d (B t1.2)), (6, .d (I t2))] [] 45, .br true, .el (.v (.int .u8 t4)), .br false, .br true, .br false]) (allC (bfalse h7) (allC h6 (allC (nef h5) (allC (strAt_ok h4 : pureRun cx.P (Instr.index 9 (.string t1.1) (.int .i64 0)) = some (.int .u8 t4)) (allC h3 (allC (loopF_to R_drive_integer_L1 h2) (allC (c_strings_CutPrefix_2 h1) allN))))))) (by kernel_rfl)
        · replace h := ite_f h h6
          by_cases h7 : t1.2 = true
          · replace h := ite_t h h7
            replace h := Option.some.inj h
            subst h
            exact run_fr (n := 100) (orc := [.ret (.tup [.v (.string t1.1), B t1.2]), .lp [] [4, 5, 6, 16] [11] (.exit 0) [(4, .d (.v (.string t1.1))), (5, .d (B t1.2)), (6, .d (I t2))] [] 45, .br true, .el (.v (.int .u8 t4)), .br false, .br false, .br true]) (allC h7 (allC (bfalse h6) (allC (nef h5) (allC (strAt_ok h4 : pureRun cx.P (Instr.index 9 (.string t1.1) (.int .i64 0)) = some (.int .u8 t4)) (allC h3 (allC (loopF_to R_drive_integer_L1 h2) (allC (c_strings_CutPrefix_2 h1) allN))))))) (by kernel_rfl)
          · replace h := ite_f h h7
            replace h := Option.some.inj h
            subst h
            exact run_fr (n := 100) (orc := [.ret (.tup [.v (.string t1.1), B t1.2]), .lp [] [4, 5, 6, 16] [11] (.exit 0) [(4, .d (.v (.string t1.1))), (5, .d (B t1.2)), (6, .d (I t2))] [] 45, .br true, .el (.v (.int .u8 t4)), .br false, .br false, .br false]) (allC (bfalse h7) (allC (bfalse h6) (allC (nef h5) (allC (strAt_ok h4 : pureRun cx.P (Instr.index 9 (.string t1.1) (.int .i64 0)) = some (.int .u8 t4)) (allC h3 (allC (loopF_to R_drive_integer_L1 h2) (allC (c_strings_CutPrefix_2 h1) allN))))))) (by kernel_rfl)
      · replace h := ite_f h h5
        by_cases h6 : t1.2 = true
        · replace h := ite_t h h6
          replace h := Option.some.inj h
          subst h
          exact run_fr (n := 100) (orc := [.ret (.tup [.v (.string t1.1), B t1.2]), .lp [] [4, 5, 6, 16] [11] (.exit 0) [(4, .d (.v (.string t1.1))), (5, .d (B t1.2)), (6, .d (I t2))] [] 45, .br true, .el (.v (.int .u8 t4)), .br true, .br true]) (allC h6 (allC (net h5) (allC (strAt_ok h4 : pureRun cx.P (Instr.index 9 (.string t1.1) (.int .i64 0)) = some (.int .u8 t4)) (allC h3 (allC (loopF_to R_drive_integer_L1 h2) (allC (c_strings_CutPrefix_2 h1) allN)))))) (by kernel_rfl)
        · replace h := ite_f h h6
          replace h := Option.some.inj h
          subst h
          exact run_fr (n := 100) (orc := [.ret (.tup [.v (.string t1.1), B t1.2]), .lp [] [4, 5, 6, 16] [11] (.exit 0) [(4, .d (.v (.string t1.1))), (5, .d (B t1.2)), (6, .d (I t2))] [] 45, .br true, .el (.v (.int .u8 t4)), .br true, .br false]) (allC (bfalse h6) (allC (net h5) (allC (strAt_ok h4 : pureRun cx.P (Instr.index 9 (.string t1.1) (.int .i64 0)) = some (.int .u8 t4)) (allC h3 (allC (loopF_to R_drive_integer_L1 h2) (allC (c_strings_CutPrefix_2 h1) allN)))))) (by kernel_rfl)
    · replace h := ite_f h h3
      by_cases h4 : t1.2 = true
      · replace h := ite_t h h4
        replace h := Option.some.inj h
        subst h
        exact run_fr (n := 100) (orc := [.ret (.tup [.v (.string t1.1), B t1.2]), .lp [] [4, 5, 6, 16] [11] (.exit 0) [(4, .d (.v (.string t1.1))), (5, .d (B t1.2)), (6, .d (I t2))] [] 45, .br false, .br true]) (allC h4 (allC (bfalse h3) (allC (loopF_to R_drive_integer_L1 h2) (allC (c_strings_CutPrefix_2 h1) allN)))) (by kernel_rfl)
      · replace h := ite_f h h4
        replace h := Option.some.inj h
        subst h
        exact run_fr (n := 100) (orc := [.ret (.tup [.v (.string t1.1), B t1.2]), .lp [] [4, 5, 6, 16] [11] (.exit 0) [(4, .d (.v (.string t1.1))), (5, .d (B t1.2)), (6, .d (I t2))] [] 45, .br false, .br false]) (allC (bfalse h4) (allC (bfalse h3) (allC (loopF_to R_drive_integer_L1 h2) (allC (c_strings_CutPrefix_2 h1) allN)))) (by kernel_rfl)
end Go.Proofs.YtoblljobcafecaaGreatDoor
