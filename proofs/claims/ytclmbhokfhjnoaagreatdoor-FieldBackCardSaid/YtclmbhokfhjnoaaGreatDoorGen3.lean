/-
  Printed by gsx.py: functions of the program as Lean functions, and that the code computes them.
-/
import Derived.Test.YtclmbhokfhjnoaaGreatDoorGen2
set_option linter.unusedVariables false
set_option linter.unusedSimpArgs false
set_option linter.unnecessarySimpa false
set_option maxRecDepth 10000
set_option maxHeartbeats 4000000
namespace Go.Proofs.YtclmbhokfhjnoaaGreatDoor
open Go.SX
def F_ref04_CheckMirrors_L2 (n : Nat) (a0 : List D) (sa : (Int)) : Option (((Int)) ⊕ ((Int) ⊕ (Unit))) :=
  if sa < ((a0).length : Int) then
    (el un_Asi9Z a0 sa).bind fun ta2 =>
    (F_ref04_CheckMirror n ta2.1 ta2.2.1 ta2.2.2.1 ta2.2.2.2.1 ta2.2.2.2.2.1 ta2.2.2.2.2.2.1 ta2.2.2.2.2.2.2.1 ta2.2.2.2.2.2.2.2.1 ta2.2.2.2.2.2.2.2.2.1 ta2.2.2.2.2.2.2.2.2.2).bind fun ta3 =>
    if ta3 = 0 then
      (loopF (F_ref04_CheckMirrors_L1 n a0 sa) n 0).bind fun ta5 => match ta5 with
        | (.inl ta5) => (
          some (.inr (.inl 9)))
        | (.inr ta5) => (
          if inI64 (sa + 1) then
          some (.inl (sa + 1))
          else none)
    else
    some (.inr (.inl ta3))
  else
  some (.inr (.inr ()))
noncomputable def T_ref04_CheckMirrors_L2 (a0 : List D) (sa : (Int)) : List (Nat × AV) := [(0, .d (.lst false 10 a0)), (3, .d (I sa))]
noncomputable def H_ref04_CheckMirrors_L2 (a0 : List D) (sa : (Int)) : List (Nat × Blk) := []
noncomputable def X_ref04_CheckMirrors_L2 (a0 : List D) (e : (Int) ⊕ (Unit)) : Ex := match e with
  | (.inl e) => .ret
  | (.inr e) => (.exit 0)
noncomputable def XT_ref04_CheckMirrors_L2 (a0 : List D) (e : (Int) ⊕ (Unit)) : List (Nat × AV) := match e with
  | (.inl e) => [(2, .d (I e))]
  | (.inr e) => []
noncomputable def XH_ref04_CheckMirrors_L2 (a0 : List D) (e : (Int) ⊕ (Unit)) : List (Nat × Blk) := match e with
  | (.inl e) => []
  | (.inr e) => []
theorem R_ref04_CheckMirrors_L2 {n : Nat} {a0 : List D} (sa : (Int)) (r) (h : F_ref04_CheckMirrors_L2 n a0 sa = some r) : Rd cx (loopAt cx.P 10 0) 39 0 false (T_ref04_CheckMirrors_L2 a0) (H_ref04_CheckMirrors_L2 a0) (X_ref04_CheckMirrors_L2 a0) (XT_ref04_CheckMirrors_L2 a0) (XH_ref04_CheckMirrors_L2 a0) sa r := by
  unfold F_ref04_CheckMirrors_L2 at h
  by_cases ha1 : sa < ((a0).length : Int)
  · replace h := ite_t h ha1
    obtain ⟨ta2, ha2, h⟩ := bnd_of h
    obtain ⟨ta3, ha3, h⟩ := bnd_of h
    by_cases ha4 : ta3 = 0
    · replace h := ite_t h ha4
      obtain ⟨ta5, ha5, h⟩ := bnd_of h
      rcases ta5 with ta5 | ta5
      · replace h := Option.some.inj h
        subst h
        exact ⟨⟨100, 5, [.br true, .el (enc_Asi9Z ta2), .ret (I ta3), .br false, .lp [] [0, 3, 5] [] .ret [(2, .d (I 9))] [] 46], [], [2], [], round_fr (allC (loopF_to R_ref04_CheckMirrors_L1 ha5) (allC (nef ha4) (allC (c_ref04_CheckMirror ha3) (allC (el_ok un_Asi9Z_ok ha2).1 (allC (el_ok un_Asi9Z_ok ha2).2 (allC (decide_eq_true ha1) allN)))))) (by kernel_rfl)⟩, nofun⟩
      · obtain ⟨ha6, h⟩ := grd_of h
        replace h := Option.some.inj h
        subst h
        exact ⟨100, 5, [.br true, .el (enc_Asi9Z ta2), .ret (I ta3), .br false, .lp [] [0, 3, 5] [] (.exit 2) [(0, .d (.lst false 10 a0)), (3, .d (I sa))] [] 46], [], [0, 3], [], round_fr (allC ha6 (allC (loopF_to R_ref04_CheckMirrors_L1 ha5) (allC (nef ha4) (allC (c_ref04_CheckMirror ha3) (allC (el_ok un_Asi9Z_ok ha2).1 (allC (el_ok un_Asi9Z_ok ha2).2 (allC (decide_eq_true ha1) allN))))))) (by kernel_rfl)⟩
    · replace h := ite_f h ha4
      replace h := Option.some.inj h
      subst h
      exact ⟨⟨100, 5, [.br true, .el (enc_Asi9Z ta2), .ret (I ta3), .br true], [], [2], [], round_fr (allC (net ha4) (allC (c_ref04_CheckMirror ha3) (allC (el_ok un_Asi9Z_ok ha2).1 (allC (el_ok un_Asi9Z_ok ha2).2 (allC (decide_eq_true ha1) allN))))) (by kernel_rfl)⟩, nofun⟩
  · replace h := ite_f h ha1
    replace h := Option.some.inj h
    subst h
    exact ⟨⟨100, 5, [.br false], [], [], [], round_fr (allC (decide_eq_false ha1) allN) (by kernel_rfl)⟩, nofun⟩
/- spillage/spillageref04.CheckMirrors: .lst false 10 a0 -/
def F_ref04_CheckMirrors (n : Nat) (a0 : List D) : Option (Int) :=
  if ((a0).length : Int) > 64 then
    some 5
  else
  (loopF (F_ref04_CheckMirrors_L2 n a0) n 0).bind fun t2 => match t2 with
    | (.inl t2) => (
      some t2)
    | (.inr t2) => (
      some 0)
theorem c_ref04_CheckMirrors {n : Nat} {a0 : List D} {r : Int} (h : F_ref04_CheckMirrors n a0 = some r) : Computes cx 10 [.lst false 10 a0] (I r) := by
  unfold F_ref04_CheckMirrors at h
  by_cases h1 : ((a0).length : Int) > 64
  · replace h := ite_t h h1
    replace h := Option.some.inj h
    subst h
    exact run_fr (n := 100) (orc := [.br true]) (allC (decide_eq_true h1) allN) (by kernel_rfl)
  · replace h := ite_f h h1
    obtain ⟨t2, h2, h⟩ := bnd_of h
    rcases t2 with t2 | t2
    · replace h := Option.some.inj h
      subst h
      exact run_fr (n := 100) (orc := [.br false, .lp [] [0, 3] [] .ret [(2, .d (I t2))] [] 60]) (allC (loopF_to R_ref04_CheckMirrors_L2 h2) (allC (decide_eq_false h1) allN)) (by kernel_rfl)
    · replace h := Option.some.inj h
      subst h
      exact run_fr (n := 100) (orc := [.br false, .lp [] [0, 3] [] (.exit 0) [] [] 60]) (allC (loopF_to R_ref04_CheckMirrors_L2 h2) (allC (decide_eq_false h1) allN)) (by kernel_rfl)
def F_ref01_Split_L1 (n : Nat) (a0 : ByteArray) (a1 : Int) (sa : (Int × Int × List D)) : Option (((Int × Int × List D)) ⊕ ((Int × List D))) :=
  if sa.2.1 < (a0.size : Int) then
    (strAt a0 sa.2.1).bind fun ta2 =>
    if ta2 = a1 then
      (strSub a0 (some sa.1) (some sa.2.1)).bind fun ta4 =>
      if roomP 16 ((sa.2.2).length + 1) then
      if inI64 (sa.2.1 + 1) then
      some (.inl ((sa.2.1 + 1), (sa.2.1 + 1), (sa.2.2 ++ ([.v (.string ta4)] : List D))))
      else none
      else none
    else
    if inI64 (sa.2.1 + 1) then
    some (.inl (sa.1, (sa.2.1 + 1), sa.2.2))
    else none
  else
  some (.inr (sa.1, sa.2.2))
noncomputable def T_ref01_Split_L1 (a0 : ByteArray) (a1 : Int) (sa : (Int × Int × List D)) : List (Nat × AV) := [(0, .d (.v (.string a0))), (1, .d (.v (.int .u8 a1))), (5, .own 4 0), (6, .d (I sa.1)), (7, .d (I sa.2.1))]
noncomputable def H_ref01_Split_L1 (a0 : ByteArray) (a1 : Int) (sa : (Int × Int × List D)) : List (Nat × Blk) := [(4, .row 0 1 sa.2.2)]
noncomputable def X_ref01_Split_L1 (a0 : ByteArray) (a1 : Int) (e : (Int × List D)) : Ex := (.exit 0)
noncomputable def XT_ref01_Split_L1 (a0 : ByteArray) (a1 : Int) (e : (Int × List D)) : List (Nat × AV) := [(0, .d (.v (.string a0))), (5, .own 4 0), (6, .d (I e.1))]
noncomputable def XH_ref01_Split_L1 (a0 : ByteArray) (a1 : Int) (e : (Int × List D)) : List (Nat × Blk) := [(4, .row 0 1 e.2)]
theorem R_ref01_Split_L1 {n : Nat} {a0 : ByteArray} {a1 : Int} (sa : (Int × Int × List D)) (r) (h : F_ref01_Split_L1 n a0 a1 sa = some r) : Rd cx (loopAt cx.P 15 0) 34 0 false (T_ref01_Split_L1 a0 a1) (H_ref01_Split_L1 a0 a1) (X_ref01_Split_L1 a0 a1) (XT_ref01_Split_L1 a0 a1) (XH_ref01_Split_L1 a0 a1) sa r := by
  unfold F_ref01_Split_L1 at h
  by_cases ha1 : sa.2.1 < (a0.size : Int)
  · replace h := ite_t h ha1
    obtain ⟨ta2, ha2, h⟩ := bnd_of h
    by_cases ha3 : ta2 = a1
    · replace h := ite_t h ha3
      obtain ⟨ta4, ha4, h⟩ := bnd_of h
      obtain ⟨ha5, h⟩ := grd_of h
      obtain ⟨ha6, h⟩ := grd_of h
      replace h := Option.some.inj h
      subst h
      exact ⟨100, 5, [.br true, .el (.v (.int .u8 ta2)), .br true, .el (.v (.string ta4)), .br true], [], [0, 1, 5, 6, 7], [4], round_fr (allC ha6 (allC ha6 (allC ((room_of (b := 16) (by kernel_rfl) (by decide) ha5) : room cx 9 ((sa.2.2).length + 1)) (allC (strSub_ok ha4 : pureRun cx.P (Instr.sliceAt 9 (.string a0) (some (.int .i64 sa.1)) (some (.int .i64 sa.2.1)) none) = some (.string ta4)) (allC (eqt ha3) (allC (strAt_ok ha2 : pureRun cx.P (Instr.index 9 (.string a0) (.int .i64 sa.2.1)) = some (.int .u8 ta2)) (allC (decide_eq_true ha1) allN))))))) (by kernel_rfl)⟩
    · replace h := ite_f h ha3
      obtain ⟨ha4, h⟩ := grd_of h
      replace h := Option.some.inj h
      subst h
      exact ⟨100, 5, [.br true, .el (.v (.int .u8 ta2)), .br false], [], [0, 1, 5, 6, 7], [4], round_fr (allC ha4 (allC (eqf ha3) (allC (strAt_ok ha2 : pureRun cx.P (Instr.index 9 (.string a0) (.int .i64 sa.2.1)) = some (.int .u8 ta2)) (allC (decide_eq_true ha1) allN)))) (by kernel_rfl)⟩
  · replace h := ite_f h ha1
    replace h := Option.some.inj h
    subst h
    exact ⟨⟨100, 5, [.br false], [], [0, 5, 6], [4], round_fr (allC (decide_eq_false ha1) allN) (by kernel_rfl)⟩, nofun⟩
/- spillage/spillageref01.Split: .v (.string a0), .v (.int .u8 a1) -/
def F_ref01_Split (n : Nat) (a0 : ByteArray) (a1 : Int) : Option (List D) :=
  (loopF (F_ref01_Split_L1 n a0 a1) n (0, 0, [])).bind fun t1 =>
  (strSub a0 (some t1.1) none).bind fun t2 =>
  if roomP 16 ((t1.2).length + 1) then
  some (t1.2 ++ ([.v (.string t2)] : List D))
  else none
theorem c_ref01_Split {n : Nat} {a0 : ByteArray} {a1 : Int} {r : List D} (h : F_ref01_Split n a0 a1 = some r) : Computes cx 15 [.v (.string a0), .v (.int .u8 a1)] (.lst false 1 r) := by
  unfold F_ref01_Split at h
  obtain ⟨t1, h1, h⟩ := bnd_of h
  obtain ⟨t2, h2, h⟩ := bnd_of h
  obtain ⟨h3, h⟩ := grd_of h
  replace h := Option.some.inj h
  subst h
  exact run_fr (n := 100) (orc := [.lp [5, 1] [0, 1, 5, 6, 7] [4] (.exit 0) [(0, .d (.v (.string a0))), (5, .own 4 0), (6, .d (I t1.1))] [(4, .row 0 1 t1.2)] 39, .el (.v (.string t2)), .br true]) (allC ((room_of (b := 16) (by kernel_rfl) (by decide) h3) : room cx 9 ((t1.2).length + 1)) (allC (strSub_ok h2 : pureRun cx.P (Instr.sliceAt 9 (.string a0) (some (.int .i64 t1.1)) none none) = some (.string t2)) (allC (loopF_to R_ref01_Split_L1 h1) allN))) (by kernel_rfl)
def F_law04_told_L1 (n : Nat) (a0 : List D) (sa : (Int × List D)) : Option (((Int × List D)) ⊕ ((List D))) :=
  if sa.1 < ((a0).length : Int) then
    (el un_Asi9Z a0 sa.1).bind fun ta2 =>
    if roomP 88 ((sa.2).length + 1) then
    if inI64 (sa.1 + 1) then
    some (.inl ((sa.1 + 1), (sa.2 ++ ([.agg [.v (.string ta2.1), I ta2.2.1, I ta2.2.2.1, I ta2.2.2.2.1, I ta2.2.2.2.2.1, I ta2.2.2.2.2.2.1, I ta2.2.2.2.2.2.2.1, I ta2.2.2.2.2.2.2.2.1, I ta2.2.2.2.2.2.2.2.2.1, I ta2.2.2.2.2.2.2.2.2.2]] : List D))))
    else none
    else none
  else
  some (.inr sa.2)
noncomputable def T_law04_told_L1 (a0 : List D) (sa : (Int × List D)) : List (Nat × AV) := [(3, .own 5 0), (6, .d (.lst false 10 a0)), (7, .d (I ((a0).length : Int))), (8, .d (I sa.1))]
noncomputable def H_law04_told_L1 (a0 : List D) (sa : (Int × List D)) : List (Nat × Blk) := [(5, .row 0 10 sa.2)]
noncomputable def X_law04_told_L1 (a0 : List D) (e : (List D)) : Ex := (.exit 0)
noncomputable def XT_law04_told_L1 (a0 : List D) (e : (List D)) : List (Nat × AV) := [(3, .own 5 0)]
noncomputable def XH_law04_told_L1 (a0 : List D) (e : (List D)) : List (Nat × Blk) := [(5, .row 0 10 e)]
theorem R_law04_told_L1 {n : Nat} {a0 : List D} (sa : (Int × List D)) (r) (h : F_law04_told_L1 n a0 sa = some r) : Rd cx (loopAt cx.P 14 0) 18 0 false (T_law04_told_L1 a0) (H_law04_told_L1 a0) (X_law04_told_L1 a0) (XT_law04_told_L1 a0) (XH_law04_told_L1 a0) sa r := by
  unfold F_law04_told_L1 at h
  by_cases ha1 : sa.1 < ((a0).length : Int)
  · replace h := ite_t h ha1
    obtain ⟨ta2, ha2, h⟩ := bnd_of h
    obtain ⟨ha3, h⟩ := grd_of h
    obtain ⟨ha4, h⟩ := grd_of h
    replace h := Option.some.inj h
    subst h
    exact ⟨100, 6, [.br true, .el (enc_Asi9Z ta2), .br true], [], [3, 6, 7, 8], [5], round_fr (allC ha4 (allC ((room_of (b := 88) (by kernel_rfl) (by decide) ha3) : room cx 95 ((sa.2).length + 1)) (allC (el_ok un_Asi9Z_ok ha2).1 (allC (el_ok un_Asi9Z_ok ha2).2 (allC (decide_eq_true ha1) allN))))) (by kernel_rfl)⟩
  · replace h := ite_f h ha1
    replace h := Option.some.inj h
    subst h
    exact ⟨⟨100, 6, [.br false], [], [3], [5], round_fr (allC (decide_eq_false ha1) allN) (by kernel_rfl)⟩, nofun⟩
/- spillage/spillagelaw04.told: .lst false 10 a0 -/
def F_law04_told (n : Nat) (a0 : List D) : Option (List D) :=
  (loopF (F_law04_told_L1 n a0) n (0, [])).bind fun t1 =>
  some t1
theorem c_law04_told {n : Nat} {a0 : List D} {r : List D} (h : F_law04_told n a0 = some r) : Computes cx 14 [.lst false 10 a0] (.lst false 10 r) := by
  unfold F_law04_told at h
  obtain ⟨t1, h1, h⟩ := bnd_of h
  replace h := Option.some.inj h
  subst h
  exact run_fr (n := 100) (orc := [.lp [3, 10] [3, 6, 7, 8] [5] (.exit 0) [(3, .own 5 0)] [(5, .row 0 10 t1)] 29]) (allC (loopF_to R_law04_told_L1 h1) allN) (by kernel_rfl)
def F_ref04_SameMirrors_L1 (n : Nat) (a0 : List D) (a1 : List D) (sa : (Int)) : Option (((Int)) ⊕ ((Unit) ⊕ (Unit))) :=
  if sa < ((a0).length : Int) then
    (el un_Asi9Z a0 sa).bind fun ta2 =>
    (el un_Asi9Z a1 sa).bind fun ta3 =>
    if ((ta2.1 == ta3.1) && (((ta2.2.1 == ta3.2.1) && ((ta2.2.2.1 == ta3.2.2.1) && ((ta2.2.2.2.1 == ta3.2.2.2.1) && true))) && (((ta2.2.2.2.2.1 == ta3.2.2.2.2.1) && ((ta2.2.2.2.2.2.1 == ta3.2.2.2.2.2.1) && ((ta2.2.2.2.2.2.2.1 == ta3.2.2.2.2.2.2.1) && true))) && (((ta2.2.2.2.2.2.2.2.1 == ta3.2.2.2.2.2.2.2.1) && ((ta2.2.2.2.2.2.2.2.2.1 == ta3.2.2.2.2.2.2.2.2.1) && ((ta2.2.2.2.2.2.2.2.2.2 == ta3.2.2.2.2.2.2.2.2.2) && true))) && true)))) = true then
      if inI64 (sa + 1) then
      some (.inl (sa + 1))
      else none
    else
    some (.inr (.inl ()))
  else
  some (.inr (.inr ()))
noncomputable def T_ref04_SameMirrors_L1 (a0 : List D) (a1 : List D) (sa : (Int)) : List (Nat × AV) := [(0, .d (.lst false 10 a0)), (1, .d (.lst false 10 a1)), (5, .d (I sa))]
noncomputable def H_ref04_SameMirrors_L1 (a0 : List D) (a1 : List D) (sa : (Int)) : List (Nat × Blk) := []
noncomputable def X_ref04_SameMirrors_L1 (a0 : List D) (a1 : List D) (e : (Unit) ⊕ (Unit)) : Ex := match e with
  | (.inl e) => .ret
  | (.inr e) => (.exit 0)
noncomputable def XT_ref04_SameMirrors_L1 (a0 : List D) (a1 : List D) (e : (Unit) ⊕ (Unit)) : List (Nat × AV) := match e with
  | (.inl e) => [(4, .d (B false))]
  | (.inr e) => []
noncomputable def XH_ref04_SameMirrors_L1 (a0 : List D) (a1 : List D) (e : (Unit) ⊕ (Unit)) : List (Nat × Blk) := match e with
  | (.inl e) => []
  | (.inr e) => []
theorem R_ref04_SameMirrors_L1 {n : Nat} {a0 : List D} {a1 : List D} (sa : (Int)) (r) (h : F_ref04_SameMirrors_L1 n a0 a1 sa = some r) : Rd cx (loopAt cx.P 13 0) 26 0 false (T_ref04_SameMirrors_L1 a0 a1) (H_ref04_SameMirrors_L1 a0 a1) (X_ref04_SameMirrors_L1 a0 a1) (XT_ref04_SameMirrors_L1 a0 a1) (XH_ref04_SameMirrors_L1 a0 a1) sa r := by
  unfold F_ref04_SameMirrors_L1 at h
  by_cases ha1 : sa < ((a0).length : Int)
  · replace h := ite_t h ha1
    obtain ⟨ta2, ha2, h⟩ := bnd_of h
    obtain ⟨ta3, ha3, h⟩ := bnd_of h
    by_cases ha4 : ((ta2.1 == ta3.1) && (((ta2.2.1 == ta3.2.1) && ((ta2.2.2.1 == ta3.2.2.1) && ((ta2.2.2.2.1 == ta3.2.2.2.1) && true))) && (((ta2.2.2.2.2.1 == ta3.2.2.2.2.1) && ((ta2.2.2.2.2.2.1 == ta3.2.2.2.2.2.1) && ((ta2.2.2.2.2.2.2.1 == ta3.2.2.2.2.2.2.1) && true))) && (((ta2.2.2.2.2.2.2.2.1 == ta3.2.2.2.2.2.2.2.1) && ((ta2.2.2.2.2.2.2.2.2.1 == ta3.2.2.2.2.2.2.2.2.1) && ((ta2.2.2.2.2.2.2.2.2.2 == ta3.2.2.2.2.2.2.2.2.2) && true))) && true)))) = true
    · replace h := ite_t h ha4
      obtain ⟨ha5, h⟩ := grd_of h
      replace h := Option.some.inj h
      subst h
      exact ⟨100, 7, [.br true, .el (enc_Asi9Z ta2), .el (enc_Asi9Z ta3), .br false], [], [0, 1, 5], [], round_fr (allC ha5 (allC (notf ha4) (allC (el_ok un_Asi9Z_ok ha3).1 (allC (el_ok un_Asi9Z_ok ha3).2 (allC (el_ok un_Asi9Z_ok ha2).1 (allC (el_ok un_Asi9Z_ok ha2).2 (allC (decide_eq_true ha1) allN))))))) (by kernel_rfl)⟩
    · replace h := ite_f h ha4
      replace h := Option.some.inj h
      subst h
      exact ⟨⟨100, 7, [.br true, .el (enc_Asi9Z ta2), .el (enc_Asi9Z ta3), .br true], [], [4], [], round_fr (allC (nott (bfalse ha4)) (allC (el_ok un_Asi9Z_ok ha3).1 (allC (el_ok un_Asi9Z_ok ha3).2 (allC (el_ok un_Asi9Z_ok ha2).1 (allC (el_ok un_Asi9Z_ok ha2).2 (allC (decide_eq_true ha1) allN)))))) (by kernel_rfl)⟩, nofun⟩
  · replace h := ite_f h ha1
    replace h := Option.some.inj h
    subst h
    exact ⟨⟨100, 7, [.br false], [], [], [], round_fr (allC (decide_eq_false ha1) allN) (by kernel_rfl)⟩, nofun⟩
/- spillage/spillageref04.SameMirrors: .lst false 10 a0, .lst false 10 a1 -/
def F_ref04_SameMirrors (n : Nat) (a0 : List D) (a1 : List D) : Option (Bool) :=
  if ((a0).length : Int) = ((a1).length : Int) then
    (loopF (F_ref04_SameMirrors_L1 n a0 a1) n 0).bind fun t2 => match t2 with
      | (.inl t2) => (
        some false)
      | (.inr t2) => (
        some true)
  else
  some false
theorem c_ref04_SameMirrors {n : Nat} {a0 : List D} {a1 : List D} {r : Bool} (h : F_ref04_SameMirrors n a0 a1 = some r) : Computes cx 13 [.lst false 10 a0, .lst false 10 a1] (B r) := by
  unfold F_ref04_SameMirrors at h
  by_cases h1 : ((a0).length : Int) = ((a1).length : Int)
  · replace h := ite_t h h1
    obtain ⟨t2, h2, h⟩ := bnd_of h
    rcases t2 with t2 | t2
    · replace h := Option.some.inj h
      subst h
      exact run_fr (n := 100) (orc := [.br false, .lp [] [0, 1, 5] [] .ret [(4, .d (B false))] [] 34]) (allC (loopF_to R_ref04_SameMirrors_L1 h2) (allC (nef h1) allN)) (by kernel_rfl)
    · replace h := Option.some.inj h
      subst h
      exact run_fr (n := 100) (orc := [.br false, .lp [] [0, 1, 5] [] (.exit 0) [] [] 34]) (allC (loopF_to R_ref04_SameMirrors_L1 h2) (allC (nef h1) allN)) (by kernel_rfl)
  · replace h := ite_f h h1
    replace h := Option.some.inj h
    subst h
    exact run_fr (n := 100) (orc := [.br true]) (allC (net h1) allN) (by kernel_rfl)
end Go.Proofs.YtclmbhokfhjnoaaGreatDoor
