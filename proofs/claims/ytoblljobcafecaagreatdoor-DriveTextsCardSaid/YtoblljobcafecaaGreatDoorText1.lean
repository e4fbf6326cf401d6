/-
  Printed by gsx.py: functions of the program as Lean functions, and that the code computes them.
-/
import Derived.Test.YtoblljobcafecaaGreatDoorGen5
set_option linter.unusedVariables false
set_option linter.unusedSimpArgs false
set_option linter.unnecessarySimpa false
set_option maxRecDepth 10000
set_option maxHeartbeats 4000000
namespace Go.Proofs.YtoblljobcafecaaGreatDoor
open Go.SX
def F_ref01_Text_L1 (n : Nat) (a0 : Int) (sa : (ByteArray × Int)) : Option (((ByteArray × Int)) ⊕ ((ByteArray))) :=
  if sa.2 = 0 then
    some (.inr sa.1)
  else
  if (Int.tmod sa.2 10) < 0 then
    if inI64 (0 - (Int.tmod sa.2 10)) then
    if inI64 (48 + (0 - (Int.tmod sa.2 10))) then
    if (Utf8.encode (IntKind.wrap .i32 (48 + (0 - (Int.tmod sa.2 10))))).size + sa.1.size ≤ 9223372036854775807 then
    if inI64 (Int.tdiv sa.2 10) then
    some (.inl (((Utf8.encode (IntKind.wrap .i32 (48 + (0 - (Int.tmod sa.2 10))))) ++ sa.1), (Int.tdiv sa.2 10)))
    else none
    else none
    else none
    else none
  else
  if inI64 (48 + (Int.tmod sa.2 10)) then
  if (Utf8.encode (IntKind.wrap .i32 (48 + (Int.tmod sa.2 10)))).size + sa.1.size ≤ 9223372036854775807 then
  if inI64 (Int.tdiv sa.2 10) then
  some (.inl (((Utf8.encode (IntKind.wrap .i32 (48 + (Int.tmod sa.2 10)))) ++ sa.1), (Int.tdiv sa.2 10)))
  else none
  else none
  else none
noncomputable def T_ref01_Text_L1 (a0 : Int) (sa : (ByteArray × Int)) : List (Nat × AV) := [(0, .d (I a0)), (3, .d (.v (.string sa.1))), (4, .d (I sa.2))]
noncomputable def H_ref01_Text_L1 (a0 : Int) (sa : (ByteArray × Int)) : List (Nat × Blk) := []
noncomputable def X_ref01_Text_L1 (a0 : Int) (e : (ByteArray)) : Ex := (.exit 0)
noncomputable def XT_ref01_Text_L1 (a0 : Int) (e : (ByteArray)) : List (Nat × AV) := [(0, .d (I a0)), (3, .d (.v (.string e)))]
noncomputable def XH_ref01_Text_L1 (a0 : Int) (e : (ByteArray)) : List (Nat × Blk) := []
theorem R_ref01_Text_L1 {n : Nat} {a0 : Int} (sa : (ByteArray × Int)) (r) (h : F_ref01_Text_L1 n a0 sa = some r) : Rd cx (loopAt cx.P 46 0) 30 0 false (T_ref01_Text_L1 a0) (H_ref01_Text_L1 a0) (X_ref01_Text_L1 a0) (XT_ref01_Text_L1 a0) (XH_ref01_Text_L1 a0) sa r := by
  unfold F_ref01_Text_L1 at h
  by_cases ha1 : sa.2 = 0
  · replace h := ite_t h ha1
    replace h := Option.some.inj h
    subst h
    exact ⟨⟨100, 6, [.br false], [], [0, 3], [], round_fr (allC (nef ha1) allN) (by kernel_rfl)⟩, nofun⟩
  · replace h := ite_f h ha1
    by_cases ha2 : (Int.tmod sa.2 10) < 0
    · replace h := ite_t h ha2
      obtain ⟨ha3, h⟩ := grd_of h
      obtain ⟨ha4, h⟩ := grd_of h
      obtain ⟨ha5, h⟩ := grd_of h
      obtain ⟨ha6, h⟩ := grd_of h
      replace h := Option.some.inj h
      subst h
      exact ⟨100, 6, [.br true, .br true], [], [0, 3, 4], [], round_fr (allC ((by decide) : (10 : Int) ≠ 0) (allC ha6 (allC ha5 (allC ha4 (allC ha3 (allC (decide_eq_true ha2) (allC ((by decide) : (10 : Int) ≠ 0) (allC (net ha1) allN)))))))) (by kernel_rfl)⟩
    · replace h := ite_f h ha2
      obtain ⟨ha3, h⟩ := grd_of h
      obtain ⟨ha4, h⟩ := grd_of h
      obtain ⟨ha5, h⟩ := grd_of h
      replace h := Option.some.inj h
      subst h
      exact ⟨100, 6, [.br true, .br false], [], [0, 3, 4], [], round_fr (allC ((by decide) : (10 : Int) ≠ 0) (allC ha5 (allC ha4 (allC ha3 (allC (decide_eq_false ha2) (allC ((by decide) : (10 : Int) ≠ 0) (allC (net ha1) allN))))))) (by kernel_rfl)⟩
/- spillage/spillageref01.Text: I a0 -/
def F_ref01_Text (n : Nat) (a0 : Int) : Option (ByteArray) :=
  if a0 = 0 then
    some ⟨#[48]⟩
  else
  (loopF (F_ref01_Text_L1 n a0) n (⟨#[]⟩, a0)).bind fun t2 =>
  if a0 < 0 then
    if (⟨#[45]⟩ : ByteArray).size + t2.size ≤ 9223372036854775807 then
    some ((⟨#[45]⟩ : ByteArray) ++ t2)
    else none
  else
  some t2
theorem c_ref01_Text {n : Nat} {a0 : Int} {r : ByteArray} (h : F_ref01_Text n a0 = some r) : Computes cx 46 [I a0] (.v (.string r)) := by
  unfold F_ref01_Text at h
  by_cases h1 : a0 = 0
  · replace h := ite_t h h1
    replace h := Option.some.inj h
    subst h
    exact run_fr (n := 100) (orc := [.br true]) (allC (eqt h1) allN) (by kernel_rfl)
  · replace h := ite_f h h1
    obtain ⟨t2, h2, h⟩ := bnd_of h
    by_cases h3 : a0 < 0
    · replace h := ite_t h h3
      obtain ⟨h4, h⟩ := grd_of h
      replace h := Option.some.inj h
      subst h
      exact run_fr (n := 100) (orc := [.br false, .lp [] [0, 3, 4] [] (.exit 0) [(0, .d (I a0)), (3, .d (.v (.string t2)))] [] 37, .br true]) (allC h4 (allC (decide_eq_true h3) (allC (loopF_to R_ref01_Text_L1 h2) (allC (eqf h1) allN)))) (by kernel_rfl)
    · replace h := ite_f h h3
      replace h := Option.some.inj h
      subst h
      exact run_fr (n := 100) (orc := [.br false, .lp [] [0, 3, 4] [] (.exit 0) [(0, .d (I a0)), (3, .d (.v (.string t2)))] [] 37, .br false]) (allC (decide_eq_false h3) (allC (loopF_to R_ref01_Text_L1 h2) (allC (eqf h1) allN))) (by kernel_rfl)
def F_ref03_Print_L1 (n : Nat) (a0 : List D) (sa : (ByteArray × Int)) : Option (((ByteArray × Int)) ⊕ ((ByteArray))) :=
  if sa.2 < ((a0).length : Int) then
    if sa.1.size + (⟨#[98, 97, 110, 100, 32]⟩ : ByteArray).size ≤ 9223372036854775807 then
    (el un_Ai3Z a0 sa.2).bind fun ta3 =>
    (F_ref01_Text n ta3.1).bind fun ta4 =>
    if (sa.1 ++ (⟨#[98, 97, 110, 100, 32]⟩ : ByteArray)).size + ta4.size ≤ 9223372036854775807 then
    if ((sa.1 ++ (⟨#[98, 97, 110, 100, 32]⟩ : ByteArray)) ++ ta4).size + (⟨#[32]⟩ : ByteArray).size ≤ 9223372036854775807 then
    (F_ref01_Text n ta3.2.1).bind fun ta7 =>
    if (((sa.1 ++ (⟨#[98, 97, 110, 100, 32]⟩ : ByteArray)) ++ ta4) ++ (⟨#[32]⟩ : ByteArray)).size + ta7.size ≤ 9223372036854775807 then
    if ((((sa.1 ++ (⟨#[98, 97, 110, 100, 32]⟩ : ByteArray)) ++ ta4) ++ (⟨#[32]⟩ : ByteArray)) ++ ta7).size + (⟨#[32]⟩ : ByteArray).size ≤ 9223372036854775807 then
    (F_ref01_Text n ta3.2.2).bind fun ta10 =>
    if (((((sa.1 ++ (⟨#[98, 97, 110, 100, 32]⟩ : ByteArray)) ++ ta4) ++ (⟨#[32]⟩ : ByteArray)) ++ ta7) ++ (⟨#[32]⟩ : ByteArray)).size + ta10.size ≤ 9223372036854775807 then
    if ((((((sa.1 ++ (⟨#[98, 97, 110, 100, 32]⟩ : ByteArray)) ++ ta4) ++ (⟨#[32]⟩ : ByteArray)) ++ ta7) ++ (⟨#[32]⟩ : ByteArray)) ++ ta10).size + (⟨#[10]⟩ : ByteArray).size ≤ 9223372036854775807 then
    if inI64 (sa.2 + 1) then
    some (.inl ((((((((sa.1 ++ (⟨#[98, 97, 110, 100, 32]⟩ : ByteArray)) ++ ta4) ++ (⟨#[32]⟩ : ByteArray)) ++ ta7) ++ (⟨#[32]⟩ : ByteArray)) ++ ta10) ++ (⟨#[10]⟩ : ByteArray)), (sa.2 + 1)))
    else none
    else none
    else none
    else none
    else none
    else none
    else none
    else none
  else
  some (.inr sa.1)
noncomputable def T_ref03_Print_L1 (a0 : List D) (sa : (ByteArray × Int)) : List (Nat × AV) := [(0, .d (.lst false 3 a0)), (3, .d (.v (.string sa.1))), (4, .d (I sa.2))]
noncomputable def H_ref03_Print_L1 (a0 : List D) (sa : (ByteArray × Int)) : List (Nat × Blk) := []
noncomputable def X_ref03_Print_L1 (a0 : List D) (e : (ByteArray)) : Ex := (.exit 0)
noncomputable def XT_ref03_Print_L1 (a0 : List D) (e : (ByteArray)) : List (Nat × AV) := [(3, .d (.v (.string e)))]
noncomputable def XH_ref03_Print_L1 (a0 : List D) (e : (ByteArray)) : List (Nat × Blk) := []
theorem R_ref03_Print_L1 {n : Nat} {a0 : List D} (sa : (ByteArray × Int)) (r) (h : F_ref03_Print_L1 n a0 sa = some r) : Rd cx (loopAt cx.P 11 0) 40 0 false (T_ref03_Print_L1 a0) (H_ref03_Print_L1 a0) (X_ref03_Print_L1 a0) (XT_ref03_Print_L1 a0) (XH_ref03_Print_L1 a0) sa r := by
  unfold F_ref03_Print_L1 at h
  by_cases ha1 : sa.2 < ((a0).length : Int)
  · replace h := ite_t h ha1
    obtain ⟨ha2, h⟩ := grd_of h
    obtain ⟨ta3, ha3, h⟩ := bnd_of h
    obtain ⟨ta4, ha4, h⟩ := bnd_of h
    obtain ⟨ha5, h⟩ := grd_of h
    obtain ⟨ha6, h⟩ := grd_of h
    obtain ⟨ta7, ha7, h⟩ := bnd_of h
    obtain ⟨ha8, h⟩ := grd_of h
    obtain ⟨ha9, h⟩ := grd_of h
    obtain ⟨ta10, ha10, h⟩ := bnd_of h
    obtain ⟨ha11, h⟩ := grd_of h
    obtain ⟨ha12, h⟩ := grd_of h
    obtain ⟨ha13, h⟩ := grd_of h
    replace h := Option.some.inj h
    subst h
    exact ⟨100, 3, [.br true, .el (enc_Ai3Z ta3), .ret (.v (.string ta4)), .el (enc_Ai3Z ta3), .ret (.v (.string ta7)), .el (enc_Ai3Z ta3), .ret (.v (.string ta10))], [], [0, 3, 4], [], round_fr (allC ha13 (allC ha12 (allC ha11 (allC (c_ref01_Text ha10) (allC (el_ok un_Ai3Z_ok ha3).1 (allC (el_ok un_Ai3Z_ok ha3).2 (allC ha9 (allC ha8 (allC (c_ref01_Text ha7) (allC (el_ok un_Ai3Z_ok ha3).1 (allC (el_ok un_Ai3Z_ok ha3).2 (allC ha6 (allC ha5 (allC (c_ref01_Text ha4) (allC (el_ok un_Ai3Z_ok ha3).1 (allC (el_ok un_Ai3Z_ok ha3).2 (allC ha2 (allC (decide_eq_true ha1) allN)))))))))))))))))) (by kernel_rfl)⟩
  · replace h := ite_f h ha1
    replace h := Option.some.inj h
    subst h
    exact ⟨⟨100, 3, [.br false], [], [3], [], round_fr (allC (decide_eq_false ha1) allN) (by kernel_rfl)⟩, nofun⟩
/- spillage/spillageref03.Print: .lst false 3 a0 -/
def F_ref03_Print (n : Nat) (a0 : List D) : Option (ByteArray) :=
  (loopF (F_ref03_Print_L1 n a0) n (⟨#[]⟩, 0)).bind fun t1 =>
  some t1
theorem c_ref03_Print {n : Nat} {a0 : List D} {r : ByteArray} (h : F_ref03_Print n a0 = some r) : Computes cx 11 [.lst false 3 a0] (.v (.string r)) := by
  unfold F_ref03_Print at h
  obtain ⟨t1, h1, h⟩ := bnd_of h
  replace h := Option.some.inj h
  subst h
  exact run_fr (n := 100) (orc := [.lp [] [0, 3, 4] [] (.exit 0) [(3, .d (.v (.string t1)))] [] 50]) (allC (loopF_to R_ref03_Print_L1 h1) allN) (by kernel_rfl)
def F_ref01_Digits_L1 (n : Nat) (a0 : ByteArray) (sa : (Int × Int)) : Option (((Int × Int)) ⊕ ((Unit) ⊕ (Int))) :=
  if sa.2 < (a0.size : Int) then
    (strAt a0 sa.2).bind fun ta2 =>
    if ta2 < 48 then
      some (.inr (.inl ()))
    else
    if ta2 > 57 then
      some (.inr (.inl ()))
    else
    if inI64 (10 * sa.1) then
    if inI64 ((10 * sa.1) + (IntKind.wrap .i64 (IntKind.wrap .u8 (ta2 - 48)))) then
    if inI64 (sa.2 + 1) then
    some (.inl (((10 * sa.1) + (IntKind.wrap .i64 (IntKind.wrap .u8 (ta2 - 48)))), (sa.2 + 1)))
    else none
    else none
    else none
  else
  some (.inr (.inr sa.1))
noncomputable def T_ref01_Digits_L1 (a0 : ByteArray) (sa : (Int × Int)) : List (Nat × AV) := [(0, .d (.v (.string a0))), (4, .d (I sa.1)), (5, .d (I sa.2))]
noncomputable def H_ref01_Digits_L1 (a0 : ByteArray) (sa : (Int × Int)) : List (Nat × Blk) := []
noncomputable def X_ref01_Digits_L1 (a0 : ByteArray) (e : (Unit) ⊕ (Int)) : Ex := match e with
  | (.inl e) => .ret
  | (.inr e) => (.exit 0)
noncomputable def XT_ref01_Digits_L1 (a0 : ByteArray) (e : (Unit) ⊕ (Int)) : List (Nat × AV) := match e with
  | (.inl e) => [(2, .d (I 0)), (3, .d (B false))]
  | (.inr e) => [(4, .d (I e))]
noncomputable def XH_ref01_Digits_L1 (a0 : ByteArray) (e : (Unit) ⊕ (Int)) : List (Nat × Blk) := match e with
  | (.inl e) => []
  | (.inr e) => []
theorem R_ref01_Digits_L1 {n : Nat} {a0 : ByteArray} (sa : (Int × Int)) (r) (h : F_ref01_Digits_L1 n a0 sa = some r) : Rd cx (loopAt cx.P 81 0) 48 0 false (T_ref01_Digits_L1 a0) (H_ref01_Digits_L1 a0) (X_ref01_Digits_L1 a0) (XT_ref01_Digits_L1 a0) (XH_ref01_Digits_L1 a0) sa r := by
  unfold F_ref01_Digits_L1 at h
  by_cases ha1 : sa.2 < (a0.size : Int)
  · replace h := ite_t h ha1
    obtain ⟨ta2, ha2, h⟩ := bnd_of h
    by_cases ha3 : ta2 < 48
    · replace h := ite_t h ha3
      replace h := Option.some.inj h
      subst h
      exact ⟨⟨100, 21, [.br true, .el (.v (.int .u8 ta2)), .br true, .no], [], [2, 3], [], round_fr (allC (decide_eq_true ha3) (allC (strAt_ok ha2 : pureRun cx.P (Instr.index 9 (.string a0) (.int .i64 sa.2)) = some (.int .u8 ta2)) (allC (decide_eq_true ha1) allN))) (by kernel_rfl)⟩, nofun⟩
    · replace h := ite_f h ha3
      by_cases ha4 : ta2 > 57
      · replace h := ite_t h ha4
        replace h := Option.some.inj h
        subst h
        exact ⟨⟨100, 21, [.br true, .el (.v (.int .u8 ta2)), .br false, .el (.v (.int .u8 ta2)), .br true], [], [2, 3], [], round_fr (allC (decide_eq_true ha4) (allC (strAt_ok ha2 : pureRun cx.P (Instr.index 9 (.string a0) (.int .i64 sa.2)) = some (.int .u8 ta2)) (allC (decide_eq_false ha3) (allC (strAt_ok ha2 : pureRun cx.P (Instr.index 9 (.string a0) (.int .i64 sa.2)) = some (.int .u8 ta2)) (allC (decide_eq_true ha1) allN))))) (by kernel_rfl)⟩, nofun⟩
      · replace h := ite_f h ha4
        obtain ⟨ha5, h⟩ := grd_of h
        obtain ⟨ha6, h⟩ := grd_of h
        obtain ⟨ha7, h⟩ := grd_of h
        replace h := Option.some.inj h
        subst h
        exact ⟨100, 21, [.br true, .el (.v (.int .u8 ta2)), .br false, .el (.v (.int .u8 ta2)), .br false, .el (.v (.int .u8 ta2))], [], [0, 4, 5], [], round_fr (allC ha7 (allC ha6 (allC (strAt_ok ha2 : pureRun cx.P (Instr.index 9 (.string a0) (.int .i64 sa.2)) = some (.int .u8 ta2)) (allC ha5 (allC (decide_eq_false ha4) (allC (strAt_ok ha2 : pureRun cx.P (Instr.index 9 (.string a0) (.int .i64 sa.2)) = some (.int .u8 ta2)) (allC (decide_eq_false ha3) (allC (strAt_ok ha2 : pureRun cx.P (Instr.index 9 (.string a0) (.int .i64 sa.2)) = some (.int .u8 ta2)) (allC (decide_eq_true ha1) allN))))))))) (by kernel_rfl)⟩
  · replace h := ite_f h ha1
    replace h := Option.some.inj h
    subst h
    exact ⟨⟨100, 21, [.br false], [], [4], [], round_fr (allC (decide_eq_false ha1) allN) (by kernel_rfl)⟩, nofun⟩
/- spillage/spillageref01.Digits: .v (.string a0) -/
def F_ref01_Digits (n : Nat) (a0 : ByteArray) : Option (Int × Bool) :=
  if (a0.toList == (⟨#[]⟩ : ByteArray).toList) = true then
    some (0, false)
  else
  if (a0.size : Int) > 9 then
    some (0, false)
  else
  (strAt a0 0).bind fun t3 =>
  if t3 = 48 then
    if (a0.size : Int) > 1 then
      some (0, false)
    else
    (loopF (F_ref01_Digits_L1 n a0) n (0, 0)).bind fun t6 => match t6 with
      | (.inl t6) => (
        some (0, false))
      | (.inr t6) => (
        some (t6, true))
  else
  (loopF (F_ref01_Digits_L1 n a0) n (0, 0)).bind fun t5 => match t5 with
    | (.inl t5) => (
      some (0, false))
    | (.inr t5) => (
      some (t5, true))
theorem c_ref01_Digits {n : Nat} {a0 : ByteArray} {r : Int × Bool} (h : F_ref01_Digits n a0 = some r) : Computes cx 81 [.v (.string a0)] (.tup [I r.1, B r.2]) := by
  unfold F_ref01_Digits at h
  by_cases h1 : (a0.toList == (⟨#[]⟩ : ByteArray).toList) = true
  · replace h := ite_t h h1
    replace h := Option.some.inj h
    subst h
    exact run_fr (n := 100) (orc := [.br true, .no, .no]) (allC h1 allN) (by kernel_rfl)
  · replace h := ite_f h h1
    by_cases h2 : (a0.size : Int) > 9
    · replace h := ite_t h h2
      replace h := Option.some.inj h
      subst h
      exact run_fr (n := 100) (orc := [.br false, .br true, .no]) (allC (decide_eq_true h2) (allC (bfalse h1) allN)) (by kernel_rfl)
    · replace h := ite_f h h2
      obtain ⟨t3, h3, h⟩ := bnd_of h
      by_cases h4 : t3 = 48
      · replace h := ite_t h h4
        by_cases h5 : (a0.size : Int) > 1
        · replace h := ite_t h h5
          replace h := Option.some.inj h
          subst h
          exact run_fr (n := 100) (orc := [.br false, .br false, .el (.v (.int .u8 t3)), .br true, .br true]) (allC (decide_eq_true h5) (allC (eqt h4) (allC (strAt_ok h3 : pureRun cx.P (Instr.index 9 (.string a0) (.int .i64 0)) = some (.int .u8 t3)) (allC (decide_eq_false h2) (allC (bfalse h1) allN))))) (by kernel_rfl)
        · replace h := ite_f h h5
          obtain ⟨t6, h6, h⟩ := bnd_of h
          rcases t6 with t6 | t6
          · replace h := Option.some.inj h
            subst h
            exact run_fr (n := 100) (orc := [.br false, .br false, .el (.v (.int .u8 t3)), .br true, .br false, .lp [] [0, 4, 5] [] .ret [(2, .d (I 0)), (3, .d (B false))] [] 58]) (allC (loopF_to R_ref01_Digits_L1 h6) (allC (decide_eq_false h5) (allC (eqt h4) (allC (strAt_ok h3 : pureRun cx.P (Instr.index 9 (.string a0) (.int .i64 0)) = some (.int .u8 t3)) (allC (decide_eq_false h2) (allC (bfalse h1) allN)))))) (by kernel_rfl)
          · replace h := Option.some.inj h
            subst h
            exact run_fr (n := 100) (orc := [.br false, .br false, .el (.v (.int .u8 t3)), .br true, .br false, .lp [] [0, 4, 5] [] (.exit 0) [(4, .d (I t6))] [] 58]) (allC (loopF_to R_ref01_Digits_L1 h6) (allC (decide_eq_false h5) (allC (eqt h4) (allC (strAt_ok h3 : pureRun cx.P (Instr.index 9 (.string a0) (.int .i64 0)) = some (.int .u8 t3)) (allC (decide_eq_false h2) (allC (bfalse h1) allN)))))) (by kernel_rfl)
      · replace h := ite_f h h4
        obtain ⟨t5, h5, h⟩ := bnd_of h
        rcases t5 with t5 | t5
        · replace h := Option.some.inj h
          subst h
          exact run_fr (n := 100) (orc := [.br false, .br false, .el (.v (.int .u8 t3)), .br false, .no, .lp [] [0, 4, 5] [] .ret [(2, .d (I 0)), (3, .d (B false))] [] 58]) (allC (loopF_to R_ref01_Digits_L1 h5) (allC (eqf h4) (allC (strAt_ok h3 : pureRun cx.P (Instr.index 9 (.string a0) (.int .i64 0)) = some (.int .u8 t3)) (allC (decide_eq_false h2) (allC (bfalse h1) allN))))) (by kernel_rfl)
        · replace h := Option.some.inj h
          subst h
          exact run_fr (n := 100) (orc := [.br false, .br false, .el (.v (.int .u8 t3)), .br false, .no, .lp [] [0, 4, 5] [] (.exit 0) [(4, .d (I t5))] [] 58]) (allC (loopF_to R_ref01_Digits_L1 h5) (allC (eqf h4) (allC (strAt_ok h3 : pureRun cx.P (Instr.index 9 (.string a0) (.int .i64 0)) = some (.int .u8 t3)) (allC (decide_eq_false h2) (allC (bfalse h1) allN))))) (by kernel_rfl)
/- spillage/spillageref01.Signed: .v (.string a0) -/
def F_ref01_Signed (n : Nat) (a0 : ByteArray) : Option (Int × Bool) :=
  if (a0.toList == (⟨#[]⟩ : ByteArray).toList) = true then
    (F_ref01_Digits n a0).bind fun t2 =>
    some (t2.1, t2.2)
  else
  (strAt a0 0).bind fun t2 =>
  if t2 = 45 then
    (strSub a0 (some 1) none).bind fun t4 =>
    (F_ref01_Digits n t4).bind fun t5 =>
    if t5.2 = true then
      if t5.1 = 0 then
        some (0, false)
      else
      if inI64 (0 - t5.1) then
      some ((0 - t5.1), true)
      else none
    else
    some (0, false)
  else
  (F_ref01_Digits n a0).bind fun t4 =>
  some (t4.1, t4.2)
theorem c_ref01_Signed {n : Nat} {a0 : ByteArray} {r : Int × Bool} (h : F_ref01_Signed n a0 = some r) : Computes cx 47 [.v (.string a0)] (.tup [I r.1, B r.2]) := by
  unfold F_ref01_Signed at h
  by_cases h1 : (a0.toList == (⟨#[]⟩ : ByteArray).toList) = true
  · replace h := ite_t h h1
    obtain ⟨t2, h2, h⟩ := bnd_of h
    replace h := Option.some.inj h
    subst h
    exact run_fr (n := 100) (orc := [.br true, .no, .ret (.tup [I t2.1, B t2.2])]) (allC (c_ref01_Digits h2) (allC h1 allN)) (by kernel_rfl)
  · replace h := ite_f h h1
    obtain ⟨t2, h2, h⟩ := bnd_of h
    by_cases h3 : t2 = 45
    · replace h := ite_t h h3
      obtain ⟨t4, h4, h⟩ := bnd_of h
      obtain ⟨t5, h5, h⟩ := bnd_of h
      by_cases h6 : t5.2 = true
      · replace h := ite_t h h6
        by_cases h7 : t5.1 = 0
        · replace h := ite_t h h7
          replace h := Option.some.inj h
          subst h
          exact run_fr (n := 100) (orc := [.br false, .el (.v (.int .u8 t2)), .br false, .el (.v (.string t4)), .ret (.tup [I t5.1, B t5.2]), .br false, .br true]) (allC (eqt h7) (allC (notf h6) (allC (c_ref01_Digits h5) (allC (strSub_ok h4 : pureRun cx.P (Instr.sliceAt 9 (.string a0) (some (.int .i64 1)) none none) = some (.string t4)) (allC (nef h3) (allC (strAt_ok h2 : pureRun cx.P (Instr.index 9 (.string a0) (.int .i64 0)) = some (.int .u8 t2)) (allC (bfalse h1) allN))))))) (by kernel_rfl)
        · replace h := ite_f h h7
          obtain ⟨h8, h⟩ := grd_of h
          replace h := Option.some.inj h
          subst h
          exact run_fr (n := 100) (orc := [.br false, .el (.v (.int .u8 t2)), .br false, .el (.v (.string t4)), .ret (.tup [I t5.1, B t5.2]), .br false, .br false]) (allC h8 (allC (eqf h7) (allC (notf h6) (allC (c_ref01_Digits h5) (allC (strSub_ok h4 : pureRun cx.P (Instr.sliceAt 9 (.string a0) (some (.int .i64 1)) none none) = some (.string t4)) (allC (nef h3) (allC (strAt_ok h2 : pureRun cx.P (Instr.index 9 (.string a0) (.int .i64 0)) = some (.int .u8 t2)) (allC (bfalse h1) allN)))))))) (by kernel_rfl)
      · replace h := ite_f h h6
        replace h := Option.some.inj h
        subst h
        exact run_fr (n := 100) (orc := [.br false, .el (.v (.int .u8 t2)), .br false, .el (.v (.string t4)), .ret (.tup [I t5.1, B t5.2]), .br true, .no]) (allC (nott (bfalse h6)) (allC (c_ref01_Digits h5) (allC (strSub_ok h4 : pureRun cx.P (Instr.sliceAt 9 (.string a0) (some (.int .i64 1)) none none) = some (.string t4)) (allC (nef h3) (allC (strAt_ok h2 : pureRun cx.P (Instr.index 9 (.string a0) (.int .i64 0)) = some (.int .u8 t2)) (allC (bfalse h1) allN)))))) (by kernel_rfl)
    · replace h := ite_f h h3
      obtain ⟨t4, h4, h⟩ := bnd_of h
      replace h := Option.some.inj h
      subst h
      exact run_fr (n := 100) (orc := [.br false, .el (.v (.int .u8 t2)), .br true, .ret (.tup [I t4.1, B t4.2])]) (allC (c_ref01_Digits h4) (allC (net h3) (allC (strAt_ok h2 : pureRun cx.P (Instr.index 9 (.string a0) (.int .i64 0)) = some (.int .u8 t2)) (allC (bfalse h1) allN)))) (by kernel_rfl)
def F_ref03_Parse_L1 (n : Nat) (t2 : List D) (sa : (Int × List D)) : Option (((Int × List D)) ⊕ ((Int) ⊕ (List D))) :=
  if sa.1 < (((t2).length : Int) - 1) then
    (el un_s t2 sa.1).bind fun ta2 =>
    (F_ref01_Split n ta2 32).bind fun ta3 =>
    if ((ta3).length : Int) = 4 then
      (el un_s ta3 0).bind fun ta5 =>
      if (!(ta5.toList == (⟨#[98, 97, 110, 100]⟩ : ByteArray).toList)) = true then
        some (.inr (.inl sa.1))
      else
      (el un_s ta3 1).bind fun ta7 =>
      (F_ref01_Signed n ta7).bind fun ta8 =>
      (el un_s ta3 2).bind fun ta9 =>
      (F_ref01_Signed n ta9).bind fun ta10 =>
      (el un_s ta3 3).bind fun ta11 =>
      (F_ref01_Signed n ta11).bind fun ta12 =>
      if ta8.2 = true then
        if ta10.2 = true then
          if ta12.2 = true then
            if roomP 24 ((sa.2).length + 1) then
            if inI64 (sa.1 + 1) then
            some (.inl ((sa.1 + 1), (sa.2 ++ ([.agg [I ta8.1, I ta10.1, I ta12.1]] : List D))))
            else none
            else none
          else
          some (.inr (.inl sa.1))
        else
        some (.inr (.inl sa.1))
      else
      some (.inr (.inl sa.1))
    else
    some (.inr (.inl sa.1))
  else
  some (.inr (.inr sa.2))
noncomputable def T_ref03_Parse_L1 (t2 : List D) (sa : (Int × List D)) : List (Nat × AV) := [(5, .own 15 0), (6, .d (.lst false 1 t2)), (7, .d (I (((t2).length : Int) - 1))), (8, .d (I sa.1))]
noncomputable def H_ref03_Parse_L1 (t2 : List D) (sa : (Int × List D)) : List (Nat × Blk) := [(15, .row 0 3 sa.2)]
noncomputable def X_ref03_Parse_L1 (t2 : List D) (e : (Int) ⊕ (List D)) : Ex := match e with
  | (.inl e) => .ret
  | (.inr e) => (.exit 0)
noncomputable def XT_ref03_Parse_L1 (t2 : List D) (e : (Int) ⊕ (List D)) : List (Nat × AV) := match e with
  | (.inl e) => [(2, .d (.lst true 0 [])), (3, .d (I e)), (4, .d (I 25))]
  | (.inr e) => [(5, .own 15 0), (6, .d (.lst false 1 t2)), (7, .d (I (((t2).length : Int) - 1)))]
noncomputable def XH_ref03_Parse_L1 (t2 : List D) (e : (Int) ⊕ (List D)) : List (Nat × Blk) := match e with
  | (.inl e) => []
  | (.inr e) => [(15, .row 0 3 e)]
theorem R_ref03_Parse_L1 {n : Nat} {t2 : List D} (sa : (Int × List D)) (r) (h : F_ref03_Parse_L1 n t2 sa = some r) : Rd cx (loopAt cx.P 12 0) 98 0 false (T_ref03_Parse_L1 t2) (H_ref03_Parse_L1 t2) (X_ref03_Parse_L1 t2) (XT_ref03_Parse_L1 t2) (XH_ref03_Parse_L1 t2) sa r := by
  unfold F_ref03_Parse_L1 at h
  by_cases ha1 : sa.1 < (((t2).length : Int) - 1)
  · replace h := ite_t h ha1
    obtain ⟨ta2, ha2, h⟩ := bnd_of h
    obtain ⟨ta3, ha3, h⟩ := bnd_of h
    by_cases ha4 : ((ta3).length : Int) = 4
    · replace h := ite_t h ha4
      obtain ⟨ta5, ha5, h⟩ := bnd_of h
      by_cases ha6 : (!(ta5.toList == (⟨#[98, 97, 110, 100]⟩ : ByteArray).toList)) = true
      · replace h := ite_t h ha6
        replace h := Option.some.inj h
        subst h
        exact ⟨⟨100, 16, [.br true, .el (enc_s ta2), .ret (.lst false 1 ta3), .br false, .el (enc_s ta5), .br true], [], [2, 3, 4], [], round_fr (allC ha6 (allC (el_ok un_s_ok ha5).1 (allC (el_ok un_s_ok ha5).2 (allC (nef ha4) (allC (c_ref01_Split ha3) (allC (el_ok un_s_ok ha2).1 (allC (el_ok un_s_ok ha2).2 (allC (decide_eq_true ha1) allN)))))))) (by kernel_rfl)⟩, nofun⟩
      · replace h := ite_f h ha6
        obtain ⟨ta7, ha7, h⟩ := bnd_of h
        obtain ⟨ta8, ha8, h⟩ := bnd_of h
        obtain ⟨ta9, ha9, h⟩ := bnd_of h
        obtain ⟨ta10, ha10, h⟩ := bnd_of h
        obtain ⟨ta11, ha11, h⟩ := bnd_of h
        obtain ⟨ta12, ha12, h⟩ := bnd_of h
        by_cases ha13 : ta8.2 = true
        · replace h := ite_t h ha13
          by_cases ha14 : ta10.2 = true
          · replace h := ite_t h ha14
            by_cases ha15 : ta12.2 = true
            · replace h := ite_t h ha15
              obtain ⟨ha16, h⟩ := grd_of h
              obtain ⟨ha17, h⟩ := grd_of h
              replace h := Option.some.inj h
              subst h
              exact ⟨100, 16, [.br true, .el (enc_s ta2), .ret (.lst false 1 ta3), .br false, .el (enc_s ta5), .br false, .el (enc_s ta7), .ret (.tup [I ta8.1, B ta8.2]), .el (enc_s ta9), .ret (.tup [I ta10.1, B ta10.2]), .el (enc_s ta11), .ret (.tup [I ta12.1, B ta12.2]), .br false, .br false, .br false, .br true], [], [5, 6, 7, 8], [15], round_fr (allC ha17 (allC ((room_of (b := 24) (by kernel_rfl) (by decide) ha16) : room cx 67 ((sa.2).length + 1)) (allC (notf ha15) (allC (notf ha14) (allC (notf ha13) (allC (c_ref01_Signed ha12) (allC (el_ok un_s_ok ha11).1 (allC (el_ok un_s_ok ha11).2 (allC (c_ref01_Signed ha10) (allC (el_ok un_s_ok ha9).1 (allC (el_ok un_s_ok ha9).2 (allC (c_ref01_Signed ha8) (allC (el_ok un_s_ok ha7).1 (allC (el_ok un_s_ok ha7).2 (allC (bfalse ha6) (allC (el_ok un_s_ok ha5).1 (allC (el_ok un_s_ok ha5).2 (allC (nef ha4) (allC (c_ref01_Split ha3) (allC (el_ok un_s_ok ha2).1 (allC (el_ok un_s_ok ha2).2 (allC (decide_eq_true ha1) allN)))))))))))))))))))))) (by kernel_rfl)⟩
            · replace h := ite_f h ha15
              replace h := Option.some.inj h
              subst h
              exact ⟨⟨100, 16, [.br true, .el (enc_s ta2), .ret (.lst false 1 ta3), .br false, .el (enc_s ta5), .br false, .el (enc_s ta7), .ret (.tup [I ta8.1, B ta8.2]), .el (enc_s ta9), .ret (.tup [I ta10.1, B ta10.2]), .el (enc_s ta11), .ret (.tup [I ta12.1, B ta12.2]), .br false, .br false, .br true], [], [2, 3, 4], [], round_fr (allC (nott (bfalse ha15)) (allC (notf ha14) (allC (notf ha13) (allC (c_ref01_Signed ha12) (allC (el_ok un_s_ok ha11).1 (allC (el_ok un_s_ok ha11).2 (allC (c_ref01_Signed ha10) (allC (el_ok un_s_ok ha9).1 (allC (el_ok un_s_ok ha9).2 (allC (c_ref01_Signed ha8) (allC (el_ok un_s_ok ha7).1 (allC (el_ok un_s_ok ha7).2 (allC (bfalse ha6) (allC (el_ok un_s_ok ha5).1 (allC (el_ok un_s_ok ha5).2 (allC (nef ha4) (allC (c_ref01_Split ha3) (allC (el_ok un_s_ok ha2).1 (allC (el_ok un_s_ok ha2).2 (allC (decide_eq_true ha1) allN)))))))))))))))))))) (by kernel_rfl)⟩, nofun⟩
          · replace h := ite_f h ha14
            replace h := Option.some.inj h
            subst h
            exact ⟨⟨100, 16, [.br true, .el (enc_s ta2), .ret (.lst false 1 ta3), .br false, .el (enc_s ta5), .br false, .el (enc_s ta7), .ret (.tup [I ta8.1, B ta8.2]), .el (enc_s ta9), .ret (.tup [I ta10.1, B ta10.2]), .el (enc_s ta11), .ret (.tup [I ta12.1, B ta12.2]), .br false, .br true, .no], [], [2, 3, 4], [], round_fr (allC (nott (bfalse ha14)) (allC (notf ha13) (allC (c_ref01_Signed ha12) (allC (el_ok un_s_ok ha11).1 (allC (el_ok un_s_ok ha11).2 (allC (c_ref01_Signed ha10) (allC (el_ok un_s_ok ha9).1 (allC (el_ok un_s_ok ha9).2 (allC (c_ref01_Signed ha8) (allC (el_ok un_s_ok ha7).1 (allC (el_ok un_s_ok ha7).2 (allC (bfalse ha6) (allC (el_ok un_s_ok ha5).1 (allC (el_ok un_s_ok ha5).2 (allC (nef ha4) (allC (c_ref01_Split ha3) (allC (el_ok un_s_ok ha2).1 (allC (el_ok un_s_ok ha2).2 (allC (decide_eq_true ha1) allN))))))))))))))))))) (by kernel_rfl)⟩, nofun⟩
        · replace h := ite_f h ha13
          replace h := Option.some.inj h
          subst h
          exact ⟨⟨100, 16, [.br true, .el (enc_s ta2), .ret (.lst false 1 ta3), .br false, .el (enc_s ta5), .br false, .el (enc_s ta7), .ret (.tup [I ta8.1, B ta8.2]), .el (enc_s ta9), .ret (.tup [I ta10.1, B ta10.2]), .el (enc_s ta11), .ret (.tup [I ta12.1, B ta12.2]), .br true, .no, .no], [], [2, 3, 4], [], round_fr (allC (nott (bfalse ha13)) (allC (c_ref01_Signed ha12) (allC (el_ok un_s_ok ha11).1 (allC (el_ok un_s_ok ha11).2 (allC (c_ref01_Signed ha10) (allC (el_ok un_s_ok ha9).1 (allC (el_ok un_s_ok ha9).2 (allC (c_ref01_Signed ha8) (allC (el_ok un_s_ok ha7).1 (allC (el_ok un_s_ok ha7).2 (allC (bfalse ha6) (allC (el_ok un_s_ok ha5).1 (allC (el_ok un_s_ok ha5).2 (allC (nef ha4) (allC (c_ref01_Split ha3) (allC (el_ok un_s_ok ha2).1 (allC (el_ok un_s_ok ha2).2 (allC (decide_eq_true ha1) allN)))))))))))))))))) (by kernel_rfl)⟩, nofun⟩
    · replace h := ite_f h ha4
      replace h := Option.some.inj h
      subst h
      exact ⟨⟨100, 16, [.br true, .el (enc_s ta2), .ret (.lst false 1 ta3), .br true, .no], [], [2, 3, 4], [], round_fr (allC (net ha4) (allC (c_ref01_Split ha3) (allC (el_ok un_s_ok ha2).1 (allC (el_ok un_s_ok ha2).2 (allC (decide_eq_true ha1) allN))))) (by kernel_rfl)⟩, nofun⟩
  · replace h := ite_f h ha1
    replace h := Option.some.inj h
    subst h
    exact ⟨⟨100, 16, [.br false], [], [5, 6, 7], [15], round_fr (allC (decide_eq_false ha1) allN) (by kernel_rfl)⟩, nofun⟩
/- spillage/spillageref03.Parse: .v (.string a0) -/
def F_ref03_Parse (n : Nat) (a0 : ByteArray) : Option (List D × Int × Int) :=
  if (a0.size : Int) > 4096 then
    some ([], 0, 26)
  else
  (F_ref01_Split n a0 10).bind fun t2 =>
  if inI64 (((t2).length : Int) - 1) then
  (loopF (F_ref03_Parse_L1 n t2) n (0, [])).bind fun t4 => match t4 with
    | (.inl t4) => (
      some ([], t4, 25))
    | (.inr t4) => (
      (el un_s t2 (((t2).length : Int) - 1)).bind fun t5 =>
      if (!(t5.toList == (⟨#[]⟩ : ByteArray).toList)) = true then
        some ([], (((t2).length : Int) - 1), 25)
      else
      (F_ref03_CheckModel n t4).bind fun t7 =>
      if t7 = 0 then
        some (t4, 0, 0)
      else
      some ([], (((t2).length : Int) - 1), t7))
  else none
theorem c_ref03_Parse {n : Nat} {a0 : ByteArray} {r : List D × Int × Int} (h : F_ref03_Parse n a0 = some r) : Computes cx 12 [.v (.string a0)] (.tup [.lst false 3 r.1, I r.2.1, I r.2.2]) := by
  unfold F_ref03_Parse at h
  by_cases h1 : (a0.size : Int) > 4096
  · replace h := ite_t h h1
    replace h := Option.some.inj h
    subst h
    exact (run_fr (n := 100) (r := .tup [.lst true 0 [], I 0, I 26]) (orc := [.br true]) (allC (decide_eq_true h1) allN) (by kernel_rfl)).le (LEs.refl _) (.tups (.cons (.lst _ _ _ _ _ nofun (.inl rfl)) (.cons (.refl _) (.cons (.refl _) (.nil)))))
  · replace h := ite_f h h1
    obtain ⟨t2, h2, h⟩ := bnd_of h
    obtain ⟨h3, h⟩ := grd_of h
    obtain ⟨t4, h4, h⟩ := bnd_of h
    rcases t4 with t4 | t4
    · replace h := Option.some.inj h
      subst h
      exact (run_fr (n := 100) (r := .tup [.lst true 0 [], I t4, I 25]) (orc := [.br false, .ret (.lst false 1 t2), .lp [5, 3] [5, 6, 7, 8] [15] .ret [(2, .d (.lst true 0 [])), (3, .d (I t4)), (4, .d (I 25))] [] 94]) (allC (loopF_to R_ref03_Parse_L1 h4) (allC h3 (allC (c_ref01_Split h2) (allC (decide_eq_false h1) allN)))) (by kernel_rfl)).le (LEs.refl _) (.tups (.cons (.lst _ _ _ _ _ nofun (.inl rfl)) (.cons (.refl _) (.cons (.refl _) (.nil)))))
    · obtain ⟨t5, h5, h⟩ := bnd_of h
      by_cases h6 : (!(t5.toList == (⟨#[]⟩ : ByteArray).toList)) = true
      · replace h := ite_t h h6
        replace h := Option.some.inj h
        subst h
        exact (run_fr (n := 100) (r := .tup [.lst true 0 [], I (((t2).length : Int) - 1), I 25]) (orc := [.br false, .ret (.lst false 1 t2), .lp [5, 3] [5, 6, 7, 8] [15] (.exit 0) [(5, .own 15 0), (6, .d (.lst false 1 t2)), (7, .d (I (((t2).length : Int) - 1)))] [(15, .row 0 3 t4)] 94, .el (enc_s t5), .br true]) (allC h6 (allC (el_ok un_s_ok h5).1 (allC (el_ok un_s_ok h5).2 (allC (loopF_to R_ref03_Parse_L1 h4) (allC h3 (allC (c_ref01_Split h2) (allC (decide_eq_false h1) allN))))))) (by kernel_rfl)).le (LEs.refl _) (.tups (.cons (.lst _ _ _ _ _ nofun (.inl rfl)) (.cons (.refl _) (.cons (.refl _) (.nil)))))
      · replace h := ite_f h h6
        obtain ⟨t7, h7, h⟩ := bnd_of h
        by_cases h8 : t7 = 0
        · replace h := ite_t h h8
          replace h := Option.some.inj h
          subst h
          exact run_fr (n := 100) (orc := [.br false, .ret (.lst false 1 t2), .lp [5, 3] [5, 6, 7, 8] [15] (.exit 0) [(5, .own 15 0), (6, .d (.lst false 1 t2)), (7, .d (I (((t2).length : Int) - 1)))] [(15, .row 0 3 t4)] 94, .el (enc_s t5), .br false, .ret (I t7), .br false]) (allC (nef h8) (allC (c_ref03_CheckModel h7) (allC (bfalse h6) (allC (el_ok un_s_ok h5).1 (allC (el_ok un_s_ok h5).2 (allC (loopF_to R_ref03_Parse_L1 h4) (allC h3 (allC (c_ref01_Split h2) (allC (decide_eq_false h1) allN))))))))) (by kernel_rfl)
        · replace h := ite_f h h8
          replace h := Option.some.inj h
          subst h
          exact (run_fr (n := 100) (r := .tup [.lst true 0 [], I (((t2).length : Int) - 1), I t7]) (orc := [.br false, .ret (.lst false 1 t2), .lp [5, 3] [5, 6, 7, 8] [15] (.exit 0) [(5, .own 15 0), (6, .d (.lst false 1 t2)), (7, .d (I (((t2).length : Int) - 1)))] [(15, .row 0 3 t4)] 94, .el (enc_s t5), .br false, .ret (I t7), .br true]) (allC (net h8) (allC (c_ref03_CheckModel h7) (allC (bfalse h6) (allC (el_ok un_s_ok h5).1 (allC (el_ok un_s_ok h5).2 (allC (loopF_to R_ref03_Parse_L1 h4) (allC h3 (allC (c_ref01_Split h2) (allC (decide_eq_false h1) allN))))))))) (by kernel_rfl)).le (LEs.refl _) (.tups (.cons (.lst _ _ _ _ _ nofun (.inl rfl)) (.cons (.refl _) (.cons (.refl _) (.nil)))))
theorem e_law03_DriveTexts_0 (a0 : List D) (a1 : ByteArray) (t1 : Bool) (t5 : List D) (t6 : ByteArray × Int) (t7 : List D × Int × Int) (t8 : Int) (t10 : ByteArray) (t11 : List D × Int × Int) (t14 : List D) (t15 : Bool) (t19 : Bool) : runFn true 100 cx 3 [.lst false 3 a0, .v (.string a1)] [.ret (B t1), .br false, .br true, .br false, .ret (.lst false 3 t5), .ret (.tup [.v (.string t6.1), I t6.2]), .ret (.tup [.lst false 3 t7.1, I t7.2.1, I t7.2.2]), .ret (I t8), .br true, .ret (.v (.string t10)), .ret (.tup [.lst false 3 t11.1, I t11.2.1, I t11.2.2]), .br true, .br true, .ret (.lst false 3 t14), .ret (B t15), .br true, .br true, .br true, .ret (B t19)] = some (B t19, [Computes cx 6 [] (B t19), (t7.2.2 == t11.2.2) = true, (t7.2.1 == t11.2.1) = true, t15 = true, Computes cx 13 [.lst false 3 t14, .lst false 3 t11.1] (B t15), Computes cx 14 [.lst false 3 t7.1] (.lst false 3 t14), (t6.2 == t8) = true, (t6.1.toList == t10.toList) = true, Computes cx 12 [.v (.string a1)] (.tup [.lst false 3 t11.1, I t11.2.1, I t11.2.2]), Computes cx 11 [.lst false 3 a0] (.v (.string t10)), (t8 == 0) = true, Computes cx 10 [.lst false 3 a0] (I t8), Computes cx 9 [.v (.string a1)] (.tup [.lst false 3 t7.1, I t7.2.1, I t7.2.2]), Computes cx 7 [.lst false 3 t5] (.tup [.v (.string t6.1), I t6.2]), Computes cx 8 [.lst false 3 a0] (.lst false 3 t5), ((a1.size : Int) != 4097) = false, (decide ((a1.size : Int) > 300)) = true, (!t1) = false, Computes cx 5 [.lst false 3 a0] (B t1)]) := by kernel_rfl
theorem e_law03_DriveTexts_6 (a0 : List D) (a1 : ByteArray) (t1 : Bool) (t5 : List D) (t6 : ByteArray × Int) (t7 : List D × Int × Int) (t8 : Int) (t10 : List D × Int × Int) (t13 : List D) (t14 : Bool) (t18 : Bool) : runFn true 100 cx 3 [.lst false 3 a0, .v (.string a1)] [.ret (B t1), .br false, .br true, .br false, .ret (.lst false 3 t5), .ret (.tup [.v (.string t6.1), I t6.2]), .ret (.tup [.lst false 3 t7.1, I t7.2.1, I t7.2.2]), .ret (I t8), .br false, .ret (.tup [.lst false 3 t10.1, I t10.2.1, I t10.2.2]), .br true, .br true, .ret (.lst false 3 t13), .ret (B t14), .br true, .br true, .br true, .ret (B t18)] = some (B t18, [Computes cx 6 [] (B t18), (t7.2.2 == t10.2.2) = true, (t7.2.1 == t10.2.1) = true, t14 = true, Computes cx 13 [.lst false 3 t13, .lst false 3 t10.1] (B t14), Computes cx 14 [.lst false 3 t7.1] (.lst false 3 t13), (t6.2 == t8) = true, (t6.1.toList == (⟨#[]⟩ : ByteArray).toList) = true, Computes cx 12 [.v (.string a1)] (.tup [.lst false 3 t10.1, I t10.2.1, I t10.2.2]), (t8 == 0) = false, Computes cx 10 [.lst false 3 a0] (I t8), Computes cx 9 [.v (.string a1)] (.tup [.lst false 3 t7.1, I t7.2.1, I t7.2.2]), Computes cx 7 [.lst false 3 t5] (.tup [.v (.string t6.1), I t6.2]), Computes cx 8 [.lst false 3 a0] (.lst false 3 t5), ((a1.size : Int) != 4097) = false, (decide ((a1.size : Int) > 300)) = true, (!t1) = false, Computes cx 5 [.lst false 3 a0] (B t1)]) := by kernel_rfl
theorem e_law03_DriveTexts_12 (a0 : List D) (a1 : ByteArray) (t1 : Bool) (t5 : Bool) : runFn true 100 cx 3 [.lst false 3 a0, .v (.string a1)] [.ret (B t1), .br false, .br true, .br true, .ret (B t5)] = some (B t5, [Computes cx 6 [] (B t5), ((a1.size : Int) != 4097) = true, (decide ((a1.size : Int) > 300)) = true, (!t1) = false, Computes cx 5 [.lst false 3 a0] (B t1)]) := by kernel_rfl
theorem e_law03_DriveTexts_13 (a0 : List D) (a1 : ByteArray) (t1 : Bool) (t4 : List D) (t5 : ByteArray × Int) (t6 : List D × Int × Int) (t7 : Int) (t9 : ByteArray) (t10 : List D × Int × Int) (t13 : List D) (t14 : Bool) (t18 : Bool) : runFn true 100 cx 3 [.lst false 3 a0, .v (.string a1)] [.ret (B t1), .br false, .br false, .no, .ret (.lst false 3 t4), .ret (.tup [.v (.string t5.1), I t5.2]), .ret (.tup [.lst false 3 t6.1, I t6.2.1, I t6.2.2]), .ret (I t7), .br true, .ret (.v (.string t9)), .ret (.tup [.lst false 3 t10.1, I t10.2.1, I t10.2.2]), .br true, .br true, .ret (.lst false 3 t13), .ret (B t14), .br true, .br true, .br true, .ret (B t18)] = some (B t18, [Computes cx 6 [] (B t18), (t6.2.2 == t10.2.2) = true, (t6.2.1 == t10.2.1) = true, t14 = true, Computes cx 13 [.lst false 3 t13, .lst false 3 t10.1] (B t14), Computes cx 14 [.lst false 3 t6.1] (.lst false 3 t13), (t5.2 == t7) = true, (t5.1.toList == t9.toList) = true, Computes cx 12 [.v (.string a1)] (.tup [.lst false 3 t10.1, I t10.2.1, I t10.2.2]), Computes cx 11 [.lst false 3 a0] (.v (.string t9)), (t7 == 0) = true, Computes cx 10 [.lst false 3 a0] (I t7), Computes cx 9 [.v (.string a1)] (.tup [.lst false 3 t6.1, I t6.2.1, I t6.2.2]), Computes cx 7 [.lst false 3 t4] (.tup [.v (.string t5.1), I t5.2]), Computes cx 8 [.lst false 3 a0] (.lst false 3 t4), (decide ((a1.size : Int) > 300)) = false, (!t1) = false, Computes cx 5 [.lst false 3 a0] (B t1)]) := by kernel_rfl
theorem e_law03_DriveTexts_19 (a0 : List D) (a1 : ByteArray) (t1 : Bool) (t4 : List D) (t5 : ByteArray × Int) (t6 : List D × Int × Int) (t7 : Int) (t9 : List D × Int × Int) (t12 : List D) (t13 : Bool) (t17 : Bool) : runFn true 100 cx 3 [.lst false 3 a0, .v (.string a1)] [.ret (B t1), .br false, .br false, .no, .ret (.lst false 3 t4), .ret (.tup [.v (.string t5.1), I t5.2]), .ret (.tup [.lst false 3 t6.1, I t6.2.1, I t6.2.2]), .ret (I t7), .br false, .ret (.tup [.lst false 3 t9.1, I t9.2.1, I t9.2.2]), .br true, .br true, .ret (.lst false 3 t12), .ret (B t13), .br true, .br true, .br true, .ret (B t17)] = some (B t17, [Computes cx 6 [] (B t17), (t6.2.2 == t9.2.2) = true, (t6.2.1 == t9.2.1) = true, t13 = true, Computes cx 13 [.lst false 3 t12, .lst false 3 t9.1] (B t13), Computes cx 14 [.lst false 3 t6.1] (.lst false 3 t12), (t5.2 == t7) = true, (t5.1.toList == (⟨#[]⟩ : ByteArray).toList) = true, Computes cx 12 [.v (.string a1)] (.tup [.lst false 3 t9.1, I t9.2.1, I t9.2.2]), (t7 == 0) = false, Computes cx 10 [.lst false 3 a0] (I t7), Computes cx 9 [.v (.string a1)] (.tup [.lst false 3 t6.1, I t6.2.1, I t6.2.2]), Computes cx 7 [.lst false 3 t4] (.tup [.v (.string t5.1), I t5.2]), Computes cx 8 [.lst false 3 a0] (.lst false 3 t4), (decide ((a1.size : Int) > 300)) = false, (!t1) = false, Computes cx 5 [.lst false 3 a0] (B t1)]) := by kernel_rfl
theorem e_law03_DriveTexts_25 (a0 : List D) (a1 : ByteArray) (t1 : Bool) (t3 : Bool) : runFn true 100 cx 3 [.lst false 3 a0, .v (.string a1)] [.ret (B t1), .br true, .no, .ret (B t3)] = some (B t3, [Computes cx 6 [] (B t3), (!t1) = true, Computes cx 5 [.lst false 3 a0] (B t1)]) := by kernel_rfl
/- spillage/spillagelaw03.DriveTexts: .lst false 3 a0, .v (.string a1) -/
def F_law03_DriveTexts (n : Nat) (a0 : List D) (a1 : ByteArray) : Option (Bool) :=
  (F_ref03_ShortModel n a0).bind fun t1 =>
  if t1 = true then
    if (a1.size : Int) > 300 then
      if (a1.size : Int) = 4097 then
        (F_law03_given n a0).bind fun t5 =>
        (F_drive_Print n t5).bind fun t6 =>
        (F_drive_Parse n a1).bind fun t7 =>
        (F_ref03_CheckModel n a0).bind fun t8 =>
        if t8 = 0 then
          (F_ref03_Print n a0).bind fun t10 =>
          (F_ref03_Parse n a1).bind fun t11 =>
          if (t6.1.toList == t10.toList) = true then
            if t6.2 = t8 then
              (F_law03_bands n t7.1).bind fun t14 =>
              (F_ref03_SameModel n t14 t11.1).bind fun t15 =>
              if t15 = true then
                if t7.2.1 = t11.2.1 then
                  if t7.2.2 = t11.2.2 then
                    (F_law03_awake n).bind fun t19 =>
                    some t19
                  else
                  none /- false -/
                else
                none /- false -/
              else
              none /- false -/
            else
            none /- false -/
          else
          none /- false -/
        else
        (F_ref03_Parse n a1).bind fun t10 =>
        if (t6.1.toList == (⟨#[]⟩ : ByteArray).toList) = true then
          if t6.2 = t8 then
            (F_law03_bands n t7.1).bind fun t13 =>
            (F_ref03_SameModel n t13 t10.1).bind fun t14 =>
            if t14 = true then
              if t7.2.1 = t10.2.1 then
                if t7.2.2 = t10.2.2 then
                  (F_law03_awake n).bind fun t18 =>
                  some t18
                else
                none /- false -/
              else
              none /- false -/
            else
            none /- false -/
          else
          none /- false -/
        else
        none /- false -/
      else
      (F_law03_awake n).bind fun t5 =>
      some t5
    else
    (F_law03_given n a0).bind fun t4 =>
    (F_drive_Print n t4).bind fun t5 =>
    (F_drive_Parse n a1).bind fun t6 =>
    (F_ref03_CheckModel n a0).bind fun t7 =>
    if t7 = 0 then
      (F_ref03_Print n a0).bind fun t9 =>
      (F_ref03_Parse n a1).bind fun t10 =>
      if (t5.1.toList == t9.toList) = true then
        if t5.2 = t7 then
          (F_law03_bands n t6.1).bind fun t13 =>
          (F_ref03_SameModel n t13 t10.1).bind fun t14 =>
          if t14 = true then
            if t6.2.1 = t10.2.1 then
              if t6.2.2 = t10.2.2 then
                (F_law03_awake n).bind fun t18 =>
                some t18
              else
              none /- false -/
            else
            none /- false -/
          else
          none /- false -/
        else
        none /- false -/
      else
      none /- false -/
    else
    (F_ref03_Parse n a1).bind fun t9 =>
    if (t5.1.toList == (⟨#[]⟩ : ByteArray).toList) = true then
      if t5.2 = t7 then
        (F_law03_bands n t6.1).bind fun t12 =>
        (F_ref03_SameModel n t12 t9.1).bind fun t13 =>
        if t13 = true then
          if t6.2.1 = t9.2.1 then
            if t6.2.2 = t9.2.2 then
              (F_law03_awake n).bind fun t17 =>
              some t17
            else
            none /- false -/
          else
          none /- false -/
        else
        none /- false -/
      else
      none /- false -/
    else
    none /- false -/
  else
  (F_law03_awake n).bind fun t3 =>
  some t3
theorem c_law03_DriveTexts {n : Nat} {a0 : List D} {a1 : ByteArray} {r : Bool} (h : F_law03_DriveTexts n a0 a1 = some r) : Computes cx 3 [.lst false 3 a0, .v (.string a1)] (B r) := by
  unfold F_law03_DriveTexts at h
  obtain ⟨t1, h1, h⟩ := bnd_of h
  by_cases h2 : t1 = true
  · replace h := ite_t h h2
    by_cases h3 : (a1.size : Int) > 300
    · replace h := ite_t h h3
      by_cases h4 : (a1.size : Int) = 4097
      · replace h := ite_t h h4
        obtain ⟨t5, h5, h⟩ := bnd_of h
        obtain ⟨t6, h6, h⟩ := bnd_of h
        obtain ⟨t7, h7, h⟩ := bnd_of h
        obtain ⟨t8, h8, h⟩ := bnd_of h
        by_cases h9 : t8 = 0
        · replace h := ite_t h h9
          obtain ⟨t10, h10, h⟩ := bnd_of h
          obtain ⟨t11, h11, h⟩ := bnd_of h
          by_cases h12 : (t6.1.toList == t10.toList) = true
          · replace h := ite_t h h12
            by_cases h13 : t6.2 = t8
            · replace h := ite_t h h13
              obtain ⟨t14, h14, h⟩ := bnd_of h
              obtain ⟨t15, h15, h⟩ := bnd_of h
              by_cases h16 : t15 = true
              · replace h := ite_t h h16
                by_cases h17 : t7.2.1 = t11.2.1
                · replace h := ite_t h h17
                  by_cases h18 : t7.2.2 = t11.2.2
                  · replace h := ite_t h h18
                    obtain ⟨t19, h19, h⟩ := bnd_of h
                    replace h := Option.some.inj h
                    subst h
                    exact run (e_law03_DriveTexts_0 a0 a1 t1 t5 t6 t7 t8 t10 t11 t14 t15 t19) ⟨(c_law03_awake h19), (eqt h18), (eqt h17), h16, (c_ref03_SameModel h15), (c_law03_bands h14), (eqt h13), h12, (c_ref03_Parse h11), (c_ref03_Print h10), (eqt h9), (c_ref03_CheckModel h8), (c_drive_Parse h7), (c_drive_Print h6), (c_law03_given h5), (nef h4), (decide_eq_true h3), (notf h2), (c_ref03_ShortModel h1), trivial⟩
                  · replace h := ite_f h h18
                    cases h
                · replace h := ite_f h h17
                  cases h
              · replace h := ite_f h h16
                cases h
            · replace h := ite_f h h13
              cases h
          · replace h := ite_f h h12
            cases h
        · replace h := ite_f h h9
          obtain ⟨t10, h10, h⟩ := bnd_of h
          by_cases h11 : (t6.1.toList == (⟨#[]⟩ : ByteArray).toList) = true
          · replace h := ite_t h h11
            by_cases h12 : t6.2 = t8
            · replace h := ite_t h h12
              obtain ⟨t13, h13, h⟩ := bnd_of h
              obtain ⟨t14, h14, h⟩ := bnd_of h
              by_cases h15 : t14 = true
              · replace h := ite_t h h15
                by_cases h16 : t7.2.1 = t10.2.1
                · replace h := ite_t h h16
                  by_cases h17 : t7.2.2 = t10.2.2
                  · replace h := ite_t h h17
                    obtain ⟨t18, h18, h⟩ := bnd_of h
                    replace h := Option.some.inj h
                    subst h
                    exact run (e_law03_DriveTexts_6 a0 a1 t1 t5 t6 t7 t8 t10 t13 t14 t18) ⟨(c_law03_awake h18), (eqt h17), (eqt h16), h15, (c_ref03_SameModel h14), (c_law03_bands h13), (eqt h12), h11, (c_ref03_Parse h10), (eqf h9), (c_ref03_CheckModel h8), (c_drive_Parse h7), (c_drive_Print h6), (c_law03_given h5), (nef h4), (decide_eq_true h3), (notf h2), (c_ref03_ShortModel h1), trivial⟩
                  · replace h := ite_f h h17
                    cases h
                · replace h := ite_f h h16
                  cases h
              · replace h := ite_f h h15
                cases h
            · replace h := ite_f h h12
              cases h
          · replace h := ite_f h h11
            cases h
      · replace h := ite_f h h4
        obtain ⟨t5, h5, h⟩ := bnd_of h
        replace h := Option.some.inj h
        subst h
        exact run (e_law03_DriveTexts_12 a0 a1 t1 t5) ⟨(c_law03_awake h5), (net h4), (decide_eq_true h3), (notf h2), (c_ref03_ShortModel h1), trivial⟩
    · replace h := ite_f h h3
      obtain ⟨t4, h4, h⟩ := bnd_of h
      obtain ⟨t5, h5, h⟩ := bnd_of h
      obtain ⟨t6, h6, h⟩ := bnd_of h
      obtain ⟨t7, h7, h⟩ := bnd_of h
      by_cases h8 : t7 = 0
      · replace h := ite_t h h8
        obtain ⟨t9, h9, h⟩ := bnd_of h
        obtain ⟨t10, h10, h⟩ := bnd_of h
        by_cases h11 : (t5.1.toList == t9.toList) = true
        · replace h := ite_t h h11
          by_cases h12 : t5.2 = t7
          · replace h := ite_t h h12
            obtain ⟨t13, h13, h⟩ := bnd_of h
            obtain ⟨t14, h14, h⟩ := bnd_of h
            by_cases h15 : t14 = true
            · replace h := ite_t h h15
              by_cases h16 : t6.2.1 = t10.2.1
              · replace h := ite_t h h16
                by_cases h17 : t6.2.2 = t10.2.2
                · replace h := ite_t h h17
                  obtain ⟨t18, h18, h⟩ := bnd_of h
                  replace h := Option.some.inj h
                  subst h
                  exact run (e_law03_DriveTexts_13 a0 a1 t1 t4 t5 t6 t7 t9 t10 t13 t14 t18) ⟨(c_law03_awake h18), (eqt h17), (eqt h16), h15, (c_ref03_SameModel h14), (c_law03_bands h13), (eqt h12), h11, (c_ref03_Parse h10), (c_ref03_Print h9), (eqt h8), (c_ref03_CheckModel h7), (c_drive_Parse h6), (c_drive_Print h5), (c_law03_given h4), (decide_eq_false h3), (notf h2), (c_ref03_ShortModel h1), trivial⟩
                · replace h := ite_f h h17
                  cases h
              · replace h := ite_f h h16
                cases h
            · replace h := ite_f h h15
              cases h
          · replace h := ite_f h h12
            cases h
        · replace h := ite_f h h11
          cases h
      · replace h := ite_f h h8
        obtain ⟨t9, h9, h⟩ := bnd_of h
        by_cases h10 : (t5.1.toList == (⟨#[]⟩ : ByteArray).toList) = true
        · replace h := ite_t h h10
          by_cases h11 : t5.2 = t7
          · replace h := ite_t h h11
            obtain ⟨t12, h12, h⟩ := bnd_of h
            obtain ⟨t13, h13, h⟩ := bnd_of h
            by_cases h14 : t13 = true
            · replace h := ite_t h h14
              by_cases h15 : t6.2.1 = t9.2.1
              · replace h := ite_t h h15
                by_cases h16 : t6.2.2 = t9.2.2
                · replace h := ite_t h h16
                  obtain ⟨t17, h17, h⟩ := bnd_of h
                  replace h := Option.some.inj h
                  subst h
                  exact run (e_law03_DriveTexts_19 a0 a1 t1 t4 t5 t6 t7 t9 t12 t13 t17) ⟨(c_law03_awake h17), (eqt h16), (eqt h15), h14, (c_ref03_SameModel h13), (c_law03_bands h12), (eqt h11), h10, (c_ref03_Parse h9), (eqf h8), (c_ref03_CheckModel h7), (c_drive_Parse h6), (c_drive_Print h5), (c_law03_given h4), (decide_eq_false h3), (notf h2), (c_ref03_ShortModel h1), trivial⟩
                · replace h := ite_f h h16
                  cases h
              · replace h := ite_f h h15
                cases h
            · replace h := ite_f h h14
              cases h
          · replace h := ite_f h h11
            cases h
        · replace h := ite_f h h10
          cases h
  · replace h := ite_f h h2
    obtain ⟨t3, h3, h⟩ := bnd_of h
    replace h := Option.some.inj h
    subst h
    exact run (e_law03_DriveTexts_25 a0 a1 t1 t3) ⟨(c_law03_awake h3), (nott (bfalse h2)), (c_ref03_ShortModel h1), trivial⟩
end Go.Proofs.YtoblljobcafecaaGreatDoor
