/-
  Printed by gsx.py: functions of the program as Lean functions, and that the code computes them.
-/
import Derived.Test.YtclmbhokfhjnoaaGreatDoorWake
set_option linter.unusedVariables false
set_option linter.unusedSimpArgs false
set_option linter.unnecessarySimpa false
set_option maxRecDepth 10000
set_option maxHeartbeats 4000000
namespace Go.Proofs.YtclmbhokfhjnoaaGreatDoor
open Go.SX
/- spillage/spillageref04.numbers: .agg [.v (.string a0), I a1, I a2, I a3, I a4, I a5, I a6, I a7, I a8, I a9] -/
def F_ref04_numbers (n : Nat) (a0 : ByteArray) (a1 : Int) (a2 : Int) (a3 : Int) (a4 : Int) (a5 : Int) (a6 : Int) (a7 : Int) (a8 : Int) (a9 : Int) : Option (List D) :=
  some [I a1, I a2, I a3, I a4, I a5, I a6, I a7, I a8, I a9]
theorem c_ref04_numbers {n : Nat} {a0 : ByteArray} {a1 : Int} {a2 : Int} {a3 : Int} {a4 : Int} {a5 : Int} {a6 : Int} {a7 : Int} {a8 : Int} {a9 : Int} {r : List D} (h : F_ref04_numbers n a0 a1 a2 a3 a4 a5 a6 a7 a8 a9 = some r) : Computes cx 47 [.agg [.v (.string a0), I a1, I a2, I a3, I a4, I a5, I a6, I a7, I a8, I a9]] (.lst false 1 r) := by
  unfold F_ref04_numbers at h
  replace h := Option.some.inj h
  subst h
  exact (run_fr (n := 100) (r := .lst true 1 [I a1, I a2, I a3, I a4, I a5, I a6, I a7, I a8, I a9]) (orc := []) allN (by kernel_rfl)).le (LEs.refl _) (.full _ _ _)
def F_ref01_Text_L1 (n : Nat) (a0 : Int) (sa : (ByteArray × Int)) : Option (((ByteArray × Int)) ⊕ ((ByteArray))) :=
  if sa.2 = 0 then
    some (.inr sa.1)
  else
  if (Int.tmod sa.2 10) < 0 then
    if inI64 (0 - (Int.tmod sa.2 10)) then
    if inI64 (48 + (0 - (Int.tmod sa.2 10))) then
    if (Utf8.encode (IntKind.wrap .i32 (48 + (0 - (Int.tmod sa.2 10))))).size + sa.1.size ≤ 9223372036854775807 then
    if inI64 (Int.tdiv sa.2 10) then
    some (.inl (((Utf8.encode (IntKind.wrap .i32 (48 + (0 - (Int.tmod sa.2 10))))) ++ sa.1), (Int.tdiv sa.2 10)))
    else none
    else none
    else none
    else none
  else
  if inI64 (48 + (Int.tmod sa.2 10)) then
  if (Utf8.encode (IntKind.wrap .i32 (48 + (Int.tmod sa.2 10)))).size + sa.1.size ≤ 9223372036854775807 then
  if inI64 (Int.tdiv sa.2 10) then
  some (.inl (((Utf8.encode (IntKind.wrap .i32 (48 + (Int.tmod sa.2 10)))) ++ sa.1), (Int.tdiv sa.2 10)))
  else none
  else none
  else none
noncomputable def T_ref01_Text_L1 (a0 : Int) (sa : (ByteArray × Int)) : List (Nat × AV) := [(0, .d (I a0)), (3, .d (.v (.string sa.1))), (4, .d (I sa.2))]
noncomputable def H_ref01_Text_L1 (a0 : Int) (sa : (ByteArray × Int)) : List (Nat × Blk) := []
noncomputable def X_ref01_Text_L1 (a0 : Int) (e : (ByteArray)) : Ex := (.exit 0)
noncomputable def XT_ref01_Text_L1 (a0 : Int) (e : (ByteArray)) : List (Nat × AV) := [(0, .d (I a0)), (3, .d (.v (.string e)))]
noncomputable def XH_ref01_Text_L1 (a0 : Int) (e : (ByteArray)) : List (Nat × Blk) := []
theorem R_ref01_Text_L1 {n : Nat} {a0 : Int} (sa : (ByteArray × Int)) (r) (h : F_ref01_Text_L1 n a0 sa = some r) : Rd cx (loopAt cx.P 48 0) 30 0 false (T_ref01_Text_L1 a0) (H_ref01_Text_L1 a0) (X_ref01_Text_L1 a0) (XT_ref01_Text_L1 a0) (XH_ref01_Text_L1 a0) sa r := by
  unfold F_ref01_Text_L1 at h
  by_cases ha1 : sa.2 = 0
  · replace h := ite_t h ha1
    replace h := Option.some.inj h
    subst h
    exact ⟨⟨100, 6, [.br false], [], [0, 3], [], round_fr (allC (nef ha1) allN) (by kernel_rfl)⟩, nofun⟩
  · replace h := ite_f h ha1
    by_cases ha2 : (Int.tmod sa.2 10) < 0
    · replace h := ite_t h ha2
      obtain ⟨ha3, h⟩ := grd_of h
      obtain ⟨ha4, h⟩ := grd_of h
      obtain ⟨ha5, h⟩ := grd_of h
      obtain ⟨ha6, h⟩ := grd_of h
      replace h := Option.some.inj h
      subst h
      exact ⟨100, 6, [.br true, .br true], [], [0, 3, 4], [], round_fr (allC ((by decide) : (10 : Int) ≠ 0) (allC ha6 (allC ha5 (allC ha4 (allC ha3 (allC (decide_eq_true ha2) (allC ((by decide) : (10 : Int) ≠ 0) (allC (net ha1) allN)))))))) (by kernel_rfl)⟩
    · replace h := ite_f h ha2
      obtain ⟨ha3, h⟩ := grd_of h
      obtain ⟨ha4, h⟩ := grd_of h
      obtain ⟨ha5, h⟩ := grd_of h
      replace h := Option.some.inj h
      subst h
      exact ⟨100, 6, [.br true, .br false], [], [0, 3, 4], [], round_fr (allC ((by decide) : (10 : Int) ≠ 0) (allC ha5 (allC ha4 (allC ha3 (allC (decide_eq_false ha2) (allC ((by decide) : (10 : Int) ≠ 0) (allC (net ha1) allN))))))) (by kernel_rfl)⟩
/- spillage/spillageref01.Text: I a0 -/
def F_ref01_Text (n : Nat) (a0 : Int) : Option (ByteArray) :=
  if a0 = 0 then
    some ⟨#[48]⟩
  else
  (loopF (F_ref01_Text_L1 n a0) n (⟨#[]⟩, a0)).bind fun t2 =>
  if a0 < 0 then
    if (⟨#[45]⟩ : ByteArray).size + t2.size ≤ 9223372036854775807 then
    some ((⟨#[45]⟩ : ByteArray) ++ t2)
    else none
  else
  some t2
theorem c_ref01_Text {n : Nat} {a0 : Int} {r : ByteArray} (h : F_ref01_Text n a0 = some r) : Computes cx 48 [I a0] (.v (.string r)) := by
  unfold F_ref01_Text at h
  by_cases h1 : a0 = 0
  · replace h := ite_t h h1
    replace h := Option.some.inj h
    subst h
    exact run_fr (n := 100) (orc := [.br true]) (allC (eqt h1) allN) (by kernel_rfl)
  · replace h := ite_f h h1
    obtain ⟨t2, h2, h⟩ := bnd_of h
    by_cases h3 : a0 < 0
    · replace h := ite_t h h3
      obtain ⟨h4, h⟩ := grd_of h
      replace h := Option.some.inj h
      subst h
      exact run_fr (n := 100) (orc := [.br false, .lp [] [0, 3, 4] [] (.exit 0) [(0, .d (I a0)), (3, .d (.v (.string t2)))] [] 37, .br true]) (allC h4 (allC (decide_eq_true h3) (allC (loopF_to R_ref01_Text_L1 h2) (allC (eqf h1) allN)))) (by kernel_rfl)
    · replace h := ite_f h h3
      replace h := Option.some.inj h
      subst h
      exact run_fr (n := 100) (orc := [.br false, .lp [] [0, 3, 4] [] (.exit 0) [(0, .d (I a0)), (3, .d (.v (.string t2)))] [] 37, .br false]) (allC (decide_eq_false h3) (allC (loopF_to R_ref01_Text_L1 h2) (allC (eqf h1) allN))) (by kernel_rfl)
def F_ref04_Print_L2 (n : Nat) (a0 : List D) (sa : ByteArray × Int) (ta5 : List D) (sb : (ByteArray × Int)) : Option (((ByteArray × Int)) ⊕ ((ByteArray))) :=
  if sb.2 < 9 then
    if sb.1.size + (⟨#[32]⟩ : ByteArray).size ≤ 9223372036854775807 then
    (el un_i ta5 sb.2).bind fun tb3 =>
    (F_ref01_Text n tb3).bind fun tb4 =>
    if (sb.1 ++ (⟨#[32]⟩ : ByteArray)).size + tb4.size ≤ 9223372036854775807 then
    if inI64 (sb.2 + 1) then
    some (.inl (((sb.1 ++ (⟨#[32]⟩ : ByteArray)) ++ tb4), (sb.2 + 1)))
    else none
    else none
    else none
  else
  some (.inr sb.1)
noncomputable def T_ref04_Print_L2 (a0 : List D) (sa : ByteArray × Int) (ta5 : List D) (sb : (ByteArray × Int)) : List (Nat × AV) := [(0, .d (.lst false 10 a0)), (3, .d (.v (.string sb.1))), (4, .d (I sa.2)), (5, .d (.lst false 1 ta5)), (6, .d (I sb.2))]
noncomputable def H_ref04_Print_L2 (a0 : List D) (sa : ByteArray × Int) (ta5 : List D) (sb : (ByteArray × Int)) : List (Nat × Blk) := []
noncomputable def X_ref04_Print_L2 (a0 : List D) (sa : ByteArray × Int) (ta5 : List D) (e : (ByteArray)) : Ex := (.exit 2)
noncomputable def XT_ref04_Print_L2 (a0 : List D) (sa : ByteArray × Int) (ta5 : List D) (e : (ByteArray)) : List (Nat × AV) := [(0, .d (.lst false 10 a0)), (3, .d (.v (.string e))), (4, .d (I sa.2))]
noncomputable def XH_ref04_Print_L2 (a0 : List D) (sa : ByteArray × Int) (ta5 : List D) (e : (ByteArray)) : List (Nat × Blk) := []
theorem R_ref04_Print_L2 {n : Nat} {a0 : List D} {sa : ByteArray × Int} {ta5 : List D} (sb : (ByteArray × Int)) (r) (h : F_ref04_Print_L2 n a0 sa ta5 sb = some r) : Rd cx (loopAt cx.P 11 1) 41 0 false (T_ref04_Print_L2 a0 sa ta5) (H_ref04_Print_L2 a0 sa ta5) (X_ref04_Print_L2 a0 sa ta5) (XT_ref04_Print_L2 a0 sa ta5) (XH_ref04_Print_L2 a0 sa ta5) sb r := by
  unfold F_ref04_Print_L2 at h
  by_cases hb1 : sb.2 < 9
  · replace h := ite_t h hb1
    obtain ⟨hb2, h⟩ := grd_of h
    obtain ⟨tb3, hb3, h⟩ := bnd_of h
    obtain ⟨tb4, hb4, h⟩ := bnd_of h
    obtain ⟨hb5, h⟩ := grd_of h
    obtain ⟨hb6, h⟩ := grd_of h
    replace h := Option.some.inj h
    subst h
    exact ⟨100, 23, [.br true, .el (enc_i tb3), .ret (.v (.string tb4))], [], [0, 3, 4, 5, 6], [], round_fr (allC hb6 (allC hb5 (allC (c_ref01_Text hb4) (allC (el_ok un_i_ok hb3).1 (allC (el_ok un_i_ok hb3).2 (allC hb2 (allC (decide_eq_true hb1) allN))))))) (by kernel_rfl)⟩
  · replace h := ite_f h hb1
    replace h := Option.some.inj h
    subst h
    exact ⟨⟨100, 23, [.br false], [], [0, 3, 4], [], round_fr (allC (decide_eq_false hb1) allN) (by kernel_rfl)⟩, nofun⟩
def F_ref04_Print_L3 (n : Nat) (a0 : List D) (sa : (ByteArray × Int)) : Option (((ByteArray × Int)) ⊕ ((ByteArray))) :=
  if sa.2 < ((a0).length : Int) then
    if sa.1.size + (⟨#[109, 105, 114, 114, 111, 114, 32]⟩ : ByteArray).size ≤ 9223372036854775807 then
    (el un_Asi9Z a0 sa.2).bind fun ta3 =>
    if (sa.1 ++ (⟨#[109, 105, 114, 114, 111, 114, 32]⟩ : ByteArray)).size + ta3.1.size ≤ 9223372036854775807 then
    (F_ref04_numbers n ta3.1 ta3.2.1 ta3.2.2.1 ta3.2.2.2.1 ta3.2.2.2.2.1 ta3.2.2.2.2.2.1 ta3.2.2.2.2.2.2.1 ta3.2.2.2.2.2.2.2.1 ta3.2.2.2.2.2.2.2.2.1 ta3.2.2.2.2.2.2.2.2.2).bind fun ta5 =>
    (loopF (F_ref04_Print_L2 n a0 sa ta5) n (((sa.1 ++ (⟨#[109, 105, 114, 114, 111, 114, 32]⟩ : ByteArray)) ++ ta3.1), 0)).bind fun ta6 =>
    if ta6.size + (⟨#[10]⟩ : ByteArray).size ≤ 9223372036854775807 then
    if inI64 (sa.2 + 1) then
    some (.inl ((ta6 ++ (⟨#[10]⟩ : ByteArray)), (sa.2 + 1)))
    else none
    else none
    else none
    else none
  else
  some (.inr sa.1)
noncomputable def T_ref04_Print_L3 (a0 : List D) (sa : (ByteArray × Int)) : List (Nat × AV) := [(0, .d (.lst false 10 a0)), (3, .d (.v (.string sa.1))), (4, .d (I sa.2))]
noncomputable def H_ref04_Print_L3 (a0 : List D) (sa : (ByteArray × Int)) : List (Nat × Blk) := []
noncomputable def X_ref04_Print_L3 (a0 : List D) (e : (ByteArray)) : Ex := (.exit 0)
noncomputable def XT_ref04_Print_L3 (a0 : List D) (e : (ByteArray)) : List (Nat × AV) := [(3, .d (.v (.string e)))]
noncomputable def XH_ref04_Print_L3 (a0 : List D) (e : (ByteArray)) : List (Nat × Blk) := []
theorem R_ref04_Print_L3 {n : Nat} {a0 : List D} (sa : (ByteArray × Int)) (r) (h : F_ref04_Print_L3 n a0 sa = some r) : Rd cx (loopAt cx.P 11 0) 41 0 false (T_ref04_Print_L3 a0) (H_ref04_Print_L3 a0) (X_ref04_Print_L3 a0) (XT_ref04_Print_L3 a0) (XH_ref04_Print_L3 a0) sa r := by
  unfold F_ref04_Print_L3 at h
  by_cases ha1 : sa.2 < ((a0).length : Int)
  · replace h := ite_t h ha1
    obtain ⟨ha2, h⟩ := grd_of h
    obtain ⟨ta3, ha3, h⟩ := bnd_of h
    obtain ⟨ha4, h⟩ := grd_of h
    obtain ⟨ta5, ha5, h⟩ := bnd_of h
    obtain ⟨ta6, ha6, h⟩ := bnd_of h
    obtain ⟨ha7, h⟩ := grd_of h
    obtain ⟨ha8, h⟩ := grd_of h
    replace h := Option.some.inj h
    subst h
    exact ⟨100, 3, [.br true, .el (enc_Asi9Z ta3), .el (enc_Asi9Z ta3), .ret (.lst false 1 ta5), .lp [] [0, 3, 4, 5, 6] [] (.exit 2) [(0, .d (.lst false 10 a0)), (3, .d (.v (.string ta6))), (4, .d (I sa.2))] [] 48], [], [0, 3, 4], [], round_fr (allC ha8 (allC ha7 (allC (loopF_to R_ref04_Print_L2 ha6) (allC (c_ref04_numbers ha5) (allC (el_ok un_Asi9Z_ok ha3).1 (allC (el_ok un_Asi9Z_ok ha3).2 (allC ha4 (allC (el_ok un_Asi9Z_ok ha3).1 (allC (el_ok un_Asi9Z_ok ha3).2 (allC ha2 (allC (decide_eq_true ha1) allN))))))))))) (by kernel_rfl)⟩
  · replace h := ite_f h ha1
    replace h := Option.some.inj h
    subst h
    exact ⟨⟨100, 3, [.br false], [], [3], [], round_fr (allC (decide_eq_false ha1) allN) (by kernel_rfl)⟩, nofun⟩
/- spillage/spillageref04.Print: .lst false 10 a0 -/
def F_ref04_Print (n : Nat) (a0 : List D) : Option (ByteArray) :=
  (loopF (F_ref04_Print_L3 n a0) n (⟨#[]⟩, 0)).bind fun t1 =>
  some t1
theorem c_ref04_Print {n : Nat} {a0 : List D} {r : ByteArray} (h : F_ref04_Print n a0 = some r) : Computes cx 11 [.lst false 10 a0] (.v (.string r)) := by
  unfold F_ref04_Print at h
  obtain ⟨t1, h1, h⟩ := bnd_of h
  replace h := Option.some.inj h
  subst h
  exact run_fr (n := 100) (orc := [.lp [] [0, 3, 4] [] (.exit 0) [(3, .d (.v (.string t1)))] [] 65]) (allC (loopF_to R_ref04_Print_L3 h1) allN) (by kernel_rfl)
def F_ref01_Digits_L1 (n : Nat) (a0 : ByteArray) (sa : (Int × Int)) : Option (((Int × Int)) ⊕ ((Unit) ⊕ (Int))) :=
  if sa.2 < (a0.size : Int) then
    (strAt a0 sa.2).bind fun ta2 =>
    if ta2 < 48 then
      some (.inr (.inl ()))
    else
    if ta2 > 57 then
      some (.inr (.inl ()))
    else
    if inI64 (10 * sa.1) then
    if inI64 ((10 * sa.1) + (IntKind.wrap .i64 (IntKind.wrap .u8 (ta2 - 48)))) then
    if inI64 (sa.2 + 1) then
    some (.inl (((10 * sa.1) + (IntKind.wrap .i64 (IntKind.wrap .u8 (ta2 - 48)))), (sa.2 + 1)))
    else none
    else none
    else none
  else
  some (.inr (.inr sa.1))
noncomputable def T_ref01_Digits_L1 (a0 : ByteArray) (sa : (Int × Int)) : List (Nat × AV) := [(0, .d (.v (.string a0))), (4, .d (I sa.1)), (5, .d (I sa.2))]
noncomputable def H_ref01_Digits_L1 (a0 : ByteArray) (sa : (Int × Int)) : List (Nat × Blk) := []
noncomputable def X_ref01_Digits_L1 (a0 : ByteArray) (e : (Unit) ⊕ (Int)) : Ex := match e with
  | (.inl e) => .ret
  | (.inr e) => (.exit 0)
noncomputable def XT_ref01_Digits_L1 (a0 : ByteArray) (e : (Unit) ⊕ (Int)) : List (Nat × AV) := match e with
  | (.inl e) => [(2, .d (I 0)), (3, .d (B false))]
  | (.inr e) => [(4, .d (I e))]
noncomputable def XH_ref01_Digits_L1 (a0 : ByteArray) (e : (Unit) ⊕ (Int)) : List (Nat × Blk) := match e with
  | (.inl e) => []
  | (.inr e) => []
theorem R_ref01_Digits_L1 {n : Nat} {a0 : ByteArray} (sa : (Int × Int)) (r) (h : F_ref01_Digits_L1 n a0 sa = some r) : Rd cx (loopAt cx.P 140 0) 48 0 false (T_ref01_Digits_L1 a0) (H_ref01_Digits_L1 a0) (X_ref01_Digits_L1 a0) (XT_ref01_Digits_L1 a0) (XH_ref01_Digits_L1 a0) sa r := by
  unfold F_ref01_Digits_L1 at h
  by_cases ha1 : sa.2 < (a0.size : Int)
  · replace h := ite_t h ha1
    obtain ⟨ta2, ha2, h⟩ := bnd_of h
    by_cases ha3 : ta2 < 48
    · replace h := ite_t h ha3
      replace h := Option.some.inj h
      subst h
      exact ⟨⟨100, 21, [.br true, .el (.v (.int .u8 ta2)), .br true, .no], [], [2, 3], [], round_fr (allC (decide_eq_true ha3) (allC (strAt_ok ha2 : pureRun cx.P (Instr.index 9 (.string a0) (.int .i64 sa.2)) = some (.int .u8 ta2)) (allC (decide_eq_true ha1) allN))) (by kernel_rfl)⟩, nofun⟩
    · replace h := ite_f h ha3
      by_cases ha4 : ta2 > 57
      · replace h := ite_t h ha4
        replace h := Option.some.inj h
        subst h
        exact ⟨⟨100, 21, [.br true, .el (.v (.int .u8 ta2)), .br false, .el (.v (.int .u8 ta2)), .br true], [], [2, 3], [], round_fr (allC (decide_eq_true ha4) (allC (strAt_ok ha2 : pureRun cx.P (Instr.index 9 (.string a0) (.int .i64 sa.2)) = some (.int .u8 ta2)) (allC (decide_eq_false ha3) (allC (strAt_ok ha2 : pureRun cx.P (Instr.index 9 (.string a0) (.int .i64 sa.2)) = some (.int .u8 ta2)) (allC (decide_eq_true ha1) allN))))) (by kernel_rfl)⟩, nofun⟩
      · replace h := ite_f h ha4
        obtain ⟨ha5, h⟩ := grd_of h
        obtain ⟨ha6, h⟩ := grd_of h
        obtain ⟨ha7, h⟩ := grd_of h
        replace h := Option.some.inj h
        subst h
        exact ⟨100, 21, [.br true, .el (.v (.int .u8 ta2)), .br false, .el (.v (.int .u8 ta2)), .br false, .el (.v (.int .u8 ta2))], [], [0, 4, 5], [], round_fr (allC ha7 (allC ha6 (allC (strAt_ok ha2 : pureRun cx.P (Instr.index 9 (.string a0) (.int .i64 sa.2)) = some (.int .u8 ta2)) (allC ha5 (allC (decide_eq_false ha4) (allC (strAt_ok ha2 : pureRun cx.P (Instr.index 9 (.string a0) (.int .i64 sa.2)) = some (.int .u8 ta2)) (allC (decide_eq_false ha3) (allC (strAt_ok ha2 : pureRun cx.P (Instr.index 9 (.string a0) (.int .i64 sa.2)) = some (.int .u8 ta2)) (allC (decide_eq_true ha1) allN))))))))) (by kernel_rfl)⟩
  · replace h := ite_f h ha1
    replace h := Option.some.inj h
    subst h
    exact ⟨⟨100, 21, [.br false], [], [4], [], round_fr (allC (decide_eq_false ha1) allN) (by kernel_rfl)⟩, nofun⟩
/- spillage/spillageref01.Digits: .v (.string a0) -/
def F_ref01_Digits (n : Nat) (a0 : ByteArray) : Option (Int × Bool) :=
  if (a0.toList == (⟨#[]⟩ : ByteArray).toList) = true then
    some (0, false)
  else
  if (a0.size : Int) > 9 then
    some (0, false)
  else
  (strAt a0 0).bind fun t3 =>
  if t3 = 48 then
    if (a0.size : Int) > 1 then
      some (0, false)
    else
    (loopF (F_ref01_Digits_L1 n a0) n (0, 0)).bind fun t6 => match t6 with
      | (.inl t6) => (
        some (0, false))
      | (.inr t6) => (
        some (t6, true))
  else
  (loopF (F_ref01_Digits_L1 n a0) n (0, 0)).bind fun t5 => match t5 with
    | (.inl t5) => (
      some (0, false))
    | (.inr t5) => (
      some (t5, true))
theorem c_ref01_Digits {n : Nat} {a0 : ByteArray} {r : Int × Bool} (h : F_ref01_Digits n a0 = some r) : Computes cx 140 [.v (.string a0)] (.tup [I r.1, B r.2]) := by
  unfold F_ref01_Digits at h
  by_cases h1 : (a0.toList == (⟨#[]⟩ : ByteArray).toList) = true
  · replace h := ite_t h h1
    replace h := Option.some.inj h
    subst h
    exact run_fr (n := 100) (orc := [.br true, .no, .no]) (allC h1 allN) (by kernel_rfl)
  · replace h := ite_f h h1
    by_cases h2 : (a0.size : Int) > 9
    · replace h := ite_t h h2
      replace h := Option.some.inj h
      subst h
      exact run_fr (n := 100) (orc := [.br false, .br true, .no]) (allC (decide_eq_true h2) (allC (bfalse h1) allN)) (by kernel_rfl)
    · replace h := ite_f h h2
      obtain ⟨t3, h3, h⟩ := bnd_of h
      by_cases h4 : t3 = 48
      · replace h := ite_t h h4
        by_cases h5 : (a0.size : Int) > 1
        · replace h := ite_t h h5
          replace h := Option.some.inj h
          subst h
          exact run_fr (n := 100) (orc := [.br false, .br false, .el (.v (.int .u8 t3)), .br true, .br true]) (allC (decide_eq_true h5) (allC (eqt h4) (allC (strAt_ok h3 : pureRun cx.P (Instr.index 9 (.string a0) (.int .i64 0)) = some (.int .u8 t3)) (allC (decide_eq_false h2) (allC (bfalse h1) allN))))) (by kernel_rfl)
        · replace h := ite_f h h5
          obtain ⟨t6, h6, h⟩ := bnd_of h
          rcases t6 with t6 | t6
          · replace h := Option.some.inj h
            subst h
            exact run_fr (n := 100) (orc := [.br false, .br false, .el (.v (.int .u8 t3)), .br true, .br false, .lp [] [0, 4, 5] [] .ret [(2, .d (I 0)), (3, .d (B false))] [] 58]) (allC (loopF_to R_ref01_Digits_L1 h6) (allC (decide_eq_false h5) (allC (eqt h4) (allC (strAt_ok h3 : pureRun cx.P (Instr.index 9 (.string a0) (.int .i64 0)) = some (.int .u8 t3)) (allC (decide_eq_false h2) (allC (bfalse h1) allN)))))) (by kernel_rfl)
          · replace h := Option.some.inj h
            subst h
            exact run_fr (n := 100) (orc := [.br false, .br false, .el (.v (.int .u8 t3)), .br true, .br false, .lp [] [0, 4, 5] [] (.exit 0) [(4, .d (I t6))] [] 58]) (allC (loopF_to R_ref01_Digits_L1 h6) (allC (decide_eq_false h5) (allC (eqt h4) (allC (strAt_ok h3 : pureRun cx.P (Instr.index 9 (.string a0) (.int .i64 0)) = some (.int .u8 t3)) (allC (decide_eq_false h2) (allC (bfalse h1) allN)))))) (by kernel_rfl)
      · replace h := ite_f h h4
        obtain ⟨t5, h5, h⟩ := bnd_of h
        rcases t5 with t5 | t5
        · replace h := Option.some.inj h
          subst h
          exact run_fr (n := 100) (orc := [.br false, .br false, .el (.v (.int .u8 t3)), .br false, .no, .lp [] [0, 4, 5] [] .ret [(2, .d (I 0)), (3, .d (B false))] [] 58]) (allC (loopF_to R_ref01_Digits_L1 h5) (allC (eqf h4) (allC (strAt_ok h3 : pureRun cx.P (Instr.index 9 (.string a0) (.int .i64 0)) = some (.int .u8 t3)) (allC (decide_eq_false h2) (allC (bfalse h1) allN))))) (by kernel_rfl)
        · replace h := Option.some.inj h
          subst h
          exact run_fr (n := 100) (orc := [.br false, .br false, .el (.v (.int .u8 t3)), .br false, .no, .lp [] [0, 4, 5] [] (.exit 0) [(4, .d (I t5))] [] 58]) (allC (loopF_to R_ref01_Digits_L1 h5) (allC (eqf h4) (allC (strAt_ok h3 : pureRun cx.P (Instr.index 9 (.string a0) (.int .i64 0)) = some (.int .u8 t3)) (allC (decide_eq_false h2) (allC (bfalse h1) allN))))) (by kernel_rfl)
/- spillage/spillageref01.Signed: .v (.string a0) -/
def F_ref01_Signed (n : Nat) (a0 : ByteArray) : Option (Int × Bool) :=
  if (a0.toList == (⟨#[]⟩ : ByteArray).toList) = true then
    (F_ref01_Digits n a0).bind fun t2 =>
    some (t2.1, t2.2)
  else
  (strAt a0 0).bind fun t2 =>
  if t2 = 45 then
    (strSub a0 (some 1) none).bind fun t4 =>
    (F_ref01_Digits n t4).bind fun t5 =>
    if t5.2 = true then
      if t5.1 = 0 then
        some (0, false)
      else
      if inI64 (0 - t5.1) then
      some ((0 - t5.1), true)
      else none
    else
    some (0, false)
  else
  (F_ref01_Digits n a0).bind fun t4 =>
  some (t4.1, t4.2)
theorem c_ref01_Signed {n : Nat} {a0 : ByteArray} {r : Int × Bool} (h : F_ref01_Signed n a0 = some r) : Computes cx 106 [.v (.string a0)] (.tup [I r.1, B r.2]) := by
  unfold F_ref01_Signed at h
  by_cases h1 : (a0.toList == (⟨#[]⟩ : ByteArray).toList) = true
  · replace h := ite_t h h1
    obtain ⟨t2, h2, h⟩ := bnd_of h
    replace h := Option.some.inj h
    subst h
    exact run_fr (n := 100) (orc := [.br true, .no, .ret (.tup [I t2.1, B t2.2])]) (allC (c_ref01_Digits h2) (allC h1 allN)) (by kernel_rfl)
  · replace h := ite_f h h1
    obtain ⟨t2, h2, h⟩ := bnd_of h
    by_cases h3 : t2 = 45
    · replace h := ite_t h h3
      obtain ⟨t4, h4, h⟩ := bnd_of h
      obtain ⟨t5, h5, h⟩ := bnd_of h
      by_cases h6 : t5.2 = true
      · replace h := ite_t h h6
        by_cases h7 : t5.1 = 0
        · replace h := ite_t h h7
          replace h := Option.some.inj h
          subst h
          exact run_fr (n := 100) (orc := [.br false, .el (.v (.int .u8 t2)), .br false, .el (.v (.string t4)), .ret (.tup [I t5.1, B t5.2]), .br false, .br true]) (allC (eqt h7) (allC (notf h6) (allC (c_ref01_Digits h5) (allC (strSub_ok h4 : pureRun cx.P (Instr.sliceAt 9 (.string a0) (some (.int .i64 1)) none none) = some (.string t4)) (allC (nef h3) (allC (strAt_ok h2 : pureRun cx.P (Instr.index 9 (.string a0) (.int .i64 0)) = some (.int .u8 t2)) (allC (bfalse h1) allN))))))) (by kernel_rfl)
        · replace h := ite_f h h7
          obtain ⟨h8, h⟩ := grd_of h
          replace h := Option.some.inj h
          subst h
          exact run_fr (n := 100) (orc := [.br false, .el (.v (.int .u8 t2)), .br false, .el (.v (.string t4)), .ret (.tup [I t5.1, B t5.2]), .br false, .br false]) (allC h8 (allC (eqf h7) (allC (notf h6) (allC (c_ref01_Digits h5) (allC (strSub_ok h4 : pureRun cx.P (Instr.sliceAt 9 (.string a0) (some (.int .i64 1)) none none) = some (.string t4)) (allC (nef h3) (allC (strAt_ok h2 : pureRun cx.P (Instr.index 9 (.string a0) (.int .i64 0)) = some (.int .u8 t2)) (allC (bfalse h1) allN)))))))) (by kernel_rfl)
      · replace h := ite_f h h6
        replace h := Option.some.inj h
        subst h
        exact run_fr (n := 100) (orc := [.br false, .el (.v (.int .u8 t2)), .br false, .el (.v (.string t4)), .ret (.tup [I t5.1, B t5.2]), .br true, .no]) (allC (nott (bfalse h6)) (allC (c_ref01_Digits h5) (allC (strSub_ok h4 : pureRun cx.P (Instr.sliceAt 9 (.string a0) (some (.int .i64 1)) none none) = some (.string t4)) (allC (nef h3) (allC (strAt_ok h2 : pureRun cx.P (Instr.index 9 (.string a0) (.int .i64 0)) = some (.int .u8 t2)) (allC (bfalse h1) allN)))))) (by kernel_rfl)
    · replace h := ite_f h h3
      obtain ⟨t4, h4, h⟩ := bnd_of h
      replace h := Option.some.inj h
      subst h
      exact run_fr (n := 100) (orc := [.br false, .el (.v (.int .u8 t2)), .br true, .ret (.tup [I t4.1, B t4.2])]) (allC (c_ref01_Digits h4) (allC (net h3) (allC (strAt_ok h2 : pureRun cx.P (Instr.index 9 (.string a0) (.int .i64 0)) = some (.int .u8 t2)) (allC (bfalse h1) allN)))) (by kernel_rfl)
theorem e_ref04_parsed_0 (a0 : List D) (t2 : ByteArray) : runFn true 100 cx 49 [.lst false 1 a0] [.br false, .el (enc_s t2), .br true, .no] = some (.tup [.agg [.v (.string ⟨#[]⟩), I 0, I 0, I 0, I 0, I 0, I 0, I 0, I 0, I 0], B false], [(!(t2.toList == (⟨#[109, 105, 114, 114, 111, 114]⟩ : ByteArray).toList)) = true, (0 : Int) ≤ 0, nth (a0) (Int.toNat 0) = some (.v (.string t2)), (((a0).length : Int) != 11) = false]) := by kernel_rfl
theorem e_ref04_parsed_1 (a0 : List D) (t2 : ByteArray) (t4 : ByteArray) : runFn true 100 cx 49 [.lst false 1 a0] [.br false, .el (enc_s t2), .br false, .el (enc_s t4), .br true] = some (.tup [.agg [.v (.string ⟨#[]⟩), I 0, I 0, I 0, I 0, I 0, I 0, I 0, I 0, I 0], B false], [(t4.toList == (⟨#[]⟩ : ByteArray).toList) = true, (0 : Int) ≤ 1, nth (a0) (Int.toNat 1) = some (.v (.string t4)), (!(t2.toList == (⟨#[109, 105, 114, 114, 111, 114]⟩ : ByteArray).toList)) = false, (0 : Int) ≤ 0, nth (a0) (Int.toNat 0) = some (.v (.string t2)), (((a0).length : Int) != 11) = false]) := by kernel_rfl
theorem e_ref04_parsed_2 (a0 : List D) (t2 : ByteArray) (t4 : ByteArray) (t6 : ByteArray) (t7 : Int × Bool) (t9 : ByteArray) (t10 : Int × Bool) (t12 : ByteArray) (t13 : Int × Bool) (t15 : ByteArray) (t16 : Int × Bool) (t18 : ByteArray) (t19 : Int × Bool) (t21 : ByteArray) (t22 : Int × Bool) (t24 : ByteArray) (t25 : Int × Bool) (t27 : ByteArray) (t28 : Int × Bool) (t30 : ByteArray) (t31 : Int × Bool) : runFn true 100 cx 49 [.lst false 1 a0] [.br false, .el (enc_s t2), .br false, .el (enc_s t4), .br false, .no, .no, .el (enc_s t6), .ret (.tup [I t7.1, B t7.2]), .br false, .no, .no, .no, .no, .el (enc_s t9), .ret (.tup [I t10.1, B t10.2]), .br false, .no, .no, .no, .el (enc_s t12), .ret (.tup [I t13.1, B t13.2]), .br false, .no, .no, .no, .el (enc_s t15), .ret (.tup [I t16.1, B t16.2]), .br false, .no, .no, .no, .el (enc_s t18), .ret (.tup [I t19.1, B t19.2]), .br false, .no, .no, .no, .el (enc_s t21), .ret (.tup [I t22.1, B t22.2]), .br false, .no, .no, .no, .el (enc_s t24), .ret (.tup [I t25.1, B t25.2]), .br false, .no, .no, .no, .el (enc_s t27), .ret (.tup [I t28.1, B t28.2]), .br false, .no, .no, .no, .el (enc_s t30), .ret (.tup [I t31.1, B t31.2]), .br false, .no, .no, .no, .el (enc_s t4), .no, .no, .no, .no, .no, .no, .no, .no, .no, .no, .no, .no, .no, .no, .no, .no, .no, .no] = some (.tup [.agg [.v (.string t4), I t7.1, I t10.1, I t13.1, I t16.1, I t19.1, I t22.1, I t25.1, I t28.1, I t31.1], B true], [(0 : Int) ≤ 1, nth (a0) (Int.toNat 1) = some (.v (.string t4)), inI64 11, (!t31.2) = false, Computes cx 106 [.v (.string t30)] (.tup [I t31.1, B t31.2]), (0 : Int) ≤ 10, nth (a0) (Int.toNat 10) = some (.v (.string t30)), inI64 10, (!t28.2) = false, Computes cx 106 [.v (.string t27)] (.tup [I t28.1, B t28.2]), (0 : Int) ≤ 9, nth (a0) (Int.toNat 9) = some (.v (.string t27)), inI64 9, (!t25.2) = false, Computes cx 106 [.v (.string t24)] (.tup [I t25.1, B t25.2]), (0 : Int) ≤ 8, nth (a0) (Int.toNat 8) = some (.v (.string t24)), inI64 8, (!t22.2) = false, Computes cx 106 [.v (.string t21)] (.tup [I t22.1, B t22.2]), (0 : Int) ≤ 7, nth (a0) (Int.toNat 7) = some (.v (.string t21)), inI64 7, (!t19.2) = false, Computes cx 106 [.v (.string t18)] (.tup [I t19.1, B t19.2]), (0 : Int) ≤ 6, nth (a0) (Int.toNat 6) = some (.v (.string t18)), inI64 6, (!t16.2) = false, Computes cx 106 [.v (.string t15)] (.tup [I t16.1, B t16.2]), (0 : Int) ≤ 5, nth (a0) (Int.toNat 5) = some (.v (.string t15)), inI64 5, (!t13.2) = false, Computes cx 106 [.v (.string t12)] (.tup [I t13.1, B t13.2]), (0 : Int) ≤ 4, nth (a0) (Int.toNat 4) = some (.v (.string t12)), inI64 4, (!t10.2) = false, Computes cx 106 [.v (.string t9)] (.tup [I t10.1, B t10.2]), (0 : Int) ≤ 3, nth (a0) (Int.toNat 3) = some (.v (.string t9)), inI64 3, (!t7.2) = false, Computes cx 106 [.v (.string t6)] (.tup [I t7.1, B t7.2]), (0 : Int) ≤ 2, nth (a0) (Int.toNat 2) = some (.v (.string t6)), (t4.toList == (⟨#[]⟩ : ByteArray).toList) = false, (0 : Int) ≤ 1, nth (a0) (Int.toNat 1) = some (.v (.string t4)), (!(t2.toList == (⟨#[109, 105, 114, 114, 111, 114]⟩ : ByteArray).toList)) = false, (0 : Int) ≤ 0, nth (a0) (Int.toNat 0) = some (.v (.string t2)), (((a0).length : Int) != 11) = false]) := by kernel_rfl
theorem e_ref04_parsed_3 (a0 : List D) (t2 : ByteArray) (t4 : ByteArray) (t6 : ByteArray) (t7 : Int × Bool) (t9 : ByteArray) (t10 : Int × Bool) (t12 : ByteArray) (t13 : Int × Bool) (t15 : ByteArray) (t16 : Int × Bool) (t18 : ByteArray) (t19 : Int × Bool) (t21 : ByteArray) (t22 : Int × Bool) (t24 : ByteArray) (t25 : Int × Bool) (t27 : ByteArray) (t28 : Int × Bool) (t30 : ByteArray) (t31 : Int × Bool) : runFn true 100 cx 49 [.lst false 1 a0] [.br false, .el (enc_s t2), .br false, .el (enc_s t4), .br false, .no, .no, .el (enc_s t6), .ret (.tup [I t7.1, B t7.2]), .br false, .no, .no, .no, .no, .el (enc_s t9), .ret (.tup [I t10.1, B t10.2]), .br false, .no, .no, .no, .el (enc_s t12), .ret (.tup [I t13.1, B t13.2]), .br false, .no, .no, .no, .el (enc_s t15), .ret (.tup [I t16.1, B t16.2]), .br false, .no, .no, .no, .el (enc_s t18), .ret (.tup [I t19.1, B t19.2]), .br false, .no, .no, .no, .el (enc_s t21), .ret (.tup [I t22.1, B t22.2]), .br false, .no, .no, .no, .el (enc_s t24), .ret (.tup [I t25.1, B t25.2]), .br false, .no, .no, .no, .el (enc_s t27), .ret (.tup [I t28.1, B t28.2]), .br false, .no, .no, .no, .el (enc_s t30), .ret (.tup [I t31.1, B t31.2]), .br true] = some (.tup [.agg [.v (.string ⟨#[]⟩), I 0, I 0, I 0, I 0, I 0, I 0, I 0, I 0, I 0], B false], [(!t31.2) = true, Computes cx 106 [.v (.string t30)] (.tup [I t31.1, B t31.2]), (0 : Int) ≤ 10, nth (a0) (Int.toNat 10) = some (.v (.string t30)), inI64 10, (!t28.2) = false, Computes cx 106 [.v (.string t27)] (.tup [I t28.1, B t28.2]), (0 : Int) ≤ 9, nth (a0) (Int.toNat 9) = some (.v (.string t27)), inI64 9, (!t25.2) = false, Computes cx 106 [.v (.string t24)] (.tup [I t25.1, B t25.2]), (0 : Int) ≤ 8, nth (a0) (Int.toNat 8) = some (.v (.string t24)), inI64 8, (!t22.2) = false, Computes cx 106 [.v (.string t21)] (.tup [I t22.1, B t22.2]), (0 : Int) ≤ 7, nth (a0) (Int.toNat 7) = some (.v (.string t21)), inI64 7, (!t19.2) = false, Computes cx 106 [.v (.string t18)] (.tup [I t19.1, B t19.2]), (0 : Int) ≤ 6, nth (a0) (Int.toNat 6) = some (.v (.string t18)), inI64 6, (!t16.2) = false, Computes cx 106 [.v (.string t15)] (.tup [I t16.1, B t16.2]), (0 : Int) ≤ 5, nth (a0) (Int.toNat 5) = some (.v (.string t15)), inI64 5, (!t13.2) = false, Computes cx 106 [.v (.string t12)] (.tup [I t13.1, B t13.2]), (0 : Int) ≤ 4, nth (a0) (Int.toNat 4) = some (.v (.string t12)), inI64 4, (!t10.2) = false, Computes cx 106 [.v (.string t9)] (.tup [I t10.1, B t10.2]), (0 : Int) ≤ 3, nth (a0) (Int.toNat 3) = some (.v (.string t9)), inI64 3, (!t7.2) = false, Computes cx 106 [.v (.string t6)] (.tup [I t7.1, B t7.2]), (0 : Int) ≤ 2, nth (a0) (Int.toNat 2) = some (.v (.string t6)), (t4.toList == (⟨#[]⟩ : ByteArray).toList) = false, (0 : Int) ≤ 1, nth (a0) (Int.toNat 1) = some (.v (.string t4)), (!(t2.toList == (⟨#[109, 105, 114, 114, 111, 114]⟩ : ByteArray).toList)) = false, (0 : Int) ≤ 0, nth (a0) (Int.toNat 0) = some (.v (.string t2)), (((a0).length : Int) != 11) = false]) := by kernel_rfl
theorem e_ref04_parsed_4 (a0 : List D) (t2 : ByteArray) (t4 : ByteArray) (t6 : ByteArray) (t7 : Int × Bool) (t9 : ByteArray) (t10 : Int × Bool) (t12 : ByteArray) (t13 : Int × Bool) (t15 : ByteArray) (t16 : Int × Bool) (t18 : ByteArray) (t19 : Int × Bool) (t21 : ByteArray) (t22 : Int × Bool) (t24 : ByteArray) (t25 : Int × Bool) (t27 : ByteArray) (t28 : Int × Bool) : runFn true 100 cx 49 [.lst false 1 a0] [.br false, .el (enc_s t2), .br false, .el (enc_s t4), .br false, .no, .no, .el (enc_s t6), .ret (.tup [I t7.1, B t7.2]), .br false, .no, .no, .no, .no, .el (enc_s t9), .ret (.tup [I t10.1, B t10.2]), .br false, .no, .no, .no, .el (enc_s t12), .ret (.tup [I t13.1, B t13.2]), .br false, .no, .no, .no, .el (enc_s t15), .ret (.tup [I t16.1, B t16.2]), .br false, .no, .no, .no, .el (enc_s t18), .ret (.tup [I t19.1, B t19.2]), .br false, .no, .no, .no, .el (enc_s t21), .ret (.tup [I t22.1, B t22.2]), .br false, .no, .no, .no, .el (enc_s t24), .ret (.tup [I t25.1, B t25.2]), .br false, .no, .no, .no, .el (enc_s t27), .ret (.tup [I t28.1, B t28.2]), .br true] = some (.tup [.agg [.v (.string ⟨#[]⟩), I 0, I 0, I 0, I 0, I 0, I 0, I 0, I 0, I 0], B false], [(!t28.2) = true, Computes cx 106 [.v (.string t27)] (.tup [I t28.1, B t28.2]), (0 : Int) ≤ 9, nth (a0) (Int.toNat 9) = some (.v (.string t27)), inI64 9, (!t25.2) = false, Computes cx 106 [.v (.string t24)] (.tup [I t25.1, B t25.2]), (0 : Int) ≤ 8, nth (a0) (Int.toNat 8) = some (.v (.string t24)), inI64 8, (!t22.2) = false, Computes cx 106 [.v (.string t21)] (.tup [I t22.1, B t22.2]), (0 : Int) ≤ 7, nth (a0) (Int.toNat 7) = some (.v (.string t21)), inI64 7, (!t19.2) = false, Computes cx 106 [.v (.string t18)] (.tup [I t19.1, B t19.2]), (0 : Int) ≤ 6, nth (a0) (Int.toNat 6) = some (.v (.string t18)), inI64 6, (!t16.2) = false, Computes cx 106 [.v (.string t15)] (.tup [I t16.1, B t16.2]), (0 : Int) ≤ 5, nth (a0) (Int.toNat 5) = some (.v (.string t15)), inI64 5, (!t13.2) = false, Computes cx 106 [.v (.string t12)] (.tup [I t13.1, B t13.2]), (0 : Int) ≤ 4, nth (a0) (Int.toNat 4) = some (.v (.string t12)), inI64 4, (!t10.2) = false, Computes cx 106 [.v (.string t9)] (.tup [I t10.1, B t10.2]), (0 : Int) ≤ 3, nth (a0) (Int.toNat 3) = some (.v (.string t9)), inI64 3, (!t7.2) = false, Computes cx 106 [.v (.string t6)] (.tup [I t7.1, B t7.2]), (0 : Int) ≤ 2, nth (a0) (Int.toNat 2) = some (.v (.string t6)), (t4.toList == (⟨#[]⟩ : ByteArray).toList) = false, (0 : Int) ≤ 1, nth (a0) (Int.toNat 1) = some (.v (.string t4)), (!(t2.toList == (⟨#[109, 105, 114, 114, 111, 114]⟩ : ByteArray).toList)) = false, (0 : Int) ≤ 0, nth (a0) (Int.toNat 0) = some (.v (.string t2)), (((a0).length : Int) != 11) = false]) := by kernel_rfl
theorem e_ref04_parsed_5 (a0 : List D) (t2 : ByteArray) (t4 : ByteArray) (t6 : ByteArray) (t7 : Int × Bool) (t9 : ByteArray) (t10 : Int × Bool) (t12 : ByteArray) (t13 : Int × Bool) (t15 : ByteArray) (t16 : Int × Bool) (t18 : ByteArray) (t19 : Int × Bool) (t21 : ByteArray) (t22 : Int × Bool) (t24 : ByteArray) (t25 : Int × Bool) : runFn true 100 cx 49 [.lst false 1 a0] [.br false, .el (enc_s t2), .br false, .el (enc_s t4), .br false, .no, .no, .el (enc_s t6), .ret (.tup [I t7.1, B t7.2]), .br false, .no, .no, .no, .no, .el (enc_s t9), .ret (.tup [I t10.1, B t10.2]), .br false, .no, .no, .no, .el (enc_s t12), .ret (.tup [I t13.1, B t13.2]), .br false, .no, .no, .no, .el (enc_s t15), .ret (.tup [I t16.1, B t16.2]), .br false, .no, .no, .no, .el (enc_s t18), .ret (.tup [I t19.1, B t19.2]), .br false, .no, .no, .no, .el (enc_s t21), .ret (.tup [I t22.1, B t22.2]), .br false, .no, .no, .no, .el (enc_s t24), .ret (.tup [I t25.1, B t25.2]), .br true] = some (.tup [.agg [.v (.string ⟨#[]⟩), I 0, I 0, I 0, I 0, I 0, I 0, I 0, I 0, I 0], B false], [(!t25.2) = true, Computes cx 106 [.v (.string t24)] (.tup [I t25.1, B t25.2]), (0 : Int) ≤ 8, nth (a0) (Int.toNat 8) = some (.v (.string t24)), inI64 8, (!t22.2) = false, Computes cx 106 [.v (.string t21)] (.tup [I t22.1, B t22.2]), (0 : Int) ≤ 7, nth (a0) (Int.toNat 7) = some (.v (.string t21)), inI64 7, (!t19.2) = false, Computes cx 106 [.v (.string t18)] (.tup [I t19.1, B t19.2]), (0 : Int) ≤ 6, nth (a0) (Int.toNat 6) = some (.v (.string t18)), inI64 6, (!t16.2) = false, Computes cx 106 [.v (.string t15)] (.tup [I t16.1, B t16.2]), (0 : Int) ≤ 5, nth (a0) (Int.toNat 5) = some (.v (.string t15)), inI64 5, (!t13.2) = false, Computes cx 106 [.v (.string t12)] (.tup [I t13.1, B t13.2]), (0 : Int) ≤ 4, nth (a0) (Int.toNat 4) = some (.v (.string t12)), inI64 4, (!t10.2) = false, Computes cx 106 [.v (.string t9)] (.tup [I t10.1, B t10.2]), (0 : Int) ≤ 3, nth (a0) (Int.toNat 3) = some (.v (.string t9)), inI64 3, (!t7.2) = false, Computes cx 106 [.v (.string t6)] (.tup [I t7.1, B t7.2]), (0 : Int) ≤ 2, nth (a0) (Int.toNat 2) = some (.v (.string t6)), (t4.toList == (⟨#[]⟩ : ByteArray).toList) = false, (0 : Int) ≤ 1, nth (a0) (Int.toNat 1) = some (.v (.string t4)), (!(t2.toList == (⟨#[109, 105, 114, 114, 111, 114]⟩ : ByteArray).toList)) = false, (0 : Int) ≤ 0, nth (a0) (Int.toNat 0) = some (.v (.string t2)), (((a0).length : Int) != 11) = false]) := by kernel_rfl
theorem e_ref04_parsed_6 (a0 : List D) (t2 : ByteArray) (t4 : ByteArray) (t6 : ByteArray) (t7 : Int × Bool) (t9 : ByteArray) (t10 : Int × Bool) (t12 : ByteArray) (t13 : Int × Bool) (t15 : ByteArray) (t16 : Int × Bool) (t18 : ByteArray) (t19 : Int × Bool) (t21 : ByteArray) (t22 : Int × Bool) : runFn true 100 cx 49 [.lst false 1 a0] [.br false, .el (enc_s t2), .br false, .el (enc_s t4), .br false, .no, .no, .el (enc_s t6), .ret (.tup [I t7.1, B t7.2]), .br false, .no, .no, .no, .no, .el (enc_s t9), .ret (.tup [I t10.1, B t10.2]), .br false, .no, .no, .no, .el (enc_s t12), .ret (.tup [I t13.1, B t13.2]), .br false, .no, .no, .no, .el (enc_s t15), .ret (.tup [I t16.1, B t16.2]), .br false, .no, .no, .no, .el (enc_s t18), .ret (.tup [I t19.1, B t19.2]), .br false, .no, .no, .no, .el (enc_s t21), .ret (.tup [I t22.1, B t22.2]), .br true] = some (.tup [.agg [.v (.string ⟨#[]⟩), I 0, I 0, I 0, I 0, I 0, I 0, I 0, I 0, I 0], B false], [(!t22.2) = true, Computes cx 106 [.v (.string t21)] (.tup [I t22.1, B t22.2]), (0 : Int) ≤ 7, nth (a0) (Int.toNat 7) = some (.v (.string t21)), inI64 7, (!t19.2) = false, Computes cx 106 [.v (.string t18)] (.tup [I t19.1, B t19.2]), (0 : Int) ≤ 6, nth (a0) (Int.toNat 6) = some (.v (.string t18)), inI64 6, (!t16.2) = false, Computes cx 106 [.v (.string t15)] (.tup [I t16.1, B t16.2]), (0 : Int) ≤ 5, nth (a0) (Int.toNat 5) = some (.v (.string t15)), inI64 5, (!t13.2) = false, Computes cx 106 [.v (.string t12)] (.tup [I t13.1, B t13.2]), (0 : Int) ≤ 4, nth (a0) (Int.toNat 4) = some (.v (.string t12)), inI64 4, (!t10.2) = false, Computes cx 106 [.v (.string t9)] (.tup [I t10.1, B t10.2]), (0 : Int) ≤ 3, nth (a0) (Int.toNat 3) = some (.v (.string t9)), inI64 3, (!t7.2) = false, Computes cx 106 [.v (.string t6)] (.tup [I t7.1, B t7.2]), (0 : Int) ≤ 2, nth (a0) (Int.toNat 2) = some (.v (.string t6)), (t4.toList == (⟨#[]⟩ : ByteArray).toList) = false, (0 : Int) ≤ 1, nth (a0) (Int.toNat 1) = some (.v (.string t4)), (!(t2.toList == (⟨#[109, 105, 114, 114, 111, 114]⟩ : ByteArray).toList)) = false, (0 : Int) ≤ 0, nth (a0) (Int.toNat 0) = some (.v (.string t2)), (((a0).length : Int) != 11) = false]) := by kernel_rfl
theorem e_ref04_parsed_7 (a0 : List D) (t2 : ByteArray) (t4 : ByteArray) (t6 : ByteArray) (t7 : Int × Bool) (t9 : ByteArray) (t10 : Int × Bool) (t12 : ByteArray) (t13 : Int × Bool) (t15 : ByteArray) (t16 : Int × Bool) (t18 : ByteArray) (t19 : Int × Bool) : runFn true 100 cx 49 [.lst false 1 a0] [.br false, .el (enc_s t2), .br false, .el (enc_s t4), .br false, .no, .no, .el (enc_s t6), .ret (.tup [I t7.1, B t7.2]), .br false, .no, .no, .no, .no, .el (enc_s t9), .ret (.tup [I t10.1, B t10.2]), .br false, .no, .no, .no, .el (enc_s t12), .ret (.tup [I t13.1, B t13.2]), .br false, .no, .no, .no, .el (enc_s t15), .ret (.tup [I t16.1, B t16.2]), .br false, .no, .no, .no, .el (enc_s t18), .ret (.tup [I t19.1, B t19.2]), .br true] = some (.tup [.agg [.v (.string ⟨#[]⟩), I 0, I 0, I 0, I 0, I 0, I 0, I 0, I 0, I 0], B false], [(!t19.2) = true, Computes cx 106 [.v (.string t18)] (.tup [I t19.1, B t19.2]), (0 : Int) ≤ 6, nth (a0) (Int.toNat 6) = some (.v (.string t18)), inI64 6, (!t16.2) = false, Computes cx 106 [.v (.string t15)] (.tup [I t16.1, B t16.2]), (0 : Int) ≤ 5, nth (a0) (Int.toNat 5) = some (.v (.string t15)), inI64 5, (!t13.2) = false, Computes cx 106 [.v (.string t12)] (.tup [I t13.1, B t13.2]), (0 : Int) ≤ 4, nth (a0) (Int.toNat 4) = some (.v (.string t12)), inI64 4, (!t10.2) = false, Computes cx 106 [.v (.string t9)] (.tup [I t10.1, B t10.2]), (0 : Int) ≤ 3, nth (a0) (Int.toNat 3) = some (.v (.string t9)), inI64 3, (!t7.2) = false, Computes cx 106 [.v (.string t6)] (.tup [I t7.1, B t7.2]), (0 : Int) ≤ 2, nth (a0) (Int.toNat 2) = some (.v (.string t6)), (t4.toList == (⟨#[]⟩ : ByteArray).toList) = false, (0 : Int) ≤ 1, nth (a0) (Int.toNat 1) = some (.v (.string t4)), (!(t2.toList == (⟨#[109, 105, 114, 114, 111, 114]⟩ : ByteArray).toList)) = false, (0 : Int) ≤ 0, nth (a0) (Int.toNat 0) = some (.v (.string t2)), (((a0).length : Int) != 11) = false]) := by kernel_rfl
theorem e_ref04_parsed_8 (a0 : List D) (t2 : ByteArray) (t4 : ByteArray) (t6 : ByteArray) (t7 : Int × Bool) (t9 : ByteArray) (t10 : Int × Bool) (t12 : ByteArray) (t13 : Int × Bool) (t15 : ByteArray) (t16 : Int × Bool) : runFn true 100 cx 49 [.lst false 1 a0] [.br false, .el (enc_s t2), .br false, .el (enc_s t4), .br false, .no, .no, .el (enc_s t6), .ret (.tup [I t7.1, B t7.2]), .br false, .no, .no, .no, .no, .el (enc_s t9), .ret (.tup [I t10.1, B t10.2]), .br false, .no, .no, .no, .el (enc_s t12), .ret (.tup [I t13.1, B t13.2]), .br false, .no, .no, .no, .el (enc_s t15), .ret (.tup [I t16.1, B t16.2]), .br true] = some (.tup [.agg [.v (.string ⟨#[]⟩), I 0, I 0, I 0, I 0, I 0, I 0, I 0, I 0, I 0], B false], [(!t16.2) = true, Computes cx 106 [.v (.string t15)] (.tup [I t16.1, B t16.2]), (0 : Int) ≤ 5, nth (a0) (Int.toNat 5) = some (.v (.string t15)), inI64 5, (!t13.2) = false, Computes cx 106 [.v (.string t12)] (.tup [I t13.1, B t13.2]), (0 : Int) ≤ 4, nth (a0) (Int.toNat 4) = some (.v (.string t12)), inI64 4, (!t10.2) = false, Computes cx 106 [.v (.string t9)] (.tup [I t10.1, B t10.2]), (0 : Int) ≤ 3, nth (a0) (Int.toNat 3) = some (.v (.string t9)), inI64 3, (!t7.2) = false, Computes cx 106 [.v (.string t6)] (.tup [I t7.1, B t7.2]), (0 : Int) ≤ 2, nth (a0) (Int.toNat 2) = some (.v (.string t6)), (t4.toList == (⟨#[]⟩ : ByteArray).toList) = false, (0 : Int) ≤ 1, nth (a0) (Int.toNat 1) = some (.v (.string t4)), (!(t2.toList == (⟨#[109, 105, 114, 114, 111, 114]⟩ : ByteArray).toList)) = false, (0 : Int) ≤ 0, nth (a0) (Int.toNat 0) = some (.v (.string t2)), (((a0).length : Int) != 11) = false]) := by kernel_rfl
theorem e_ref04_parsed_9 (a0 : List D) (t2 : ByteArray) (t4 : ByteArray) (t6 : ByteArray) (t7 : Int × Bool) (t9 : ByteArray) (t10 : Int × Bool) (t12 : ByteArray) (t13 : Int × Bool) : runFn true 100 cx 49 [.lst false 1 a0] [.br false, .el (enc_s t2), .br false, .el (enc_s t4), .br false, .no, .no, .el (enc_s t6), .ret (.tup [I t7.1, B t7.2]), .br false, .no, .no, .no, .no, .el (enc_s t9), .ret (.tup [I t10.1, B t10.2]), .br false, .no, .no, .no, .el (enc_s t12), .ret (.tup [I t13.1, B t13.2]), .br true] = some (.tup [.agg [.v (.string ⟨#[]⟩), I 0, I 0, I 0, I 0, I 0, I 0, I 0, I 0, I 0], B false], [(!t13.2) = true, Computes cx 106 [.v (.string t12)] (.tup [I t13.1, B t13.2]), (0 : Int) ≤ 4, nth (a0) (Int.toNat 4) = some (.v (.string t12)), inI64 4, (!t10.2) = false, Computes cx 106 [.v (.string t9)] (.tup [I t10.1, B t10.2]), (0 : Int) ≤ 3, nth (a0) (Int.toNat 3) = some (.v (.string t9)), inI64 3, (!t7.2) = false, Computes cx 106 [.v (.string t6)] (.tup [I t7.1, B t7.2]), (0 : Int) ≤ 2, nth (a0) (Int.toNat 2) = some (.v (.string t6)), (t4.toList == (⟨#[]⟩ : ByteArray).toList) = false, (0 : Int) ≤ 1, nth (a0) (Int.toNat 1) = some (.v (.string t4)), (!(t2.toList == (⟨#[109, 105, 114, 114, 111, 114]⟩ : ByteArray).toList)) = false, (0 : Int) ≤ 0, nth (a0) (Int.toNat 0) = some (.v (.string t2)), (((a0).length : Int) != 11) = false]) := by kernel_rfl
theorem e_ref04_parsed_10 (a0 : List D) (t2 : ByteArray) (t4 : ByteArray) (t6 : ByteArray) (t7 : Int × Bool) (t9 : ByteArray) (t10 : Int × Bool) : runFn true 100 cx 49 [.lst false 1 a0] [.br false, .el (enc_s t2), .br false, .el (enc_s t4), .br false, .no, .no, .el (enc_s t6), .ret (.tup [I t7.1, B t7.2]), .br false, .no, .no, .no, .no, .el (enc_s t9), .ret (.tup [I t10.1, B t10.2]), .br true] = some (.tup [.agg [.v (.string ⟨#[]⟩), I 0, I 0, I 0, I 0, I 0, I 0, I 0, I 0, I 0], B false], [(!t10.2) = true, Computes cx 106 [.v (.string t9)] (.tup [I t10.1, B t10.2]), (0 : Int) ≤ 3, nth (a0) (Int.toNat 3) = some (.v (.string t9)), inI64 3, (!t7.2) = false, Computes cx 106 [.v (.string t6)] (.tup [I t7.1, B t7.2]), (0 : Int) ≤ 2, nth (a0) (Int.toNat 2) = some (.v (.string t6)), (t4.toList == (⟨#[]⟩ : ByteArray).toList) = false, (0 : Int) ≤ 1, nth (a0) (Int.toNat 1) = some (.v (.string t4)), (!(t2.toList == (⟨#[109, 105, 114, 114, 111, 114]⟩ : ByteArray).toList)) = false, (0 : Int) ≤ 0, nth (a0) (Int.toNat 0) = some (.v (.string t2)), (((a0).length : Int) != 11) = false]) := by kernel_rfl
theorem e_ref04_parsed_11 (a0 : List D) (t2 : ByteArray) (t4 : ByteArray) (t6 : ByteArray) (t7 : Int × Bool) : runFn true 100 cx 49 [.lst false 1 a0] [.br false, .el (enc_s t2), .br false, .el (enc_s t4), .br false, .no, .no, .el (enc_s t6), .ret (.tup [I t7.1, B t7.2]), .br true] = some (.tup [.agg [.v (.string ⟨#[]⟩), I 0, I 0, I 0, I 0, I 0, I 0, I 0, I 0, I 0], B false], [(!t7.2) = true, Computes cx 106 [.v (.string t6)] (.tup [I t7.1, B t7.2]), (0 : Int) ≤ 2, nth (a0) (Int.toNat 2) = some (.v (.string t6)), (t4.toList == (⟨#[]⟩ : ByteArray).toList) = false, (0 : Int) ≤ 1, nth (a0) (Int.toNat 1) = some (.v (.string t4)), (!(t2.toList == (⟨#[109, 105, 114, 114, 111, 114]⟩ : ByteArray).toList)) = false, (0 : Int) ≤ 0, nth (a0) (Int.toNat 0) = some (.v (.string t2)), (((a0).length : Int) != 11) = false]) := by kernel_rfl
theorem e_ref04_parsed_12 (a0 : List D) : runFn true 100 cx 49 [.lst false 1 a0] [.br true, .no, .no] = some (.tup [.agg [.v (.string ⟨#[]⟩), I 0, I 0, I 0, I 0, I 0, I 0, I 0, I 0, I 0], B false], [(((a0).length : Int) != 11) = true]) := by kernel_rfl
/- spillage/spillageref04.parsed: .lst false 1 a0 -/
def F_ref04_parsed (n : Nat) (a0 : List D) : Option (ByteArray × Int × Int × Int × Int × Int × Int × Int × Int × Int × Bool) :=
  if ((a0).length : Int) = 11 then
    (el un_s a0 0).bind fun t2 =>
    if (!(t2.toList == (⟨#[109, 105, 114, 114, 111, 114]⟩ : ByteArray).toList)) = true then
      some (⟨#[]⟩, 0, 0, 0, 0, 0, 0, 0, 0, 0, false)
    else
    (el un_s a0 1).bind fun t4 =>
    if (t4.toList == (⟨#[]⟩ : ByteArray).toList) = true then
      some (⟨#[]⟩, 0, 0, 0, 0, 0, 0, 0, 0, 0, false)
    else
    (el un_s a0 2).bind fun t6 =>
    (F_ref01_Signed n t6).bind fun t7 =>
    if t7.2 = true then
      (el un_s a0 3).bind fun t9 =>
      (F_ref01_Signed n t9).bind fun t10 =>
      if t10.2 = true then
        (el un_s a0 4).bind fun t12 =>
        (F_ref01_Signed n t12).bind fun t13 =>
        if t13.2 = true then
          (el un_s a0 5).bind fun t15 =>
          (F_ref01_Signed n t15).bind fun t16 =>
          if t16.2 = true then
            (el un_s a0 6).bind fun t18 =>
            (F_ref01_Signed n t18).bind fun t19 =>
            if t19.2 = true then
              (el un_s a0 7).bind fun t21 =>
              (F_ref01_Signed n t21).bind fun t22 =>
              if t22.2 = true then
                (el un_s a0 8).bind fun t24 =>
                (F_ref01_Signed n t24).bind fun t25 =>
                if t25.2 = true then
                  (el un_s a0 9).bind fun t27 =>
                  (F_ref01_Signed n t27).bind fun t28 =>
                  if t28.2 = true then
                    (el un_s a0 10).bind fun t30 =>
                    (F_ref01_Signed n t30).bind fun t31 =>
                    if t31.2 = true then
                      some (t4, t7.1, t10.1, t13.1, t16.1, t19.1, t22.1, t25.1, t28.1, t31.1, true)
                    else
                    some (⟨#[]⟩, 0, 0, 0, 0, 0, 0, 0, 0, 0, false)
                  else
                  some (⟨#[]⟩, 0, 0, 0, 0, 0, 0, 0, 0, 0, false)
                else
                some (⟨#[]⟩, 0, 0, 0, 0, 0, 0, 0, 0, 0, false)
              else
              some (⟨#[]⟩, 0, 0, 0, 0, 0, 0, 0, 0, 0, false)
            else
            some (⟨#[]⟩, 0, 0, 0, 0, 0, 0, 0, 0, 0, false)
          else
          some (⟨#[]⟩, 0, 0, 0, 0, 0, 0, 0, 0, 0, false)
        else
        some (⟨#[]⟩, 0, 0, 0, 0, 0, 0, 0, 0, 0, false)
      else
      some (⟨#[]⟩, 0, 0, 0, 0, 0, 0, 0, 0, 0, false)
    else
    some (⟨#[]⟩, 0, 0, 0, 0, 0, 0, 0, 0, 0, false)
  else
  some (⟨#[]⟩, 0, 0, 0, 0, 0, 0, 0, 0, 0, false)
theorem c_ref04_parsed {n : Nat} {a0 : List D} {r : ByteArray × Int × Int × Int × Int × Int × Int × Int × Int × Int × Bool} (h : F_ref04_parsed n a0 = some r) : Computes cx 49 [.lst false 1 a0] (.tup [.agg [.v (.string r.1), I r.2.1, I r.2.2.1, I r.2.2.2.1, I r.2.2.2.2.1, I r.2.2.2.2.2.1, I r.2.2.2.2.2.2.1, I r.2.2.2.2.2.2.2.1, I r.2.2.2.2.2.2.2.2.1, I r.2.2.2.2.2.2.2.2.2.1], B r.2.2.2.2.2.2.2.2.2.2]) := by
  unfold F_ref04_parsed at h
  by_cases h1 : ((a0).length : Int) = 11
  · replace h := ite_t h h1
    obtain ⟨t2, h2, h⟩ := bnd_of h
    by_cases h3 : (!(t2.toList == (⟨#[109, 105, 114, 114, 111, 114]⟩ : ByteArray).toList)) = true
    · replace h := ite_t h h3
      replace h := Option.some.inj h
      subst h
      exact run (e_ref04_parsed_0 a0 t2) ⟨h3, (el_ok un_s_ok h2).1, (el_ok un_s_ok h2).2, (nef h1), trivial⟩
    · replace h := ite_f h h3
      obtain ⟨t4, h4, h⟩ := bnd_of h
      by_cases h5 : (t4.toList == (⟨#[]⟩ : ByteArray).toList) = true
      · replace h := ite_t h h5
        replace h := Option.some.inj h
        subst h
        exact run (e_ref04_parsed_1 a0 t2 t4) ⟨h5, (el_ok un_s_ok h4).1, (el_ok un_s_ok h4).2, (bfalse h3), (el_ok un_s_ok h2).1, (el_ok un_s_ok h2).2, (nef h1), trivial⟩
      · replace h := ite_f h h5
        obtain ⟨t6, h6, h⟩ := bnd_of h
        obtain ⟨t7, h7, h⟩ := bnd_of h
        by_cases h8 : t7.2 = true
        · replace h := ite_t h h8
          obtain ⟨t9, h9, h⟩ := bnd_of h
          obtain ⟨t10, h10, h⟩ := bnd_of h
          by_cases h11 : t10.2 = true
          · replace h := ite_t h h11
            obtain ⟨t12, h12, h⟩ := bnd_of h
            obtain ⟨t13, h13, h⟩ := bnd_of h
            by_cases h14 : t13.2 = true
            · replace h := ite_t h h14
              obtain ⟨t15, h15, h⟩ := bnd_of h
              obtain ⟨t16, h16, h⟩ := bnd_of h
              by_cases h17 : t16.2 = true
              · replace h := ite_t h h17
                obtain ⟨t18, h18, h⟩ := bnd_of h
                obtain ⟨t19, h19, h⟩ := bnd_of h
                by_cases h20 : t19.2 = true
                · replace h := ite_t h h20
                  obtain ⟨t21, h21, h⟩ := bnd_of h
                  obtain ⟨t22, h22, h⟩ := bnd_of h
                  by_cases h23 : t22.2 = true
                  · replace h := ite_t h h23
                    obtain ⟨t24, h24, h⟩ := bnd_of h
                    obtain ⟨t25, h25, h⟩ := bnd_of h
                    by_cases h26 : t25.2 = true
                    · replace h := ite_t h h26
                      obtain ⟨t27, h27, h⟩ := bnd_of h
                      obtain ⟨t28, h28, h⟩ := bnd_of h
                      by_cases h29 : t28.2 = true
                      · replace h := ite_t h h29
                        obtain ⟨t30, h30, h⟩ := bnd_of h
                        obtain ⟨t31, h31, h⟩ := bnd_of h
                        by_cases h32 : t31.2 = true
                        · replace h := ite_t h h32
                          replace h := Option.some.inj h
                          subst h
                          exact run (e_ref04_parsed_2 a0 t2 t4 t6 t7 t9 t10 t12 t13 t15 t16 t18 t19 t21 t22 t24 t25 t27 t28 t30 t31) ⟨(el_ok un_s_ok h4).1, (el_ok un_s_ok h4).2, (by unfold inI64; omega), (notf h32), (c_ref01_Signed h31), (el_ok un_s_ok h30).1, (el_ok un_s_ok h30).2, (by unfold inI64; omega), (notf h29), (c_ref01_Signed h28), (el_ok un_s_ok h27).1, (el_ok un_s_ok h27).2, (by unfold inI64; omega), (notf h26), (c_ref01_Signed h25), (el_ok un_s_ok h24).1, (el_ok un_s_ok h24).2, (by unfold inI64; omega), (notf h23), (c_ref01_Signed h22), (el_ok un_s_ok h21).1, (el_ok un_s_ok h21).2, (by unfold inI64; omega), (notf h20), (c_ref01_Signed h19), (el_ok un_s_ok h18).1, (el_ok un_s_ok h18).2, (by unfold inI64; omega), (notf h17), (c_ref01_Signed h16), (el_ok un_s_ok h15).1, (el_ok un_s_ok h15).2, (by unfold inI64; omega), (notf h14), (c_ref01_Signed h13), (el_ok un_s_ok h12).1, (el_ok un_s_ok h12).2, (by unfold inI64; omega), (notf h11), (c_ref01_Signed h10), (el_ok un_s_ok h9).1, (el_ok un_s_ok h9).2, (by unfold inI64; omega), (notf h8), (c_ref01_Signed h7), (el_ok un_s_ok h6).1, (el_ok un_s_ok h6).2, (bfalse h5), (el_ok un_s_ok h4).1, (el_ok un_s_ok h4).2, (bfalse h3), (el_ok un_s_ok h2).1, (el_ok un_s_ok h2).2, (nef h1), trivial⟩
                        · replace h := ite_f h h32
                          replace h := Option.some.inj h
                          subst h
                          exact run (e_ref04_parsed_3 a0 t2 t4 t6 t7 t9 t10 t12 t13 t15 t16 t18 t19 t21 t22 t24 t25 t27 t28 t30 t31) ⟨(nott (bfalse h32)), (c_ref01_Signed h31), (el_ok un_s_ok h30).1, (el_ok un_s_ok h30).2, (by unfold inI64; omega), (notf h29), (c_ref01_Signed h28), (el_ok un_s_ok h27).1, (el_ok un_s_ok h27).2, (by unfold inI64; omega), (notf h26), (c_ref01_Signed h25), (el_ok un_s_ok h24).1, (el_ok un_s_ok h24).2, (by unfold inI64; omega), (notf h23), (c_ref01_Signed h22), (el_ok un_s_ok h21).1, (el_ok un_s_ok h21).2, (by unfold inI64; omega), (notf h20), (c_ref01_Signed h19), (el_ok un_s_ok h18).1, (el_ok un_s_ok h18).2, (by unfold inI64; omega), (notf h17), (c_ref01_Signed h16), (el_ok un_s_ok h15).1, (el_ok un_s_ok h15).2, (by unfold inI64; omega), (notf h14), (c_ref01_Signed h13), (el_ok un_s_ok h12).1, (el_ok un_s_ok h12).2, (by unfold inI64; omega), (notf h11), (c_ref01_Signed h10), (el_ok un_s_ok h9).1, (el_ok un_s_ok h9).2, (by unfold inI64; omega), (notf h8), (c_ref01_Signed h7), (el_ok un_s_ok h6).1, (el_ok un_s_ok h6).2, (bfalse h5), (el_ok un_s_ok h4).1, (el_ok un_s_ok h4).2, (bfalse h3), (el_ok un_s_ok h2).1, (el_ok un_s_ok h2).2, (nef h1), trivial⟩
                      · replace h := ite_f h h29
                        replace h := Option.some.inj h
                        subst h
                        exact run (e_ref04_parsed_4 a0 t2 t4 t6 t7 t9 t10 t12 t13 t15 t16 t18 t19 t21 t22 t24 t25 t27 t28) ⟨(nott (bfalse h29)), (c_ref01_Signed h28), (el_ok un_s_ok h27).1, (el_ok un_s_ok h27).2, (by unfold inI64; omega), (notf h26), (c_ref01_Signed h25), (el_ok un_s_ok h24).1, (el_ok un_s_ok h24).2, (by unfold inI64; omega), (notf h23), (c_ref01_Signed h22), (el_ok un_s_ok h21).1, (el_ok un_s_ok h21).2, (by unfold inI64; omega), (notf h20), (c_ref01_Signed h19), (el_ok un_s_ok h18).1, (el_ok un_s_ok h18).2, (by unfold inI64; omega), (notf h17), (c_ref01_Signed h16), (el_ok un_s_ok h15).1, (el_ok un_s_ok h15).2, (by unfold inI64; omega), (notf h14), (c_ref01_Signed h13), (el_ok un_s_ok h12).1, (el_ok un_s_ok h12).2, (by unfold inI64; omega), (notf h11), (c_ref01_Signed h10), (el_ok un_s_ok h9).1, (el_ok un_s_ok h9).2, (by unfold inI64; omega), (notf h8), (c_ref01_Signed h7), (el_ok un_s_ok h6).1, (el_ok un_s_ok h6).2, (bfalse h5), (el_ok un_s_ok h4).1, (el_ok un_s_ok h4).2, (bfalse h3), (el_ok un_s_ok h2).1, (el_ok un_s_ok h2).2, (nef h1), trivial⟩
                    · replace h := ite_f h h26
                      replace h := Option.some.inj h
                      subst h
                      exact run (e_ref04_parsed_5 a0 t2 t4 t6 t7 t9 t10 t12 t13 t15 t16 t18 t19 t21 t22 t24 t25) ⟨(nott (bfalse h26)), (c_ref01_Signed h25), (el_ok un_s_ok h24).1, (el_ok un_s_ok h24).2, (by unfold inI64; omega), (notf h23), (c_ref01_Signed h22), (el_ok un_s_ok h21).1, (el_ok un_s_ok h21).2, (by unfold inI64; omega), (notf h20), (c_ref01_Signed h19), (el_ok un_s_ok h18).1, (el_ok un_s_ok h18).2, (by unfold inI64; omega), (notf h17), (c_ref01_Signed h16), (el_ok un_s_ok h15).1, (el_ok un_s_ok h15).2, (by unfold inI64; omega), (notf h14), (c_ref01_Signed h13), (el_ok un_s_ok h12).1, (el_ok un_s_ok h12).2, (by unfold inI64; omega), (notf h11), (c_ref01_Signed h10), (el_ok un_s_ok h9).1, (el_ok un_s_ok h9).2, (by unfold inI64; omega), (notf h8), (c_ref01_Signed h7), (el_ok un_s_ok h6).1, (el_ok un_s_ok h6).2, (bfalse h5), (el_ok un_s_ok h4).1, (el_ok un_s_ok h4).2, (bfalse h3), (el_ok un_s_ok h2).1, (el_ok un_s_ok h2).2, (nef h1), trivial⟩
                  · replace h := ite_f h h23
                    replace h := Option.some.inj h
                    subst h
                    exact run (e_ref04_parsed_6 a0 t2 t4 t6 t7 t9 t10 t12 t13 t15 t16 t18 t19 t21 t22) ⟨(nott (bfalse h23)), (c_ref01_Signed h22), (el_ok un_s_ok h21).1, (el_ok un_s_ok h21).2, (by unfold inI64; omega), (notf h20), (c_ref01_Signed h19), (el_ok un_s_ok h18).1, (el_ok un_s_ok h18).2, (by unfold inI64; omega), (notf h17), (c_ref01_Signed h16), (el_ok un_s_ok h15).1, (el_ok un_s_ok h15).2, (by unfold inI64; omega), (notf h14), (c_ref01_Signed h13), (el_ok un_s_ok h12).1, (el_ok un_s_ok h12).2, (by unfold inI64; omega), (notf h11), (c_ref01_Signed h10), (el_ok un_s_ok h9).1, (el_ok un_s_ok h9).2, (by unfold inI64; omega), (notf h8), (c_ref01_Signed h7), (el_ok un_s_ok h6).1, (el_ok un_s_ok h6).2, (bfalse h5), (el_ok un_s_ok h4).1, (el_ok un_s_ok h4).2, (bfalse h3), (el_ok un_s_ok h2).1, (el_ok un_s_ok h2).2, (nef h1), trivial⟩
                · replace h := ite_f h h20
                  replace h := Option.some.inj h
                  subst h
                  exact run (e_ref04_parsed_7 a0 t2 t4 t6 t7 t9 t10 t12 t13 t15 t16 t18 t19) ⟨(nott (bfalse h20)), (c_ref01_Signed h19), (el_ok un_s_ok h18).1, (el_ok un_s_ok h18).2, (by unfold inI64; omega), (notf h17), (c_ref01_Signed h16), (el_ok un_s_ok h15).1, (el_ok un_s_ok h15).2, (by unfold inI64; omega), (notf h14), (c_ref01_Signed h13), (el_ok un_s_ok h12).1, (el_ok un_s_ok h12).2, (by unfold inI64; omega), (notf h11), (c_ref01_Signed h10), (el_ok un_s_ok h9).1, (el_ok un_s_ok h9).2, (by unfold inI64; omega), (notf h8), (c_ref01_Signed h7), (el_ok un_s_ok h6).1, (el_ok un_s_ok h6).2, (bfalse h5), (el_ok un_s_ok h4).1, (el_ok un_s_ok h4).2, (bfalse h3), (el_ok un_s_ok h2).1, (el_ok un_s_ok h2).2, (nef h1), trivial⟩
              · replace h := ite_f h h17
                replace h := Option.some.inj h
                subst h
                exact run (e_ref04_parsed_8 a0 t2 t4 t6 t7 t9 t10 t12 t13 t15 t16) ⟨(nott (bfalse h17)), (c_ref01_Signed h16), (el_ok un_s_ok h15).1, (el_ok un_s_ok h15).2, (by unfold inI64; omega), (notf h14), (c_ref01_Signed h13), (el_ok un_s_ok h12).1, (el_ok un_s_ok h12).2, (by unfold inI64; omega), (notf h11), (c_ref01_Signed h10), (el_ok un_s_ok h9).1, (el_ok un_s_ok h9).2, (by unfold inI64; omega), (notf h8), (c_ref01_Signed h7), (el_ok un_s_ok h6).1, (el_ok un_s_ok h6).2, (bfalse h5), (el_ok un_s_ok h4).1, (el_ok un_s_ok h4).2, (bfalse h3), (el_ok un_s_ok h2).1, (el_ok un_s_ok h2).2, (nef h1), trivial⟩
            · replace h := ite_f h h14
              replace h := Option.some.inj h
              subst h
              exact run (e_ref04_parsed_9 a0 t2 t4 t6 t7 t9 t10 t12 t13) ⟨(nott (bfalse h14)), (c_ref01_Signed h13), (el_ok un_s_ok h12).1, (el_ok un_s_ok h12).2, (by unfold inI64; omega), (notf h11), (c_ref01_Signed h10), (el_ok un_s_ok h9).1, (el_ok un_s_ok h9).2, (by unfold inI64; omega), (notf h8), (c_ref01_Signed h7), (el_ok un_s_ok h6).1, (el_ok un_s_ok h6).2, (bfalse h5), (el_ok un_s_ok h4).1, (el_ok un_s_ok h4).2, (bfalse h3), (el_ok un_s_ok h2).1, (el_ok un_s_ok h2).2, (nef h1), trivial⟩
          · replace h := ite_f h h11
            replace h := Option.some.inj h
            subst h
            exact run (e_ref04_parsed_10 a0 t2 t4 t6 t7 t9 t10) ⟨(nott (bfalse h11)), (c_ref01_Signed h10), (el_ok un_s_ok h9).1, (el_ok un_s_ok h9).2, (by unfold inI64; omega), (notf h8), (c_ref01_Signed h7), (el_ok un_s_ok h6).1, (el_ok un_s_ok h6).2, (bfalse h5), (el_ok un_s_ok h4).1, (el_ok un_s_ok h4).2, (bfalse h3), (el_ok un_s_ok h2).1, (el_ok un_s_ok h2).2, (nef h1), trivial⟩
        · replace h := ite_f h h8
          replace h := Option.some.inj h
          subst h
          exact run (e_ref04_parsed_11 a0 t2 t4 t6 t7) ⟨(nott (bfalse h8)), (c_ref01_Signed h7), (el_ok un_s_ok h6).1, (el_ok un_s_ok h6).2, (bfalse h5), (el_ok un_s_ok h4).1, (el_ok un_s_ok h4).2, (bfalse h3), (el_ok un_s_ok h2).1, (el_ok un_s_ok h2).2, (nef h1), trivial⟩
  · replace h := ite_f h h1
    replace h := Option.some.inj h
    subst h
    exact run (e_ref04_parsed_12 a0) ⟨(net h1), trivial⟩
def F_ref04_Parse_L1 (n : Nat) (t2 : List D) (sa : (Int × List D)) : Option (((Int × List D)) ⊕ ((Int) ⊕ (List D))) :=
  if sa.1 < (((t2).length : Int) - 1) then
    (el un_s t2 sa.1).bind fun ta2 =>
    (F_ref01_Split n ta2 32).bind fun ta3 =>
    (F_ref04_parsed n ta3).bind fun ta4 =>
    if ta4.2.2.2.2.2.2.2.2.2.2 = true then
      if roomP 88 ((sa.2).length + 1) then
      if inI64 (sa.1 + 1) then
      some (.inl ((sa.1 + 1), (sa.2 ++ ([.agg [.v (.string ta4.1), I ta4.2.1, I ta4.2.2.1, I ta4.2.2.2.1, I ta4.2.2.2.2.1, I ta4.2.2.2.2.2.1, I ta4.2.2.2.2.2.2.1, I ta4.2.2.2.2.2.2.2.1, I ta4.2.2.2.2.2.2.2.2.1, I ta4.2.2.2.2.2.2.2.2.2.1]] : List D))))
      else none
      else none
    else
    some (.inr (.inl sa.1))
  else
  some (.inr (.inr sa.2))
noncomputable def T_ref04_Parse_L1 (t2 : List D) (sa : (Int × List D)) : List (Nat × AV) := [(5, .d (.lst false 1 t2)), (6, .d (I (((t2).length : Int) - 1))), (7, .own 15 0), (8, .d (I sa.1))]
noncomputable def H_ref04_Parse_L1 (t2 : List D) (sa : (Int × List D)) : List (Nat × Blk) := [(15, .row 0 10 sa.2)]
noncomputable def X_ref04_Parse_L1 (t2 : List D) (e : (Int) ⊕ (List D)) : Ex := match e with
  | (.inl e) => .ret
  | (.inr e) => (.exit 0)
noncomputable def XT_ref04_Parse_L1 (t2 : List D) (e : (Int) ⊕ (List D)) : List (Nat × AV) := match e with
  | (.inl e) => [(2, .d (.lst true 0 [])), (3, .d (I e)), (4, .d (I 25))]
  | (.inr e) => [(5, .d (.lst false 1 t2)), (6, .d (I (((t2).length : Int) - 1))), (7, .own 15 0)]
noncomputable def XH_ref04_Parse_L1 (t2 : List D) (e : (Int) ⊕ (List D)) : List (Nat × Blk) := match e with
  | (.inl e) => []
  | (.inr e) => [(15, .row 0 10 e)]
theorem R_ref04_Parse_L1 {n : Nat} {t2 : List D} (sa : (Int × List D)) (r) (h : F_ref04_Parse_L1 n t2 sa = some r) : Rd cx (loopAt cx.P 12 0) 54 0 false (T_ref04_Parse_L1 t2) (H_ref04_Parse_L1 t2) (X_ref04_Parse_L1 t2) (XT_ref04_Parse_L1 t2) (XH_ref04_Parse_L1 t2) sa r := by
  unfold F_ref04_Parse_L1 at h
  by_cases ha1 : sa.1 < (((t2).length : Int) - 1)
  · replace h := ite_t h ha1
    obtain ⟨ta2, ha2, h⟩ := bnd_of h
    obtain ⟨ta3, ha3, h⟩ := bnd_of h
    obtain ⟨ta4, ha4, h⟩ := bnd_of h
    by_cases ha5 : ta4.2.2.2.2.2.2.2.2.2.2 = true
    · replace h := ite_t h ha5
      obtain ⟨ha6, h⟩ := grd_of h
      obtain ⟨ha7, h⟩ := grd_of h
      replace h := Option.some.inj h
      subst h
      exact ⟨100, 16, [.br true, .el (enc_s ta2), .ret (.lst false 1 ta3), .ret (.tup [.agg [.v (.string ta4.1), I ta4.2.1, I ta4.2.2.1, I ta4.2.2.2.1, I ta4.2.2.2.2.1, I ta4.2.2.2.2.2.1, I ta4.2.2.2.2.2.2.1, I ta4.2.2.2.2.2.2.2.1, I ta4.2.2.2.2.2.2.2.2.1, I ta4.2.2.2.2.2.2.2.2.2.1], B ta4.2.2.2.2.2.2.2.2.2.2]), .br false, .br true], [], [5, 6, 7, 8], [15], round_fr (allC ha7 (allC ((room_of (b := 88) (by kernel_rfl) (by decide) ha6) : room cx 95 ((sa.2).length + 1)) (allC (notf ha5) (allC (c_ref04_parsed ha4) (allC (c_ref01_Split ha3) (allC (el_ok un_s_ok ha2).1 (allC (el_ok un_s_ok ha2).2 (allC (decide_eq_true ha1) allN)))))))) (by kernel_rfl)⟩
    · replace h := ite_f h ha5
      replace h := Option.some.inj h
      subst h
      exact ⟨⟨100, 16, [.br true, .el (enc_s ta2), .ret (.lst false 1 ta3), .ret (.tup [.agg [.v (.string ta4.1), I ta4.2.1, I ta4.2.2.1, I ta4.2.2.2.1, I ta4.2.2.2.2.1, I ta4.2.2.2.2.2.1, I ta4.2.2.2.2.2.2.1, I ta4.2.2.2.2.2.2.2.1, I ta4.2.2.2.2.2.2.2.2.1, I ta4.2.2.2.2.2.2.2.2.2.1], B ta4.2.2.2.2.2.2.2.2.2.2]), .br true], [], [2, 3, 4], [], round_fr (allC (nott (bfalse ha5)) (allC (c_ref04_parsed ha4) (allC (c_ref01_Split ha3) (allC (el_ok un_s_ok ha2).1 (allC (el_ok un_s_ok ha2).2 (allC (decide_eq_true ha1) allN)))))) (by kernel_rfl)⟩, nofun⟩
  · replace h := ite_f h ha1
    replace h := Option.some.inj h
    subst h
    exact ⟨⟨100, 16, [.br false], [], [5, 6, 7], [15], round_fr (allC (decide_eq_false ha1) allN) (by kernel_rfl)⟩, nofun⟩
/- spillage/spillageref04.Parse: .v (.string a0) -/
def F_ref04_Parse (n : Nat) (a0 : ByteArray) : Option (List D × Int × Int) :=
  if (a0.size : Int) > 4096 then
    some ([], 0, 26)
  else
  (F_ref01_Split n a0 10).bind fun t2 =>
  if inI64 (((t2).length : Int) - 1) then
  (loopF (F_ref04_Parse_L1 n t2) n (0, [])).bind fun t4 => match t4 with
    | (.inl t4) => (
      some ([], t4, 25))
    | (.inr t4) => (
      (el un_s t2 (((t2).length : Int) - 1)).bind fun t5 =>
      if (!(t5.toList == (⟨#[]⟩ : ByteArray).toList)) = true then
        some ([], (((t2).length : Int) - 1), 25)
      else
      (F_ref04_CheckMirrors n t4).bind fun t7 =>
      if t7 = 0 then
        some (t4, 0, 0)
      else
      some ([], (((t2).length : Int) - 1), t7))
  else none
theorem c_ref04_Parse {n : Nat} {a0 : ByteArray} {r : List D × Int × Int} (h : F_ref04_Parse n a0 = some r) : Computes cx 12 [.v (.string a0)] (.tup [.lst false 10 r.1, I r.2.1, I r.2.2]) := by
  unfold F_ref04_Parse at h
  by_cases h1 : (a0.size : Int) > 4096
  · replace h := ite_t h h1
    replace h := Option.some.inj h
    subst h
    exact (run_fr (n := 100) (r := .tup [.lst true 0 [], I 0, I 26]) (orc := [.br true]) (allC (decide_eq_true h1) allN) (by kernel_rfl)).le (LEs.refl _) (.tups (.cons (.nilF) (.cons (.refl _) (.cons (.refl _) (.nil)))))
  · replace h := ite_f h h1
    obtain ⟨t2, h2, h⟩ := bnd_of h
    obtain ⟨h3, h⟩ := grd_of h
    obtain ⟨t4, h4, h⟩ := bnd_of h
    rcases t4 with t4 | t4
    · replace h := Option.some.inj h
      subst h
      exact (run_fr (n := 100) (r := .tup [.lst true 0 [], I t4, I 25]) (orc := [.br false, .ret (.lst false 1 t2), .lp [7, 10] [5, 6, 7, 8] [15] .ret [(2, .d (.lst true 0 [])), (3, .d (I t4)), (4, .d (I 25))] [] 52]) (allC (loopF_to R_ref04_Parse_L1 h4) (allC h3 (allC (c_ref01_Split h2) (allC (decide_eq_false h1) allN)))) (by kernel_rfl)).le (LEs.refl _) (.tups (.cons (.nilF) (.cons (.refl _) (.cons (.refl _) (.nil)))))
    · obtain ⟨t5, h5, h⟩ := bnd_of h
      by_cases h6 : (!(t5.toList == (⟨#[]⟩ : ByteArray).toList)) = true
      · replace h := ite_t h h6
        replace h := Option.some.inj h
        subst h
        exact (run_fr (n := 100) (r := .tup [.lst true 0 [], I (((t2).length : Int) - 1), I 25]) (orc := [.br false, .ret (.lst false 1 t2), .lp [7, 10] [5, 6, 7, 8] [15] (.exit 0) [(5, .d (.lst false 1 t2)), (6, .d (I (((t2).length : Int) - 1))), (7, .own 15 0)] [(15, .row 0 10 t4)] 52, .el (enc_s t5), .br true]) (allC h6 (allC (el_ok un_s_ok h5).1 (allC (el_ok un_s_ok h5).2 (allC (loopF_to R_ref04_Parse_L1 h4) (allC h3 (allC (c_ref01_Split h2) (allC (decide_eq_false h1) allN))))))) (by kernel_rfl)).le (LEs.refl _) (.tups (.cons (.nilF) (.cons (.refl _) (.cons (.refl _) (.nil)))))
      · replace h := ite_f h h6
        obtain ⟨t7, h7, h⟩ := bnd_of h
        by_cases h8 : t7 = 0
        · replace h := ite_t h h8
          replace h := Option.some.inj h
          subst h
          exact run_fr (n := 100) (orc := [.br false, .ret (.lst false 1 t2), .lp [7, 10] [5, 6, 7, 8] [15] (.exit 0) [(5, .d (.lst false 1 t2)), (6, .d (I (((t2).length : Int) - 1))), (7, .own 15 0)] [(15, .row 0 10 t4)] 52, .el (enc_s t5), .br false, .ret (I t7), .br false]) (allC (nef h8) (allC (c_ref04_CheckMirrors h7) (allC (bfalse h6) (allC (el_ok un_s_ok h5).1 (allC (el_ok un_s_ok h5).2 (allC (loopF_to R_ref04_Parse_L1 h4) (allC h3 (allC (c_ref01_Split h2) (allC (decide_eq_false h1) allN))))))))) (by kernel_rfl)
        · replace h := ite_f h h8
          replace h := Option.some.inj h
          subst h
          exact (run_fr (n := 100) (r := .tup [.lst true 0 [], I (((t2).length : Int) - 1), I t7]) (orc := [.br false, .ret (.lst false 1 t2), .lp [7, 10] [5, 6, 7, 8] [15] (.exit 0) [(5, .d (.lst false 1 t2)), (6, .d (I (((t2).length : Int) - 1))), (7, .own 15 0)] [(15, .row 0 10 t4)] 52, .el (enc_s t5), .br false, .ret (I t7), .br true]) (allC (net h8) (allC (c_ref04_CheckMirrors h7) (allC (bfalse h6) (allC (el_ok un_s_ok h5).1 (allC (el_ok un_s_ok h5).2 (allC (loopF_to R_ref04_Parse_L1 h4) (allC h3 (allC (c_ref01_Split h2) (allC (decide_eq_false h1) allN))))))))) (by kernel_rfl)).le (LEs.refl _) (.tups (.cons (.nilF) (.cons (.refl _) (.cons (.refl _) (.nil)))))
theorem e_law04_FieldTexts_0 (a0 : List D) (a1 : ByteArray) (t1 : Bool) (t3 : Bool) (t7 : List D) (t8 : ByteArray × Int) (t9 : List D × Int × Int) (t10 : Int) (t12 : ByteArray) (t13 : List D × Int × Int) (t16 : List D) (t17 : Bool) : runFn true 100 cx 3 [.lst false 10 a0, .v (.string a1)] [.ret (B t1), .br false, .ret (B t3), .br false, .br true, .br false, .ret (.lst false 10 t7), .ret (.tup [.v (.string t8.1), I t8.2]), .ret (.tup [.lst false 10 t9.1, I t9.2.1, I t9.2.2]), .ret (I t10), .br true, .ret (.v (.string t12)), .ret (.tup [.lst false 10 t13.1, I t13.2.1, I t13.2.2]), .br true, .br true, .ret (.lst false 10 t16), .ret (B t17), .br true, .br true] = some (B (t9.2.2 == t13.2.2), [(t9.2.1 == t13.2.1) = true, t17 = true, Computes cx 13 [.lst false 10 t16, .lst false 10 t13.1] (B t17), Computes cx 14 [.lst false 10 t9.1] (.lst false 10 t16), (t8.2 == t10) = true, (t8.1.toList == t12.toList) = true, Computes cx 12 [.v (.string a1)] (.tup [.lst false 10 t13.1, I t13.2.1, I t13.2.2]), Computes cx 11 [.lst false 10 a0] (.v (.string t12)), (t10 == 0) = true, Computes cx 10 [.lst false 10 a0] (I t10), Computes cx 9 [.v (.string a1)] (.tup [.lst false 10 t9.1, I t9.2.1, I t9.2.2]), Computes cx 7 [.lst false 10 t7] (.tup [.v (.string t8.1), I t8.2]), Computes cx 8 [.lst false 10 a0] (.lst false 10 t7), ((a1.size : Int) != 4097) = false, (decide ((a1.size : Int) > 400)) = true, (!t3) = false, Computes cx 6 [.lst false 10 a0] (B t3), (!t1) = false, Computes cx 5 [] (B t1)]) := by kernel_rfl
theorem e_law04_FieldTexts_5 (a0 : List D) (a1 : ByteArray) (t1 : Bool) (t3 : Bool) (t7 : List D) (t8 : ByteArray × Int) (t9 : List D × Int × Int) (t10 : Int) (t12 : List D × Int × Int) (t15 : List D) (t16 : Bool) : runFn true 100 cx 3 [.lst false 10 a0, .v (.string a1)] [.ret (B t1), .br false, .ret (B t3), .br false, .br true, .br false, .ret (.lst false 10 t7), .ret (.tup [.v (.string t8.1), I t8.2]), .ret (.tup [.lst false 10 t9.1, I t9.2.1, I t9.2.2]), .ret (I t10), .br false, .ret (.tup [.lst false 10 t12.1, I t12.2.1, I t12.2.2]), .br true, .br true, .ret (.lst false 10 t15), .ret (B t16), .br true, .br true] = some (B (t9.2.2 == t12.2.2), [(t9.2.1 == t12.2.1) = true, t16 = true, Computes cx 13 [.lst false 10 t15, .lst false 10 t12.1] (B t16), Computes cx 14 [.lst false 10 t9.1] (.lst false 10 t15), (t8.2 == t10) = true, (t8.1.toList == (⟨#[]⟩ : ByteArray).toList) = true, Computes cx 12 [.v (.string a1)] (.tup [.lst false 10 t12.1, I t12.2.1, I t12.2.2]), (t10 == 0) = false, Computes cx 10 [.lst false 10 a0] (I t10), Computes cx 9 [.v (.string a1)] (.tup [.lst false 10 t9.1, I t9.2.1, I t9.2.2]), Computes cx 7 [.lst false 10 t7] (.tup [.v (.string t8.1), I t8.2]), Computes cx 8 [.lst false 10 a0] (.lst false 10 t7), ((a1.size : Int) != 4097) = false, (decide ((a1.size : Int) > 400)) = true, (!t3) = false, Computes cx 6 [.lst false 10 a0] (B t3), (!t1) = false, Computes cx 5 [] (B t1)]) := by kernel_rfl
theorem e_law04_FieldTexts_10 (a0 : List D) (a1 : ByteArray) (t1 : Bool) (t3 : Bool) : runFn true 100 cx 3 [.lst false 10 a0, .v (.string a1)] [.ret (B t1), .br false, .ret (B t3), .br false, .br true, .br true, .ret (B t1)] = some (B t1, [Computes cx 5 [] (B t1), ((a1.size : Int) != 4097) = true, (decide ((a1.size : Int) > 400)) = true, (!t3) = false, Computes cx 6 [.lst false 10 a0] (B t3), (!t1) = false, Computes cx 5 [] (B t1)]) := by kernel_rfl
theorem e_law04_FieldTexts_11 (a0 : List D) (a1 : ByteArray) (t1 : Bool) (t3 : Bool) (t6 : List D) (t7 : ByteArray × Int) (t8 : List D × Int × Int) (t9 : Int) (t11 : ByteArray) (t12 : List D × Int × Int) (t15 : List D) (t16 : Bool) : runFn true 100 cx 3 [.lst false 10 a0, .v (.string a1)] [.ret (B t1), .br false, .ret (B t3), .br false, .br false, .no, .ret (.lst false 10 t6), .ret (.tup [.v (.string t7.1), I t7.2]), .ret (.tup [.lst false 10 t8.1, I t8.2.1, I t8.2.2]), .ret (I t9), .br true, .ret (.v (.string t11)), .ret (.tup [.lst false 10 t12.1, I t12.2.1, I t12.2.2]), .br true, .br true, .ret (.lst false 10 t15), .ret (B t16), .br true, .br true] = some (B (t8.2.2 == t12.2.2), [(t8.2.1 == t12.2.1) = true, t16 = true, Computes cx 13 [.lst false 10 t15, .lst false 10 t12.1] (B t16), Computes cx 14 [.lst false 10 t8.1] (.lst false 10 t15), (t7.2 == t9) = true, (t7.1.toList == t11.toList) = true, Computes cx 12 [.v (.string a1)] (.tup [.lst false 10 t12.1, I t12.2.1, I t12.2.2]), Computes cx 11 [.lst false 10 a0] (.v (.string t11)), (t9 == 0) = true, Computes cx 10 [.lst false 10 a0] (I t9), Computes cx 9 [.v (.string a1)] (.tup [.lst false 10 t8.1, I t8.2.1, I t8.2.2]), Computes cx 7 [.lst false 10 t6] (.tup [.v (.string t7.1), I t7.2]), Computes cx 8 [.lst false 10 a0] (.lst false 10 t6), (decide ((a1.size : Int) > 400)) = false, (!t3) = false, Computes cx 6 [.lst false 10 a0] (B t3), (!t1) = false, Computes cx 5 [] (B t1)]) := by kernel_rfl
theorem e_law04_FieldTexts_16 (a0 : List D) (a1 : ByteArray) (t1 : Bool) (t3 : Bool) (t6 : List D) (t7 : ByteArray × Int) (t8 : List D × Int × Int) (t9 : Int) (t11 : List D × Int × Int) (t14 : List D) (t15 : Bool) : runFn true 100 cx 3 [.lst false 10 a0, .v (.string a1)] [.ret (B t1), .br false, .ret (B t3), .br false, .br false, .no, .ret (.lst false 10 t6), .ret (.tup [.v (.string t7.1), I t7.2]), .ret (.tup [.lst false 10 t8.1, I t8.2.1, I t8.2.2]), .ret (I t9), .br false, .ret (.tup [.lst false 10 t11.1, I t11.2.1, I t11.2.2]), .br true, .br true, .ret (.lst false 10 t14), .ret (B t15), .br true, .br true] = some (B (t8.2.2 == t11.2.2), [(t8.2.1 == t11.2.1) = true, t15 = true, Computes cx 13 [.lst false 10 t14, .lst false 10 t11.1] (B t15), Computes cx 14 [.lst false 10 t8.1] (.lst false 10 t14), (t7.2 == t9) = true, (t7.1.toList == (⟨#[]⟩ : ByteArray).toList) = true, Computes cx 12 [.v (.string a1)] (.tup [.lst false 10 t11.1, I t11.2.1, I t11.2.2]), (t9 == 0) = false, Computes cx 10 [.lst false 10 a0] (I t9), Computes cx 9 [.v (.string a1)] (.tup [.lst false 10 t8.1, I t8.2.1, I t8.2.2]), Computes cx 7 [.lst false 10 t6] (.tup [.v (.string t7.1), I t7.2]), Computes cx 8 [.lst false 10 a0] (.lst false 10 t6), (decide ((a1.size : Int) > 400)) = false, (!t3) = false, Computes cx 6 [.lst false 10 a0] (B t3), (!t1) = false, Computes cx 5 [] (B t1)]) := by kernel_rfl
theorem e_law04_FieldTexts_21 (a0 : List D) (a1 : ByteArray) (t1 : Bool) (t3 : Bool) : runFn true 100 cx 3 [.lst false 10 a0, .v (.string a1)] [.ret (B t1), .br false, .ret (B t3), .br true, .no, .ret (B t1)] = some (B t1, [Computes cx 5 [] (B t1), (!t3) = true, Computes cx 6 [.lst false 10 a0] (B t3), (!t1) = false, Computes cx 5 [] (B t1)]) := by kernel_rfl
theorem e_law04_FieldTexts_22 (a0 : List D) (a1 : ByteArray) (t1 : Bool) : runFn true 100 cx 3 [.lst false 10 a0, .v (.string a1)] [.ret (B t1), .br true, .no, .no, .ret (B t1)] = some (B t1, [Computes cx 5 [] (B t1), (!t1) = true, Computes cx 5 [] (B t1)]) := by kernel_rfl
/- spillage/spillagelaw04.FieldTexts: .lst false 10 a0, .v (.string a1) -/
def F_law04_FieldTexts (n : Nat) (a0 : List D) (a1 : ByteArray) : Option (Bool) :=
  (F_law04_awake n).bind fun t1 =>
  if t1 = true then
    (F_ref04_Short n a0).bind fun t3 =>
    if t3 = true then
      if (a1.size : Int) > 400 then
        if (a1.size : Int) = 4097 then
          (F_law04_own n a0).bind fun t7 =>
          (F_field_Print n t7).bind fun t8 =>
          (F_field_Parse n a1).bind fun t9 =>
          (F_ref04_CheckMirrors n a0).bind fun t10 =>
          if t10 = 0 then
            (F_ref04_Print n a0).bind fun t12 =>
            (F_ref04_Parse n a1).bind fun t13 =>
            if (t8.1.toList == t12.toList) = true then
              if t8.2 = t10 then
                (F_law04_told n t9.1).bind fun t16 =>
                (F_ref04_SameMirrors n t16 t13.1).bind fun t17 =>
                if t17 = true then
                  if t9.2.1 = t13.2.1 then
                    some (t9.2.2 == t13.2.2)
                  else
                  none /- false -/
                else
                none /- false -/
              else
              none /- false -/
            else
            none /- false -/
          else
          (F_ref04_Parse n a1).bind fun t12 =>
          if (t8.1.toList == (⟨#[]⟩ : ByteArray).toList) = true then
            if t8.2 = t10 then
              (F_law04_told n t9.1).bind fun t15 =>
              (F_ref04_SameMirrors n t15 t12.1).bind fun t16 =>
              if t16 = true then
                if t9.2.1 = t12.2.1 then
                  some (t9.2.2 == t12.2.2)
                else
                none /- false -/
              else
              none /- false -/
            else
            none /- false -/
          else
          none /- false -/
        else
        some t1
      else
      (F_law04_own n a0).bind fun t6 =>
      (F_field_Print n t6).bind fun t7 =>
      (F_field_Parse n a1).bind fun t8 =>
      (F_ref04_CheckMirrors n a0).bind fun t9 =>
      if t9 = 0 then
        (F_ref04_Print n a0).bind fun t11 =>
        (F_ref04_Parse n a1).bind fun t12 =>
        if (t7.1.toList == t11.toList) = true then
          if t7.2 = t9 then
            (F_law04_told n t8.1).bind fun t15 =>
            (F_ref04_SameMirrors n t15 t12.1).bind fun t16 =>
            if t16 = true then
              if t8.2.1 = t12.2.1 then
                some (t8.2.2 == t12.2.2)
              else
              none /- false -/
            else
            none /- false -/
          else
          none /- false -/
        else
        none /- false -/
      else
      (F_ref04_Parse n a1).bind fun t11 =>
      if (t7.1.toList == (⟨#[]⟩ : ByteArray).toList) = true then
        if t7.2 = t9 then
          (F_law04_told n t8.1).bind fun t14 =>
          (F_ref04_SameMirrors n t14 t11.1).bind fun t15 =>
          if t15 = true then
            if t8.2.1 = t11.2.1 then
              some (t8.2.2 == t11.2.2)
            else
            none /- false -/
          else
          none /- false -/
        else
        none /- false -/
      else
      none /- false -/
    else
    some t1
  else
  some t1
theorem c_law04_FieldTexts {n : Nat} {a0 : List D} {a1 : ByteArray} {r : Bool} (h : F_law04_FieldTexts n a0 a1 = some r) : Computes cx 3 [.lst false 10 a0, .v (.string a1)] (B r) := by
  unfold F_law04_FieldTexts at h
  obtain ⟨t1, h1, h⟩ := bnd_of h
  by_cases h2 : t1 = true
  · replace h := ite_t h h2
    obtain ⟨t3, h3, h⟩ := bnd_of h
    by_cases h4 : t3 = true
    · replace h := ite_t h h4
      by_cases h5 : (a1.size : Int) > 400
      · replace h := ite_t h h5
        by_cases h6 : (a1.size : Int) = 4097
        · replace h := ite_t h h6
          obtain ⟨t7, h7, h⟩ := bnd_of h
          obtain ⟨t8, h8, h⟩ := bnd_of h
          obtain ⟨t9, h9, h⟩ := bnd_of h
          obtain ⟨t10, h10, h⟩ := bnd_of h
          by_cases h11 : t10 = 0
          · replace h := ite_t h h11
            obtain ⟨t12, h12, h⟩ := bnd_of h
            obtain ⟨t13, h13, h⟩ := bnd_of h
            by_cases h14 : (t8.1.toList == t12.toList) = true
            · replace h := ite_t h h14
              by_cases h15 : t8.2 = t10
              · replace h := ite_t h h15
                obtain ⟨t16, h16, h⟩ := bnd_of h
                obtain ⟨t17, h17, h⟩ := bnd_of h
                by_cases h18 : t17 = true
                · replace h := ite_t h h18
                  by_cases h19 : t9.2.1 = t13.2.1
                  · replace h := ite_t h h19
                    replace h := Option.some.inj h
                    subst h
                    exact run (e_law04_FieldTexts_0 a0 a1 t1 t3 t7 t8 t9 t10 t12 t13 t16 t17) ⟨(eqt h19), h18, (c_ref04_SameMirrors h17), (c_law04_told h16), (eqt h15), h14, (c_ref04_Parse h13), (c_ref04_Print h12), (eqt h11), (c_ref04_CheckMirrors h10), (c_field_Parse h9), (c_field_Print h8), (c_law04_own h7), (nef h6), (decide_eq_true h5), (notf h4), (c_ref04_Short h3), (notf h2), (c_law04_awake h1), trivial⟩
                  · replace h := ite_f h h19
                    cases h
                · replace h := ite_f h h18
                  cases h
              · replace h := ite_f h h15
                cases h
            · replace h := ite_f h h14
              cases h
          · replace h := ite_f h h11
            obtain ⟨t12, h12, h⟩ := bnd_of h
            by_cases h13 : (t8.1.toList == (⟨#[]⟩ : ByteArray).toList) = true
            · replace h := ite_t h h13
              by_cases h14 : t8.2 = t10
              · replace h := ite_t h h14
                obtain ⟨t15, h15, h⟩ := bnd_of h
                obtain ⟨t16, h16, h⟩ := bnd_of h
                by_cases h17 : t16 = true
                · replace h := ite_t h h17
                  by_cases h18 : t9.2.1 = t12.2.1
                  · replace h := ite_t h h18
                    replace h := Option.some.inj h
                    subst h
                    exact run (e_law04_FieldTexts_5 a0 a1 t1 t3 t7 t8 t9 t10 t12 t15 t16) ⟨(eqt h18), h17, (c_ref04_SameMirrors h16), (c_law04_told h15), (eqt h14), h13, (c_ref04_Parse h12), (eqf h11), (c_ref04_CheckMirrors h10), (c_field_Parse h9), (c_field_Print h8), (c_law04_own h7), (nef h6), (decide_eq_true h5), (notf h4), (c_ref04_Short h3), (notf h2), (c_law04_awake h1), trivial⟩
                  · replace h := ite_f h h18
                    cases h
                · replace h := ite_f h h17
                  cases h
              · replace h := ite_f h h14
                cases h
            · replace h := ite_f h h13
              cases h
        · replace h := ite_f h h6
          replace h := Option.some.inj h
          subst h
          exact run (e_law04_FieldTexts_10 a0 a1 t1 t3) ⟨(c_law04_awake h1), (net h6), (decide_eq_true h5), (notf h4), (c_ref04_Short h3), (notf h2), (c_law04_awake h1), trivial⟩
      · replace h := ite_f h h5
        obtain ⟨t6, h6, h⟩ := bnd_of h
        obtain ⟨t7, h7, h⟩ := bnd_of h
        obtain ⟨t8, h8, h⟩ := bnd_of h
        obtain ⟨t9, h9, h⟩ := bnd_of h
        by_cases h10 : t9 = 0
        · replace h := ite_t h h10
          obtain ⟨t11, h11, h⟩ := bnd_of h
          obtain ⟨t12, h12, h⟩ := bnd_of h
          by_cases h13 : (t7.1.toList == t11.toList) = true
          · replace h := ite_t h h13
            by_cases h14 : t7.2 = t9
            · replace h := ite_t h h14
              obtain ⟨t15, h15, h⟩ := bnd_of h
              obtain ⟨t16, h16, h⟩ := bnd_of h
              by_cases h17 : t16 = true
              · replace h := ite_t h h17
                by_cases h18 : t8.2.1 = t12.2.1
                · replace h := ite_t h h18
                  replace h := Option.some.inj h
                  subst h
                  exact run (e_law04_FieldTexts_11 a0 a1 t1 t3 t6 t7 t8 t9 t11 t12 t15 t16) ⟨(eqt h18), h17, (c_ref04_SameMirrors h16), (c_law04_told h15), (eqt h14), h13, (c_ref04_Parse h12), (c_ref04_Print h11), (eqt h10), (c_ref04_CheckMirrors h9), (c_field_Parse h8), (c_field_Print h7), (c_law04_own h6), (decide_eq_false h5), (notf h4), (c_ref04_Short h3), (notf h2), (c_law04_awake h1), trivial⟩
                · replace h := ite_f h h18
                  cases h
              · replace h := ite_f h h17
                cases h
            · replace h := ite_f h h14
              cases h
          · replace h := ite_f h h13
            cases h
        · replace h := ite_f h h10
          obtain ⟨t11, h11, h⟩ := bnd_of h
          by_cases h12 : (t7.1.toList == (⟨#[]⟩ : ByteArray).toList) = true
          · replace h := ite_t h h12
            by_cases h13 : t7.2 = t9
            · replace h := ite_t h h13
              obtain ⟨t14, h14, h⟩ := bnd_of h
              obtain ⟨t15, h15, h⟩ := bnd_of h
              by_cases h16 : t15 = true
              · replace h := ite_t h h16
                by_cases h17 : t8.2.1 = t11.2.1
                · replace h := ite_t h h17
                  replace h := Option.some.inj h
                  subst h
                  exact run (e_law04_FieldTexts_16 a0 a1 t1 t3 t6 t7 t8 t9 t11 t14 t15) ⟨(eqt h17), h16, (c_ref04_SameMirrors h15), (c_law04_told h14), (eqt h13), h12, (c_ref04_Parse h11), (eqf h10), (c_ref04_CheckMirrors h9), (c_field_Parse h8), (c_field_Print h7), (c_law04_own h6), (decide_eq_false h5), (notf h4), (c_ref04_Short h3), (notf h2), (c_law04_awake h1), trivial⟩
                · replace h := ite_f h h17
                  cases h
              · replace h := ite_f h h16
                cases h
            · replace h := ite_f h h13
              cases h
          · replace h := ite_f h h12
            cases h
    · replace h := ite_f h h4
      replace h := Option.some.inj h
      subst h
      exact run (e_law04_FieldTexts_21 a0 a1 t1 t3) ⟨(c_law04_awake h1), (nott (bfalse h4)), (c_ref04_Short h3), (notf h2), (c_law04_awake h1), trivial⟩
  · replace h := ite_f h h2
    replace h := Option.some.inj h
    subst h
    exact run (e_law04_FieldTexts_22 a0 a1 t1) ⟨(c_law04_awake h1), (nott (bfalse h2)), (c_law04_awake h1), trivial⟩
end Go.Proofs.YtclmbhokfhjnoaaGreatDoor
