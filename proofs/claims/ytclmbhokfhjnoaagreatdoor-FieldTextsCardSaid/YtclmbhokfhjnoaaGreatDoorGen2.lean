/-
  Printed by gsx.py: functions of the program as Lean functions, and that the code computes them.
-/
import Derived.Test.YtclmbhokfhjnoaaGreatDoorGen1
set_option linter.unusedVariables false
set_option linter.unusedSimpArgs false
set_option linter.unnecessarySimpa false
set_option maxRecDepth 10000
set_option maxHeartbeats 4000000
namespace Go.Proofs.YtclmbhokfhjnoaaGreatDoor
open Go.SX
/- internal/stringslite.CutPrefix: .v (.string a0), .v (.string ⟨#[45]⟩) -/
def F_stringslite_CutPrefix (n : Nat) (a0 : ByteArray) : Option (ByteArray × Bool) :=
  (F_stringslite_HasPrefix n a0).bind fun t1 =>
  if t1 = true then
    (strSub a0 (some 1) none).bind fun t3 =>
    some (t3, true)
  else
  some (a0, false)
theorem c_stringslite_CutPrefix {n : Nat} {a0 : ByteArray} {r : ByteArray × Bool} (h : F_stringslite_CutPrefix n a0 = some r) : Computes cx 182 [.v (.string a0), .v (.string ⟨#[45]⟩)] (.tup [.v (.string r.1), B r.2]) := by
  unfold F_stringslite_CutPrefix at h
  obtain ⟨t1, h1, h⟩ := bnd_of h
  by_cases h2 : t1 = true
  · replace h := ite_t h h2
    obtain ⟨t3, h3, h⟩ := bnd_of h
    replace h := Option.some.inj h
    subst h
    exact run_fr (n := 100) (orc := [.ret (B t1), .br false, .el (.v (.string t3))]) (allC (strSub_ok h3 : pureRun cx.P (Instr.sliceAt 9 (.string a0) (some (.int .i64 1)) none none) = some (.string t3)) (allC (notf h2) (allC (c_stringslite_HasPrefix h1) allN))) (by kernel_rfl)
  · replace h := ite_f h h2
    replace h := Option.some.inj h
    subst h
    exact run_fr (n := 100) (orc := [.ret (B t1), .br true]) (allC (nott (bfalse h2)) (allC (c_stringslite_HasPrefix h1) allN)) (by kernel_rfl)
/- strings.CutPrefix: .v (.string a0), .v (.string ⟨#[45]⟩) -/
def F_strings_CutPrefix (n : Nat) (a0 : ByteArray) : Option (ByteArray × Bool) :=
  (F_stringslite_CutPrefix n a0).bind fun t1 =>
  some (t1.1, t1.2)
theorem c_strings_CutPrefix {n : Nat} {a0 : ByteArray} {r : ByteArray × Bool} (h : F_strings_CutPrefix n a0 = some r) : Computes cx 160 [.v (.string a0), .v (.string ⟨#[45]⟩)] (.tup [.v (.string r.1), B r.2]) := by
  unfold F_strings_CutPrefix at h
  obtain ⟨t1, h1, h⟩ := bnd_of h
  replace h := Option.some.inj h
  subst h
  exact run_fr (n := 100) (orc := [.ret (.tup [.v (.string t1.1), B t1.2])]) (allC (c_stringslite_CutPrefix h1) allN) (by kernel_rfl)
def F_field_integer_L1 (n : Nat) (t1 : ByteArray × Bool) (sa : (Int × Nat)) : Option (((Int × Nat)) ⊕ ((Unit) ⊕ (Int))) :=
  if sa.2 < t1.1.size then
    if ((Utf8.decode t1.1 sa.2).1 : Int) < 48 then
      some (.inr (.inl ()))
    else
    if ((Utf8.decode t1.1 sa.2).1 : Int) > 57 then
      some (.inr (.inl ()))
    else
    if (t1.1.size : Int) > 9 then
      some (.inr (.inl ()))
    else
    if inI64 (10 * sa.1) then
    if inI64 ((10 * sa.1) + (IntKind.wrap .i64 (IntKind.wrap .i32 (((Utf8.decode t1.1 sa.2).1 : Int) - 48)))) then
    some (.inl (((10 * sa.1) + (IntKind.wrap .i64 (IntKind.wrap .i32 (((Utf8.decode t1.1 sa.2).1 : Int) - 48)))), (sa.2 + (Utf8.decode t1.1 sa.2).2)))
    else none
    else none
  else
  some (.inr (.inr sa.1))
noncomputable def T_field_integer_L1 (t1 : ByteArray × Bool) (sa : (Int × Nat)) : List (Nat × AV) := [(4, .d (.v (.string t1.1))), (5, .d (B t1.2)), (6, .d (I sa.1)), (15, .own 11 0)]
noncomputable def H_field_integer_L1 (t1 : ByteArray × Bool) (sa : (Int × Nat)) : List (Nat × Blk) := [(11, .it t1.1 sa.2)]
noncomputable def X_field_integer_L1 (t1 : ByteArray × Bool) (e : (Unit) ⊕ (Int)) : Ex := match e with
  | (.inl e) => .ret
  | (.inr e) => (.exit 0)
noncomputable def XT_field_integer_L1 (t1 : ByteArray × Bool) (e : (Unit) ⊕ (Int)) : List (Nat × AV) := match e with
  | (.inl e) => [(2, .d (I 0)), (3, .d (B false))]
  | (.inr e) => [(4, .d (.v (.string t1.1))), (5, .d (B t1.2)), (6, .d (I e))]
noncomputable def XH_field_integer_L1 (t1 : ByteArray × Bool) (e : (Unit) ⊕ (Int)) : List (Nat × Blk) := match e with
  | (.inl e) => []
  | (.inr e) => []
theorem R_field_integer_L1 {n : Nat} {t1 : ByteArray × Bool} (sa : (Int × Nat)) (r) (h : F_field_integer_L1 n t1 sa = some r) : Rd cx (loopAt cx.P 137 0) 59 0 false (T_field_integer_L1 t1) (H_field_integer_L1 t1) (X_field_integer_L1 t1) (XT_field_integer_L1 t1) (XH_field_integer_L1 t1) sa r := by
  unfold F_field_integer_L1 at h
  by_cases ha1 : sa.2 < t1.1.size
  · replace h := ite_t h ha1
    by_cases ha2 : ((Utf8.decode t1.1 sa.2).1 : Int) < 48
    · replace h := ite_t h ha2
      replace h := Option.some.inj h
      subst h
      exact ⟨⟨100, 12, [.br true, .no, .br true, .no, .no], [], [2, 3], [], round_fr (allC (decide_eq_true ha2) (allC ha1 allN)) (by kernel_rfl)⟩, nofun⟩
    · replace h := ite_f h ha2
      by_cases ha3 : ((Utf8.decode t1.1 sa.2).1 : Int) > 57
      · replace h := ite_t h ha3
        replace h := Option.some.inj h
        subst h
        exact ⟨⟨100, 12, [.br true, .no, .br false, .br true, .no], [], [2, 3], [], round_fr (allC (decide_eq_true ha3) (allC (decide_eq_false ha2) (allC ha1 allN))) (by kernel_rfl)⟩, nofun⟩
      · replace h := ite_f h ha3
        by_cases ha4 : (t1.1.size : Int) > 9
        · replace h := ite_t h ha4
          replace h := Option.some.inj h
          subst h
          exact ⟨⟨100, 12, [.br true, .no, .br false, .br false, .br true], [], [2, 3], [], round_fr (allC (decide_eq_true ha4) (allC (decide_eq_false ha3) (allC (decide_eq_false ha2) (allC ha1 allN)))) (by kernel_rfl)⟩, nofun⟩
        · replace h := ite_f h ha4
          obtain ⟨ha5, h⟩ := grd_of h
          obtain ⟨ha6, h⟩ := grd_of h
          replace h := Option.some.inj h
          subst h
          exact ⟨100, 12, [.br true, .no, .br false, .br false, .br false], [], [4, 5, 6, 15], [11], round_fr (allC ha6 (allC ha5 (allC (decide_eq_false ha4) (allC (decide_eq_false ha3) (allC (decide_eq_false ha2) (allC ha1 allN)))))) (by kernel_rfl)⟩
  · replace h := ite_f h ha1
    replace h := Option.some.inj h
    subst h
    exact ⟨⟨100, 12, [.br false, .no], [], [4, 5, 6], [], round_fr (allC ha1 allN) (by kernel_rfl)⟩, nofun⟩
/- spillage/field.integer: .v (.string a0) -/
def F_field_integer (n : Nat) (a0 : ByteArray) : Option (Int × Bool) :=
  (F_strings_CutPrefix n a0).bind fun t1 =>
  (loopF (F_field_integer_L1 n t1) n (0, 0)).bind fun t2 => match t2 with
    | (.inl t2) => (
      some (0, false))
    | (.inr t2) => (
      if (t1.1.toList == (⟨#[]⟩ : ByteArray).toList) = true then
        some (0, false)
      else
      if (t1.1.size : Int) > 1 then
        (strAt t1.1 0).bind fun t5 =>
        if t5 = 48 then
          some (0, false)
        else
        if t1.2 = true then
          if t2 = 0 then
            some (0, false)
          else
          some ((IntKind.wrap .i64 (0 - t2)), true)
        else
        some (t2, true)
      else
      if t1.2 = true then
        if t2 = 0 then
          some (0, false)
        else
        some ((IntKind.wrap .i64 (0 - t2)), true)
      else
      some (t2, true))
theorem c_field_integer {n : Nat} {a0 : ByteArray} {r : Int × Bool} (h : F_field_integer n a0 = some r) : Computes cx 137 [.v (.string a0)] (.tup [I r.1, B r.2]) := by
  unfold F_field_integer at h
  obtain ⟨t1, h1, h⟩ := bnd_of h
  obtain ⟨t2, h2, h⟩ := bnd_of h
  rcases t2 with t2 | t2
  · replace h := Option.some.inj h
    subst h
    exact run_fr (n := 100) (orc := [.ret (.tup [.v (.string t1.1), B t1.2]), .lp [] [4, 5, 6, 15] [11] .ret [(2, .d (I 0)), (3, .d (B false))] [] 45]) (allC (loopF_to R_field_integer_L1 h2) (allC (c_strings_CutPrefix h1) allN)) (by kernel_rfl)
  · by_cases h3 : (t1.1.toList == (⟨#[]⟩ : ByteArray).toList) = true
    · replace h := ite_t h h3
      replace h := Option.some.inj h
      subst h
      exact run_fr (n := 100) (orc := [.ret (.tup [.v (.string t1.1), B t1.2]), .lp [] [4, 5, 6, 15] [11] (.exit 0) [(4, .d (.v (.string t1.1))), (5, .d (B t1.2)), (6, .d (I t2))] [] 45, .br true, .no, .no]) (allC h3 (allC (loopF_to R_field_integer_L1 h2) (allC (c_strings_CutPrefix h1) allN))) (by kernel_rfl)
    · replace h := ite_f h h3
      by_cases h4 : (t1.1.size : Int) > 1
      · replace h := ite_t h h4
        obtain ⟨t5, h5, h⟩ := bnd_of h
        by_cases h6 : t5 = 48
        · replace h := ite_t h h6
          replace h := Option.some.inj h
          subst h
          exact run_fr (n := 100) (orc := [.ret (.tup [.v (.string t1.1), B t1.2]), .lp [] [4, 5, 6, 15] [11] (.exit 0) [(4, .d (.v (.string t1.1))), (5, .d (B t1.2)), (6, .d (I t2))] [] 45, .br false, .br true, .el (.v (.int .u8 t5)), .br true, .no]) (allC (eqt h6) (allC (strAt_ok h5 : pureRun cx.P (Instr.index 9 (.string t1.1) (.int .i64 0)) = some (.int .u8 t5)) (allC (decide_eq_true h4) (allC (bfalse h3) (allC (loopF_to R_field_integer_L1 h2) (allC (c_strings_CutPrefix h1) allN)))))) (by kernel_rfl)
        · replace h := ite_f h h6
          by_cases h7 : t1.2 = true
          · replace h := ite_t h h7
            by_cases h8 : t2 = 0
            · replace h := ite_t h h8
              replace h := Option.some.inj h
              subst h
              exact run_fr (n := 100) (orc := [.ret (.tup [.v (.string t1.1), B t1.2]), .lp [] [4, 5, 6, 15] [11] (.exit 0) [(4, .d (.v (.string t1.1))), (5, .d (B t1.2)), (6, .d (I t2))] [] 45, .br false, .br true, .el (.v (.int .u8 t5)), .br false, .br true, .br true]) (allC (eqt h8) (allC h7 (allC (eqf h6) (allC (strAt_ok h5 : pureRun cx.P (Instr.index 9 (.string t1.1) (.int .i64 0)) = some (.int .u8 t5)) (allC (decide_eq_true h4) (allC (bfalse h3) (allC (loopF_to R_field_integer_L1 h2) (allC (c_strings_CutPrefix h1) allN)))))))) (by kernel_rfl)
            · replace h := ite_f h h8
              replace h := Option.some.inj h
              subst h
              exact run_fr (n := 100) (orc := [.ret (.tup [.v (.string t1.1), B t1.2]), .lp [] [4, 5, 6, 15] [11] (.exit 0) [(4, .d (.v (.string t1.1))), (5, .d (B t1.2)), (6, .d (I t2))] [] 45, .br false, .br true, .el (.v (.int .u8 t5)), .br false, .br true, .br false, .br true]) (allC h7 (allC (eqf h8) (allC h7 (allC (eqf h6) (allC (strAt_ok h5 : pureRun cx.P (Instr.index 9 (.string t1.1) (.int .i64 0)) = some (.int .u8 t5)) (allC (decide_eq_true h4) (allC (bfalse h3) (allC (loopF_to R_field_integer_L1 h2) (allC (c_strings_CutPrefix h1) allN))))))))) (by kernel_rfl)
          · replace h := ite_f h h7
            replace h := Option.some.inj h
            subst h
            exact run_fr (n := 100) (orc := [.ret (.tup [.v (.string t1.1), B t1.2]), .lp [] [4, 5, 6, 15] [11] (.exit 0) [(4, .d (.v (.string t1.1))), (5, .d (B t1.2)), (6, .d (I t2))] [] 45, .br false, .br true, .el (.v (.int .u8 t5)), .br false, .br false, .no, .br false]) (allC (bfalse h7) (allC (bfalse h7) (allC (eqf h6) (allC (strAt_ok h5 : pureRun cx.P (Instr.index 9 (.string t1.1) (.int .i64 0)) = some (.int .u8 t5)) (allC (decide_eq_true h4) (allC (bfalse h3) (allC (loopF_to R_field_integer_L1 h2) (allC (c_strings_CutPrefix h1) allN)))))))) (by kernel_rfl)
      · replace h := ite_f h h4
        by_cases h5 : t1.2 = true
        · replace h := ite_t h h5
          by_cases h6 : t2 = 0
          · replace h := ite_t h h6
            replace h := Option.some.inj h
            subst h
            exact run_fr (n := 100) (orc := [.ret (.tup [.v (.string t1.1), B t1.2]), .lp [] [4, 5, 6, 15] [11] (.exit 0) [(4, .d (.v (.string t1.1))), (5, .d (B t1.2)), (6, .d (I t2))] [] 45, .br false, .br false, .no, .br true, .br true]) (allC (eqt h6) (allC h5 (allC (decide_eq_false h4) (allC (bfalse h3) (allC (loopF_to R_field_integer_L1 h2) (allC (c_strings_CutPrefix h1) allN)))))) (by kernel_rfl)
          · replace h := ite_f h h6
            replace h := Option.some.inj h
            subst h
            exact run_fr (n := 100) (orc := [.ret (.tup [.v (.string t1.1), B t1.2]), .lp [] [4, 5, 6, 15] [11] (.exit 0) [(4, .d (.v (.string t1.1))), (5, .d (B t1.2)), (6, .d (I t2))] [] 45, .br false, .br false, .no, .br true, .br false, .br true]) (allC h5 (allC (eqf h6) (allC h5 (allC (decide_eq_false h4) (allC (bfalse h3) (allC (loopF_to R_field_integer_L1 h2) (allC (c_strings_CutPrefix h1) allN))))))) (by kernel_rfl)
        · replace h := ite_f h h5
          replace h := Option.some.inj h
          subst h
          exact run_fr (n := 100) (orc := [.ret (.tup [.v (.string t1.1), B t1.2]), .lp [] [4, 5, 6, 15] [11] (.exit 0) [(4, .d (.v (.string t1.1))), (5, .d (B t1.2)), (6, .d (I t2))] [] 45, .br false, .br false, .no, .br false, .no, .br false]) (allC (bfalse h5) (allC (bfalse h5) (allC (decide_eq_false h4) (allC (bfalse h3) (allC (loopF_to R_field_integer_L1 h2) (allC (c_strings_CutPrefix h1) allN)))))) (by kernel_rfl)
/- (*spillage/field.taker).number -/
def F_field_taker_number (n : Nat) (a0 : List D) (a1 : Bool) : Option (Int × List D × Bool) :=
  (F_field_taker_word n a0 a1).bind fun t1 =>
  (F_field_integer n t1.1).bind fun t2 =>
  if t1.2.2 = true then
    some (t2.1, t1.2.1, true)
  else
  some (t2.1, t1.2.1, (!t2.2))
theorem c_field_taker_number {n : Nat} {a0 : List D} {a1 : Bool} {r : Int × List D × Bool} (h : F_field_taker_number n a0 a1 = some r) : ComputesO cx 100 [.ptr 0 0 0 0 0] (some [.dat (.lst false 1 a0), .dat (B a1)]) (.d (I r.1)) [.dat (.lst false 1 r.2.1), .dat (B r.2.2)] := by
  unfold F_field_taker_number at h
  obtain ⟨t1, h1, h⟩ := bnd_of h
  obtain ⟨t2, h2, h⟩ := bnd_of h
  by_cases h3 : t1.2.2 = true
  · replace h := ite_t h h3
    replace h := Option.some.inj h
    subst h
    exact run_frO (n := 100) (b := 0) (orc := [.obj (some 0) (.d (.v (.string t1.1))) [.dat (.lst false 1 t1.2.1), .dat (B t1.2.2)], .ret (.tup [I t2.1, B t2.2]), .br true]) (allC h3 (allC (c_field_integer h2) (allC (c_field_taker_word h1) allN))) (by kernel_rfl)
  · replace h := ite_f h h3
    replace h := Option.some.inj h
    subst h
    exact run_frO (n := 100) (b := 0) (orc := [.obj (some 0) (.d (.v (.string t1.1))) [.dat (.lst false 1 t1.2.1), .dat (B t1.2.2)], .ret (.tup [I t2.1, B t2.2]), .br false]) (allC (bfalse h3) (allC (c_field_integer h2) (allC (c_field_taker_word h1) allN))) (by kernel_rfl)
/- spillage/field.parsed: .v (.string a0) -/
def F_field_parsed (n : Nat) (a0 : ByteArray) : Option (ByteArray × Int × Int × Int × Int × Int × Int × Int × Int × Int × Bool) :=
  (F_strings_Split n a0).bind fun t1 =>
  (F_field_taker_word n t1 false).bind fun t2 =>
  (F_field_taker_word n t2.2.1 t2.2.2).bind fun t3 =>
  (F_field_parts n).bind fun t4 =>
  (F_field_taker_number n t3.2.1 t3.2.2).bind fun t5 =>
  (F_field_taker_number n t5.2.1 t5.2.2).bind fun t6 =>
  (F_field_taker_number n t6.2.1 t6.2.2).bind fun t7 =>
  (F_field_taker_number n t7.2.1 t7.2.2).bind fun t8 =>
  (F_field_taker_number n t8.2.1 t8.2.2).bind fun t9 =>
  (F_field_taker_number n t9.2.1 t9.2.2).bind fun t10 =>
  (F_field_taker_number n t10.2.1 t10.2.2).bind fun t11 =>
  (F_field_taker_number n t11.2.1 t11.2.2).bind fun t12 =>
  (F_field_taker_number n t12.2.1 t12.2.2).bind fun t13 =>
  if (t2.1.toList == (⟨#[109, 105, 114, 114, 111, 114]⟩ : ByteArray).toList) = true then
    if t13.2.2 = true then
      some (t3.1, t5.1, t6.1, t7.1, t8.1, t9.1, t10.1, t11.1, t12.1, t13.1, false)
    else
    some (t3.1, t5.1, t6.1, t7.1, t8.1, t9.1, t10.1, t11.1, t12.1, t13.1, (((t13.2.1).length : Int) == 0))
  else
  some (t3.1, t5.1, t6.1, t7.1, t8.1, t9.1, t10.1, t11.1, t12.1, t13.1, false)
theorem c_field_parsed {n : Nat} {a0 : ByteArray} {r : ByteArray × Int × Int × Int × Int × Int × Int × Int × Int × Int × Bool} (h : F_field_parsed n a0 = some r) : Computes cx 45 [.v (.string a0)] (.tup [.agg [.v (.string r.1), I r.2.1, I r.2.2.1, I r.2.2.2.1, I r.2.2.2.2.1, I r.2.2.2.2.2.1, I r.2.2.2.2.2.2.1, I r.2.2.2.2.2.2.2.1, I r.2.2.2.2.2.2.2.2.1, I r.2.2.2.2.2.2.2.2.2.1], B r.2.2.2.2.2.2.2.2.2.2]) := by
  unfold F_field_parsed at h
  obtain ⟨t1, h1, h⟩ := bnd_of h
  obtain ⟨t2, h2, h⟩ := bnd_of h
  obtain ⟨t3, h3, h⟩ := bnd_of h
  obtain ⟨t4, h4, h⟩ := bnd_of h
  obtain ⟨t5, h5, h⟩ := bnd_of h
  obtain ⟨t6, h6, h⟩ := bnd_of h
  obtain ⟨t7, h7, h⟩ := bnd_of h
  obtain ⟨t8, h8, h⟩ := bnd_of h
  obtain ⟨t9, h9, h⟩ := bnd_of h
  obtain ⟨t10, h10, h⟩ := bnd_of h
  obtain ⟨t11, h11, h⟩ := bnd_of h
  obtain ⟨t12, h12, h⟩ := bnd_of h
  obtain ⟨t13, h13, h⟩ := bnd_of h
  by_cases h14 : (t2.1.toList == (⟨#[109, 105, 114, 114, 111, 114]⟩ : ByteArray).toList) = true
  · replace h := ite_t h h14
    by_cases h15 : t13.2.2 = true
    · replace h := ite_t h h15
      replace h := Option.some.inj h
      subst h
      exact run_fr (n := 100) (orc := [.ret (.lst false 1 t1), .obj (some 5) (.d (.v (.string t2.1))) [.dat (.lst false 1 t2.2.1), .dat (B t2.2.2)], .obj (some 5) (.d (.v (.string t3.1))) [.dat (.lst false 1 t3.2.1), .dat (B t3.2.2)], .no, .no, .no, .ret (.agg [.fn (.func 130) [] [], .fn (.func 131) [] [], .fn (.func 132) [] []]), .no, .no, .obj (some 5) (.d (I t5.1)) [.dat (.lst false 1 t5.2.1), .dat (B t5.2.2)], .br true, .no, .no, .obj (some 5) (.d (I t6.1)) [.dat (.lst false 1 t6.2.1), .dat (B t6.2.2)], .br true, .no, .no, .obj (some 5) (.d (I t7.1)) [.dat (.lst false 1 t7.2.1), .dat (B t7.2.2)], .br true, .no, .no, .no, .no, .no, .ret (.agg [.fn (.func 130) [] [], .fn (.func 131) [] [], .fn (.func 132) [] []]), .no, .no, .obj (some 5) (.d (I t8.1)) [.dat (.lst false 1 t8.2.1), .dat (B t8.2.2)], .br true, .no, .no, .obj (some 5) (.d (I t9.1)) [.dat (.lst false 1 t9.2.1), .dat (B t9.2.2)], .br true, .no, .no, .obj (some 5) (.d (I t10.1)) [.dat (.lst false 1 t10.2.1), .dat (B t10.2.2)], .br true, .no, .no, .no, .no, .no, .ret (.agg [.fn (.func 130) [] [], .fn (.func 131) [] [], .fn (.func 132) [] []]), .no, .no, .obj (some 5) (.d (I t11.1)) [.dat (.lst false 1 t11.2.1), .dat (B t11.2.2)], .br true, .no, .no, .obj (some 5) (.d (I t12.1)) [.dat (.lst false 1 t12.2.1), .dat (B t12.2.2)], .br true, .no, .no, .obj (some 5) (.d (I t13.1)) [.dat (.lst false 1 t13.2.1), .dat (B t13.2.2)], .br true, .no, .no, .no, .no, .br true, .br false]) (allC (notf h15) (allC h14 (allC ((by unfold inI64; omega) : inI64 3) (allC ((by unfold inI64; omega) : inI64 3) (allC (c_field_taker_number h13) (allC ((by unfold inI64; omega) : inI64 2) (allC (c_field_taker_number h12) (allC ((by unfold inI64; omega) : inI64 1) (allC (c_field_taker_number h11) (allC (c_field_parts h4) (allC ((by unfold inI64; omega) : inI64 2) (allC ((by unfold inI64; omega) : inI64 3) (allC (c_field_taker_number h10) (allC ((by unfold inI64; omega) : inI64 2) (allC (c_field_taker_number h9) (allC ((by unfold inI64; omega) : inI64 1) (allC (c_field_taker_number h8) (allC (c_field_parts h4) (allC ((by unfold inI64; omega) : inI64 1) (allC ((by unfold inI64; omega) : inI64 3) (allC (c_field_taker_number h7) (allC ((by unfold inI64; omega) : inI64 2) (allC (c_field_taker_number h6) (allC ((by unfold inI64; omega) : inI64 1) (allC (c_field_taker_number h5) (allC (c_field_parts h4) (allC (c_field_taker_word h3) (allC (c_field_taker_word h2) (allC (c_strings_Split h1) allN))))))))))))))))))))))))))))) (by kernel_rfl)
    · replace h := ite_f h h15
      replace h := Option.some.inj h
      subst h
      exact run_fr (n := 100) (orc := [.ret (.lst false 1 t1), .obj (some 5) (.d (.v (.string t2.1))) [.dat (.lst false 1 t2.2.1), .dat (B t2.2.2)], .obj (some 5) (.d (.v (.string t3.1))) [.dat (.lst false 1 t3.2.1), .dat (B t3.2.2)], .no, .no, .no, .ret (.agg [.fn (.func 130) [] [], .fn (.func 131) [] [], .fn (.func 132) [] []]), .no, .no, .obj (some 5) (.d (I t5.1)) [.dat (.lst false 1 t5.2.1), .dat (B t5.2.2)], .br true, .no, .no, .obj (some 5) (.d (I t6.1)) [.dat (.lst false 1 t6.2.1), .dat (B t6.2.2)], .br true, .no, .no, .obj (some 5) (.d (I t7.1)) [.dat (.lst false 1 t7.2.1), .dat (B t7.2.2)], .br true, .no, .no, .no, .no, .no, .ret (.agg [.fn (.func 130) [] [], .fn (.func 131) [] [], .fn (.func 132) [] []]), .no, .no, .obj (some 5) (.d (I t8.1)) [.dat (.lst false 1 t8.2.1), .dat (B t8.2.2)], .br true, .no, .no, .obj (some 5) (.d (I t9.1)) [.dat (.lst false 1 t9.2.1), .dat (B t9.2.2)], .br true, .no, .no, .obj (some 5) (.d (I t10.1)) [.dat (.lst false 1 t10.2.1), .dat (B t10.2.2)], .br true, .no, .no, .no, .no, .no, .ret (.agg [.fn (.func 130) [] [], .fn (.func 131) [] [], .fn (.func 132) [] []]), .no, .no, .obj (some 5) (.d (I t11.1)) [.dat (.lst false 1 t11.2.1), .dat (B t11.2.2)], .br true, .no, .no, .obj (some 5) (.d (I t12.1)) [.dat (.lst false 1 t12.2.1), .dat (B t12.2.2)], .br true, .no, .no, .obj (some 5) (.d (I t13.1)) [.dat (.lst false 1 t13.2.1), .dat (B t13.2.2)], .br true, .no, .no, .no, .no, .br true, .br true]) (allC (nott (bfalse h15)) (allC h14 (allC ((by unfold inI64; omega) : inI64 3) (allC ((by unfold inI64; omega) : inI64 3) (allC (c_field_taker_number h13) (allC ((by unfold inI64; omega) : inI64 2) (allC (c_field_taker_number h12) (allC ((by unfold inI64; omega) : inI64 1) (allC (c_field_taker_number h11) (allC (c_field_parts h4) (allC ((by unfold inI64; omega) : inI64 2) (allC ((by unfold inI64; omega) : inI64 3) (allC (c_field_taker_number h10) (allC ((by unfold inI64; omega) : inI64 2) (allC (c_field_taker_number h9) (allC ((by unfold inI64; omega) : inI64 1) (allC (c_field_taker_number h8) (allC (c_field_parts h4) (allC ((by unfold inI64; omega) : inI64 1) (allC ((by unfold inI64; omega) : inI64 3) (allC (c_field_taker_number h7) (allC ((by unfold inI64; omega) : inI64 2) (allC (c_field_taker_number h6) (allC ((by unfold inI64; omega) : inI64 1) (allC (c_field_taker_number h5) (allC (c_field_parts h4) (allC (c_field_taker_word h3) (allC (c_field_taker_word h2) (allC (c_strings_Split h1) allN))))))))))))))))))))))))))))) (by kernel_rfl)
  · replace h := ite_f h h14
    replace h := Option.some.inj h
    subst h
    exact run_fr (n := 100) (orc := [.ret (.lst false 1 t1), .obj (some 5) (.d (.v (.string t2.1))) [.dat (.lst false 1 t2.2.1), .dat (B t2.2.2)], .obj (some 5) (.d (.v (.string t3.1))) [.dat (.lst false 1 t3.2.1), .dat (B t3.2.2)], .no, .no, .no, .ret (.agg [.fn (.func 130) [] [], .fn (.func 131) [] [], .fn (.func 132) [] []]), .no, .no, .obj (some 5) (.d (I t5.1)) [.dat (.lst false 1 t5.2.1), .dat (B t5.2.2)], .br true, .no, .no, .obj (some 5) (.d (I t6.1)) [.dat (.lst false 1 t6.2.1), .dat (B t6.2.2)], .br true, .no, .no, .obj (some 5) (.d (I t7.1)) [.dat (.lst false 1 t7.2.1), .dat (B t7.2.2)], .br true, .no, .no, .no, .no, .no, .ret (.agg [.fn (.func 130) [] [], .fn (.func 131) [] [], .fn (.func 132) [] []]), .no, .no, .obj (some 5) (.d (I t8.1)) [.dat (.lst false 1 t8.2.1), .dat (B t8.2.2)], .br true, .no, .no, .obj (some 5) (.d (I t9.1)) [.dat (.lst false 1 t9.2.1), .dat (B t9.2.2)], .br true, .no, .no, .obj (some 5) (.d (I t10.1)) [.dat (.lst false 1 t10.2.1), .dat (B t10.2.2)], .br true, .no, .no, .no, .no, .no, .ret (.agg [.fn (.func 130) [] [], .fn (.func 131) [] [], .fn (.func 132) [] []]), .no, .no, .obj (some 5) (.d (I t11.1)) [.dat (.lst false 1 t11.2.1), .dat (B t11.2.2)], .br true, .no, .no, .obj (some 5) (.d (I t12.1)) [.dat (.lst false 1 t12.2.1), .dat (B t12.2.2)], .br true, .no, .no, .obj (some 5) (.d (I t13.1)) [.dat (.lst false 1 t13.2.1), .dat (B t13.2.2)], .br true, .no, .no, .no, .no, .br false, .no]) (allC (bfalse h14) (allC ((by unfold inI64; omega) : inI64 3) (allC ((by unfold inI64; omega) : inI64 3) (allC (c_field_taker_number h13) (allC ((by unfold inI64; omega) : inI64 2) (allC (c_field_taker_number h12) (allC ((by unfold inI64; omega) : inI64 1) (allC (c_field_taker_number h11) (allC (c_field_parts h4) (allC ((by unfold inI64; omega) : inI64 2) (allC ((by unfold inI64; omega) : inI64 3) (allC (c_field_taker_number h10) (allC ((by unfold inI64; omega) : inI64 2) (allC (c_field_taker_number h9) (allC ((by unfold inI64; omega) : inI64 1) (allC (c_field_taker_number h8) (allC (c_field_parts h4) (allC ((by unfold inI64; omega) : inI64 1) (allC ((by unfold inI64; omega) : inI64 3) (allC (c_field_taker_number h7) (allC ((by unfold inI64; omega) : inI64 2) (allC (c_field_taker_number h6) (allC ((by unfold inI64; omega) : inI64 1) (allC (c_field_taker_number h5) (allC (c_field_parts h4) (allC (c_field_taker_word h3) (allC (c_field_taker_word h2) (allC (c_strings_Split h1) allN)))))))))))))))))))))))))))) (by kernel_rfl)
/- spillage/field.CheckMirrors: .lst true 0 [] -/
def F_field_CheckMirrors_2 (n : Nat)  : Option (Int) :=
  some 0
theorem c_field_CheckMirrors_2 {n : Nat}  {r : Int} (h : F_field_CheckMirrors_2 n  = some r) : Computes cx 39 [.lst true 0 []] (I r) := by
  unfold F_field_CheckMirrors_2 at h
  replace h := Option.some.inj h
  subst h
  exact run_fr (n := 100) (orc := [.no, .no, .no]) allN (by kernel_rfl)
def F_field_Parse_L1 (n : Nat) (a0 : ByteArray) (sa : (Unit) ⊕ (ByteArray × List D)) : Option (((Unit) ⊕ (ByteArray × List D)) ⊕ ((ByteArray) ⊕ (Unit) ⊕ (Int × ByteArray × List D) ⊕ (ByteArray × List D))) := match sa with
  | (.inl sa) => (
    if (a0.size : Int) > 0 then
      (F_strings_IndexByte n a0 10).bind fun ta2 =>
      if ta2 ≥ 0 then
        if inI64 (ta2 + 1) then
        (strSub a0 none (some (ta2 + 1))).bind fun ta5 =>
        (strSub a0 (some (ta2 + 1)) none).bind fun ta6 =>
        (F_strings_CutSuffix n ta5).bind fun ta7 =>
        (F_field_parsed n ta7.1).bind fun ta8 =>
        if ta7.2 = true then
          if ta8.2.2.2.2.2.2.2.2.2.2 = true then
            some (.inl (.inr (ta6, [.agg [.v (.string ta8.1), I ta8.2.1, I ta8.2.2.1, I ta8.2.2.2.1, I ta8.2.2.2.2.1, I ta8.2.2.2.2.2.1, I ta8.2.2.2.2.2.2.1, I ta8.2.2.2.2.2.2.2.1, I ta8.2.2.2.2.2.2.2.2.1, I ta8.2.2.2.2.2.2.2.2.2.1]])))
          else
          some (.inr (.inl ta6))
        else
        some (.inr (.inl ta6))
        else none
      else
      (F_strings_CutSuffix n a0).bind fun ta4 =>
      (F_field_parsed n ta4.1).bind fun ta5 =>
      if ¬ (ta4.2 = true) then
      some (.inr (.inl ⟨#[]⟩))
      else none
    else
    some (.inr (.inr (.inl ()))))
  | (.inr sa) => (
    if (sa.1.size : Int) > 0 then
      (F_strings_IndexByte n sa.1 10).bind fun ta2 =>
      if ta2 ≥ 0 then
        if inI64 (ta2 + 1) then
        (strSub sa.1 none (some (ta2 + 1))).bind fun ta5 =>
        (strSub sa.1 (some (ta2 + 1)) none).bind fun ta6 =>
        (F_strings_CutSuffix n ta5).bind fun ta7 =>
        (F_field_parsed n ta7.1).bind fun ta8 =>
        if ta7.2 = true then
          if ta8.2.2.2.2.2.2.2.2.2.2 = true then
            if roomP 88 ((sa.2).length + 1) then
            some (.inl (.inr (ta6, (sa.2 ++ ([.agg [.v (.string ta8.1), I ta8.2.1, I ta8.2.2.1, I ta8.2.2.2.1, I ta8.2.2.2.2.1, I ta8.2.2.2.2.2.1, I ta8.2.2.2.2.2.2.1, I ta8.2.2.2.2.2.2.2.1, I ta8.2.2.2.2.2.2.2.2.1, I ta8.2.2.2.2.2.2.2.2.2.1]] : List D)))))
            else none
          else
          some (.inr (.inr (.inr (.inl (((sa.2).length : Int), ta6, sa.2)))))
        else
        some (.inr (.inr (.inr (.inl (((sa.2).length : Int), ta6, sa.2)))))
        else none
      else
      (F_strings_CutSuffix n sa.1).bind fun ta4 =>
      (F_field_parsed n ta4.1).bind fun ta5 =>
      if ¬ (ta4.2 = true) then
      some (.inr (.inr (.inr (.inl (((sa.2).length : Int), ⟨#[]⟩, sa.2)))))
      else none
    else
    some (.inr (.inr (.inr (.inr (sa.1, sa.2))))))
noncomputable def T_field_Parse_L1 (a0 : ByteArray) (sa : (Unit) ⊕ (ByteArray × List D)) : List (Nat × AV) := match sa with
  | (.inl sa) => [(0, .own 13 0), (1, .ptr 9 0 0 0 0)]
  | (.inr sa) => [(0, .own 13 0), (1, .ptr 9 0 0 0 0)]
noncomputable def H_field_Parse_L1 (a0 : ByteArray) (sa : (Unit) ⊕ (ByteArray × List D)) : List (Nat × Blk) := match sa with
  | (.inl sa) => [(0, .box (.d (.lst true 0 []))), (1, .box (.d (I 0))), (2, .box (.d (I 0))), (6, .box (.d (.lst true 0 []))), (9, .box (.d (.v (.string a0)))), (13, .loop true [(16, .fn (.func 95) [] [.ptr 9 0 0 0 0]), (15, .d (.v (.string a0))), (14, .d (B (decide ((a0.size : Int) > 4096)))), (13, .d (I (a0.size : Int))), (12, .d (.v (.string a0))), (5, .ptr 6 0 0 0 0), (4, .ptr 2 0 0 0 0), (3, .ptr 1 0 0 0 0), (2, .ptr 0 0 0 0 0), (0, .d (.v (.string a0)))] [17] (rangeAt cx.P 9 0).1 (rangeAt cx.P 9 0).2 48)]
  | (.inr sa) => [(0, .box (.d (.lst true 0 []))), (1, .box (.d (I 0))), (2, .box (.d (I 0))), (6, .box (.own 62 0)), (9, .box (.d (.v (.string sa.1)))), (13, .loop true [(16, .fn (.func 95) [] [.ptr 9 0 0 0 0]), (15, .d (.v (.string a0))), (14, .d (B (decide ((a0.size : Int) > 4096)))), (13, .d (I (a0.size : Int))), (12, .d (.v (.string a0))), (5, .ptr 6 0 0 0 0), (4, .ptr 2 0 0 0 0), (3, .ptr 1 0 0 0 0), (2, .ptr 0 0 0 0 0), (0, .d (.v (.string a0)))] [17] (rangeAt cx.P 9 0).1 (rangeAt cx.P 9 0).2 48), (62, .row 0 10 sa.2)]
noncomputable def X_field_Parse_L1 (a0 : ByteArray) (e : (ByteArray) ⊕ (Unit) ⊕ (Int × ByteArray × List D) ⊕ (ByteArray × List D)) : Ex := match e with
  | (.inl e) => .ret
  | (.inr (.inl e)) => (.exit 0)
  | (.inr (.inr (.inl e))) => .ret
  | (.inr (.inr (.inr e))) => (.exit 0)
noncomputable def XT_field_Parse_L1 (a0 : ByteArray) (e : (ByteArray) ⊕ (Unit) ⊕ (Int × ByteArray × List D) ⊕ (ByteArray × List D)) : List (Nat × AV) := match e with
  | (.inl e) => []
  | (.inr (.inl e)) => []
  | (.inr (.inr (.inl e))) => []
  | (.inr (.inr (.inr e))) => []
noncomputable def XH_field_Parse_L1 (a0 : ByteArray) (e : (ByteArray) ⊕ (Unit) ⊕ (Int × ByteArray × List D) ⊕ (ByteArray × List D)) : List (Nat × Blk) := match e with
  | (.inl e) => [(0, .box (.d (.lst true 0 []))), (1, .box (.d (I 0))), (2, .box (.d (I 25))), (6, .box (.d (.lst true 0 []))), (9, .box (.d (.v (.string e)))), (13, .left .ret)]
  | (.inr (.inl e)) => [(0, .box (.d (.lst true 0 []))), (1, .box (.d (I 0))), (2, .box (.d (I 0))), (6, .box (.d (.lst true 0 []))), (9, .box (.d (.v (.string a0)))), (13, .loop true [(16, .fn (.func 95) [] [.ptr 9 0 0 0 0]), (15, .d (.v (.string a0))), (14, .d (B (decide ((a0.size : Int) > 4096)))), (13, .d (I (a0.size : Int))), (12, .d (.v (.string a0))), (5, .ptr 6 0 0 0 0), (4, .ptr 2 0 0 0 0), (3, .ptr 1 0 0 0 0), (2, .ptr 0 0 0 0 0), (0, .d (.v (.string a0)))] [17] (rangeAt cx.P 9 0).1 (rangeAt cx.P 9 0).2 48)]
  | (.inr (.inr (.inl e))) => [(0, .box (.d (.lst true 0 []))), (1, .box (.d (I e.1))), (2, .box (.d (I 25))), (6, .box (.own 62 0)), (9, .box (.d (.v (.string e.2.1)))), (13, .left .ret), (62, .row 0 10 e.2.2)]
  | (.inr (.inr (.inr e))) => [(0, .box (.d (.lst true 0 []))), (1, .box (.d (I 0))), (2, .box (.d (I 0))), (6, .box (.own 62 0)), (9, .box (.d (.v (.string e.1)))), (13, .loop true [(16, .fn (.func 95) [] [.ptr 9 0 0 0 0]), (15, .d (.v (.string a0))), (14, .d (B (decide ((a0.size : Int) > 4096)))), (13, .d (I (a0.size : Int))), (12, .d (.v (.string a0))), (5, .ptr 6 0 0 0 0), (4, .ptr 2 0 0 0 0), (3, .ptr 1 0 0 0 0), (2, .ptr 0 0 0 0 0), (0, .d (.v (.string a0)))] [17] (rangeAt cx.P 9 0).1 (rangeAt cx.P 9 0).2 48), (62, .row 0 10 e.2)]
theorem R_field_Parse_L1 {n : Nat} {a0 : ByteArray} (sa : (Unit) ⊕ (ByteArray × List D)) (r) (h : F_field_Parse_L1 n a0 sa = some r) : Rd cx (loopAt cx.P 95 0) 25 14 false (T_field_Parse_L1 a0) (H_field_Parse_L1 a0) (X_field_Parse_L1 a0) (XT_field_Parse_L1 a0) (XH_field_Parse_L1 a0) sa r := by
  unfold F_field_Parse_L1 at h
  rcases sa with sa | sa
  · by_cases ha1 : (a0.size : Int) > 0
    · replace h := ite_t h ha1
      obtain ⟨ta2, ha2, h⟩ := bnd_of h
      by_cases ha3 : ta2 ≥ 0
      · replace h := ite_t h ha3
        obtain ⟨ha4, h⟩ := grd_of h
        obtain ⟨ta5, ha5, h⟩ := bnd_of h
        obtain ⟨ta6, ha6, h⟩ := bnd_of h
        obtain ⟨ta7, ha7, h⟩ := bnd_of h
        obtain ⟨ta8, ha8, h⟩ := bnd_of h
        by_cases ha9 : ta7.2 = true
        · replace h := ite_t h ha9
          by_cases ha10 : ta8.2.2.2.2.2.2.2.2.2.2 = true
          · replace h := ite_t h ha10
            replace h := Option.some.inj h
            subst h
            exact ⟨100, 14, [.br true, .ret (I ta2), .br true, .el (.v (.string ta5)), .el (.v (.string ta6)), .ret (.tup [.v (.string ta7.1), B ta7.2]), .ret (.tup [.agg [.v (.string ta8.1), I ta8.2.1, I ta8.2.2.1, I ta8.2.2.2.1, I ta8.2.2.2.2.1, I ta8.2.2.2.2.2.1, I ta8.2.2.2.2.2.2.1, I ta8.2.2.2.2.2.2.2.1, I ta8.2.2.2.2.2.2.2.2.1, I ta8.2.2.2.2.2.2.2.2.2.1], B ta8.2.2.2.2.2.2.2.2.2.2]), .br false, .br false, .no, .no, .no], [], [0, 1], [0, 1, 2, 6, 9, 13, 62], round_fr (allC (notf ha10) (allC (notf ha9) (allC (c_field_parsed ha8) (allC (c_strings_CutSuffix ha7) (allC (strSub_ok ha6 : pureRun cx.P (Instr.sliceAt 9 (.string a0) (some (.int .i64 (ta2 + 1))) none none) = some (.string ta6)) (allC ha4 (allC (strSub_ok ha5 : pureRun cx.P (Instr.sliceAt 9 (.string a0) none (some (.int .i64 (ta2 + 1))) none) = some (.string ta5)) (allC ha4 (allC (decide_eq_true ha3) (allC (c_strings_IndexByte ha2) (allC (decide_eq_true ha1) allN))))))))))) (by kernel_rfl)⟩
          · replace h := ite_f h ha10
            replace h := Option.some.inj h
            subst h
            exact ⟨⟨100, 14, [.br true, .ret (I ta2), .br true, .el (.v (.string ta5)), .el (.v (.string ta6)), .ret (.tup [.v (.string ta7.1), B ta7.2]), .ret (.tup [.agg [.v (.string ta8.1), I ta8.2.1, I ta8.2.2.1, I ta8.2.2.2.1, I ta8.2.2.2.2.1, I ta8.2.2.2.2.2.1, I ta8.2.2.2.2.2.2.1, I ta8.2.2.2.2.2.2.2.1, I ta8.2.2.2.2.2.2.2.2.1, I ta8.2.2.2.2.2.2.2.2.2.1], B ta8.2.2.2.2.2.2.2.2.2.2]), .br false, .br true, .no], [], [], [0, 1, 2, 6, 9, 13], round_fr (allC (nott (bfalse ha10)) (allC (notf ha9) (allC (c_field_parsed ha8) (allC (c_strings_CutSuffix ha7) (allC (strSub_ok ha6 : pureRun cx.P (Instr.sliceAt 9 (.string a0) (some (.int .i64 (ta2 + 1))) none none) = some (.string ta6)) (allC ha4 (allC (strSub_ok ha5 : pureRun cx.P (Instr.sliceAt 9 (.string a0) none (some (.int .i64 (ta2 + 1))) none) = some (.string ta5)) (allC ha4 (allC (decide_eq_true ha3) (allC (c_strings_IndexByte ha2) (allC (decide_eq_true ha1) allN))))))))))) (by kernel_rfl)⟩, nofun⟩
        · replace h := ite_f h ha9
          replace h := Option.some.inj h
          subst h
          exact ⟨⟨100, 14, [.br true, .ret (I ta2), .br true, .el (.v (.string ta5)), .el (.v (.string ta6)), .ret (.tup [.v (.string ta7.1), B ta7.2]), .ret (.tup [.agg [.v (.string ta8.1), I ta8.2.1, I ta8.2.2.1, I ta8.2.2.2.1, I ta8.2.2.2.2.1, I ta8.2.2.2.2.2.1, I ta8.2.2.2.2.2.2.1, I ta8.2.2.2.2.2.2.2.1, I ta8.2.2.2.2.2.2.2.2.1, I ta8.2.2.2.2.2.2.2.2.2.1], B ta8.2.2.2.2.2.2.2.2.2.2]), .br true, .no, .no], [], [], [0, 1, 2, 6, 9, 13], round_fr (allC (nott (bfalse ha9)) (allC (c_field_parsed ha8) (allC (c_strings_CutSuffix ha7) (allC (strSub_ok ha6 : pureRun cx.P (Instr.sliceAt 9 (.string a0) (some (.int .i64 (ta2 + 1))) none none) = some (.string ta6)) (allC ha4 (allC (strSub_ok ha5 : pureRun cx.P (Instr.sliceAt 9 (.string a0) none (some (.int .i64 (ta2 + 1))) none) = some (.string ta5)) (allC ha4 (allC (decide_eq_true ha3) (allC (c_strings_IndexByte ha2) (allC (decide_eq_true ha1) allN)))))))))) (by kernel_rfl)⟩, nofun⟩
      · replace h := ite_f h ha3
        obtain ⟨ta4, ha4, h⟩ := bnd_of h
        obtain ⟨ta5, ha5, h⟩ := bnd_of h
        obtain ⟨ha6, h⟩ := grd_of h
        replace h := Option.some.inj h
        subst h
        exact ⟨⟨100, 14, [.br true, .ret (I ta2), .br false, .ret (.tup [.v (.string ta4.1), B ta4.2]), .ret (.tup [.agg [.v (.string ta5.1), I ta5.2.1, I ta5.2.2.1, I ta5.2.2.2.1, I ta5.2.2.2.2.1, I ta5.2.2.2.2.2.1, I ta5.2.2.2.2.2.2.1, I ta5.2.2.2.2.2.2.2.1, I ta5.2.2.2.2.2.2.2.2.1, I ta5.2.2.2.2.2.2.2.2.2.1], B ta5.2.2.2.2.2.2.2.2.2.2]), .br true, .no, .no], [], [], [0, 1, 2, 6, 9, 13], round_fr (allC (nott (bfalse ha6)) (allC (c_field_parsed ha5) (allC (c_strings_CutSuffix ha4) (allC (decide_eq_false ha3) (allC (c_strings_IndexByte ha2) (allC (decide_eq_true ha1) allN)))))) (by kernel_rfl)⟩, nofun⟩
    · replace h := ite_f h ha1
      replace h := Option.some.inj h
      subst h
      exact ⟨⟨100, 14, [.br false], [], [], [0, 1, 2, 6, 9, 13], round_fr (allC (decide_eq_false ha1) allN) (by kernel_rfl)⟩, nofun⟩
  · by_cases ha1 : (sa.1.size : Int) > 0
    · replace h := ite_t h ha1
      obtain ⟨ta2, ha2, h⟩ := bnd_of h
      by_cases ha3 : ta2 ≥ 0
      · replace h := ite_t h ha3
        obtain ⟨ha4, h⟩ := grd_of h
        obtain ⟨ta5, ha5, h⟩ := bnd_of h
        obtain ⟨ta6, ha6, h⟩ := bnd_of h
        obtain ⟨ta7, ha7, h⟩ := bnd_of h
        obtain ⟨ta8, ha8, h⟩ := bnd_of h
        by_cases ha9 : ta7.2 = true
        · replace h := ite_t h ha9
          by_cases ha10 : ta8.2.2.2.2.2.2.2.2.2.2 = true
          · replace h := ite_t h ha10
            obtain ⟨ha11, h⟩ := grd_of h
            replace h := Option.some.inj h
            subst h
            exact ⟨100, 63, [.br true, .ret (I ta2), .br true, .el (.v (.string ta5)), .el (.v (.string ta6)), .ret (.tup [.v (.string ta7.1), B ta7.2]), .ret (.tup [.agg [.v (.string ta8.1), I ta8.2.1, I ta8.2.2.1, I ta8.2.2.2.1, I ta8.2.2.2.2.1, I ta8.2.2.2.2.2.1, I ta8.2.2.2.2.2.2.1, I ta8.2.2.2.2.2.2.2.1, I ta8.2.2.2.2.2.2.2.2.1, I ta8.2.2.2.2.2.2.2.2.2.1], B ta8.2.2.2.2.2.2.2.2.2.2]), .br false, .br false, .br true, .no], [], [0, 1], [0, 1, 2, 6, 9, 13, 62], round_fr (allC ((room_of (b := 88) (by kernel_rfl) (by decide) ha11) : room cx 58 ((sa.2).length + 1)) (allC (notf ha10) (allC (notf ha9) (allC (c_field_parsed ha8) (allC (c_strings_CutSuffix ha7) (allC (strSub_ok ha6 : pureRun cx.P (Instr.sliceAt 9 (.string sa.1) (some (.int .i64 (ta2 + 1))) none none) = some (.string ta6)) (allC ha4 (allC (strSub_ok ha5 : pureRun cx.P (Instr.sliceAt 9 (.string sa.1) none (some (.int .i64 (ta2 + 1))) none) = some (.string ta5)) (allC ha4 (allC (decide_eq_true ha3) (allC (c_strings_IndexByte ha2) (allC (decide_eq_true ha1) allN)))))))))))) (by kernel_rfl)⟩
          · replace h := ite_f h ha10
            replace h := Option.some.inj h
            subst h
            exact ⟨⟨100, 63, [.br true, .ret (I ta2), .br true, .el (.v (.string ta5)), .el (.v (.string ta6)), .ret (.tup [.v (.string ta7.1), B ta7.2]), .ret (.tup [.agg [.v (.string ta8.1), I ta8.2.1, I ta8.2.2.1, I ta8.2.2.2.1, I ta8.2.2.2.2.1, I ta8.2.2.2.2.2.1, I ta8.2.2.2.2.2.2.1, I ta8.2.2.2.2.2.2.2.1, I ta8.2.2.2.2.2.2.2.2.1, I ta8.2.2.2.2.2.2.2.2.2.1], B ta8.2.2.2.2.2.2.2.2.2.2]), .br false, .br true, .no], [], [], [0, 1, 2, 6, 9, 13, 62], round_fr (allC (nott (bfalse ha10)) (allC (notf ha9) (allC (c_field_parsed ha8) (allC (c_strings_CutSuffix ha7) (allC (strSub_ok ha6 : pureRun cx.P (Instr.sliceAt 9 (.string sa.1) (some (.int .i64 (ta2 + 1))) none none) = some (.string ta6)) (allC ha4 (allC (strSub_ok ha5 : pureRun cx.P (Instr.sliceAt 9 (.string sa.1) none (some (.int .i64 (ta2 + 1))) none) = some (.string ta5)) (allC ha4 (allC (decide_eq_true ha3) (allC (c_strings_IndexByte ha2) (allC (decide_eq_true ha1) allN))))))))))) (by kernel_rfl)⟩, nofun⟩
        · replace h := ite_f h ha9
          replace h := Option.some.inj h
          subst h
          exact ⟨⟨100, 63, [.br true, .ret (I ta2), .br true, .el (.v (.string ta5)), .el (.v (.string ta6)), .ret (.tup [.v (.string ta7.1), B ta7.2]), .ret (.tup [.agg [.v (.string ta8.1), I ta8.2.1, I ta8.2.2.1, I ta8.2.2.2.1, I ta8.2.2.2.2.1, I ta8.2.2.2.2.2.1, I ta8.2.2.2.2.2.2.1, I ta8.2.2.2.2.2.2.2.1, I ta8.2.2.2.2.2.2.2.2.1, I ta8.2.2.2.2.2.2.2.2.2.1], B ta8.2.2.2.2.2.2.2.2.2.2]), .br true, .no, .no], [], [], [0, 1, 2, 6, 9, 13, 62], round_fr (allC (nott (bfalse ha9)) (allC (c_field_parsed ha8) (allC (c_strings_CutSuffix ha7) (allC (strSub_ok ha6 : pureRun cx.P (Instr.sliceAt 9 (.string sa.1) (some (.int .i64 (ta2 + 1))) none none) = some (.string ta6)) (allC ha4 (allC (strSub_ok ha5 : pureRun cx.P (Instr.sliceAt 9 (.string sa.1) none (some (.int .i64 (ta2 + 1))) none) = some (.string ta5)) (allC ha4 (allC (decide_eq_true ha3) (allC (c_strings_IndexByte ha2) (allC (decide_eq_true ha1) allN)))))))))) (by kernel_rfl)⟩, nofun⟩
      · replace h := ite_f h ha3
        obtain ⟨ta4, ha4, h⟩ := bnd_of h
        obtain ⟨ta5, ha5, h⟩ := bnd_of h
        obtain ⟨ha6, h⟩ := grd_of h
        replace h := Option.some.inj h
        subst h
        exact ⟨⟨100, 63, [.br true, .ret (I ta2), .br false, .ret (.tup [.v (.string ta4.1), B ta4.2]), .ret (.tup [.agg [.v (.string ta5.1), I ta5.2.1, I ta5.2.2.1, I ta5.2.2.2.1, I ta5.2.2.2.2.1, I ta5.2.2.2.2.2.1, I ta5.2.2.2.2.2.2.1, I ta5.2.2.2.2.2.2.2.1, I ta5.2.2.2.2.2.2.2.2.1, I ta5.2.2.2.2.2.2.2.2.2.1], B ta5.2.2.2.2.2.2.2.2.2.2]), .br true, .no, .no], [], [], [0, 1, 2, 6, 9, 13, 62], round_fr (allC (nott (bfalse ha6)) (allC (c_field_parsed ha5) (allC (c_strings_CutSuffix ha4) (allC (decide_eq_false ha3) (allC (c_strings_IndexByte ha2) (allC (decide_eq_true ha1) allN)))))) (by kernel_rfl)⟩, nofun⟩
    · replace h := ite_f h ha1
      replace h := Option.some.inj h
      subst h
      exact ⟨⟨100, 63, [.br false], [], [], [0, 1, 2, 6, 9, 13, 62], round_fr (allC (decide_eq_false ha1) allN) (by kernel_rfl)⟩, nofun⟩
/- spillage/field.Parse: .v (.string a0) -/
def F_field_Parse (n : Nat) (a0 : ByteArray) : Option (List D × Int × Int) :=
  if (a0.size : Int) > 4096 then
    some ([], 0, 26)
  else
  (loopF (F_field_Parse_L1 n a0) n (.inl ())).bind fun t2 => match t2 with
    | (.inl t2) => (
      some ([], 0, 25))
    | (.inr (.inl t2)) => (
      (F_field_CheckMirrors_2 n).bind fun t3 =>
      if t3 = 0 then
        some ([], 0, 0)
      else
      some ([], 0, t3))
    | (.inr (.inr (.inl t2))) => (
      some ([], t2.1, 25))
    | (.inr (.inr (.inr t2))) => (
      (F_field_CheckMirrors n t2.2).bind fun t3 =>
      if t3 = 0 then
        some (t2.2, 0, 0)
      else
      some ([], ((t2.2).length : Int), t3))
theorem c_field_Parse {n : Nat} {a0 : ByteArray} {r : List D × Int × Int} (h : F_field_Parse n a0 = some r) : Computes cx 9 [.v (.string a0)] (.tup [.lst false 10 r.1, I r.2.1, I r.2.2]) := by
  unfold F_field_Parse at h
  by_cases h1 : (a0.size : Int) > 4096
  · replace h := ite_t h h1
    replace h := Option.some.inj h
    subst h
    exact (run_fr (n := 100) (r := .tup [.lst true 0 [], I 0, I 26]) (orc := [.br true]) (allC (decide_eq_true h1) allN) (by kernel_rfl)).le (LEs.refl _) (.tups (.cons (.nilF) (.cons (.refl _) (.cons (.refl _) (.nil)))))
  · replace h := ite_f h h1
    obtain ⟨t2, h2, h⟩ := bnd_of h
    rcases t2 with t2 | t2 | t2 | t2
    · replace h := Option.some.inj h
      subst h
      exact (run_fr (n := 100) (r := .tup [.lst true 0 [], I 0, I 25]) (orc := [.br false, .br true, .lp [] [0, 1] [0, 1, 2, 6, 9, 13] .ret [] [(0, .box (.d (.lst true 0 []))), (1, .box (.d (I 0))), (2, .box (.d (I 25))), (6, .box (.d (.lst true 0 []))), (9, .box (.d (.v (.string t2)))), (13, .left .ret)] 124]) (allC (loopF_to R_field_Parse_L1 h2) (allC (decide_eq_false h1) allN)) (by kernel_rfl)).le (LEs.refl _) (.tups (.cons (.nilF) (.cons (.refl _) (.cons (.refl _) (.nil)))))
    · obtain ⟨t3, h3, h⟩ := bnd_of h
      by_cases h4 : t3 = 0
      · replace h := ite_t h h4
        replace h := Option.some.inj h
        subst h
        exact (run_fr (n := 100) (r := .tup [.lst true 0 [], I 0, I 0]) (orc := [.br false, .br true, .lp [] [0, 1] [0, 1, 2, 6, 9, 13] (.exit 0) [] [(0, .box (.d (.lst true 0 []))), (1, .box (.d (I 0))), (2, .box (.d (I 0))), (6, .box (.d (.lst true 0 []))), (9, .box (.d (.v (.string a0)))), (13, .loop true [(16, .fn (.func 95) [] [.ptr 9 0 0 0 0]), (15, .d (.v (.string a0))), (14, .d (B (decide ((a0.size : Int) > 4096)))), (13, .d (I (a0.size : Int))), (12, .d (.v (.string a0))), (5, .ptr 6 0 0 0 0), (4, .ptr 2 0 0 0 0), (3, .ptr 1 0 0 0 0), (2, .ptr 0 0 0 0 0), (0, .d (.v (.string a0)))] [17] (rangeAt cx.P 9 0).1 (rangeAt cx.P 9 0).2 48)] 124, .ret (I t3), .br false]) (allC (nef h4) (allC (c_field_CheckMirrors_2 h3) (allC (loopF_to R_field_Parse_L1 h2) (allC (decide_eq_false h1) allN)))) (by kernel_rfl)).le (LEs.refl _) (.tups (.cons (.nilF) (.cons (.refl _) (.cons (.refl _) (.nil)))))
      · replace h := ite_f h h4
        replace h := Option.some.inj h
        subst h
        exact (run_fr (n := 100) (r := .tup [.lst true 0 [], I 0, I t3]) (orc := [.br false, .br true, .lp [] [0, 1] [0, 1, 2, 6, 9, 13] (.exit 0) [] [(0, .box (.d (.lst true 0 []))), (1, .box (.d (I 0))), (2, .box (.d (I 0))), (6, .box (.d (.lst true 0 []))), (9, .box (.d (.v (.string a0)))), (13, .loop true [(16, .fn (.func 95) [] [.ptr 9 0 0 0 0]), (15, .d (.v (.string a0))), (14, .d (B (decide ((a0.size : Int) > 4096)))), (13, .d (I (a0.size : Int))), (12, .d (.v (.string a0))), (5, .ptr 6 0 0 0 0), (4, .ptr 2 0 0 0 0), (3, .ptr 1 0 0 0 0), (2, .ptr 0 0 0 0 0), (0, .d (.v (.string a0)))] [17] (rangeAt cx.P 9 0).1 (rangeAt cx.P 9 0).2 48)] 124, .ret (I t3), .br true]) (allC (net h4) (allC (c_field_CheckMirrors_2 h3) (allC (loopF_to R_field_Parse_L1 h2) (allC (decide_eq_false h1) allN)))) (by kernel_rfl)).le (LEs.refl _) (.tups (.cons (.nilF) (.cons (.refl _) (.cons (.refl _) (.nil)))))
    · replace h := Option.some.inj h
      subst h
      exact (run_fr (n := 100) (r := .tup [.lst true 0 [], I t2.1, I 25]) (orc := [.br false, .br true, .lp [] [0, 1] [0, 1, 2, 6, 9, 13] .ret [] [(0, .box (.d (.lst true 0 []))), (1, .box (.d (I t2.1))), (2, .box (.d (I 25))), (6, .box (.own 62 0)), (9, .box (.d (.v (.string t2.2.1)))), (13, .left .ret), (62, .row 0 10 t2.2.2)] 124]) (allC (loopF_to R_field_Parse_L1 h2) (allC (decide_eq_false h1) allN)) (by kernel_rfl)).le (LEs.refl _) (.tups (.cons (.nilF) (.cons (.refl _) (.cons (.refl _) (.nil)))))
    · obtain ⟨t3, h3, h⟩ := bnd_of h
      by_cases h4 : t3 = 0
      · replace h := ite_t h h4
        replace h := Option.some.inj h
        subst h
        exact run_fr (n := 100) (orc := [.br false, .br true, .lp [] [0, 1] [0, 1, 2, 6, 9, 13] (.exit 0) [] [(0, .box (.d (.lst true 0 []))), (1, .box (.d (I 0))), (2, .box (.d (I 0))), (6, .box (.own 62 0)), (9, .box (.d (.v (.string t2.1)))), (13, .loop true [(16, .fn (.func 95) [] [.ptr 9 0 0 0 0]), (15, .d (.v (.string a0))), (14, .d (B (decide ((a0.size : Int) > 4096)))), (13, .d (I (a0.size : Int))), (12, .d (.v (.string a0))), (5, .ptr 6 0 0 0 0), (4, .ptr 2 0 0 0 0), (3, .ptr 1 0 0 0 0), (2, .ptr 0 0 0 0 0), (0, .d (.v (.string a0)))] [17] (rangeAt cx.P 9 0).1 (rangeAt cx.P 9 0).2 48), (62, .row 0 10 t2.2)] 124, .ret (I t3), .br false]) (allC (nef h4) (allC (c_field_CheckMirrors h3) (allC (loopF_to R_field_Parse_L1 h2) (allC (decide_eq_false h1) allN)))) (by kernel_rfl)
      · replace h := ite_f h h4
        replace h := Option.some.inj h
        subst h
        exact (run_fr (n := 100) (r := .tup [.lst true 0 [], I ((t2.2).length : Int), I t3]) (orc := [.br false, .br true, .lp [] [0, 1] [0, 1, 2, 6, 9, 13] (.exit 0) [] [(0, .box (.d (.lst true 0 []))), (1, .box (.d (I 0))), (2, .box (.d (I 0))), (6, .box (.own 62 0)), (9, .box (.d (.v (.string t2.1)))), (13, .loop true [(16, .fn (.func 95) [] [.ptr 9 0 0 0 0]), (15, .d (.v (.string a0))), (14, .d (B (decide ((a0.size : Int) > 4096)))), (13, .d (I (a0.size : Int))), (12, .d (.v (.string a0))), (5, .ptr 6 0 0 0 0), (4, .ptr 2 0 0 0 0), (3, .ptr 1 0 0 0 0), (2, .ptr 0 0 0 0 0), (0, .d (.v (.string a0)))] [17] (rangeAt cx.P 9 0).1 (rangeAt cx.P 9 0).2 48), (62, .row 0 10 t2.2)] 124, .ret (I t3), .br true]) (allC (net h4) (allC (c_field_CheckMirrors h3) (allC (loopF_to R_field_Parse_L1 h2) (allC (decide_eq_false h1) allN)))) (by kernel_rfl)).le (LEs.refl _) (.tups (.cons (.nilF) (.cons (.refl _) (.cons (.refl _) (.nil)))))
def F_ref01_IsName_L1 (n : Nat) (a0 : ByteArray) (sa : (Int)) : Option (((Int)) ⊕ ((Unit) ⊕ (Unit))) :=
  if sa < (a0.size : Int) then
    (strAt a0 sa).bind fun ta2 =>
    if ta2 ≥ 97 then
      if ta2 ≤ 122 then
        if ta2 ≥ 48 then
          if ta2 ≤ 57 then
            if inI64 (sa + 1) then
            some (.inl (sa + 1))
            else none
          else
          if inI64 (sa + 1) then
          some (.inl (sa + 1))
          else none
        else
        if inI64 (sa + 1) then
        some (.inl (sa + 1))
        else none
      else
      if ta2 ≥ 65 then
        if ta2 ≥ 48 then
          if ta2 ≤ 57 then
            if ta2 ≤ 90 then
              if inI64 (sa + 1) then
              some (.inl (sa + 1))
              else none
            else
            if sa = 0 then
              some (.inr (.inl ()))
            else
            if inI64 (sa + 1) then
            some (.inl (sa + 1))
            else none
          else
          if ta2 ≤ 90 then
            if inI64 (sa + 1) then
            some (.inl (sa + 1))
            else none
          else
          if sa = 0 then
            some (.inr (.inl ()))
          else
          if ta2 = 95 then
            if inI64 (sa + 1) then
            some (.inl (sa + 1))
            else none
          else
          some (.inr (.inl ()))
        else
        if ta2 ≤ 90 then
          if inI64 (sa + 1) then
          some (.inl (sa + 1))
          else none
        else
        if sa = 0 then
          some (.inr (.inl ()))
        else
        if ta2 = 95 then
          if inI64 (sa + 1) then
          some (.inl (sa + 1))
          else none
        else
        some (.inr (.inl ()))
      else
      if ta2 ≥ 48 then
        if ta2 ≤ 57 then
          if sa = 0 then
            some (.inr (.inl ()))
          else
          if inI64 (sa + 1) then
          some (.inl (sa + 1))
          else none
        else
        if sa = 0 then
          some (.inr (.inl ()))
        else
        if ta2 = 95 then
          if inI64 (sa + 1) then
          some (.inl (sa + 1))
          else none
        else
        some (.inr (.inl ()))
      else
      if sa = 0 then
        some (.inr (.inl ()))
      else
      if ta2 = 95 then
        if inI64 (sa + 1) then
        some (.inl (sa + 1))
        else none
      else
      some (.inr (.inl ()))
    else
    if ta2 ≥ 65 then
      if ta2 ≥ 48 then
        if ta2 ≤ 57 then
          if ta2 ≤ 90 then
            if inI64 (sa + 1) then
            some (.inl (sa + 1))
            else none
          else
          if sa = 0 then
            some (.inr (.inl ()))
          else
          if inI64 (sa + 1) then
          some (.inl (sa + 1))
          else none
        else
        if ta2 ≤ 90 then
          if inI64 (sa + 1) then
          some (.inl (sa + 1))
          else none
        else
        if sa = 0 then
          some (.inr (.inl ()))
        else
        if ta2 = 95 then
          if inI64 (sa + 1) then
          some (.inl (sa + 1))
          else none
        else
        some (.inr (.inl ()))
      else
      if ta2 ≤ 90 then
        if inI64 (sa + 1) then
        some (.inl (sa + 1))
        else none
      else
      if sa = 0 then
        some (.inr (.inl ()))
      else
      if ta2 = 95 then
        if inI64 (sa + 1) then
        some (.inl (sa + 1))
        else none
      else
      some (.inr (.inl ()))
    else
    if ta2 ≥ 48 then
      if ta2 ≤ 57 then
        if sa = 0 then
          some (.inr (.inl ()))
        else
        if inI64 (sa + 1) then
        some (.inl (sa + 1))
        else none
      else
      if sa = 0 then
        some (.inr (.inl ()))
      else
      if ta2 = 95 then
        if inI64 (sa + 1) then
        some (.inl (sa + 1))
        else none
      else
      some (.inr (.inl ()))
    else
    if sa = 0 then
      some (.inr (.inl ()))
    else
    if ta2 = 95 then
      if inI64 (sa + 1) then
      some (.inl (sa + 1))
      else none
    else
    some (.inr (.inl ()))
  else
  some (.inr (.inr ()))
noncomputable def T_ref01_IsName_L1 (a0 : ByteArray) (sa : (Int)) : List (Nat × AV) := [(0, .d (.v (.string a0))), (3, .d (I sa))]
noncomputable def H_ref01_IsName_L1 (a0 : ByteArray) (sa : (Int)) : List (Nat × Blk) := []
noncomputable def X_ref01_IsName_L1 (a0 : ByteArray) (e : (Unit) ⊕ (Unit)) : Ex := match e with
  | (.inl e) => .ret
  | (.inr e) => (.exit 0)
noncomputable def XT_ref01_IsName_L1 (a0 : ByteArray) (e : (Unit) ⊕ (Unit)) : List (Nat × AV) := match e with
  | (.inl e) => [(2, .d (B false))]
  | (.inr e) => []
noncomputable def XH_ref01_IsName_L1 (a0 : ByteArray) (e : (Unit) ⊕ (Unit)) : List (Nat × Blk) := match e with
  | (.inl e) => []
  | (.inr e) => []
theorem R_ref01_IsName_L1 {n : Nat} {a0 : ByteArray} (sa : (Int)) (r) (h : F_ref01_IsName_L1 n a0 sa = some r) : Rd cx (loopAt cx.P 138 0) 67 0 false (T_ref01_IsName_L1 a0) (H_ref01_IsName_L1 a0) (X_ref01_IsName_L1 a0) (XT_ref01_IsName_L1 a0) (XH_ref01_IsName_L1 a0) sa r := by
  unfold F_ref01_IsName_L1 at h
  by_cases ha1 : sa < (a0.size : Int)
  · replace h := ite_t h ha1
    obtain ⟨ta2, ha2, h⟩ := bnd_of h
    by_cases ha3 : ta2 ≥ 97
    · replace h := ite_t h ha3
      by_cases ha4 : ta2 ≤ 122
      · replace h := ite_t h ha4
        by_cases ha5 : ta2 ≥ 48
        · replace h := ite_t h ha5
          by_cases ha6 : ta2 ≤ 57
          · replace h := ite_t h ha6
            obtain ⟨ha7, h⟩ := grd_of h
            replace h := Option.some.inj h
            subst h
            exact ⟨100, 9, [.br true, .el (.v (.int .u8 ta2)), .br true, .el (.v (.int .u8 ta2)), .br true, .el (.v (.int .u8 ta2)), .br true, .el (.v (.int .u8 ta2)), .br true, .no, .no], [], [0, 3], [], round_fr (allC ha7 (allC (decide_eq_true ha6) (allC (strAt_ok ha2 : pureRun cx.P (Instr.index 9 (.string a0) (.int .i64 sa)) = some (.int .u8 ta2)) (allC (decide_eq_true ha5) (allC (strAt_ok ha2 : pureRun cx.P (Instr.index 9 (.string a0) (.int .i64 sa)) = some (.int .u8 ta2)) (allC (decide_eq_true ha4) (allC (strAt_ok ha2 : pureRun cx.P (Instr.index 9 (.string a0) (.int .i64 sa)) = some (.int .u8 ta2)) (allC (decide_eq_true ha3) (allC (strAt_ok ha2 : pureRun cx.P (Instr.index 9 (.string a0) (.int .i64 sa)) = some (.int .u8 ta2)) (allC (decide_eq_true ha1) allN)))))))))) (by kernel_rfl)⟩
          · replace h := ite_f h ha6
            obtain ⟨ha7, h⟩ := grd_of h
            replace h := Option.some.inj h
            subst h
            exact ⟨100, 9, [.br true, .el (.v (.int .u8 ta2)), .br true, .el (.v (.int .u8 ta2)), .br true, .el (.v (.int .u8 ta2)), .br true, .el (.v (.int .u8 ta2)), .br false, .el (.v (.int .u8 ta2)), .no, .no], [], [0, 3], [], round_fr (allC ha7 (allC (strAt_ok ha2 : pureRun cx.P (Instr.index 9 (.string a0) (.int .i64 sa)) = some (.int .u8 ta2)) (allC (decide_eq_false ha6) (allC (strAt_ok ha2 : pureRun cx.P (Instr.index 9 (.string a0) (.int .i64 sa)) = some (.int .u8 ta2)) (allC (decide_eq_true ha5) (allC (strAt_ok ha2 : pureRun cx.P (Instr.index 9 (.string a0) (.int .i64 sa)) = some (.int .u8 ta2)) (allC (decide_eq_true ha4) (allC (strAt_ok ha2 : pureRun cx.P (Instr.index 9 (.string a0) (.int .i64 sa)) = some (.int .u8 ta2)) (allC (decide_eq_true ha3) (allC (strAt_ok ha2 : pureRun cx.P (Instr.index 9 (.string a0) (.int .i64 sa)) = some (.int .u8 ta2)) (allC (decide_eq_true ha1) allN))))))))))) (by kernel_rfl)⟩
        · replace h := ite_f h ha5
          obtain ⟨ha6, h⟩ := grd_of h
          replace h := Option.some.inj h
          subst h
          exact ⟨100, 9, [.br true, .el (.v (.int .u8 ta2)), .br true, .el (.v (.int .u8 ta2)), .br true, .el (.v (.int .u8 ta2)), .br false, .no, .el (.v (.int .u8 ta2)), .no, .no], [], [0, 3], [], round_fr (allC ha6 (allC (strAt_ok ha2 : pureRun cx.P (Instr.index 9 (.string a0) (.int .i64 sa)) = some (.int .u8 ta2)) (allC (decide_eq_false ha5) (allC (strAt_ok ha2 : pureRun cx.P (Instr.index 9 (.string a0) (.int .i64 sa)) = some (.int .u8 ta2)) (allC (decide_eq_true ha4) (allC (strAt_ok ha2 : pureRun cx.P (Instr.index 9 (.string a0) (.int .i64 sa)) = some (.int .u8 ta2)) (allC (decide_eq_true ha3) (allC (strAt_ok ha2 : pureRun cx.P (Instr.index 9 (.string a0) (.int .i64 sa)) = some (.int .u8 ta2)) (allC (decide_eq_true ha1) allN))))))))) (by kernel_rfl)⟩
      · replace h := ite_f h ha4
        by_cases ha5 : ta2 ≥ 65
        · replace h := ite_t h ha5
          by_cases ha6 : ta2 ≥ 48
          · replace h := ite_t h ha6
            by_cases ha7 : ta2 ≤ 57
            · replace h := ite_t h ha7
              by_cases ha8 : ta2 ≤ 90
              · replace h := ite_t h ha8
                obtain ⟨ha9, h⟩ := grd_of h
                replace h := Option.some.inj h
                subst h
                exact ⟨100, 9, [.br true, .el (.v (.int .u8 ta2)), .br true, .el (.v (.int .u8 ta2)), .br false, .el (.v (.int .u8 ta2)), .br true, .el (.v (.int .u8 ta2)), .el (.v (.int .u8 ta2)), .br true, .el (.v (.int .u8 ta2)), .br true, .br false, .no], [], [0, 3], [], round_fr (allC ha9 (allC (notf (decide_eq_true ha8)) (allC (decide_eq_true ha7) (allC (strAt_ok ha2 : pureRun cx.P (Instr.index 9 (.string a0) (.int .i64 sa)) = some (.int .u8 ta2)) (allC (decide_eq_true ha6) (allC (strAt_ok ha2 : pureRun cx.P (Instr.index 9 (.string a0) (.int .i64 sa)) = some (.int .u8 ta2)) (allC (strAt_ok ha2 : pureRun cx.P (Instr.index 9 (.string a0) (.int .i64 sa)) = some (.int .u8 ta2)) (allC (decide_eq_true ha5) (allC (strAt_ok ha2 : pureRun cx.P (Instr.index 9 (.string a0) (.int .i64 sa)) = some (.int .u8 ta2)) (allC (decide_eq_false ha4) (allC (strAt_ok ha2 : pureRun cx.P (Instr.index 9 (.string a0) (.int .i64 sa)) = some (.int .u8 ta2)) (allC (decide_eq_true ha3) (allC (strAt_ok ha2 : pureRun cx.P (Instr.index 9 (.string a0) (.int .i64 sa)) = some (.int .u8 ta2)) (allC (decide_eq_true ha1) allN)))))))))))))) (by kernel_rfl)⟩
              · replace h := ite_f h ha8
                by_cases ha9 : sa = 0
                · replace h := ite_t h ha9
                  replace h := Option.some.inj h
                  subst h
                  exact ⟨⟨100, 9, [.br true, .el (.v (.int .u8 ta2)), .br true, .el (.v (.int .u8 ta2)), .br false, .el (.v (.int .u8 ta2)), .br true, .el (.v (.int .u8 ta2)), .el (.v (.int .u8 ta2)), .br true, .el (.v (.int .u8 ta2)), .br true, .br true, .br true, .no], [], [2], [], round_fr (allC (eqt ha9) (allC (nott (decide_eq_false ha8)) (allC (decide_eq_true ha7) (allC (strAt_ok ha2 : pureRun cx.P (Instr.index 9 (.string a0) (.int .i64 sa)) = some (.int .u8 ta2)) (allC (decide_eq_true ha6) (allC (strAt_ok ha2 : pureRun cx.P (Instr.index 9 (.string a0) (.int .i64 sa)) = some (.int .u8 ta2)) (allC (strAt_ok ha2 : pureRun cx.P (Instr.index 9 (.string a0) (.int .i64 sa)) = some (.int .u8 ta2)) (allC (decide_eq_true ha5) (allC (strAt_ok ha2 : pureRun cx.P (Instr.index 9 (.string a0) (.int .i64 sa)) = some (.int .u8 ta2)) (allC (decide_eq_false ha4) (allC (strAt_ok ha2 : pureRun cx.P (Instr.index 9 (.string a0) (.int .i64 sa)) = some (.int .u8 ta2)) (allC (decide_eq_true ha3) (allC (strAt_ok ha2 : pureRun cx.P (Instr.index 9 (.string a0) (.int .i64 sa)) = some (.int .u8 ta2)) (allC (decide_eq_true ha1) allN)))))))))))))) (by kernel_rfl)⟩, nofun⟩
                · replace h := ite_f h ha9
                  obtain ⟨ha10, h⟩ := grd_of h
                  replace h := Option.some.inj h
                  subst h
                  exact ⟨100, 9, [.br true, .el (.v (.int .u8 ta2)), .br true, .el (.v (.int .u8 ta2)), .br false, .el (.v (.int .u8 ta2)), .br true, .el (.v (.int .u8 ta2)), .el (.v (.int .u8 ta2)), .br true, .el (.v (.int .u8 ta2)), .br true, .br true, .br false, .no], [], [0, 3], [], round_fr (allC ha10 (allC (eqf ha9) (allC (nott (decide_eq_false ha8)) (allC (decide_eq_true ha7) (allC (strAt_ok ha2 : pureRun cx.P (Instr.index 9 (.string a0) (.int .i64 sa)) = some (.int .u8 ta2)) (allC (decide_eq_true ha6) (allC (strAt_ok ha2 : pureRun cx.P (Instr.index 9 (.string a0) (.int .i64 sa)) = some (.int .u8 ta2)) (allC (strAt_ok ha2 : pureRun cx.P (Instr.index 9 (.string a0) (.int .i64 sa)) = some (.int .u8 ta2)) (allC (decide_eq_true ha5) (allC (strAt_ok ha2 : pureRun cx.P (Instr.index 9 (.string a0) (.int .i64 sa)) = some (.int .u8 ta2)) (allC (decide_eq_false ha4) (allC (strAt_ok ha2 : pureRun cx.P (Instr.index 9 (.string a0) (.int .i64 sa)) = some (.int .u8 ta2)) (allC (decide_eq_true ha3) (allC (strAt_ok ha2 : pureRun cx.P (Instr.index 9 (.string a0) (.int .i64 sa)) = some (.int .u8 ta2)) (allC (decide_eq_true ha1) allN))))))))))))))) (by kernel_rfl)⟩
            · replace h := ite_f h ha7
              by_cases ha8 : ta2 ≤ 90
              · replace h := ite_t h ha8
                obtain ⟨ha9, h⟩ := grd_of h
                replace h := Option.some.inj h
                subst h
                exact ⟨100, 9, [.br true, .el (.v (.int .u8 ta2)), .br true, .el (.v (.int .u8 ta2)), .br false, .el (.v (.int .u8 ta2)), .br true, .el (.v (.int .u8 ta2)), .el (.v (.int .u8 ta2)), .br true, .el (.v (.int .u8 ta2)), .br false, .el (.v (.int .u8 ta2)), .br false, .no], [], [0, 3], [], round_fr (allC ha9 (allC (notf (decide_eq_true ha8)) (allC (strAt_ok ha2 : pureRun cx.P (Instr.index 9 (.string a0) (.int .i64 sa)) = some (.int .u8 ta2)) (allC (decide_eq_false ha7) (allC (strAt_ok ha2 : pureRun cx.P (Instr.index 9 (.string a0) (.int .i64 sa)) = some (.int .u8 ta2)) (allC (decide_eq_true ha6) (allC (strAt_ok ha2 : pureRun cx.P (Instr.index 9 (.string a0) (.int .i64 sa)) = some (.int .u8 ta2)) (allC (strAt_ok ha2 : pureRun cx.P (Instr.index 9 (.string a0) (.int .i64 sa)) = some (.int .u8 ta2)) (allC (decide_eq_true ha5) (allC (strAt_ok ha2 : pureRun cx.P (Instr.index 9 (.string a0) (.int .i64 sa)) = some (.int .u8 ta2)) (allC (decide_eq_false ha4) (allC (strAt_ok ha2 : pureRun cx.P (Instr.index 9 (.string a0) (.int .i64 sa)) = some (.int .u8 ta2)) (allC (decide_eq_true ha3) (allC (strAt_ok ha2 : pureRun cx.P (Instr.index 9 (.string a0) (.int .i64 sa)) = some (.int .u8 ta2)) (allC (decide_eq_true ha1) allN))))))))))))))) (by kernel_rfl)⟩
              · replace h := ite_f h ha8
                by_cases ha9 : sa = 0
                · replace h := ite_t h ha9
                  replace h := Option.some.inj h
                  subst h
                  exact ⟨⟨100, 9, [.br true, .el (.v (.int .u8 ta2)), .br true, .el (.v (.int .u8 ta2)), .br false, .el (.v (.int .u8 ta2)), .br true, .el (.v (.int .u8 ta2)), .el (.v (.int .u8 ta2)), .br true, .el (.v (.int .u8 ta2)), .br false, .el (.v (.int .u8 ta2)), .br true, .br true, .no], [], [2], [], round_fr (allC (eqt ha9) (allC (nott (decide_eq_false ha8)) (allC (strAt_ok ha2 : pureRun cx.P (Instr.index 9 (.string a0) (.int .i64 sa)) = some (.int .u8 ta2)) (allC (decide_eq_false ha7) (allC (strAt_ok ha2 : pureRun cx.P (Instr.index 9 (.string a0) (.int .i64 sa)) = some (.int .u8 ta2)) (allC (decide_eq_true ha6) (allC (strAt_ok ha2 : pureRun cx.P (Instr.index 9 (.string a0) (.int .i64 sa)) = some (.int .u8 ta2)) (allC (strAt_ok ha2 : pureRun cx.P (Instr.index 9 (.string a0) (.int .i64 sa)) = some (.int .u8 ta2)) (allC (decide_eq_true ha5) (allC (strAt_ok ha2 : pureRun cx.P (Instr.index 9 (.string a0) (.int .i64 sa)) = some (.int .u8 ta2)) (allC (decide_eq_false ha4) (allC (strAt_ok ha2 : pureRun cx.P (Instr.index 9 (.string a0) (.int .i64 sa)) = some (.int .u8 ta2)) (allC (decide_eq_true ha3) (allC (strAt_ok ha2 : pureRun cx.P (Instr.index 9 (.string a0) (.int .i64 sa)) = some (.int .u8 ta2)) (allC (decide_eq_true ha1) allN))))))))))))))) (by kernel_rfl)⟩, nofun⟩
                · replace h := ite_f h ha9
                  by_cases ha10 : ta2 = 95
                  · replace h := ite_t h ha10
                    obtain ⟨ha11, h⟩ := grd_of h
                    replace h := Option.some.inj h
                    subst h
                    exact ⟨100, 9, [.br true, .el (.v (.int .u8 ta2)), .br true, .el (.v (.int .u8 ta2)), .br false, .el (.v (.int .u8 ta2)), .br true, .el (.v (.int .u8 ta2)), .el (.v (.int .u8 ta2)), .br true, .el (.v (.int .u8 ta2)), .br false, .el (.v (.int .u8 ta2)), .br true, .br false, .br false], [], [0, 3], [], round_fr (allC ha11 (allC (notf (eqt ha10)) (allC (eqf ha9) (allC (nott (decide_eq_false ha8)) (allC (strAt_ok ha2 : pureRun cx.P (Instr.index 9 (.string a0) (.int .i64 sa)) = some (.int .u8 ta2)) (allC (decide_eq_false ha7) (allC (strAt_ok ha2 : pureRun cx.P (Instr.index 9 (.string a0) (.int .i64 sa)) = some (.int .u8 ta2)) (allC (decide_eq_true ha6) (allC (strAt_ok ha2 : pureRun cx.P (Instr.index 9 (.string a0) (.int .i64 sa)) = some (.int .u8 ta2)) (allC (strAt_ok ha2 : pureRun cx.P (Instr.index 9 (.string a0) (.int .i64 sa)) = some (.int .u8 ta2)) (allC (decide_eq_true ha5) (allC (strAt_ok ha2 : pureRun cx.P (Instr.index 9 (.string a0) (.int .i64 sa)) = some (.int .u8 ta2)) (allC (decide_eq_false ha4) (allC (strAt_ok ha2 : pureRun cx.P (Instr.index 9 (.string a0) (.int .i64 sa)) = some (.int .u8 ta2)) (allC (decide_eq_true ha3) (allC (strAt_ok ha2 : pureRun cx.P (Instr.index 9 (.string a0) (.int .i64 sa)) = some (.int .u8 ta2)) (allC (decide_eq_true ha1) allN))))))))))))))))) (by kernel_rfl)⟩
                  · replace h := ite_f h ha10
                    replace h := Option.some.inj h
                    subst h
                    exact ⟨⟨100, 9, [.br true, .el (.v (.int .u8 ta2)), .br true, .el (.v (.int .u8 ta2)), .br false, .el (.v (.int .u8 ta2)), .br true, .el (.v (.int .u8 ta2)), .el (.v (.int .u8 ta2)), .br true, .el (.v (.int .u8 ta2)), .br false, .el (.v (.int .u8 ta2)), .br true, .br false, .br true], [], [2], [], round_fr (allC (nott (eqf ha10)) (allC (eqf ha9) (allC (nott (decide_eq_false ha8)) (allC (strAt_ok ha2 : pureRun cx.P (Instr.index 9 (.string a0) (.int .i64 sa)) = some (.int .u8 ta2)) (allC (decide_eq_false ha7) (allC (strAt_ok ha2 : pureRun cx.P (Instr.index 9 (.string a0) (.int .i64 sa)) = some (.int .u8 ta2)) (allC (decide_eq_true ha6) (allC (strAt_ok ha2 : pureRun cx.P (Instr.index 9 (.string a0) (.int .i64 sa)) = some (.int .u8 ta2)) (allC (strAt_ok ha2 : pureRun cx.P (Instr.index 9 (.string a0) (.int .i64 sa)) = some (.int .u8 ta2)) (allC (decide_eq_true ha5) (allC (strAt_ok ha2 : pureRun cx.P (Instr.index 9 (.string a0) (.int .i64 sa)) = some (.int .u8 ta2)) (allC (decide_eq_false ha4) (allC (strAt_ok ha2 : pureRun cx.P (Instr.index 9 (.string a0) (.int .i64 sa)) = some (.int .u8 ta2)) (allC (decide_eq_true ha3) (allC (strAt_ok ha2 : pureRun cx.P (Instr.index 9 (.string a0) (.int .i64 sa)) = some (.int .u8 ta2)) (allC (decide_eq_true ha1) allN)))))))))))))))) (by kernel_rfl)⟩, nofun⟩
          · replace h := ite_f h ha6
            by_cases ha7 : ta2 ≤ 90
            · replace h := ite_t h ha7
              obtain ⟨ha8, h⟩ := grd_of h
              replace h := Option.some.inj h
              subst h
              exact ⟨100, 9, [.br true, .el (.v (.int .u8 ta2)), .br true, .el (.v (.int .u8 ta2)), .br false, .el (.v (.int .u8 ta2)), .br true, .el (.v (.int .u8 ta2)), .el (.v (.int .u8 ta2)), .br false, .no, .el (.v (.int .u8 ta2)), .br false, .no], [], [0, 3], [], round_fr (allC ha8 (allC (notf (decide_eq_true ha7)) (allC (strAt_ok ha2 : pureRun cx.P (Instr.index 9 (.string a0) (.int .i64 sa)) = some (.int .u8 ta2)) (allC (decide_eq_false ha6) (allC (strAt_ok ha2 : pureRun cx.P (Instr.index 9 (.string a0) (.int .i64 sa)) = some (.int .u8 ta2)) (allC (strAt_ok ha2 : pureRun cx.P (Instr.index 9 (.string a0) (.int .i64 sa)) = some (.int .u8 ta2)) (allC (decide_eq_true ha5) (allC (strAt_ok ha2 : pureRun cx.P (Instr.index 9 (.string a0) (.int .i64 sa)) = some (.int .u8 ta2)) (allC (decide_eq_false ha4) (allC (strAt_ok ha2 : pureRun cx.P (Instr.index 9 (.string a0) (.int .i64 sa)) = some (.int .u8 ta2)) (allC (decide_eq_true ha3) (allC (strAt_ok ha2 : pureRun cx.P (Instr.index 9 (.string a0) (.int .i64 sa)) = some (.int .u8 ta2)) (allC (decide_eq_true ha1) allN))))))))))))) (by kernel_rfl)⟩
            · replace h := ite_f h ha7
              by_cases ha8 : sa = 0
              · replace h := ite_t h ha8
                replace h := Option.some.inj h
                subst h
                exact ⟨⟨100, 9, [.br true, .el (.v (.int .u8 ta2)), .br true, .el (.v (.int .u8 ta2)), .br false, .el (.v (.int .u8 ta2)), .br true, .el (.v (.int .u8 ta2)), .el (.v (.int .u8 ta2)), .br false, .no, .el (.v (.int .u8 ta2)), .br true, .br true, .no], [], [2], [], round_fr (allC (eqt ha8) (allC (nott (decide_eq_false ha7)) (allC (strAt_ok ha2 : pureRun cx.P (Instr.index 9 (.string a0) (.int .i64 sa)) = some (.int .u8 ta2)) (allC (decide_eq_false ha6) (allC (strAt_ok ha2 : pureRun cx.P (Instr.index 9 (.string a0) (.int .i64 sa)) = some (.int .u8 ta2)) (allC (strAt_ok ha2 : pureRun cx.P (Instr.index 9 (.string a0) (.int .i64 sa)) = some (.int .u8 ta2)) (allC (decide_eq_true ha5) (allC (strAt_ok ha2 : pureRun cx.P (Instr.index 9 (.string a0) (.int .i64 sa)) = some (.int .u8 ta2)) (allC (decide_eq_false ha4) (allC (strAt_ok ha2 : pureRun cx.P (Instr.index 9 (.string a0) (.int .i64 sa)) = some (.int .u8 ta2)) (allC (decide_eq_true ha3) (allC (strAt_ok ha2 : pureRun cx.P (Instr.index 9 (.string a0) (.int .i64 sa)) = some (.int .u8 ta2)) (allC (decide_eq_true ha1) allN))))))))))))) (by kernel_rfl)⟩, nofun⟩
              · replace h := ite_f h ha8
                by_cases ha9 : ta2 = 95
                · replace h := ite_t h ha9
                  obtain ⟨ha10, h⟩ := grd_of h
                  replace h := Option.some.inj h
                  subst h
                  exact ⟨100, 9, [.br true, .el (.v (.int .u8 ta2)), .br true, .el (.v (.int .u8 ta2)), .br false, .el (.v (.int .u8 ta2)), .br true, .el (.v (.int .u8 ta2)), .el (.v (.int .u8 ta2)), .br false, .no, .el (.v (.int .u8 ta2)), .br true, .br false, .br false], [], [0, 3], [], round_fr (allC ha10 (allC (notf (eqt ha9)) (allC (eqf ha8) (allC (nott (decide_eq_false ha7)) (allC (strAt_ok ha2 : pureRun cx.P (Instr.index 9 (.string a0) (.int .i64 sa)) = some (.int .u8 ta2)) (allC (decide_eq_false ha6) (allC (strAt_ok ha2 : pureRun cx.P (Instr.index 9 (.string a0) (.int .i64 sa)) = some (.int .u8 ta2)) (allC (strAt_ok ha2 : pureRun cx.P (Instr.index 9 (.string a0) (.int .i64 sa)) = some (.int .u8 ta2)) (allC (decide_eq_true ha5) (allC (strAt_ok ha2 : pureRun cx.P (Instr.index 9 (.string a0) (.int .i64 sa)) = some (.int .u8 ta2)) (allC (decide_eq_false ha4) (allC (strAt_ok ha2 : pureRun cx.P (Instr.index 9 (.string a0) (.int .i64 sa)) = some (.int .u8 ta2)) (allC (decide_eq_true ha3) (allC (strAt_ok ha2 : pureRun cx.P (Instr.index 9 (.string a0) (.int .i64 sa)) = some (.int .u8 ta2)) (allC (decide_eq_true ha1) allN))))))))))))))) (by kernel_rfl)⟩
                · replace h := ite_f h ha9
                  replace h := Option.some.inj h
                  subst h
                  exact ⟨⟨100, 9, [.br true, .el (.v (.int .u8 ta2)), .br true, .el (.v (.int .u8 ta2)), .br false, .el (.v (.int .u8 ta2)), .br true, .el (.v (.int .u8 ta2)), .el (.v (.int .u8 ta2)), .br false, .no, .el (.v (.int .u8 ta2)), .br true, .br false, .br true], [], [2], [], round_fr (allC (nott (eqf ha9)) (allC (eqf ha8) (allC (nott (decide_eq_false ha7)) (allC (strAt_ok ha2 : pureRun cx.P (Instr.index 9 (.string a0) (.int .i64 sa)) = some (.int .u8 ta2)) (allC (decide_eq_false ha6) (allC (strAt_ok ha2 : pureRun cx.P (Instr.index 9 (.string a0) (.int .i64 sa)) = some (.int .u8 ta2)) (allC (strAt_ok ha2 : pureRun cx.P (Instr.index 9 (.string a0) (.int .i64 sa)) = some (.int .u8 ta2)) (allC (decide_eq_true ha5) (allC (strAt_ok ha2 : pureRun cx.P (Instr.index 9 (.string a0) (.int .i64 sa)) = some (.int .u8 ta2)) (allC (decide_eq_false ha4) (allC (strAt_ok ha2 : pureRun cx.P (Instr.index 9 (.string a0) (.int .i64 sa)) = some (.int .u8 ta2)) (allC (decide_eq_true ha3) (allC (strAt_ok ha2 : pureRun cx.P (Instr.index 9 (.string a0) (.int .i64 sa)) = some (.int .u8 ta2)) (allC (decide_eq_true ha1) allN)))))))))))))) (by kernel_rfl)⟩, nofun⟩
        · replace h := ite_f h ha5
          by_cases ha6 : ta2 ≥ 48
          · replace h := ite_t h ha6
            by_cases ha7 : ta2 ≤ 57
            · replace h := ite_t h ha7
              by_cases ha8 : sa = 0
              · replace h := ite_t h ha8
                replace h := Option.some.inj h
                subst h
                exact ⟨⟨100, 9, [.br true, .el (.v (.int .u8 ta2)), .br true, .el (.v (.int .u8 ta2)), .br false, .el (.v (.int .u8 ta2)), .br false, .el (.v (.int .u8 ta2)), .br true, .el (.v (.int .u8 ta2)), .br true, .no, .br true, .no], [], [2], [], round_fr (allC (eqt ha8) (allC (decide_eq_true ha7) (allC (strAt_ok ha2 : pureRun cx.P (Instr.index 9 (.string a0) (.int .i64 sa)) = some (.int .u8 ta2)) (allC (decide_eq_true ha6) (allC (strAt_ok ha2 : pureRun cx.P (Instr.index 9 (.string a0) (.int .i64 sa)) = some (.int .u8 ta2)) (allC (decide_eq_false ha5) (allC (strAt_ok ha2 : pureRun cx.P (Instr.index 9 (.string a0) (.int .i64 sa)) = some (.int .u8 ta2)) (allC (decide_eq_false ha4) (allC (strAt_ok ha2 : pureRun cx.P (Instr.index 9 (.string a0) (.int .i64 sa)) = some (.int .u8 ta2)) (allC (decide_eq_true ha3) (allC (strAt_ok ha2 : pureRun cx.P (Instr.index 9 (.string a0) (.int .i64 sa)) = some (.int .u8 ta2)) (allC (decide_eq_true ha1) allN)))))))))))) (by kernel_rfl)⟩, nofun⟩
              · replace h := ite_f h ha8
                obtain ⟨ha9, h⟩ := grd_of h
                replace h := Option.some.inj h
                subst h
                exact ⟨100, 9, [.br true, .el (.v (.int .u8 ta2)), .br true, .el (.v (.int .u8 ta2)), .br false, .el (.v (.int .u8 ta2)), .br false, .el (.v (.int .u8 ta2)), .br true, .el (.v (.int .u8 ta2)), .br true, .no, .br false, .no], [], [0, 3], [], round_fr (allC ha9 (allC (eqf ha8) (allC (decide_eq_true ha7) (allC (strAt_ok ha2 : pureRun cx.P (Instr.index 9 (.string a0) (.int .i64 sa)) = some (.int .u8 ta2)) (allC (decide_eq_true ha6) (allC (strAt_ok ha2 : pureRun cx.P (Instr.index 9 (.string a0) (.int .i64 sa)) = some (.int .u8 ta2)) (allC (decide_eq_false ha5) (allC (strAt_ok ha2 : pureRun cx.P (Instr.index 9 (.string a0) (.int .i64 sa)) = some (.int .u8 ta2)) (allC (decide_eq_false ha4) (allC (strAt_ok ha2 : pureRun cx.P (Instr.index 9 (.string a0) (.int .i64 sa)) = some (.int .u8 ta2)) (allC (decide_eq_true ha3) (allC (strAt_ok ha2 : pureRun cx.P (Instr.index 9 (.string a0) (.int .i64 sa)) = some (.int .u8 ta2)) (allC (decide_eq_true ha1) allN))))))))))))) (by kernel_rfl)⟩
            · replace h := ite_f h ha7
              by_cases ha8 : sa = 0
              · replace h := ite_t h ha8
                replace h := Option.some.inj h
                subst h
                exact ⟨⟨100, 9, [.br true, .el (.v (.int .u8 ta2)), .br true, .el (.v (.int .u8 ta2)), .br false, .el (.v (.int .u8 ta2)), .br false, .el (.v (.int .u8 ta2)), .br true, .el (.v (.int .u8 ta2)), .br false, .el (.v (.int .u8 ta2)), .no, .br true, .no], [], [2], [], round_fr (allC (eqt ha8) (allC (strAt_ok ha2 : pureRun cx.P (Instr.index 9 (.string a0) (.int .i64 sa)) = some (.int .u8 ta2)) (allC (decide_eq_false ha7) (allC (strAt_ok ha2 : pureRun cx.P (Instr.index 9 (.string a0) (.int .i64 sa)) = some (.int .u8 ta2)) (allC (decide_eq_true ha6) (allC (strAt_ok ha2 : pureRun cx.P (Instr.index 9 (.string a0) (.int .i64 sa)) = some (.int .u8 ta2)) (allC (decide_eq_false ha5) (allC (strAt_ok ha2 : pureRun cx.P (Instr.index 9 (.string a0) (.int .i64 sa)) = some (.int .u8 ta2)) (allC (decide_eq_false ha4) (allC (strAt_ok ha2 : pureRun cx.P (Instr.index 9 (.string a0) (.int .i64 sa)) = some (.int .u8 ta2)) (allC (decide_eq_true ha3) (allC (strAt_ok ha2 : pureRun cx.P (Instr.index 9 (.string a0) (.int .i64 sa)) = some (.int .u8 ta2)) (allC (decide_eq_true ha1) allN))))))))))))) (by kernel_rfl)⟩, nofun⟩
              · replace h := ite_f h ha8
                by_cases ha9 : ta2 = 95
                · replace h := ite_t h ha9
                  obtain ⟨ha10, h⟩ := grd_of h
                  replace h := Option.some.inj h
                  subst h
                  exact ⟨100, 9, [.br true, .el (.v (.int .u8 ta2)), .br true, .el (.v (.int .u8 ta2)), .br false, .el (.v (.int .u8 ta2)), .br false, .el (.v (.int .u8 ta2)), .br true, .el (.v (.int .u8 ta2)), .br false, .el (.v (.int .u8 ta2)), .no, .br false, .br false], [], [0, 3], [], round_fr (allC ha10 (allC (notf (eqt ha9)) (allC (eqf ha8) (allC (strAt_ok ha2 : pureRun cx.P (Instr.index 9 (.string a0) (.int .i64 sa)) = some (.int .u8 ta2)) (allC (decide_eq_false ha7) (allC (strAt_ok ha2 : pureRun cx.P (Instr.index 9 (.string a0) (.int .i64 sa)) = some (.int .u8 ta2)) (allC (decide_eq_true ha6) (allC (strAt_ok ha2 : pureRun cx.P (Instr.index 9 (.string a0) (.int .i64 sa)) = some (.int .u8 ta2)) (allC (decide_eq_false ha5) (allC (strAt_ok ha2 : pureRun cx.P (Instr.index 9 (.string a0) (.int .i64 sa)) = some (.int .u8 ta2)) (allC (decide_eq_false ha4) (allC (strAt_ok ha2 : pureRun cx.P (Instr.index 9 (.string a0) (.int .i64 sa)) = some (.int .u8 ta2)) (allC (decide_eq_true ha3) (allC (strAt_ok ha2 : pureRun cx.P (Instr.index 9 (.string a0) (.int .i64 sa)) = some (.int .u8 ta2)) (allC (decide_eq_true ha1) allN))))))))))))))) (by kernel_rfl)⟩
                · replace h := ite_f h ha9
                  replace h := Option.some.inj h
                  subst h
                  exact ⟨⟨100, 9, [.br true, .el (.v (.int .u8 ta2)), .br true, .el (.v (.int .u8 ta2)), .br false, .el (.v (.int .u8 ta2)), .br false, .el (.v (.int .u8 ta2)), .br true, .el (.v (.int .u8 ta2)), .br false, .el (.v (.int .u8 ta2)), .no, .br false, .br true], [], [2], [], round_fr (allC (nott (eqf ha9)) (allC (eqf ha8) (allC (strAt_ok ha2 : pureRun cx.P (Instr.index 9 (.string a0) (.int .i64 sa)) = some (.int .u8 ta2)) (allC (decide_eq_false ha7) (allC (strAt_ok ha2 : pureRun cx.P (Instr.index 9 (.string a0) (.int .i64 sa)) = some (.int .u8 ta2)) (allC (decide_eq_true ha6) (allC (strAt_ok ha2 : pureRun cx.P (Instr.index 9 (.string a0) (.int .i64 sa)) = some (.int .u8 ta2)) (allC (decide_eq_false ha5) (allC (strAt_ok ha2 : pureRun cx.P (Instr.index 9 (.string a0) (.int .i64 sa)) = some (.int .u8 ta2)) (allC (decide_eq_false ha4) (allC (strAt_ok ha2 : pureRun cx.P (Instr.index 9 (.string a0) (.int .i64 sa)) = some (.int .u8 ta2)) (allC (decide_eq_true ha3) (allC (strAt_ok ha2 : pureRun cx.P (Instr.index 9 (.string a0) (.int .i64 sa)) = some (.int .u8 ta2)) (allC (decide_eq_true ha1) allN)))))))))))))) (by kernel_rfl)⟩, nofun⟩
          · replace h := ite_f h ha6
            by_cases ha7 : sa = 0
            · replace h := ite_t h ha7
              replace h := Option.some.inj h
              subst h
              exact ⟨⟨100, 9, [.br true, .el (.v (.int .u8 ta2)), .br true, .el (.v (.int .u8 ta2)), .br false, .el (.v (.int .u8 ta2)), .br false, .el (.v (.int .u8 ta2)), .br false, .no, .el (.v (.int .u8 ta2)), .no, .br true, .no], [], [2], [], round_fr (allC (eqt ha7) (allC (strAt_ok ha2 : pureRun cx.P (Instr.index 9 (.string a0) (.int .i64 sa)) = some (.int .u8 ta2)) (allC (decide_eq_false ha6) (allC (strAt_ok ha2 : pureRun cx.P (Instr.index 9 (.string a0) (.int .i64 sa)) = some (.int .u8 ta2)) (allC (decide_eq_false ha5) (allC (strAt_ok ha2 : pureRun cx.P (Instr.index 9 (.string a0) (.int .i64 sa)) = some (.int .u8 ta2)) (allC (decide_eq_false ha4) (allC (strAt_ok ha2 : pureRun cx.P (Instr.index 9 (.string a0) (.int .i64 sa)) = some (.int .u8 ta2)) (allC (decide_eq_true ha3) (allC (strAt_ok ha2 : pureRun cx.P (Instr.index 9 (.string a0) (.int .i64 sa)) = some (.int .u8 ta2)) (allC (decide_eq_true ha1) allN))))))))))) (by kernel_rfl)⟩, nofun⟩
            · replace h := ite_f h ha7
              by_cases ha8 : ta2 = 95
              · replace h := ite_t h ha8
                obtain ⟨ha9, h⟩ := grd_of h
                replace h := Option.some.inj h
                subst h
                exact ⟨100, 9, [.br true, .el (.v (.int .u8 ta2)), .br true, .el (.v (.int .u8 ta2)), .br false, .el (.v (.int .u8 ta2)), .br false, .el (.v (.int .u8 ta2)), .br false, .no, .el (.v (.int .u8 ta2)), .no, .br false, .br false], [], [0, 3], [], round_fr (allC ha9 (allC (notf (eqt ha8)) (allC (eqf ha7) (allC (strAt_ok ha2 : pureRun cx.P (Instr.index 9 (.string a0) (.int .i64 sa)) = some (.int .u8 ta2)) (allC (decide_eq_false ha6) (allC (strAt_ok ha2 : pureRun cx.P (Instr.index 9 (.string a0) (.int .i64 sa)) = some (.int .u8 ta2)) (allC (decide_eq_false ha5) (allC (strAt_ok ha2 : pureRun cx.P (Instr.index 9 (.string a0) (.int .i64 sa)) = some (.int .u8 ta2)) (allC (decide_eq_false ha4) (allC (strAt_ok ha2 : pureRun cx.P (Instr.index 9 (.string a0) (.int .i64 sa)) = some (.int .u8 ta2)) (allC (decide_eq_true ha3) (allC (strAt_ok ha2 : pureRun cx.P (Instr.index 9 (.string a0) (.int .i64 sa)) = some (.int .u8 ta2)) (allC (decide_eq_true ha1) allN))))))))))))) (by kernel_rfl)⟩
              · replace h := ite_f h ha8
                replace h := Option.some.inj h
                subst h
                exact ⟨⟨100, 9, [.br true, .el (.v (.int .u8 ta2)), .br true, .el (.v (.int .u8 ta2)), .br false, .el (.v (.int .u8 ta2)), .br false, .el (.v (.int .u8 ta2)), .br false, .no, .el (.v (.int .u8 ta2)), .no, .br false, .br true], [], [2], [], round_fr (allC (nott (eqf ha8)) (allC (eqf ha7) (allC (strAt_ok ha2 : pureRun cx.P (Instr.index 9 (.string a0) (.int .i64 sa)) = some (.int .u8 ta2)) (allC (decide_eq_false ha6) (allC (strAt_ok ha2 : pureRun cx.P (Instr.index 9 (.string a0) (.int .i64 sa)) = some (.int .u8 ta2)) (allC (decide_eq_false ha5) (allC (strAt_ok ha2 : pureRun cx.P (Instr.index 9 (.string a0) (.int .i64 sa)) = some (.int .u8 ta2)) (allC (decide_eq_false ha4) (allC (strAt_ok ha2 : pureRun cx.P (Instr.index 9 (.string a0) (.int .i64 sa)) = some (.int .u8 ta2)) (allC (decide_eq_true ha3) (allC (strAt_ok ha2 : pureRun cx.P (Instr.index 9 (.string a0) (.int .i64 sa)) = some (.int .u8 ta2)) (allC (decide_eq_true ha1) allN)))))))))))) (by kernel_rfl)⟩, nofun⟩
    · replace h := ite_f h ha3
      by_cases ha4 : ta2 ≥ 65
      · replace h := ite_t h ha4
        by_cases ha5 : ta2 ≥ 48
        · replace h := ite_t h ha5
          by_cases ha6 : ta2 ≤ 57
          · replace h := ite_t h ha6
            by_cases ha7 : ta2 ≤ 90
            · replace h := ite_t h ha7
              obtain ⟨ha8, h⟩ := grd_of h
              replace h := Option.some.inj h
              subst h
              exact ⟨100, 9, [.br true, .el (.v (.int .u8 ta2)), .br false, .no, .el (.v (.int .u8 ta2)), .br true, .el (.v (.int .u8 ta2)), .el (.v (.int .u8 ta2)), .br true, .el (.v (.int .u8 ta2)), .br true, .br false, .no], [], [0, 3], [], round_fr (allC ha8 (allC (notf (decide_eq_true ha7)) (allC (decide_eq_true ha6) (allC (strAt_ok ha2 : pureRun cx.P (Instr.index 9 (.string a0) (.int .i64 sa)) = some (.int .u8 ta2)) (allC (decide_eq_true ha5) (allC (strAt_ok ha2 : pureRun cx.P (Instr.index 9 (.string a0) (.int .i64 sa)) = some (.int .u8 ta2)) (allC (strAt_ok ha2 : pureRun cx.P (Instr.index 9 (.string a0) (.int .i64 sa)) = some (.int .u8 ta2)) (allC (decide_eq_true ha4) (allC (strAt_ok ha2 : pureRun cx.P (Instr.index 9 (.string a0) (.int .i64 sa)) = some (.int .u8 ta2)) (allC (decide_eq_false ha3) (allC (strAt_ok ha2 : pureRun cx.P (Instr.index 9 (.string a0) (.int .i64 sa)) = some (.int .u8 ta2)) (allC (decide_eq_true ha1) allN)))))))))))) (by kernel_rfl)⟩
            · replace h := ite_f h ha7
              by_cases ha8 : sa = 0
              · replace h := ite_t h ha8
                replace h := Option.some.inj h
                subst h
                exact ⟨⟨100, 9, [.br true, .el (.v (.int .u8 ta2)), .br false, .no, .el (.v (.int .u8 ta2)), .br true, .el (.v (.int .u8 ta2)), .el (.v (.int .u8 ta2)), .br true, .el (.v (.int .u8 ta2)), .br true, .br true, .br true, .no], [], [2], [], round_fr (allC (eqt ha8) (allC (nott (decide_eq_false ha7)) (allC (decide_eq_true ha6) (allC (strAt_ok ha2 : pureRun cx.P (Instr.index 9 (.string a0) (.int .i64 sa)) = some (.int .u8 ta2)) (allC (decide_eq_true ha5) (allC (strAt_ok ha2 : pureRun cx.P (Instr.index 9 (.string a0) (.int .i64 sa)) = some (.int .u8 ta2)) (allC (strAt_ok ha2 : pureRun cx.P (Instr.index 9 (.string a0) (.int .i64 sa)) = some (.int .u8 ta2)) (allC (decide_eq_true ha4) (allC (strAt_ok ha2 : pureRun cx.P (Instr.index 9 (.string a0) (.int .i64 sa)) = some (.int .u8 ta2)) (allC (decide_eq_false ha3) (allC (strAt_ok ha2 : pureRun cx.P (Instr.index 9 (.string a0) (.int .i64 sa)) = some (.int .u8 ta2)) (allC (decide_eq_true ha1) allN)))))))))))) (by kernel_rfl)⟩, nofun⟩
              · replace h := ite_f h ha8
                obtain ⟨ha9, h⟩ := grd_of h
                replace h := Option.some.inj h
                subst h
                exact ⟨100, 9, [.br true, .el (.v (.int .u8 ta2)), .br false, .no, .el (.v (.int .u8 ta2)), .br true, .el (.v (.int .u8 ta2)), .el (.v (.int .u8 ta2)), .br true, .el (.v (.int .u8 ta2)), .br true, .br true, .br false, .no], [], [0, 3], [], round_fr (allC ha9 (allC (eqf ha8) (allC (nott (decide_eq_false ha7)) (allC (decide_eq_true ha6) (allC (strAt_ok ha2 : pureRun cx.P (Instr.index 9 (.string a0) (.int .i64 sa)) = some (.int .u8 ta2)) (allC (decide_eq_true ha5) (allC (strAt_ok ha2 : pureRun cx.P (Instr.index 9 (.string a0) (.int .i64 sa)) = some (.int .u8 ta2)) (allC (strAt_ok ha2 : pureRun cx.P (Instr.index 9 (.string a0) (.int .i64 sa)) = some (.int .u8 ta2)) (allC (decide_eq_true ha4) (allC (strAt_ok ha2 : pureRun cx.P (Instr.index 9 (.string a0) (.int .i64 sa)) = some (.int .u8 ta2)) (allC (decide_eq_false ha3) (allC (strAt_ok ha2 : pureRun cx.P (Instr.index 9 (.string a0) (.int .i64 sa)) = some (.int .u8 ta2)) (allC (decide_eq_true ha1) allN))))))))))))) (by kernel_rfl)⟩
          · replace h := ite_f h ha6
            by_cases ha7 : ta2 ≤ 90
            · replace h := ite_t h ha7
              obtain ⟨ha8, h⟩ := grd_of h
              replace h := Option.some.inj h
              subst h
              exact ⟨100, 9, [.br true, .el (.v (.int .u8 ta2)), .br false, .no, .el (.v (.int .u8 ta2)), .br true, .el (.v (.int .u8 ta2)), .el (.v (.int .u8 ta2)), .br true, .el (.v (.int .u8 ta2)), .br false, .el (.v (.int .u8 ta2)), .br false, .no], [], [0, 3], [], round_fr (allC ha8 (allC (notf (decide_eq_true ha7)) (allC (strAt_ok ha2 : pureRun cx.P (Instr.index 9 (.string a0) (.int .i64 sa)) = some (.int .u8 ta2)) (allC (decide_eq_false ha6) (allC (strAt_ok ha2 : pureRun cx.P (Instr.index 9 (.string a0) (.int .i64 sa)) = some (.int .u8 ta2)) (allC (decide_eq_true ha5) (allC (strAt_ok ha2 : pureRun cx.P (Instr.index 9 (.string a0) (.int .i64 sa)) = some (.int .u8 ta2)) (allC (strAt_ok ha2 : pureRun cx.P (Instr.index 9 (.string a0) (.int .i64 sa)) = some (.int .u8 ta2)) (allC (decide_eq_true ha4) (allC (strAt_ok ha2 : pureRun cx.P (Instr.index 9 (.string a0) (.int .i64 sa)) = some (.int .u8 ta2)) (allC (decide_eq_false ha3) (allC (strAt_ok ha2 : pureRun cx.P (Instr.index 9 (.string a0) (.int .i64 sa)) = some (.int .u8 ta2)) (allC (decide_eq_true ha1) allN))))))))))))) (by kernel_rfl)⟩
            · replace h := ite_f h ha7
              by_cases ha8 : sa = 0
              · replace h := ite_t h ha8
                replace h := Option.some.inj h
                subst h
                exact ⟨⟨100, 9, [.br true, .el (.v (.int .u8 ta2)), .br false, .no, .el (.v (.int .u8 ta2)), .br true, .el (.v (.int .u8 ta2)), .el (.v (.int .u8 ta2)), .br true, .el (.v (.int .u8 ta2)), .br false, .el (.v (.int .u8 ta2)), .br true, .br true, .no], [], [2], [], round_fr (allC (eqt ha8) (allC (nott (decide_eq_false ha7)) (allC (strAt_ok ha2 : pureRun cx.P (Instr.index 9 (.string a0) (.int .i64 sa)) = some (.int .u8 ta2)) (allC (decide_eq_false ha6) (allC (strAt_ok ha2 : pureRun cx.P (Instr.index 9 (.string a0) (.int .i64 sa)) = some (.int .u8 ta2)) (allC (decide_eq_true ha5) (allC (strAt_ok ha2 : pureRun cx.P (Instr.index 9 (.string a0) (.int .i64 sa)) = some (.int .u8 ta2)) (allC (strAt_ok ha2 : pureRun cx.P (Instr.index 9 (.string a0) (.int .i64 sa)) = some (.int .u8 ta2)) (allC (decide_eq_true ha4) (allC (strAt_ok ha2 : pureRun cx.P (Instr.index 9 (.string a0) (.int .i64 sa)) = some (.int .u8 ta2)) (allC (decide_eq_false ha3) (allC (strAt_ok ha2 : pureRun cx.P (Instr.index 9 (.string a0) (.int .i64 sa)) = some (.int .u8 ta2)) (allC (decide_eq_true ha1) allN))))))))))))) (by kernel_rfl)⟩, nofun⟩
              · replace h := ite_f h ha8
                by_cases ha9 : ta2 = 95
                · replace h := ite_t h ha9
                  obtain ⟨ha10, h⟩ := grd_of h
                  replace h := Option.some.inj h
                  subst h
                  exact ⟨100, 9, [.br true, .el (.v (.int .u8 ta2)), .br false, .no, .el (.v (.int .u8 ta2)), .br true, .el (.v (.int .u8 ta2)), .el (.v (.int .u8 ta2)), .br true, .el (.v (.int .u8 ta2)), .br false, .el (.v (.int .u8 ta2)), .br true, .br false, .br false], [], [0, 3], [], round_fr (allC ha10 (allC (notf (eqt ha9)) (allC (eqf ha8) (allC (nott (decide_eq_false ha7)) (allC (strAt_ok ha2 : pureRun cx.P (Instr.index 9 (.string a0) (.int .i64 sa)) = some (.int .u8 ta2)) (allC (decide_eq_false ha6) (allC (strAt_ok ha2 : pureRun cx.P (Instr.index 9 (.string a0) (.int .i64 sa)) = some (.int .u8 ta2)) (allC (decide_eq_true ha5) (allC (strAt_ok ha2 : pureRun cx.P (Instr.index 9 (.string a0) (.int .i64 sa)) = some (.int .u8 ta2)) (allC (strAt_ok ha2 : pureRun cx.P (Instr.index 9 (.string a0) (.int .i64 sa)) = some (.int .u8 ta2)) (allC (decide_eq_true ha4) (allC (strAt_ok ha2 : pureRun cx.P (Instr.index 9 (.string a0) (.int .i64 sa)) = some (.int .u8 ta2)) (allC (decide_eq_false ha3) (allC (strAt_ok ha2 : pureRun cx.P (Instr.index 9 (.string a0) (.int .i64 sa)) = some (.int .u8 ta2)) (allC (decide_eq_true ha1) allN))))))))))))))) (by kernel_rfl)⟩
                · replace h := ite_f h ha9
                  replace h := Option.some.inj h
                  subst h
                  exact ⟨⟨100, 9, [.br true, .el (.v (.int .u8 ta2)), .br false, .no, .el (.v (.int .u8 ta2)), .br true, .el (.v (.int .u8 ta2)), .el (.v (.int .u8 ta2)), .br true, .el (.v (.int .u8 ta2)), .br false, .el (.v (.int .u8 ta2)), .br true, .br false, .br true], [], [2], [], round_fr (allC (nott (eqf ha9)) (allC (eqf ha8) (allC (nott (decide_eq_false ha7)) (allC (strAt_ok ha2 : pureRun cx.P (Instr.index 9 (.string a0) (.int .i64 sa)) = some (.int .u8 ta2)) (allC (decide_eq_false ha6) (allC (strAt_ok ha2 : pureRun cx.P (Instr.index 9 (.string a0) (.int .i64 sa)) = some (.int .u8 ta2)) (allC (decide_eq_true ha5) (allC (strAt_ok ha2 : pureRun cx.P (Instr.index 9 (.string a0) (.int .i64 sa)) = some (.int .u8 ta2)) (allC (strAt_ok ha2 : pureRun cx.P (Instr.index 9 (.string a0) (.int .i64 sa)) = some (.int .u8 ta2)) (allC (decide_eq_true ha4) (allC (strAt_ok ha2 : pureRun cx.P (Instr.index 9 (.string a0) (.int .i64 sa)) = some (.int .u8 ta2)) (allC (decide_eq_false ha3) (allC (strAt_ok ha2 : pureRun cx.P (Instr.index 9 (.string a0) (.int .i64 sa)) = some (.int .u8 ta2)) (allC (decide_eq_true ha1) allN)))))))))))))) (by kernel_rfl)⟩, nofun⟩
        · replace h := ite_f h ha5
          by_cases ha6 : ta2 ≤ 90
          · replace h := ite_t h ha6
            obtain ⟨ha7, h⟩ := grd_of h
            replace h := Option.some.inj h
            subst h
            exact ⟨100, 9, [.br true, .el (.v (.int .u8 ta2)), .br false, .no, .el (.v (.int .u8 ta2)), .br true, .el (.v (.int .u8 ta2)), .el (.v (.int .u8 ta2)), .br false, .no, .el (.v (.int .u8 ta2)), .br false, .no], [], [0, 3], [], round_fr (allC ha7 (allC (notf (decide_eq_true ha6)) (allC (strAt_ok ha2 : pureRun cx.P (Instr.index 9 (.string a0) (.int .i64 sa)) = some (.int .u8 ta2)) (allC (decide_eq_false ha5) (allC (strAt_ok ha2 : pureRun cx.P (Instr.index 9 (.string a0) (.int .i64 sa)) = some (.int .u8 ta2)) (allC (strAt_ok ha2 : pureRun cx.P (Instr.index 9 (.string a0) (.int .i64 sa)) = some (.int .u8 ta2)) (allC (decide_eq_true ha4) (allC (strAt_ok ha2 : pureRun cx.P (Instr.index 9 (.string a0) (.int .i64 sa)) = some (.int .u8 ta2)) (allC (decide_eq_false ha3) (allC (strAt_ok ha2 : pureRun cx.P (Instr.index 9 (.string a0) (.int .i64 sa)) = some (.int .u8 ta2)) (allC (decide_eq_true ha1) allN))))))))))) (by kernel_rfl)⟩
          · replace h := ite_f h ha6
            by_cases ha7 : sa = 0
            · replace h := ite_t h ha7
              replace h := Option.some.inj h
              subst h
              exact ⟨⟨100, 9, [.br true, .el (.v (.int .u8 ta2)), .br false, .no, .el (.v (.int .u8 ta2)), .br true, .el (.v (.int .u8 ta2)), .el (.v (.int .u8 ta2)), .br false, .no, .el (.v (.int .u8 ta2)), .br true, .br true, .no], [], [2], [], round_fr (allC (eqt ha7) (allC (nott (decide_eq_false ha6)) (allC (strAt_ok ha2 : pureRun cx.P (Instr.index 9 (.string a0) (.int .i64 sa)) = some (.int .u8 ta2)) (allC (decide_eq_false ha5) (allC (strAt_ok ha2 : pureRun cx.P (Instr.index 9 (.string a0) (.int .i64 sa)) = some (.int .u8 ta2)) (allC (strAt_ok ha2 : pureRun cx.P (Instr.index 9 (.string a0) (.int .i64 sa)) = some (.int .u8 ta2)) (allC (decide_eq_true ha4) (allC (strAt_ok ha2 : pureRun cx.P (Instr.index 9 (.string a0) (.int .i64 sa)) = some (.int .u8 ta2)) (allC (decide_eq_false ha3) (allC (strAt_ok ha2 : pureRun cx.P (Instr.index 9 (.string a0) (.int .i64 sa)) = some (.int .u8 ta2)) (allC (decide_eq_true ha1) allN))))))))))) (by kernel_rfl)⟩, nofun⟩
            · replace h := ite_f h ha7
              by_cases ha8 : ta2 = 95
              · replace h := ite_t h ha8
                obtain ⟨ha9, h⟩ := grd_of h
                replace h := Option.some.inj h
                subst h
                exact ⟨100, 9, [.br true, .el (.v (.int .u8 ta2)), .br false, .no, .el (.v (.int .u8 ta2)), .br true, .el (.v (.int .u8 ta2)), .el (.v (.int .u8 ta2)), .br false, .no, .el (.v (.int .u8 ta2)), .br true, .br false, .br false], [], [0, 3], [], round_fr (allC ha9 (allC (notf (eqt ha8)) (allC (eqf ha7) (allC (nott (decide_eq_false ha6)) (allC (strAt_ok ha2 : pureRun cx.P (Instr.index 9 (.string a0) (.int .i64 sa)) = some (.int .u8 ta2)) (allC (decide_eq_false ha5) (allC (strAt_ok ha2 : pureRun cx.P (Instr.index 9 (.string a0) (.int .i64 sa)) = some (.int .u8 ta2)) (allC (strAt_ok ha2 : pureRun cx.P (Instr.index 9 (.string a0) (.int .i64 sa)) = some (.int .u8 ta2)) (allC (decide_eq_true ha4) (allC (strAt_ok ha2 : pureRun cx.P (Instr.index 9 (.string a0) (.int .i64 sa)) = some (.int .u8 ta2)) (allC (decide_eq_false ha3) (allC (strAt_ok ha2 : pureRun cx.P (Instr.index 9 (.string a0) (.int .i64 sa)) = some (.int .u8 ta2)) (allC (decide_eq_true ha1) allN))))))))))))) (by kernel_rfl)⟩
              · replace h := ite_f h ha8
                replace h := Option.some.inj h
                subst h
                exact ⟨⟨100, 9, [.br true, .el (.v (.int .u8 ta2)), .br false, .no, .el (.v (.int .u8 ta2)), .br true, .el (.v (.int .u8 ta2)), .el (.v (.int .u8 ta2)), .br false, .no, .el (.v (.int .u8 ta2)), .br true, .br false, .br true], [], [2], [], round_fr (allC (nott (eqf ha8)) (allC (eqf ha7) (allC (nott (decide_eq_false ha6)) (allC (strAt_ok ha2 : pureRun cx.P (Instr.index 9 (.string a0) (.int .i64 sa)) = some (.int .u8 ta2)) (allC (decide_eq_false ha5) (allC (strAt_ok ha2 : pureRun cx.P (Instr.index 9 (.string a0) (.int .i64 sa)) = some (.int .u8 ta2)) (allC (strAt_ok ha2 : pureRun cx.P (Instr.index 9 (.string a0) (.int .i64 sa)) = some (.int .u8 ta2)) (allC (decide_eq_true ha4) (allC (strAt_ok ha2 : pureRun cx.P (Instr.index 9 (.string a0) (.int .i64 sa)) = some (.int .u8 ta2)) (allC (decide_eq_false ha3) (allC (strAt_ok ha2 : pureRun cx.P (Instr.index 9 (.string a0) (.int .i64 sa)) = some (.int .u8 ta2)) (allC (decide_eq_true ha1) allN)))))))))))) (by kernel_rfl)⟩, nofun⟩
      · replace h := ite_f h ha4
        by_cases ha5 : ta2 ≥ 48
        · replace h := ite_t h ha5
          by_cases ha6 : ta2 ≤ 57
          · replace h := ite_t h ha6
            by_cases ha7 : sa = 0
            · replace h := ite_t h ha7
              replace h := Option.some.inj h
              subst h
              exact ⟨⟨100, 9, [.br true, .el (.v (.int .u8 ta2)), .br false, .no, .el (.v (.int .u8 ta2)), .br false, .el (.v (.int .u8 ta2)), .br true, .el (.v (.int .u8 ta2)), .br true, .no, .br true, .no], [], [2], [], round_fr (allC (eqt ha7) (allC (decide_eq_true ha6) (allC (strAt_ok ha2 : pureRun cx.P (Instr.index 9 (.string a0) (.int .i64 sa)) = some (.int .u8 ta2)) (allC (decide_eq_true ha5) (allC (strAt_ok ha2 : pureRun cx.P (Instr.index 9 (.string a0) (.int .i64 sa)) = some (.int .u8 ta2)) (allC (decide_eq_false ha4) (allC (strAt_ok ha2 : pureRun cx.P (Instr.index 9 (.string a0) (.int .i64 sa)) = some (.int .u8 ta2)) (allC (decide_eq_false ha3) (allC (strAt_ok ha2 : pureRun cx.P (Instr.index 9 (.string a0) (.int .i64 sa)) = some (.int .u8 ta2)) (allC (decide_eq_true ha1) allN)))))))))) (by kernel_rfl)⟩, nofun⟩
            · replace h := ite_f h ha7
              obtain ⟨ha8, h⟩ := grd_of h
              replace h := Option.some.inj h
              subst h
              exact ⟨100, 9, [.br true, .el (.v (.int .u8 ta2)), .br false, .no, .el (.v (.int .u8 ta2)), .br false, .el (.v (.int .u8 ta2)), .br true, .el (.v (.int .u8 ta2)), .br true, .no, .br false, .no], [], [0, 3], [], round_fr (allC ha8 (allC (eqf ha7) (allC (decide_eq_true ha6) (allC (strAt_ok ha2 : pureRun cx.P (Instr.index 9 (.string a0) (.int .i64 sa)) = some (.int .u8 ta2)) (allC (decide_eq_true ha5) (allC (strAt_ok ha2 : pureRun cx.P (Instr.index 9 (.string a0) (.int .i64 sa)) = some (.int .u8 ta2)) (allC (decide_eq_false ha4) (allC (strAt_ok ha2 : pureRun cx.P (Instr.index 9 (.string a0) (.int .i64 sa)) = some (.int .u8 ta2)) (allC (decide_eq_false ha3) (allC (strAt_ok ha2 : pureRun cx.P (Instr.index 9 (.string a0) (.int .i64 sa)) = some (.int .u8 ta2)) (allC (decide_eq_true ha1) allN))))))))))) (by kernel_rfl)⟩
          · replace h := ite_f h ha6
            by_cases ha7 : sa = 0
            · replace h := ite_t h ha7
              replace h := Option.some.inj h
              subst h
              exact ⟨⟨100, 9, [.br true, .el (.v (.int .u8 ta2)), .br false, .no, .el (.v (.int .u8 ta2)), .br false, .el (.v (.int .u8 ta2)), .br true, .el (.v (.int .u8 ta2)), .br false, .el (.v (.int .u8 ta2)), .no, .br true, .no], [], [2], [], round_fr (allC (eqt ha7) (allC (strAt_ok ha2 : pureRun cx.P (Instr.index 9 (.string a0) (.int .i64 sa)) = some (.int .u8 ta2)) (allC (decide_eq_false ha6) (allC (strAt_ok ha2 : pureRun cx.P (Instr.index 9 (.string a0) (.int .i64 sa)) = some (.int .u8 ta2)) (allC (decide_eq_true ha5) (allC (strAt_ok ha2 : pureRun cx.P (Instr.index 9 (.string a0) (.int .i64 sa)) = some (.int .u8 ta2)) (allC (decide_eq_false ha4) (allC (strAt_ok ha2 : pureRun cx.P (Instr.index 9 (.string a0) (.int .i64 sa)) = some (.int .u8 ta2)) (allC (decide_eq_false ha3) (allC (strAt_ok ha2 : pureRun cx.P (Instr.index 9 (.string a0) (.int .i64 sa)) = some (.int .u8 ta2)) (allC (decide_eq_true ha1) allN))))))))))) (by kernel_rfl)⟩, nofun⟩
            · replace h := ite_f h ha7
              by_cases ha8 : ta2 = 95
              · replace h := ite_t h ha8
                obtain ⟨ha9, h⟩ := grd_of h
                replace h := Option.some.inj h
                subst h
                exact ⟨100, 9, [.br true, .el (.v (.int .u8 ta2)), .br false, .no, .el (.v (.int .u8 ta2)), .br false, .el (.v (.int .u8 ta2)), .br true, .el (.v (.int .u8 ta2)), .br false, .el (.v (.int .u8 ta2)), .no, .br false, .br false], [], [0, 3], [], round_fr (allC ha9 (allC (notf (eqt ha8)) (allC (eqf ha7) (allC (strAt_ok ha2 : pureRun cx.P (Instr.index 9 (.string a0) (.int .i64 sa)) = some (.int .u8 ta2)) (allC (decide_eq_false ha6) (allC (strAt_ok ha2 : pureRun cx.P (Instr.index 9 (.string a0) (.int .i64 sa)) = some (.int .u8 ta2)) (allC (decide_eq_true ha5) (allC (strAt_ok ha2 : pureRun cx.P (Instr.index 9 (.string a0) (.int .i64 sa)) = some (.int .u8 ta2)) (allC (decide_eq_false ha4) (allC (strAt_ok ha2 : pureRun cx.P (Instr.index 9 (.string a0) (.int .i64 sa)) = some (.int .u8 ta2)) (allC (decide_eq_false ha3) (allC (strAt_ok ha2 : pureRun cx.P (Instr.index 9 (.string a0) (.int .i64 sa)) = some (.int .u8 ta2)) (allC (decide_eq_true ha1) allN))))))))))))) (by kernel_rfl)⟩
              · replace h := ite_f h ha8
                replace h := Option.some.inj h
                subst h
                exact ⟨⟨100, 9, [.br true, .el (.v (.int .u8 ta2)), .br false, .no, .el (.v (.int .u8 ta2)), .br false, .el (.v (.int .u8 ta2)), .br true, .el (.v (.int .u8 ta2)), .br false, .el (.v (.int .u8 ta2)), .no, .br false, .br true], [], [2], [], round_fr (allC (nott (eqf ha8)) (allC (eqf ha7) (allC (strAt_ok ha2 : pureRun cx.P (Instr.index 9 (.string a0) (.int .i64 sa)) = some (.int .u8 ta2)) (allC (decide_eq_false ha6) (allC (strAt_ok ha2 : pureRun cx.P (Instr.index 9 (.string a0) (.int .i64 sa)) = some (.int .u8 ta2)) (allC (decide_eq_true ha5) (allC (strAt_ok ha2 : pureRun cx.P (Instr.index 9 (.string a0) (.int .i64 sa)) = some (.int .u8 ta2)) (allC (decide_eq_false ha4) (allC (strAt_ok ha2 : pureRun cx.P (Instr.index 9 (.string a0) (.int .i64 sa)) = some (.int .u8 ta2)) (allC (decide_eq_false ha3) (allC (strAt_ok ha2 : pureRun cx.P (Instr.index 9 (.string a0) (.int .i64 sa)) = some (.int .u8 ta2)) (allC (decide_eq_true ha1) allN)))))))))))) (by kernel_rfl)⟩, nofun⟩
        · replace h := ite_f h ha5
          by_cases ha6 : sa = 0
          · replace h := ite_t h ha6
            replace h := Option.some.inj h
            subst h
            exact ⟨⟨100, 9, [.br true, .el (.v (.int .u8 ta2)), .br false, .no, .el (.v (.int .u8 ta2)), .br false, .el (.v (.int .u8 ta2)), .br false, .no, .el (.v (.int .u8 ta2)), .no, .br true, .no], [], [2], [], round_fr (allC (eqt ha6) (allC (strAt_ok ha2 : pureRun cx.P (Instr.index 9 (.string a0) (.int .i64 sa)) = some (.int .u8 ta2)) (allC (decide_eq_false ha5) (allC (strAt_ok ha2 : pureRun cx.P (Instr.index 9 (.string a0) (.int .i64 sa)) = some (.int .u8 ta2)) (allC (decide_eq_false ha4) (allC (strAt_ok ha2 : pureRun cx.P (Instr.index 9 (.string a0) (.int .i64 sa)) = some (.int .u8 ta2)) (allC (decide_eq_false ha3) (allC (strAt_ok ha2 : pureRun cx.P (Instr.index 9 (.string a0) (.int .i64 sa)) = some (.int .u8 ta2)) (allC (decide_eq_true ha1) allN))))))))) (by kernel_rfl)⟩, nofun⟩
          · replace h := ite_f h ha6
            by_cases ha7 : ta2 = 95
            · replace h := ite_t h ha7
              obtain ⟨ha8, h⟩ := grd_of h
              replace h := Option.some.inj h
              subst h
              exact ⟨100, 9, [.br true, .el (.v (.int .u8 ta2)), .br false, .no, .el (.v (.int .u8 ta2)), .br false, .el (.v (.int .u8 ta2)), .br false, .no, .el (.v (.int .u8 ta2)), .no, .br false, .br false], [], [0, 3], [], round_fr (allC ha8 (allC (notf (eqt ha7)) (allC (eqf ha6) (allC (strAt_ok ha2 : pureRun cx.P (Instr.index 9 (.string a0) (.int .i64 sa)) = some (.int .u8 ta2)) (allC (decide_eq_false ha5) (allC (strAt_ok ha2 : pureRun cx.P (Instr.index 9 (.string a0) (.int .i64 sa)) = some (.int .u8 ta2)) (allC (decide_eq_false ha4) (allC (strAt_ok ha2 : pureRun cx.P (Instr.index 9 (.string a0) (.int .i64 sa)) = some (.int .u8 ta2)) (allC (decide_eq_false ha3) (allC (strAt_ok ha2 : pureRun cx.P (Instr.index 9 (.string a0) (.int .i64 sa)) = some (.int .u8 ta2)) (allC (decide_eq_true ha1) allN))))))))))) (by kernel_rfl)⟩
            · replace h := ite_f h ha7
              replace h := Option.some.inj h
              subst h
              exact ⟨⟨100, 9, [.br true, .el (.v (.int .u8 ta2)), .br false, .no, .el (.v (.int .u8 ta2)), .br false, .el (.v (.int .u8 ta2)), .br false, .no, .el (.v (.int .u8 ta2)), .no, .br false, .br true], [], [2], [], round_fr (allC (nott (eqf ha7)) (allC (eqf ha6) (allC (strAt_ok ha2 : pureRun cx.P (Instr.index 9 (.string a0) (.int .i64 sa)) = some (.int .u8 ta2)) (allC (decide_eq_false ha5) (allC (strAt_ok ha2 : pureRun cx.P (Instr.index 9 (.string a0) (.int .i64 sa)) = some (.int .u8 ta2)) (allC (decide_eq_false ha4) (allC (strAt_ok ha2 : pureRun cx.P (Instr.index 9 (.string a0) (.int .i64 sa)) = some (.int .u8 ta2)) (allC (decide_eq_false ha3) (allC (strAt_ok ha2 : pureRun cx.P (Instr.index 9 (.string a0) (.int .i64 sa)) = some (.int .u8 ta2)) (allC (decide_eq_true ha1) allN)))))))))) (by kernel_rfl)⟩, nofun⟩
  · replace h := ite_f h ha1
    replace h := Option.some.inj h
    subst h
    exact ⟨⟨100, 9, [.br false], [], [], [], round_fr (allC (decide_eq_false ha1) allN) (by kernel_rfl)⟩, nofun⟩
/- spillage/spillageref01.IsName: .v (.string a0) -/
def F_ref01_IsName (n : Nat) (a0 : ByteArray) : Option (Bool) :=
  if (a0.toList == (⟨#[]⟩ : ByteArray).toList) = true then
    some false
  else
  if (a0.size : Int) > 24 then
    some false
  else
  (loopF (F_ref01_IsName_L1 n a0) n 0).bind fun t3 => match t3 with
    | (.inl t3) => (
      some false)
    | (.inr t3) => (
      some true)
theorem c_ref01_IsName {n : Nat} {a0 : ByteArray} {r : Bool} (h : F_ref01_IsName n a0 = some r) : Computes cx 138 [.v (.string a0)] (B r) := by
  unfold F_ref01_IsName at h
  by_cases h1 : (a0.toList == (⟨#[]⟩ : ByteArray).toList) = true
  · replace h := ite_t h h1
    replace h := Option.some.inj h
    subst h
    exact run_fr (n := 100) (orc := [.br true, .no]) (allC h1 allN) (by kernel_rfl)
  · replace h := ite_f h h1
    by_cases h2 : (a0.size : Int) > 24
    · replace h := ite_t h h2
      replace h := Option.some.inj h
      subst h
      exact run_fr (n := 100) (orc := [.br false, .br true]) (allC (decide_eq_true h2) (allC (bfalse h1) allN)) (by kernel_rfl)
    · replace h := ite_f h h2
      obtain ⟨t3, h3, h⟩ := bnd_of h
      rcases t3 with t3 | t3
      · replace h := Option.some.inj h
        subst h
        exact run_fr (n := 100) (orc := [.br false, .br false, .lp [] [0, 3] [] .ret [(2, .d (B false))] [] 77]) (allC (loopF_to R_ref01_IsName_L1 h3) (allC (decide_eq_false h2) (allC (bfalse h1) allN))) (by kernel_rfl)
      · replace h := Option.some.inj h
        subst h
        exact run_fr (n := 100) (orc := [.br false, .br false, .lp [] [0, 3] [] (.exit 0) [] [] 77]) (allC (loopF_to R_ref01_IsName_L1 h3) (allC (decide_eq_false h2) (allC (bfalse h1) allN))) (by kernel_rfl)
/- spillage/spillageref01.When: B a0, I a1 -/
def F_ref01_When (n : Nat) (a0 : Bool) (a1 : Int) : Option (Int) :=
  if a0 = true then
    some a1
  else
  some 0
theorem c_ref01_When {n : Nat} {a0 : Bool} {a1 : Int} {r : Int} (h : F_ref01_When n a0 a1 = some r) : Computes cx 104 [B a0, I a1] (I r) := by
  unfold F_ref01_When at h
  by_cases h1 : a0 = true
  · replace h := ite_t h h1
    replace h := Option.some.inj h
    subst h
    exact run_fr (n := 100) (orc := [.br true]) (allC h1 allN) (by kernel_rfl)
  · replace h := ite_f h h1
    replace h := Option.some.inj h
    subst h
    exact run_fr (n := 100) (orc := [.br false]) (allC (bfalse h1) allN) (by kernel_rfl)
/- spillage/spillageref01.CheckName: .v (.string a0) -/
def F_ref01_CheckName (n : Nat) (a0 : ByteArray) : Option (Int) :=
  (F_ref01_IsName n a0).bind fun t1 =>
  (F_ref01_When n (!t1) 8).bind fun t2 =>
  some t2
theorem c_ref01_CheckName {n : Nat} {a0 : ByteArray} {r : Int} (h : F_ref01_CheckName n a0 = some r) : Computes cx 102 [.v (.string a0)] (I r) := by
  unfold F_ref01_CheckName at h
  obtain ⟨t1, h1, h⟩ := bnd_of h
  obtain ⟨t2, h2, h⟩ := bnd_of h
  replace h := Option.some.inj h
  subst h
  exact run_fr (n := 100) (orc := [.ret (B t1), .ret (I t2)]) (allC (c_ref01_When h2) (allC (c_ref01_IsName h1) allN)) (by kernel_rfl)
/- spillage/spillageref01.When: B true, I 3 -/
def F_ref01_When_2 (n : Nat)  : Option (Int) :=
  some 3
theorem c_ref01_When_2 {n : Nat}  {r : Int} (h : F_ref01_When_2 n  = some r) : Computes cx 104 [B true, I 3] (I r) := by
  unfold F_ref01_When_2 at h
  replace h := Option.some.inj h
  subst h
  exact run_fr (n := 100) (orc := [.no]) allN (by kernel_rfl)
/- spillage/spillageref01.CheckRange: I a0, I a1, I a2 -/
def F_ref01_CheckRange (n : Nat) (a0 : Int) (a1 : Int) (a2 : Int) : Option (Int) :=
  if a0 < a1 then
    (F_ref01_When_2 n).bind fun t2 =>
    some t2
  else
  (F_ref01_When n (decide (a0 > a2)) 3).bind fun t2 =>
  some t2
theorem c_ref01_CheckRange {n : Nat} {a0 : Int} {a1 : Int} {a2 : Int} {r : Int} (h : F_ref01_CheckRange n a0 a1 a2 = some r) : Computes cx 139 [I a0, I a1, I a2] (I r) := by
  unfold F_ref01_CheckRange at h
  by_cases h1 : a0 < a1
  · replace h := ite_t h h1
    obtain ⟨t2, h2, h⟩ := bnd_of h
    replace h := Option.some.inj h
    subst h
    exact run_fr (n := 100) (orc := [.br true, .ret (I t2)]) (allC (c_ref01_When_2 h2) (allC (decide_eq_true h1) allN)) (by kernel_rfl)
  · replace h := ite_f h h1
    obtain ⟨t2, h2, h⟩ := bnd_of h
    replace h := Option.some.inj h
    subst h
    exact run_fr (n := 100) (orc := [.br false, .ret (I t2)]) (allC (c_ref01_When h2) (allC (decide_eq_false h1) allN)) (by kernel_rfl)
def F_ref01_First_L1 (n : Nat) (a0 : List D) (sa : (Int)) : Option (((Int)) ⊕ ((Int) ⊕ (Unit))) :=
  if sa < ((a0).length : Int) then
    (el un_i a0 sa).bind fun ta2 =>
    if ta2 = 0 then
      if inI64 (sa + 1) then
      some (.inl (sa + 1))
      else none
    else
    some (.inr (.inl ta2))
  else
  some (.inr (.inr ()))
noncomputable def T_ref01_First_L1 (a0 : List D) (sa : (Int)) : List (Nat × AV) := [(0, .d (.lst false 1 a0)), (3, .d (I sa))]
noncomputable def H_ref01_First_L1 (a0 : List D) (sa : (Int)) : List (Nat × Blk) := []
noncomputable def X_ref01_First_L1 (a0 : List D) (e : (Int) ⊕ (Unit)) : Ex := match e with
  | (.inl e) => .ret
  | (.inr e) => (.exit 0)
noncomputable def XT_ref01_First_L1 (a0 : List D) (e : (Int) ⊕ (Unit)) : List (Nat × AV) := match e with
  | (.inl e) => [(2, .d (I e))]
  | (.inr e) => []
noncomputable def XH_ref01_First_L1 (a0 : List D) (e : (Int) ⊕ (Unit)) : List (Nat × Blk) := match e with
  | (.inl e) => []
  | (.inr e) => []
theorem R_ref01_First_L1 {n : Nat} {a0 : List D} (sa : (Int)) (r) (h : F_ref01_First_L1 n a0 sa = some r) : Rd cx (loopAt cx.P 101 0) 19 0 false (T_ref01_First_L1 a0) (H_ref01_First_L1 a0) (X_ref01_First_L1 a0) (XT_ref01_First_L1 a0) (XH_ref01_First_L1 a0) sa r := by
  unfold F_ref01_First_L1 at h
  by_cases ha1 : sa < ((a0).length : Int)
  · replace h := ite_t h ha1
    obtain ⟨ta2, ha2, h⟩ := bnd_of h
    by_cases ha3 : ta2 = 0
    · replace h := ite_t h ha3
      obtain ⟨ha4, h⟩ := grd_of h
      replace h := Option.some.inj h
      subst h
      exact ⟨100, 2, [.br true, .el (enc_i ta2), .br false], [], [0, 3], [], round_fr (allC ha4 (allC (nef ha3) (allC (el_ok un_i_ok ha2).1 (allC (el_ok un_i_ok ha2).2 (allC (decide_eq_true ha1) allN))))) (by kernel_rfl)⟩
    · replace h := ite_f h ha3
      replace h := Option.some.inj h
      subst h
      exact ⟨⟨100, 2, [.br true, .el (enc_i ta2), .br true, .el (enc_i ta2)], [], [2], [], round_fr (allC (el_ok un_i_ok ha2).1 (allC (el_ok un_i_ok ha2).2 (allC (net ha3) (allC (el_ok un_i_ok ha2).1 (allC (el_ok un_i_ok ha2).2 (allC (decide_eq_true ha1) allN)))))) (by kernel_rfl)⟩, nofun⟩
  · replace h := ite_f h ha1
    replace h := Option.some.inj h
    subst h
    exact ⟨⟨100, 2, [.br false], [], [], [], round_fr (allC (decide_eq_false ha1) allN) (by kernel_rfl)⟩, nofun⟩
/- spillage/spillageref01.First: .lst false 1 a0 -/
def F_ref01_First (n : Nat) (a0 : List D) : Option (Int) :=
  (loopF (F_ref01_First_L1 n a0) n 0).bind fun t1 => match t1 with
    | (.inl t1) => (
      some t1)
    | (.inr t1) => (
      some 0)
theorem c_ref01_First {n : Nat} {a0 : List D} {r : Int} (h : F_ref01_First n a0 = some r) : Computes cx 101 [.lst false 1 a0] (I r) := by
  unfold F_ref01_First at h
  obtain ⟨t1, h1, h⟩ := bnd_of h
  rcases t1 with t1 | t1
  · replace h := Option.some.inj h
    subst h
    exact run_fr (n := 100) (orc := [.lp [] [0, 3] [] .ret [(2, .d (I t1))] [] 27]) (allC (loopF_to R_ref01_First_L1 h1) allN) (by kernel_rfl)
  · replace h := Option.some.inj h
    subst h
    exact run_fr (n := 100) (orc := [.lp [] [0, 3] [] (.exit 0) [] [] 27]) (allC (loopF_to R_ref01_First_L1 h1) allN) (by kernel_rfl)
/- spillage/spillageref04.checkParts: .agg [I a0, I a1, I a2], I a3 -/
def F_ref04_checkParts (n : Nat) (a0 : Int) (a1 : Int) (a2 : Int) (a3 : Int) : Option (Int) :=
  if inI64 (0 - a3) then
  (F_ref01_CheckRange n a0 (0 - a3) a3).bind fun t2 =>
  (F_ref01_CheckRange n a1 (0 - a3) a3).bind fun t3 =>
  (F_ref01_CheckRange n a2 (0 - a3) a3).bind fun t4 =>
  (F_ref01_First n ([I t2, I t3, I t4])).bind fun t5 =>
  some t5
  else none
theorem c_ref04_checkParts {n : Nat} {a0 : Int} {a1 : Int} {a2 : Int} {a3 : Int} {r : Int} (h : F_ref04_checkParts n a0 a1 a2 a3 = some r) : Computes cx 103 [.agg [I a0, I a1, I a2], I a3] (I r) := by
  unfold F_ref04_checkParts at h
  obtain ⟨h1, h⟩ := grd_of h
  obtain ⟨t2, h2, h⟩ := bnd_of h
  obtain ⟨t3, h3, h⟩ := bnd_of h
  obtain ⟨t4, h4, h⟩ := bnd_of h
  obtain ⟨t5, h5, h⟩ := bnd_of h
  replace h := Option.some.inj h
  subst h
  exact run_fr (n := 100) (orc := [.ret (I t2), .ret (I t3), .ret (I t4), .ret (I t5)]) (allC (((c_ref01_First h5).le (.cons (.full _ _ _) (.nil)) (.refl _)) : Computes cx 101 [.lst true 1 [I t2, I t3, I t4]] (I t5)) (allC (c_ref01_CheckRange h4) (allC h1 (allC (c_ref01_CheckRange h3) (allC h1 (allC (c_ref01_CheckRange h2) (allC h1 allN))))))) (by kernel_rfl)
/- spillage/spillageref04.Cross: .agg [I a0, I a1, I a2], .agg [I a3, I a4, I a5] -/
def F_ref04_Cross (n : Nat) (a0 : Int) (a1 : Int) (a2 : Int) (a3 : Int) (a4 : Int) (a5 : Int) : Option (Int × Int × Int) :=
  if inI64 (a1 * a5) then
  if inI64 (a2 * a4) then
  if inI64 ((a1 * a5) - (a2 * a4)) then
  if inI64 (a2 * a3) then
  if inI64 (a0 * a5) then
  if inI64 ((a2 * a3) - (a0 * a5)) then
  if inI64 (a0 * a4) then
  if inI64 (a1 * a3) then
  if inI64 ((a0 * a4) - (a1 * a3)) then
  some (((a1 * a5) - (a2 * a4)), ((a2 * a3) - (a0 * a5)), ((a0 * a4) - (a1 * a3)))
  else none
  else none
  else none
  else none
  else none
  else none
  else none
  else none
  else none
theorem c_ref04_Cross {n : Nat} {a0 : Int} {a1 : Int} {a2 : Int} {a3 : Int} {a4 : Int} {a5 : Int} {r : Int × Int × Int} (h : F_ref04_Cross n a0 a1 a2 a3 a4 a5 = some r) : Computes cx 105 [.agg [I a0, I a1, I a2], .agg [I a3, I a4, I a5]] (.agg [I r.1, I r.2.1, I r.2.2]) := by
  unfold F_ref04_Cross at h
  obtain ⟨h1, h⟩ := grd_of h
  obtain ⟨h2, h⟩ := grd_of h
  obtain ⟨h3, h⟩ := grd_of h
  obtain ⟨h4, h⟩ := grd_of h
  obtain ⟨h5, h⟩ := grd_of h
  obtain ⟨h6, h⟩ := grd_of h
  obtain ⟨h7, h⟩ := grd_of h
  obtain ⟨h8, h⟩ := grd_of h
  obtain ⟨h9, h⟩ := grd_of h
  replace h := Option.some.inj h
  subst h
  exact run_fr (n := 100) (orc := []) (allC h9 (allC h8 (allC h7 (allC h6 (allC h5 (allC h4 (allC h3 (allC h2 (allC h1 allN))))))))) (by kernel_rfl)
/- spillage/spillageref04.CheckMirror: .agg [.v (.string a0), I a1, I a2, I a3, I a4, I a5, I a6, I a7, I a8, I a9] -/
def F_ref04_CheckMirror (n : Nat) (a0 : ByteArray) (a1 : Int) (a2 : Int) (a3 : Int) (a4 : Int) (a5 : Int) (a6 : Int) (a7 : Int) (a8 : Int) (a9 : Int) : Option (Int) :=
  (F_ref01_CheckName n a0).bind fun t1 =>
  (F_ref04_checkParts n a1 a2 a3 4096).bind fun t2 =>
  (F_ref04_checkParts n a4 a5 a6 64).bind fun t3 =>
  (F_ref04_checkParts n a7 a8 a9 64).bind fun t4 =>
  (F_ref01_First n ([I t1, I t2, I t3, I t4])).bind fun t5 =>
  if t5 = 0 then
    (F_ref04_Cross n a4 a5 a6 a7 a8 a9).bind fun t7 =>
    (F_ref01_When n ((t7.1 == 0) && ((t7.2.1 == 0) && ((t7.2.2 == 0) && true))) 17).bind fun t8 =>
    some t8
  else
  some t5
theorem c_ref04_CheckMirror {n : Nat} {a0 : ByteArray} {a1 : Int} {a2 : Int} {a3 : Int} {a4 : Int} {a5 : Int} {a6 : Int} {a7 : Int} {a8 : Int} {a9 : Int} {r : Int} (h : F_ref04_CheckMirror n a0 a1 a2 a3 a4 a5 a6 a7 a8 a9 = some r) : Computes cx 46 [.agg [.v (.string a0), I a1, I a2, I a3, I a4, I a5, I a6, I a7, I a8, I a9]] (I r) := by
  unfold F_ref04_CheckMirror at h
  obtain ⟨t1, h1, h⟩ := bnd_of h
  obtain ⟨t2, h2, h⟩ := bnd_of h
  obtain ⟨t3, h3, h⟩ := bnd_of h
  obtain ⟨t4, h4, h⟩ := bnd_of h
  obtain ⟨t5, h5, h⟩ := bnd_of h
  by_cases h6 : t5 = 0
  · replace h := ite_t h h6
    obtain ⟨t7, h7, h⟩ := bnd_of h
    obtain ⟨t8, h8, h⟩ := bnd_of h
    replace h := Option.some.inj h
    subst h
    exact run_fr (n := 100) (orc := [.ret (I t1), .ret (I t2), .ret (I t3), .ret (I t4), .ret (I t5), .br false, .ret (.agg [I t7.1, I t7.2.1, I t7.2.2]), .ret (I t8)]) (allC (c_ref01_When h8) (allC (c_ref04_Cross h7) (allC (nef h6) (allC (((c_ref01_First h5).le (.cons (.full _ _ _) (.nil)) (.refl _)) : Computes cx 101 [.lst true 1 [I t1, I t2, I t3, I t4]] (I t5)) (allC (c_ref04_checkParts h4) (allC (c_ref04_checkParts h3) (allC (c_ref04_checkParts h2) (allC (c_ref01_CheckName h1) allN)))))))) (by kernel_rfl)
  · replace h := ite_f h h6
    replace h := Option.some.inj h
    subst h
    exact run_fr (n := 100) (orc := [.ret (I t1), .ret (I t2), .ret (I t3), .ret (I t4), .ret (I t5), .br true]) (allC (net h6) (allC (((c_ref01_First h5).le (.cons (.full _ _ _) (.nil)) (.refl _)) : Computes cx 101 [.lst true 1 [I t1, I t2, I t3, I t4]] (I t5)) (allC (c_ref04_checkParts h4) (allC (c_ref04_checkParts h3) (allC (c_ref04_checkParts h2) (allC (c_ref01_CheckName h1) allN)))))) (by kernel_rfl)
def F_ref04_CheckMirrors_L1 (n : Nat) (a0 : List D) (sa : Int) (sb : (Int)) : Option (((Int)) ⊕ ((Unit) ⊕ (Unit))) :=
  if sb < sa then
    (el un_Asi9Z a0 sb).bind fun tb2 =>
    (el un_Asi9Z a0 sa).bind fun tb3 =>
    if (tb2.1.toList == tb3.1.toList) = true then
      some (.inr (.inl ()))
    else
    if inI64 (sb + 1) then
    some (.inl (sb + 1))
    else none
  else
  some (.inr (.inr ()))
noncomputable def T_ref04_CheckMirrors_L1 (a0 : List D) (sa : Int) (sb : (Int)) : List (Nat × AV) := [(0, .d (.lst false 10 a0)), (3, .d (I sa)), (5, .d (I sb))]
noncomputable def H_ref04_CheckMirrors_L1 (a0 : List D) (sa : Int) (sb : (Int)) : List (Nat × Blk) := []
noncomputable def X_ref04_CheckMirrors_L1 (a0 : List D) (sa : Int) (e : (Unit) ⊕ (Unit)) : Ex := match e with
  | (.inl e) => .ret
  | (.inr e) => (.exit 2)
noncomputable def XT_ref04_CheckMirrors_L1 (a0 : List D) (sa : Int) (e : (Unit) ⊕ (Unit)) : List (Nat × AV) := match e with
  | (.inl e) => [(2, .d (I 9))]
  | (.inr e) => [(0, .d (.lst false 10 a0)), (3, .d (I sa))]
noncomputable def XH_ref04_CheckMirrors_L1 (a0 : List D) (sa : Int) (e : (Unit) ⊕ (Unit)) : List (Nat × Blk) := match e with
  | (.inl e) => []
  | (.inr e) => []
theorem R_ref04_CheckMirrors_L1 {n : Nat} {a0 : List D} {sa : Int} (sb : (Int)) (r) (h : F_ref04_CheckMirrors_L1 n a0 sa sb = some r) : Rd cx (loopAt cx.P 10 1) 39 0 false (T_ref04_CheckMirrors_L1 a0 sa) (H_ref04_CheckMirrors_L1 a0 sa) (X_ref04_CheckMirrors_L1 a0 sa) (XT_ref04_CheckMirrors_L1 a0 sa) (XH_ref04_CheckMirrors_L1 a0 sa) sb r := by
  unfold F_ref04_CheckMirrors_L1 at h
  by_cases hb1 : sb < sa
  · replace h := ite_t h hb1
    obtain ⟨tb2, hb2, h⟩ := bnd_of h
    obtain ⟨tb3, hb3, h⟩ := bnd_of h
    by_cases hb4 : (tb2.1.toList == tb3.1.toList) = true
    · replace h := ite_t h hb4
      replace h := Option.some.inj h
      subst h
      exact ⟨⟨100, 18, [.br true, .el (enc_Asi9Z tb2), .el (enc_Asi9Z tb3), .br true], [], [2], [], round_fr (allC hb4 (allC (el_ok un_Asi9Z_ok hb3).1 (allC (el_ok un_Asi9Z_ok hb3).2 (allC (el_ok un_Asi9Z_ok hb2).1 (allC (el_ok un_Asi9Z_ok hb2).2 (allC (decide_eq_true hb1) allN)))))) (by kernel_rfl)⟩, nofun⟩
    · replace h := ite_f h hb4
      obtain ⟨hb5, h⟩ := grd_of h
      replace h := Option.some.inj h
      subst h
      exact ⟨100, 18, [.br true, .el (enc_Asi9Z tb2), .el (enc_Asi9Z tb3), .br false], [], [0, 3, 5], [], round_fr (allC hb5 (allC (bfalse hb4) (allC (el_ok un_Asi9Z_ok hb3).1 (allC (el_ok un_Asi9Z_ok hb3).2 (allC (el_ok un_Asi9Z_ok hb2).1 (allC (el_ok un_Asi9Z_ok hb2).2 (allC (decide_eq_true hb1) allN))))))) (by kernel_rfl)⟩
  · replace h := ite_f h hb1
    replace h := Option.some.inj h
    subst h
    exact ⟨⟨100, 18, [.br false], [], [0, 3], [], round_fr (allC (decide_eq_false hb1) allN) (by kernel_rfl)⟩, nofun⟩
end Go.Proofs.YtclmbhokfhjnoaaGreatDoor
