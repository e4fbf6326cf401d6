/-
  Printed by gsx.py: functions of the program as Lean functions, and that the code computes them.
-/
import Derived.Test.YtiogobiijlaalaaDoorGen1
set_option linter.unusedVariables false
set_option linter.unusedSimpArgs false
set_option linter.unnecessarySimpa false
set_option maxRecDepth 10000
namespace Go.Proofs.YtiogobiijlaalaaDoor
open Go.SX
def F_ref01_IsName_L1 (n : Nat) (a0 : ByteArray) (sa : (Int)) : Option (((Int)) ⊕ ((Unit) ⊕ (Unit))) :=
  if sa < (a0.size : Int) then
    (strAt a0 sa).bind fun ta2 =>
    if ta2 ≥ 97 then
      if ta2 ≤ 122 then
        if ta2 ≥ 48 then
          if ta2 ≤ 57 then
            if inI64 (sa + 1) then
            some (.inl (sa + 1))
            else none
          else
          if inI64 (sa + 1) then
          some (.inl (sa + 1))
          else none
        else
        if inI64 (sa + 1) then
        some (.inl (sa + 1))
        else none
      else
      if ta2 ≥ 65 then
        if ta2 ≥ 48 then
          if ta2 ≤ 57 then
            if ta2 ≤ 90 then
              if inI64 (sa + 1) then
              some (.inl (sa + 1))
              else none
            else
            if sa = 0 then
              some (.inr (.inl ()))
            else
            if inI64 (sa + 1) then
            some (.inl (sa + 1))
            else none
          else
          if ta2 ≤ 90 then
            if inI64 (sa + 1) then
            some (.inl (sa + 1))
            else none
          else
          if sa = 0 then
            some (.inr (.inl ()))
          else
          if ta2 = 95 then
            if inI64 (sa + 1) then
            some (.inl (sa + 1))
            else none
          else
          some (.inr (.inl ()))
        else
        if ta2 ≤ 90 then
          if inI64 (sa + 1) then
          some (.inl (sa + 1))
          else none
        else
        if sa = 0 then
          some (.inr (.inl ()))
        else
        if ta2 = 95 then
          if inI64 (sa + 1) then
          some (.inl (sa + 1))
          else none
        else
        some (.inr (.inl ()))
      else
      if ta2 ≥ 48 then
        if ta2 ≤ 57 then
          if sa = 0 then
            some (.inr (.inl ()))
          else
          if inI64 (sa + 1) then
          some (.inl (sa + 1))
          else none
        else
        if sa = 0 then
          some (.inr (.inl ()))
        else
        if ta2 = 95 then
          if inI64 (sa + 1) then
          some (.inl (sa + 1))
          else none
        else
        some (.inr (.inl ()))
      else
      if sa = 0 then
        some (.inr (.inl ()))
      else
      if ta2 = 95 then
        if inI64 (sa + 1) then
        some (.inl (sa + 1))
        else none
      else
      some (.inr (.inl ()))
    else
    if ta2 ≥ 65 then
      if ta2 ≥ 48 then
        if ta2 ≤ 57 then
          if ta2 ≤ 90 then
            if inI64 (sa + 1) then
            some (.inl (sa + 1))
            else none
          else
          if sa = 0 then
            some (.inr (.inl ()))
          else
          if inI64 (sa + 1) then
          some (.inl (sa + 1))
          else none
        else
        if ta2 ≤ 90 then
          if inI64 (sa + 1) then
          some (.inl (sa + 1))
          else none
        else
        if sa = 0 then
          some (.inr (.inl ()))
        else
        if ta2 = 95 then
          if inI64 (sa + 1) then
          some (.inl (sa + 1))
          else none
        else
        some (.inr (.inl ()))
      else
      if ta2 ≤ 90 then
        if inI64 (sa + 1) then
        some (.inl (sa + 1))
        else none
      else
      if sa = 0 then
        some (.inr (.inl ()))
      else
      if ta2 = 95 then
        if inI64 (sa + 1) then
        some (.inl (sa + 1))
        else none
      else
      some (.inr (.inl ()))
    else
    if ta2 ≥ 48 then
      if ta2 ≤ 57 then
        if sa = 0 then
          some (.inr (.inl ()))
        else
        if inI64 (sa + 1) then
        some (.inl (sa + 1))
        else none
      else
      if sa = 0 then
        some (.inr (.inl ()))
      else
      if ta2 = 95 then
        if inI64 (sa + 1) then
        some (.inl (sa + 1))
        else none
      else
      some (.inr (.inl ()))
    else
    if sa = 0 then
      some (.inr (.inl ()))
    else
    if ta2 = 95 then
      if inI64 (sa + 1) then
      some (.inl (sa + 1))
      else none
    else
    some (.inr (.inl ()))
  else
  some (.inr (.inr ()))
noncomputable def T_ref01_IsName_L1 (a0 : ByteArray) (sa : (Int)) : List (Nat × AV) := [(0, .d (.v (.string a0))), (3, .d (I sa))]
noncomputable def H_ref01_IsName_L1 (a0 : ByteArray) (sa : (Int)) : List (Nat × Blk) := []
noncomputable def X_ref01_IsName_L1 (a0 : ByteArray) (e : (Unit) ⊕ (Unit)) : Ex := match e with
  | (.inl e) => .ret
  | (.inr e) => (.exit 0)
noncomputable def XT_ref01_IsName_L1 (a0 : ByteArray) (e : (Unit) ⊕ (Unit)) : List (Nat × AV) := match e with
  | (.inl e) => [(2, .d (B false))]
  | (.inr e) => []
noncomputable def XH_ref01_IsName_L1 (a0 : ByteArray) (e : (Unit) ⊕ (Unit)) : List (Nat × Blk) := match e with
  | (.inl e) => []
  | (.inr e) => []
theorem R_ref01_IsName_L1 {n : Nat} {a0 : ByteArray} (sa : (Int)) (r) (h : F_ref01_IsName_L1 n a0 sa = some r) : Rd cx (loopAt cx.P 82 0) 67 0 false (T_ref01_IsName_L1 a0) (H_ref01_IsName_L1 a0) (X_ref01_IsName_L1 a0) (XT_ref01_IsName_L1 a0) (XH_ref01_IsName_L1 a0) sa r := by
  unfold F_ref01_IsName_L1 at h
  by_cases ha1 : sa < (a0.size : Int)
  · replace h := ite_t h ha1
    obtain ⟨ta2, ha2, h⟩ := bnd_of h
    by_cases ha3 : ta2 ≥ 97
    · replace h := ite_t h ha3
      by_cases ha4 : ta2 ≤ 122
      · replace h := ite_t h ha4
        by_cases ha5 : ta2 ≥ 48
        · replace h := ite_t h ha5
          by_cases ha6 : ta2 ≤ 57
          · replace h := ite_t h ha6
            obtain ⟨ha7, h⟩ := grd_of h
            replace h := Option.some.inj h
            subst h
            exact ⟨100, 9, [.br true, .el (.v (.int .u8 ta2)), .br true, .el (.v (.int .u8 ta2)), .br true, .el (.v (.int .u8 ta2)), .br true, .el (.v (.int .u8 ta2)), .br true, .no, .no], [], [0, 3], [], round_of (ob := [inI64 (sa + 1), (decide (ta2 ≤ 57)) = true, pureRun cx.P (Instr.index 9 (.string a0) (.int .i64 sa)) = some (.int .u8 ta2), (decide (ta2 ≥ 48)) = true, pureRun cx.P (Instr.index 9 (.string a0) (.int .i64 sa)) = some (.int .u8 ta2), (decide (ta2 ≤ 122)) = true, pureRun cx.P (Instr.index 9 (.string a0) (.int .i64 sa)) = some (.int .u8 ta2), (decide (ta2 ≥ 97)) = true, pureRun cx.P (Instr.index 9 (.string a0) (.int .i64 sa)) = some (.int .u8 ta2), (decide (sa < (a0.size : Int))) = true]) (by kernel_rfl) ⟨ha7, (decide_eq_true ha6), strAt_ok ha2, (decide_eq_true ha5), strAt_ok ha2, (decide_eq_true ha4), strAt_ok ha2, (decide_eq_true ha3), strAt_ok ha2, (decide_eq_true ha1), trivial⟩⟩
          · replace h := ite_f h ha6
            obtain ⟨ha7, h⟩ := grd_of h
            replace h := Option.some.inj h
            subst h
            exact ⟨100, 9, [.br true, .el (.v (.int .u8 ta2)), .br true, .el (.v (.int .u8 ta2)), .br true, .el (.v (.int .u8 ta2)), .br true, .el (.v (.int .u8 ta2)), .br false, .el (.v (.int .u8 ta2)), .no, .no], [], [0, 3], [], round_of (ob := [inI64 (sa + 1), pureRun cx.P (Instr.index 9 (.string a0) (.int .i64 sa)) = some (.int .u8 ta2), (decide (ta2 ≤ 57)) = false, pureRun cx.P (Instr.index 9 (.string a0) (.int .i64 sa)) = some (.int .u8 ta2), (decide (ta2 ≥ 48)) = true, pureRun cx.P (Instr.index 9 (.string a0) (.int .i64 sa)) = some (.int .u8 ta2), (decide (ta2 ≤ 122)) = true, pureRun cx.P (Instr.index 9 (.string a0) (.int .i64 sa)) = some (.int .u8 ta2), (decide (ta2 ≥ 97)) = true, pureRun cx.P (Instr.index 9 (.string a0) (.int .i64 sa)) = some (.int .u8 ta2), (decide (sa < (a0.size : Int))) = true]) (by kernel_rfl) ⟨ha7, strAt_ok ha2, (decide_eq_false ha6), strAt_ok ha2, (decide_eq_true ha5), strAt_ok ha2, (decide_eq_true ha4), strAt_ok ha2, (decide_eq_true ha3), strAt_ok ha2, (decide_eq_true ha1), trivial⟩⟩
        · replace h := ite_f h ha5
          obtain ⟨ha6, h⟩ := grd_of h
          replace h := Option.some.inj h
          subst h
          exact ⟨100, 9, [.br true, .el (.v (.int .u8 ta2)), .br true, .el (.v (.int .u8 ta2)), .br true, .el (.v (.int .u8 ta2)), .br false, .no, .el (.v (.int .u8 ta2)), .no, .no], [], [0, 3], [], round_of (ob := [inI64 (sa + 1), pureRun cx.P (Instr.index 9 (.string a0) (.int .i64 sa)) = some (.int .u8 ta2), (decide (ta2 ≥ 48)) = false, pureRun cx.P (Instr.index 9 (.string a0) (.int .i64 sa)) = some (.int .u8 ta2), (decide (ta2 ≤ 122)) = true, pureRun cx.P (Instr.index 9 (.string a0) (.int .i64 sa)) = some (.int .u8 ta2), (decide (ta2 ≥ 97)) = true, pureRun cx.P (Instr.index 9 (.string a0) (.int .i64 sa)) = some (.int .u8 ta2), (decide (sa < (a0.size : Int))) = true]) (by kernel_rfl) ⟨ha6, strAt_ok ha2, (decide_eq_false ha5), strAt_ok ha2, (decide_eq_true ha4), strAt_ok ha2, (decide_eq_true ha3), strAt_ok ha2, (decide_eq_true ha1), trivial⟩⟩
      · replace h := ite_f h ha4
        by_cases ha5 : ta2 ≥ 65
        · replace h := ite_t h ha5
          by_cases ha6 : ta2 ≥ 48
          · replace h := ite_t h ha6
            by_cases ha7 : ta2 ≤ 57
            · replace h := ite_t h ha7
              by_cases ha8 : ta2 ≤ 90
              · replace h := ite_t h ha8
                obtain ⟨ha9, h⟩ := grd_of h
                replace h := Option.some.inj h
                subst h
                exact ⟨100, 9, [.br true, .el (.v (.int .u8 ta2)), .br true, .el (.v (.int .u8 ta2)), .br false, .el (.v (.int .u8 ta2)), .br true, .el (.v (.int .u8 ta2)), .el (.v (.int .u8 ta2)), .br true, .el (.v (.int .u8 ta2)), .br true, .br false, .no], [], [0, 3], [], round_of (ob := [inI64 (sa + 1), (!(decide (ta2 ≤ 90))) = false, (decide (ta2 ≤ 57)) = true, pureRun cx.P (Instr.index 9 (.string a0) (.int .i64 sa)) = some (.int .u8 ta2), (decide (ta2 ≥ 48)) = true, pureRun cx.P (Instr.index 9 (.string a0) (.int .i64 sa)) = some (.int .u8 ta2), pureRun cx.P (Instr.index 9 (.string a0) (.int .i64 sa)) = some (.int .u8 ta2), (decide (ta2 ≥ 65)) = true, pureRun cx.P (Instr.index 9 (.string a0) (.int .i64 sa)) = some (.int .u8 ta2), (decide (ta2 ≤ 122)) = false, pureRun cx.P (Instr.index 9 (.string a0) (.int .i64 sa)) = some (.int .u8 ta2), (decide (ta2 ≥ 97)) = true, pureRun cx.P (Instr.index 9 (.string a0) (.int .i64 sa)) = some (.int .u8 ta2), (decide (sa < (a0.size : Int))) = true]) (by kernel_rfl) ⟨ha9, (notf (decide_eq_true ha8)), (decide_eq_true ha7), strAt_ok ha2, (decide_eq_true ha6), strAt_ok ha2, strAt_ok ha2, (decide_eq_true ha5), strAt_ok ha2, (decide_eq_false ha4), strAt_ok ha2, (decide_eq_true ha3), strAt_ok ha2, (decide_eq_true ha1), trivial⟩⟩
              · replace h := ite_f h ha8
                by_cases ha9 : sa = 0
                · replace h := ite_t h ha9
                  replace h := Option.some.inj h
                  subst h
                  exact ⟨⟨100, 9, [.br true, .el (.v (.int .u8 ta2)), .br true, .el (.v (.int .u8 ta2)), .br false, .el (.v (.int .u8 ta2)), .br true, .el (.v (.int .u8 ta2)), .el (.v (.int .u8 ta2)), .br true, .el (.v (.int .u8 ta2)), .br true, .br true, .br true, .no], [], [2], [], round_of (ob := [(sa == 0) = true, (!(decide (ta2 ≤ 90))) = true, (decide (ta2 ≤ 57)) = true, pureRun cx.P (Instr.index 9 (.string a0) (.int .i64 sa)) = some (.int .u8 ta2), (decide (ta2 ≥ 48)) = true, pureRun cx.P (Instr.index 9 (.string a0) (.int .i64 sa)) = some (.int .u8 ta2), pureRun cx.P (Instr.index 9 (.string a0) (.int .i64 sa)) = some (.int .u8 ta2), (decide (ta2 ≥ 65)) = true, pureRun cx.P (Instr.index 9 (.string a0) (.int .i64 sa)) = some (.int .u8 ta2), (decide (ta2 ≤ 122)) = false, pureRun cx.P (Instr.index 9 (.string a0) (.int .i64 sa)) = some (.int .u8 ta2), (decide (ta2 ≥ 97)) = true, pureRun cx.P (Instr.index 9 (.string a0) (.int .i64 sa)) = some (.int .u8 ta2), (decide (sa < (a0.size : Int))) = true]) (by kernel_rfl) ⟨(eqt ha9), (nott (decide_eq_false ha8)), (decide_eq_true ha7), strAt_ok ha2, (decide_eq_true ha6), strAt_ok ha2, strAt_ok ha2, (decide_eq_true ha5), strAt_ok ha2, (decide_eq_false ha4), strAt_ok ha2, (decide_eq_true ha3), strAt_ok ha2, (decide_eq_true ha1), trivial⟩⟩, nofun⟩
                · replace h := ite_f h ha9
                  obtain ⟨ha10, h⟩ := grd_of h
                  replace h := Option.some.inj h
                  subst h
                  exact ⟨100, 9, [.br true, .el (.v (.int .u8 ta2)), .br true, .el (.v (.int .u8 ta2)), .br false, .el (.v (.int .u8 ta2)), .br true, .el (.v (.int .u8 ta2)), .el (.v (.int .u8 ta2)), .br true, .el (.v (.int .u8 ta2)), .br true, .br true, .br false, .no], [], [0, 3], [], round_of (ob := [inI64 (sa + 1), (sa == 0) = false, (!(decide (ta2 ≤ 90))) = true, (decide (ta2 ≤ 57)) = true, pureRun cx.P (Instr.index 9 (.string a0) (.int .i64 sa)) = some (.int .u8 ta2), (decide (ta2 ≥ 48)) = true, pureRun cx.P (Instr.index 9 (.string a0) (.int .i64 sa)) = some (.int .u8 ta2), pureRun cx.P (Instr.index 9 (.string a0) (.int .i64 sa)) = some (.int .u8 ta2), (decide (ta2 ≥ 65)) = true, pureRun cx.P (Instr.index 9 (.string a0) (.int .i64 sa)) = some (.int .u8 ta2), (decide (ta2 ≤ 122)) = false, pureRun cx.P (Instr.index 9 (.string a0) (.int .i64 sa)) = some (.int .u8 ta2), (decide (ta2 ≥ 97)) = true, pureRun cx.P (Instr.index 9 (.string a0) (.int .i64 sa)) = some (.int .u8 ta2), (decide (sa < (a0.size : Int))) = true]) (by kernel_rfl) ⟨ha10, (eqf ha9), (nott (decide_eq_false ha8)), (decide_eq_true ha7), strAt_ok ha2, (decide_eq_true ha6), strAt_ok ha2, strAt_ok ha2, (decide_eq_true ha5), strAt_ok ha2, (decide_eq_false ha4), strAt_ok ha2, (decide_eq_true ha3), strAt_ok ha2, (decide_eq_true ha1), trivial⟩⟩
            · replace h := ite_f h ha7
              by_cases ha8 : ta2 ≤ 90
              · replace h := ite_t h ha8
                obtain ⟨ha9, h⟩ := grd_of h
                replace h := Option.some.inj h
                subst h
                exact ⟨100, 9, [.br true, .el (.v (.int .u8 ta2)), .br true, .el (.v (.int .u8 ta2)), .br false, .el (.v (.int .u8 ta2)), .br true, .el (.v (.int .u8 ta2)), .el (.v (.int .u8 ta2)), .br true, .el (.v (.int .u8 ta2)), .br false, .el (.v (.int .u8 ta2)), .br false, .no], [], [0, 3], [], round_of (ob := [inI64 (sa + 1), (!(decide (ta2 ≤ 90))) = false, pureRun cx.P (Instr.index 9 (.string a0) (.int .i64 sa)) = some (.int .u8 ta2), (decide (ta2 ≤ 57)) = false, pureRun cx.P (Instr.index 9 (.string a0) (.int .i64 sa)) = some (.int .u8 ta2), (decide (ta2 ≥ 48)) = true, pureRun cx.P (Instr.index 9 (.string a0) (.int .i64 sa)) = some (.int .u8 ta2), pureRun cx.P (Instr.index 9 (.string a0) (.int .i64 sa)) = some (.int .u8 ta2), (decide (ta2 ≥ 65)) = true, pureRun cx.P (Instr.index 9 (.string a0) (.int .i64 sa)) = some (.int .u8 ta2), (decide (ta2 ≤ 122)) = false, pureRun cx.P (Instr.index 9 (.string a0) (.int .i64 sa)) = some (.int .u8 ta2), (decide (ta2 ≥ 97)) = true, pureRun cx.P (Instr.index 9 (.string a0) (.int .i64 sa)) = some (.int .u8 ta2), (decide (sa < (a0.size : Int))) = true]) (by kernel_rfl) ⟨ha9, (notf (decide_eq_true ha8)), strAt_ok ha2, (decide_eq_false ha7), strAt_ok ha2, (decide_eq_true ha6), strAt_ok ha2, strAt_ok ha2, (decide_eq_true ha5), strAt_ok ha2, (decide_eq_false ha4), strAt_ok ha2, (decide_eq_true ha3), strAt_ok ha2, (decide_eq_true ha1), trivial⟩⟩
              · replace h := ite_f h ha8
                by_cases ha9 : sa = 0
                · replace h := ite_t h ha9
                  replace h := Option.some.inj h
                  subst h
                  exact ⟨⟨100, 9, [.br true, .el (.v (.int .u8 ta2)), .br true, .el (.v (.int .u8 ta2)), .br false, .el (.v (.int .u8 ta2)), .br true, .el (.v (.int .u8 ta2)), .el (.v (.int .u8 ta2)), .br true, .el (.v (.int .u8 ta2)), .br false, .el (.v (.int .u8 ta2)), .br true, .br true, .no], [], [2], [], round_of (ob := [(sa == 0) = true, (!(decide (ta2 ≤ 90))) = true, pureRun cx.P (Instr.index 9 (.string a0) (.int .i64 sa)) = some (.int .u8 ta2), (decide (ta2 ≤ 57)) = false, pureRun cx.P (Instr.index 9 (.string a0) (.int .i64 sa)) = some (.int .u8 ta2), (decide (ta2 ≥ 48)) = true, pureRun cx.P (Instr.index 9 (.string a0) (.int .i64 sa)) = some (.int .u8 ta2), pureRun cx.P (Instr.index 9 (.string a0) (.int .i64 sa)) = some (.int .u8 ta2), (decide (ta2 ≥ 65)) = true, pureRun cx.P (Instr.index 9 (.string a0) (.int .i64 sa)) = some (.int .u8 ta2), (decide (ta2 ≤ 122)) = false, pureRun cx.P (Instr.index 9 (.string a0) (.int .i64 sa)) = some (.int .u8 ta2), (decide (ta2 ≥ 97)) = true, pureRun cx.P (Instr.index 9 (.string a0) (.int .i64 sa)) = some (.int .u8 ta2), (decide (sa < (a0.size : Int))) = true]) (by kernel_rfl) ⟨(eqt ha9), (nott (decide_eq_false ha8)), strAt_ok ha2, (decide_eq_false ha7), strAt_ok ha2, (decide_eq_true ha6), strAt_ok ha2, strAt_ok ha2, (decide_eq_true ha5), strAt_ok ha2, (decide_eq_false ha4), strAt_ok ha2, (decide_eq_true ha3), strAt_ok ha2, (decide_eq_true ha1), trivial⟩⟩, nofun⟩
                · replace h := ite_f h ha9
                  by_cases ha10 : ta2 = 95
                  · replace h := ite_t h ha10
                    obtain ⟨ha11, h⟩ := grd_of h
                    replace h := Option.some.inj h
                    subst h
                    exact ⟨100, 9, [.br true, .el (.v (.int .u8 ta2)), .br true, .el (.v (.int .u8 ta2)), .br false, .el (.v (.int .u8 ta2)), .br true, .el (.v (.int .u8 ta2)), .el (.v (.int .u8 ta2)), .br true, .el (.v (.int .u8 ta2)), .br false, .el (.v (.int .u8 ta2)), .br true, .br false, .br false], [], [0, 3], [], round_of (ob := [inI64 (sa + 1), (!(ta2 == 95)) = false, (sa == 0) = false, (!(decide (ta2 ≤ 90))) = true, pureRun cx.P (Instr.index 9 (.string a0) (.int .i64 sa)) = some (.int .u8 ta2), (decide (ta2 ≤ 57)) = false, pureRun cx.P (Instr.index 9 (.string a0) (.int .i64 sa)) = some (.int .u8 ta2), (decide (ta2 ≥ 48)) = true, pureRun cx.P (Instr.index 9 (.string a0) (.int .i64 sa)) = some (.int .u8 ta2), pureRun cx.P (Instr.index 9 (.string a0) (.int .i64 sa)) = some (.int .u8 ta2), (decide (ta2 ≥ 65)) = true, pureRun cx.P (Instr.index 9 (.string a0) (.int .i64 sa)) = some (.int .u8 ta2), (decide (ta2 ≤ 122)) = false, pureRun cx.P (Instr.index 9 (.string a0) (.int .i64 sa)) = some (.int .u8 ta2), (decide (ta2 ≥ 97)) = true, pureRun cx.P (Instr.index 9 (.string a0) (.int .i64 sa)) = some (.int .u8 ta2), (decide (sa < (a0.size : Int))) = true]) (by kernel_rfl) ⟨ha11, (notf (eqt ha10)), (eqf ha9), (nott (decide_eq_false ha8)), strAt_ok ha2, (decide_eq_false ha7), strAt_ok ha2, (decide_eq_true ha6), strAt_ok ha2, strAt_ok ha2, (decide_eq_true ha5), strAt_ok ha2, (decide_eq_false ha4), strAt_ok ha2, (decide_eq_true ha3), strAt_ok ha2, (decide_eq_true ha1), trivial⟩⟩
                  · replace h := ite_f h ha10
                    replace h := Option.some.inj h
                    subst h
                    exact ⟨⟨100, 9, [.br true, .el (.v (.int .u8 ta2)), .br true, .el (.v (.int .u8 ta2)), .br false, .el (.v (.int .u8 ta2)), .br true, .el (.v (.int .u8 ta2)), .el (.v (.int .u8 ta2)), .br true, .el (.v (.int .u8 ta2)), .br false, .el (.v (.int .u8 ta2)), .br true, .br false, .br true], [], [2], [], round_of (ob := [(!(ta2 == 95)) = true, (sa == 0) = false, (!(decide (ta2 ≤ 90))) = true, pureRun cx.P (Instr.index 9 (.string a0) (.int .i64 sa)) = some (.int .u8 ta2), (decide (ta2 ≤ 57)) = false, pureRun cx.P (Instr.index 9 (.string a0) (.int .i64 sa)) = some (.int .u8 ta2), (decide (ta2 ≥ 48)) = true, pureRun cx.P (Instr.index 9 (.string a0) (.int .i64 sa)) = some (.int .u8 ta2), pureRun cx.P (Instr.index 9 (.string a0) (.int .i64 sa)) = some (.int .u8 ta2), (decide (ta2 ≥ 65)) = true, pureRun cx.P (Instr.index 9 (.string a0) (.int .i64 sa)) = some (.int .u8 ta2), (decide (ta2 ≤ 122)) = false, pureRun cx.P (Instr.index 9 (.string a0) (.int .i64 sa)) = some (.int .u8 ta2), (decide (ta2 ≥ 97)) = true, pureRun cx.P (Instr.index 9 (.string a0) (.int .i64 sa)) = some (.int .u8 ta2), (decide (sa < (a0.size : Int))) = true]) (by kernel_rfl) ⟨(nott (eqf ha10)), (eqf ha9), (nott (decide_eq_false ha8)), strAt_ok ha2, (decide_eq_false ha7), strAt_ok ha2, (decide_eq_true ha6), strAt_ok ha2, strAt_ok ha2, (decide_eq_true ha5), strAt_ok ha2, (decide_eq_false ha4), strAt_ok ha2, (decide_eq_true ha3), strAt_ok ha2, (decide_eq_true ha1), trivial⟩⟩, nofun⟩
          · replace h := ite_f h ha6
            by_cases ha7 : ta2 ≤ 90
            · replace h := ite_t h ha7
              obtain ⟨ha8, h⟩ := grd_of h
              replace h := Option.some.inj h
              subst h
              exact ⟨100, 9, [.br true, .el (.v (.int .u8 ta2)), .br true, .el (.v (.int .u8 ta2)), .br false, .el (.v (.int .u8 ta2)), .br true, .el (.v (.int .u8 ta2)), .el (.v (.int .u8 ta2)), .br false, .no, .el (.v (.int .u8 ta2)), .br false, .no], [], [0, 3], [], round_of (ob := [inI64 (sa + 1), (!(decide (ta2 ≤ 90))) = false, pureRun cx.P (Instr.index 9 (.string a0) (.int .i64 sa)) = some (.int .u8 ta2), (decide (ta2 ≥ 48)) = false, pureRun cx.P (Instr.index 9 (.string a0) (.int .i64 sa)) = some (.int .u8 ta2), pureRun cx.P (Instr.index 9 (.string a0) (.int .i64 sa)) = some (.int .u8 ta2), (decide (ta2 ≥ 65)) = true, pureRun cx.P (Instr.index 9 (.string a0) (.int .i64 sa)) = some (.int .u8 ta2), (decide (ta2 ≤ 122)) = false, pureRun cx.P (Instr.index 9 (.string a0) (.int .i64 sa)) = some (.int .u8 ta2), (decide (ta2 ≥ 97)) = true, pureRun cx.P (Instr.index 9 (.string a0) (.int .i64 sa)) = some (.int .u8 ta2), (decide (sa < (a0.size : Int))) = true]) (by kernel_rfl) ⟨ha8, (notf (decide_eq_true ha7)), strAt_ok ha2, (decide_eq_false ha6), strAt_ok ha2, strAt_ok ha2, (decide_eq_true ha5), strAt_ok ha2, (decide_eq_false ha4), strAt_ok ha2, (decide_eq_true ha3), strAt_ok ha2, (decide_eq_true ha1), trivial⟩⟩
            · replace h := ite_f h ha7
              by_cases ha8 : sa = 0
              · replace h := ite_t h ha8
                replace h := Option.some.inj h
                subst h
                exact ⟨⟨100, 9, [.br true, .el (.v (.int .u8 ta2)), .br true, .el (.v (.int .u8 ta2)), .br false, .el (.v (.int .u8 ta2)), .br true, .el (.v (.int .u8 ta2)), .el (.v (.int .u8 ta2)), .br false, .no, .el (.v (.int .u8 ta2)), .br true, .br true, .no], [], [2], [], round_of (ob := [(sa == 0) = true, (!(decide (ta2 ≤ 90))) = true, pureRun cx.P (Instr.index 9 (.string a0) (.int .i64 sa)) = some (.int .u8 ta2), (decide (ta2 ≥ 48)) = false, pureRun cx.P (Instr.index 9 (.string a0) (.int .i64 sa)) = some (.int .u8 ta2), pureRun cx.P (Instr.index 9 (.string a0) (.int .i64 sa)) = some (.int .u8 ta2), (decide (ta2 ≥ 65)) = true, pureRun cx.P (Instr.index 9 (.string a0) (.int .i64 sa)) = some (.int .u8 ta2), (decide (ta2 ≤ 122)) = false, pureRun cx.P (Instr.index 9 (.string a0) (.int .i64 sa)) = some (.int .u8 ta2), (decide (ta2 ≥ 97)) = true, pureRun cx.P (Instr.index 9 (.string a0) (.int .i64 sa)) = some (.int .u8 ta2), (decide (sa < (a0.size : Int))) = true]) (by kernel_rfl) ⟨(eqt ha8), (nott (decide_eq_false ha7)), strAt_ok ha2, (decide_eq_false ha6), strAt_ok ha2, strAt_ok ha2, (decide_eq_true ha5), strAt_ok ha2, (decide_eq_false ha4), strAt_ok ha2, (decide_eq_true ha3), strAt_ok ha2, (decide_eq_true ha1), trivial⟩⟩, nofun⟩
              · replace h := ite_f h ha8
                by_cases ha9 : ta2 = 95
                · replace h := ite_t h ha9
                  obtain ⟨ha10, h⟩ := grd_of h
                  replace h := Option.some.inj h
                  subst h
                  exact ⟨100, 9, [.br true, .el (.v (.int .u8 ta2)), .br true, .el (.v (.int .u8 ta2)), .br false, .el (.v (.int .u8 ta2)), .br true, .el (.v (.int .u8 ta2)), .el (.v (.int .u8 ta2)), .br false, .no, .el (.v (.int .u8 ta2)), .br true, .br false, .br false], [], [0, 3], [], round_of (ob := [inI64 (sa + 1), (!(ta2 == 95)) = false, (sa == 0) = false, (!(decide (ta2 ≤ 90))) = true, pureRun cx.P (Instr.index 9 (.string a0) (.int .i64 sa)) = some (.int .u8 ta2), (decide (ta2 ≥ 48)) = false, pureRun cx.P (Instr.index 9 (.string a0) (.int .i64 sa)) = some (.int .u8 ta2), pureRun cx.P (Instr.index 9 (.string a0) (.int .i64 sa)) = some (.int .u8 ta2), (decide (ta2 ≥ 65)) = true, pureRun cx.P (Instr.index 9 (.string a0) (.int .i64 sa)) = some (.int .u8 ta2), (decide (ta2 ≤ 122)) = false, pureRun cx.P (Instr.index 9 (.string a0) (.int .i64 sa)) = some (.int .u8 ta2), (decide (ta2 ≥ 97)) = true, pureRun cx.P (Instr.index 9 (.string a0) (.int .i64 sa)) = some (.int .u8 ta2), (decide (sa < (a0.size : Int))) = true]) (by kernel_rfl) ⟨ha10, (notf (eqt ha9)), (eqf ha8), (nott (decide_eq_false ha7)), strAt_ok ha2, (decide_eq_false ha6), strAt_ok ha2, strAt_ok ha2, (decide_eq_true ha5), strAt_ok ha2, (decide_eq_false ha4), strAt_ok ha2, (decide_eq_true ha3), strAt_ok ha2, (decide_eq_true ha1), trivial⟩⟩
                · replace h := ite_f h ha9
                  replace h := Option.some.inj h
                  subst h
                  exact ⟨⟨100, 9, [.br true, .el (.v (.int .u8 ta2)), .br true, .el (.v (.int .u8 ta2)), .br false, .el (.v (.int .u8 ta2)), .br true, .el (.v (.int .u8 ta2)), .el (.v (.int .u8 ta2)), .br false, .no, .el (.v (.int .u8 ta2)), .br true, .br false, .br true], [], [2], [], round_of (ob := [(!(ta2 == 95)) = true, (sa == 0) = false, (!(decide (ta2 ≤ 90))) = true, pureRun cx.P (Instr.index 9 (.string a0) (.int .i64 sa)) = some (.int .u8 ta2), (decide (ta2 ≥ 48)) = false, pureRun cx.P (Instr.index 9 (.string a0) (.int .i64 sa)) = some (.int .u8 ta2), pureRun cx.P (Instr.index 9 (.string a0) (.int .i64 sa)) = some (.int .u8 ta2), (decide (ta2 ≥ 65)) = true, pureRun cx.P (Instr.index 9 (.string a0) (.int .i64 sa)) = some (.int .u8 ta2), (decide (ta2 ≤ 122)) = false, pureRun cx.P (Instr.index 9 (.string a0) (.int .i64 sa)) = some (.int .u8 ta2), (decide (ta2 ≥ 97)) = true, pureRun cx.P (Instr.index 9 (.string a0) (.int .i64 sa)) = some (.int .u8 ta2), (decide (sa < (a0.size : Int))) = true]) (by kernel_rfl) ⟨(nott (eqf ha9)), (eqf ha8), (nott (decide_eq_false ha7)), strAt_ok ha2, (decide_eq_false ha6), strAt_ok ha2, strAt_ok ha2, (decide_eq_true ha5), strAt_ok ha2, (decide_eq_false ha4), strAt_ok ha2, (decide_eq_true ha3), strAt_ok ha2, (decide_eq_true ha1), trivial⟩⟩, nofun⟩
        · replace h := ite_f h ha5
          by_cases ha6 : ta2 ≥ 48
          · replace h := ite_t h ha6
            by_cases ha7 : ta2 ≤ 57
            · replace h := ite_t h ha7
              by_cases ha8 : sa = 0
              · replace h := ite_t h ha8
                replace h := Option.some.inj h
                subst h
                exact ⟨⟨100, 9, [.br true, .el (.v (.int .u8 ta2)), .br true, .el (.v (.int .u8 ta2)), .br false, .el (.v (.int .u8 ta2)), .br false, .el (.v (.int .u8 ta2)), .br true, .el (.v (.int .u8 ta2)), .br true, .no, .br true, .no], [], [2], [], round_of (ob := [(sa == 0) = true, (decide (ta2 ≤ 57)) = true, pureRun cx.P (Instr.index 9 (.string a0) (.int .i64 sa)) = some (.int .u8 ta2), (decide (ta2 ≥ 48)) = true, pureRun cx.P (Instr.index 9 (.string a0) (.int .i64 sa)) = some (.int .u8 ta2), (decide (ta2 ≥ 65)) = false, pureRun cx.P (Instr.index 9 (.string a0) (.int .i64 sa)) = some (.int .u8 ta2), (decide (ta2 ≤ 122)) = false, pureRun cx.P (Instr.index 9 (.string a0) (.int .i64 sa)) = some (.int .u8 ta2), (decide (ta2 ≥ 97)) = true, pureRun cx.P (Instr.index 9 (.string a0) (.int .i64 sa)) = some (.int .u8 ta2), (decide (sa < (a0.size : Int))) = true]) (by kernel_rfl) ⟨(eqt ha8), (decide_eq_true ha7), strAt_ok ha2, (decide_eq_true ha6), strAt_ok ha2, (decide_eq_false ha5), strAt_ok ha2, (decide_eq_false ha4), strAt_ok ha2, (decide_eq_true ha3), strAt_ok ha2, (decide_eq_true ha1), trivial⟩⟩, nofun⟩
              · replace h := ite_f h ha8
                obtain ⟨ha9, h⟩ := grd_of h
                replace h := Option.some.inj h
                subst h
                exact ⟨100, 9, [.br true, .el (.v (.int .u8 ta2)), .br true, .el (.v (.int .u8 ta2)), .br false, .el (.v (.int .u8 ta2)), .br false, .el (.v (.int .u8 ta2)), .br true, .el (.v (.int .u8 ta2)), .br true, .no, .br false, .no], [], [0, 3], [], round_of (ob := [inI64 (sa + 1), (sa == 0) = false, (decide (ta2 ≤ 57)) = true, pureRun cx.P (Instr.index 9 (.string a0) (.int .i64 sa)) = some (.int .u8 ta2), (decide (ta2 ≥ 48)) = true, pureRun cx.P (Instr.index 9 (.string a0) (.int .i64 sa)) = some (.int .u8 ta2), (decide (ta2 ≥ 65)) = false, pureRun cx.P (Instr.index 9 (.string a0) (.int .i64 sa)) = some (.int .u8 ta2), (decide (ta2 ≤ 122)) = false, pureRun cx.P (Instr.index 9 (.string a0) (.int .i64 sa)) = some (.int .u8 ta2), (decide (ta2 ≥ 97)) = true, pureRun cx.P (Instr.index 9 (.string a0) (.int .i64 sa)) = some (.int .u8 ta2), (decide (sa < (a0.size : Int))) = true]) (by kernel_rfl) ⟨ha9, (eqf ha8), (decide_eq_true ha7), strAt_ok ha2, (decide_eq_true ha6), strAt_ok ha2, (decide_eq_false ha5), strAt_ok ha2, (decide_eq_false ha4), strAt_ok ha2, (decide_eq_true ha3), strAt_ok ha2, (decide_eq_true ha1), trivial⟩⟩
            · replace h := ite_f h ha7
              by_cases ha8 : sa = 0
              · replace h := ite_t h ha8
                replace h := Option.some.inj h
                subst h
                exact ⟨⟨100, 9, [.br true, .el (.v (.int .u8 ta2)), .br true, .el (.v (.int .u8 ta2)), .br false, .el (.v (.int .u8 ta2)), .br false, .el (.v (.int .u8 ta2)), .br true, .el (.v (.int .u8 ta2)), .br false, .el (.v (.int .u8 ta2)), .no, .br true, .no], [], [2], [], round_of (ob := [(sa == 0) = true, pureRun cx.P (Instr.index 9 (.string a0) (.int .i64 sa)) = some (.int .u8 ta2), (decide (ta2 ≤ 57)) = false, pureRun cx.P (Instr.index 9 (.string a0) (.int .i64 sa)) = some (.int .u8 ta2), (decide (ta2 ≥ 48)) = true, pureRun cx.P (Instr.index 9 (.string a0) (.int .i64 sa)) = some (.int .u8 ta2), (decide (ta2 ≥ 65)) = false, pureRun cx.P (Instr.index 9 (.string a0) (.int .i64 sa)) = some (.int .u8 ta2), (decide (ta2 ≤ 122)) = false, pureRun cx.P (Instr.index 9 (.string a0) (.int .i64 sa)) = some (.int .u8 ta2), (decide (ta2 ≥ 97)) = true, pureRun cx.P (Instr.index 9 (.string a0) (.int .i64 sa)) = some (.int .u8 ta2), (decide (sa < (a0.size : Int))) = true]) (by kernel_rfl) ⟨(eqt ha8), strAt_ok ha2, (decide_eq_false ha7), strAt_ok ha2, (decide_eq_true ha6), strAt_ok ha2, (decide_eq_false ha5), strAt_ok ha2, (decide_eq_false ha4), strAt_ok ha2, (decide_eq_true ha3), strAt_ok ha2, (decide_eq_true ha1), trivial⟩⟩, nofun⟩
              · replace h := ite_f h ha8
                by_cases ha9 : ta2 = 95
                · replace h := ite_t h ha9
                  obtain ⟨ha10, h⟩ := grd_of h
                  replace h := Option.some.inj h
                  subst h
                  exact ⟨100, 9, [.br true, .el (.v (.int .u8 ta2)), .br true, .el (.v (.int .u8 ta2)), .br false, .el (.v (.int .u8 ta2)), .br false, .el (.v (.int .u8 ta2)), .br true, .el (.v (.int .u8 ta2)), .br false, .el (.v (.int .u8 ta2)), .no, .br false, .br false], [], [0, 3], [], round_of (ob := [inI64 (sa + 1), (!(ta2 == 95)) = false, (sa == 0) = false, pureRun cx.P (Instr.index 9 (.string a0) (.int .i64 sa)) = some (.int .u8 ta2), (decide (ta2 ≤ 57)) = false, pureRun cx.P (Instr.index 9 (.string a0) (.int .i64 sa)) = some (.int .u8 ta2), (decide (ta2 ≥ 48)) = true, pureRun cx.P (Instr.index 9 (.string a0) (.int .i64 sa)) = some (.int .u8 ta2), (decide (ta2 ≥ 65)) = false, pureRun cx.P (Instr.index 9 (.string a0) (.int .i64 sa)) = some (.int .u8 ta2), (decide (ta2 ≤ 122)) = false, pureRun cx.P (Instr.index 9 (.string a0) (.int .i64 sa)) = some (.int .u8 ta2), (decide (ta2 ≥ 97)) = true, pureRun cx.P (Instr.index 9 (.string a0) (.int .i64 sa)) = some (.int .u8 ta2), (decide (sa < (a0.size : Int))) = true]) (by kernel_rfl) ⟨ha10, (notf (eqt ha9)), (eqf ha8), strAt_ok ha2, (decide_eq_false ha7), strAt_ok ha2, (decide_eq_true ha6), strAt_ok ha2, (decide_eq_false ha5), strAt_ok ha2, (decide_eq_false ha4), strAt_ok ha2, (decide_eq_true ha3), strAt_ok ha2, (decide_eq_true ha1), trivial⟩⟩
                · replace h := ite_f h ha9
                  replace h := Option.some.inj h
                  subst h
                  exact ⟨⟨100, 9, [.br true, .el (.v (.int .u8 ta2)), .br true, .el (.v (.int .u8 ta2)), .br false, .el (.v (.int .u8 ta2)), .br false, .el (.v (.int .u8 ta2)), .br true, .el (.v (.int .u8 ta2)), .br false, .el (.v (.int .u8 ta2)), .no, .br false, .br true], [], [2], [], round_of (ob := [(!(ta2 == 95)) = true, (sa == 0) = false, pureRun cx.P (Instr.index 9 (.string a0) (.int .i64 sa)) = some (.int .u8 ta2), (decide (ta2 ≤ 57)) = false, pureRun cx.P (Instr.index 9 (.string a0) (.int .i64 sa)) = some (.int .u8 ta2), (decide (ta2 ≥ 48)) = true, pureRun cx.P (Instr.index 9 (.string a0) (.int .i64 sa)) = some (.int .u8 ta2), (decide (ta2 ≥ 65)) = false, pureRun cx.P (Instr.index 9 (.string a0) (.int .i64 sa)) = some (.int .u8 ta2), (decide (ta2 ≤ 122)) = false, pureRun cx.P (Instr.index 9 (.string a0) (.int .i64 sa)) = some (.int .u8 ta2), (decide (ta2 ≥ 97)) = true, pureRun cx.P (Instr.index 9 (.string a0) (.int .i64 sa)) = some (.int .u8 ta2), (decide (sa < (a0.size : Int))) = true]) (by kernel_rfl) ⟨(nott (eqf ha9)), (eqf ha8), strAt_ok ha2, (decide_eq_false ha7), strAt_ok ha2, (decide_eq_true ha6), strAt_ok ha2, (decide_eq_false ha5), strAt_ok ha2, (decide_eq_false ha4), strAt_ok ha2, (decide_eq_true ha3), strAt_ok ha2, (decide_eq_true ha1), trivial⟩⟩, nofun⟩
          · replace h := ite_f h ha6
            by_cases ha7 : sa = 0
            · replace h := ite_t h ha7
              replace h := Option.some.inj h
              subst h
              exact ⟨⟨100, 9, [.br true, .el (.v (.int .u8 ta2)), .br true, .el (.v (.int .u8 ta2)), .br false, .el (.v (.int .u8 ta2)), .br false, .el (.v (.int .u8 ta2)), .br false, .no, .el (.v (.int .u8 ta2)), .no, .br true, .no], [], [2], [], round_of (ob := [(sa == 0) = true, pureRun cx.P (Instr.index 9 (.string a0) (.int .i64 sa)) = some (.int .u8 ta2), (decide (ta2 ≥ 48)) = false, pureRun cx.P (Instr.index 9 (.string a0) (.int .i64 sa)) = some (.int .u8 ta2), (decide (ta2 ≥ 65)) = false, pureRun cx.P (Instr.index 9 (.string a0) (.int .i64 sa)) = some (.int .u8 ta2), (decide (ta2 ≤ 122)) = false, pureRun cx.P (Instr.index 9 (.string a0) (.int .i64 sa)) = some (.int .u8 ta2), (decide (ta2 ≥ 97)) = true, pureRun cx.P (Instr.index 9 (.string a0) (.int .i64 sa)) = some (.int .u8 ta2), (decide (sa < (a0.size : Int))) = true]) (by kernel_rfl) ⟨(eqt ha7), strAt_ok ha2, (decide_eq_false ha6), strAt_ok ha2, (decide_eq_false ha5), strAt_ok ha2, (decide_eq_false ha4), strAt_ok ha2, (decide_eq_true ha3), strAt_ok ha2, (decide_eq_true ha1), trivial⟩⟩, nofun⟩
            · replace h := ite_f h ha7
              by_cases ha8 : ta2 = 95
              · replace h := ite_t h ha8
                obtain ⟨ha9, h⟩ := grd_of h
                replace h := Option.some.inj h
                subst h
                exact ⟨100, 9, [.br true, .el (.v (.int .u8 ta2)), .br true, .el (.v (.int .u8 ta2)), .br false, .el (.v (.int .u8 ta2)), .br false, .el (.v (.int .u8 ta2)), .br false, .no, .el (.v (.int .u8 ta2)), .no, .br false, .br false], [], [0, 3], [], round_of (ob := [inI64 (sa + 1), (!(ta2 == 95)) = false, (sa == 0) = false, pureRun cx.P (Instr.index 9 (.string a0) (.int .i64 sa)) = some (.int .u8 ta2), (decide (ta2 ≥ 48)) = false, pureRun cx.P (Instr.index 9 (.string a0) (.int .i64 sa)) = some (.int .u8 ta2), (decide (ta2 ≥ 65)) = false, pureRun cx.P (Instr.index 9 (.string a0) (.int .i64 sa)) = some (.int .u8 ta2), (decide (ta2 ≤ 122)) = false, pureRun cx.P (Instr.index 9 (.string a0) (.int .i64 sa)) = some (.int .u8 ta2), (decide (ta2 ≥ 97)) = true, pureRun cx.P (Instr.index 9 (.string a0) (.int .i64 sa)) = some (.int .u8 ta2), (decide (sa < (a0.size : Int))) = true]) (by kernel_rfl) ⟨ha9, (notf (eqt ha8)), (eqf ha7), strAt_ok ha2, (decide_eq_false ha6), strAt_ok ha2, (decide_eq_false ha5), strAt_ok ha2, (decide_eq_false ha4), strAt_ok ha2, (decide_eq_true ha3), strAt_ok ha2, (decide_eq_true ha1), trivial⟩⟩
              · replace h := ite_f h ha8
                replace h := Option.some.inj h
                subst h
                exact ⟨⟨100, 9, [.br true, .el (.v (.int .u8 ta2)), .br true, .el (.v (.int .u8 ta2)), .br false, .el (.v (.int .u8 ta2)), .br false, .el (.v (.int .u8 ta2)), .br false, .no, .el (.v (.int .u8 ta2)), .no, .br false, .br true], [], [2], [], round_of (ob := [(!(ta2 == 95)) = true, (sa == 0) = false, pureRun cx.P (Instr.index 9 (.string a0) (.int .i64 sa)) = some (.int .u8 ta2), (decide (ta2 ≥ 48)) = false, pureRun cx.P (Instr.index 9 (.string a0) (.int .i64 sa)) = some (.int .u8 ta2), (decide (ta2 ≥ 65)) = false, pureRun cx.P (Instr.index 9 (.string a0) (.int .i64 sa)) = some (.int .u8 ta2), (decide (ta2 ≤ 122)) = false, pureRun cx.P (Instr.index 9 (.string a0) (.int .i64 sa)) = some (.int .u8 ta2), (decide (ta2 ≥ 97)) = true, pureRun cx.P (Instr.index 9 (.string a0) (.int .i64 sa)) = some (.int .u8 ta2), (decide (sa < (a0.size : Int))) = true]) (by kernel_rfl) ⟨(nott (eqf ha8)), (eqf ha7), strAt_ok ha2, (decide_eq_false ha6), strAt_ok ha2, (decide_eq_false ha5), strAt_ok ha2, (decide_eq_false ha4), strAt_ok ha2, (decide_eq_true ha3), strAt_ok ha2, (decide_eq_true ha1), trivial⟩⟩, nofun⟩
    · replace h := ite_f h ha3
      by_cases ha4 : ta2 ≥ 65
      · replace h := ite_t h ha4
        by_cases ha5 : ta2 ≥ 48
        · replace h := ite_t h ha5
          by_cases ha6 : ta2 ≤ 57
          · replace h := ite_t h ha6
            by_cases ha7 : ta2 ≤ 90
            · replace h := ite_t h ha7
              obtain ⟨ha8, h⟩ := grd_of h
              replace h := Option.some.inj h
              subst h
              exact ⟨100, 9, [.br true, .el (.v (.int .u8 ta2)), .br false, .no, .el (.v (.int .u8 ta2)), .br true, .el (.v (.int .u8 ta2)), .el (.v (.int .u8 ta2)), .br true, .el (.v (.int .u8 ta2)), .br true, .br false, .no], [], [0, 3], [], round_of (ob := [inI64 (sa + 1), (!(decide (ta2 ≤ 90))) = false, (decide (ta2 ≤ 57)) = true, pureRun cx.P (Instr.index 9 (.string a0) (.int .i64 sa)) = some (.int .u8 ta2), (decide (ta2 ≥ 48)) = true, pureRun cx.P (Instr.index 9 (.string a0) (.int .i64 sa)) = some (.int .u8 ta2), pureRun cx.P (Instr.index 9 (.string a0) (.int .i64 sa)) = some (.int .u8 ta2), (decide (ta2 ≥ 65)) = true, pureRun cx.P (Instr.index 9 (.string a0) (.int .i64 sa)) = some (.int .u8 ta2), (decide (ta2 ≥ 97)) = false, pureRun cx.P (Instr.index 9 (.string a0) (.int .i64 sa)) = some (.int .u8 ta2), (decide (sa < (a0.size : Int))) = true]) (by kernel_rfl) ⟨ha8, (notf (decide_eq_true ha7)), (decide_eq_true ha6), strAt_ok ha2, (decide_eq_true ha5), strAt_ok ha2, strAt_ok ha2, (decide_eq_true ha4), strAt_ok ha2, (decide_eq_false ha3), strAt_ok ha2, (decide_eq_true ha1), trivial⟩⟩
            · replace h := ite_f h ha7
              by_cases ha8 : sa = 0
              · replace h := ite_t h ha8
                replace h := Option.some.inj h
                subst h
                exact ⟨⟨100, 9, [.br true, .el (.v (.int .u8 ta2)), .br false, .no, .el (.v (.int .u8 ta2)), .br true, .el (.v (.int .u8 ta2)), .el (.v (.int .u8 ta2)), .br true, .el (.v (.int .u8 ta2)), .br true, .br true, .br true, .no], [], [2], [], round_of (ob := [(sa == 0) = true, (!(decide (ta2 ≤ 90))) = true, (decide (ta2 ≤ 57)) = true, pureRun cx.P (Instr.index 9 (.string a0) (.int .i64 sa)) = some (.int .u8 ta2), (decide (ta2 ≥ 48)) = true, pureRun cx.P (Instr.index 9 (.string a0) (.int .i64 sa)) = some (.int .u8 ta2), pureRun cx.P (Instr.index 9 (.string a0) (.int .i64 sa)) = some (.int .u8 ta2), (decide (ta2 ≥ 65)) = true, pureRun cx.P (Instr.index 9 (.string a0) (.int .i64 sa)) = some (.int .u8 ta2), (decide (ta2 ≥ 97)) = false, pureRun cx.P (Instr.index 9 (.string a0) (.int .i64 sa)) = some (.int .u8 ta2), (decide (sa < (a0.size : Int))) = true]) (by kernel_rfl) ⟨(eqt ha8), (nott (decide_eq_false ha7)), (decide_eq_true ha6), strAt_ok ha2, (decide_eq_true ha5), strAt_ok ha2, strAt_ok ha2, (decide_eq_true ha4), strAt_ok ha2, (decide_eq_false ha3), strAt_ok ha2, (decide_eq_true ha1), trivial⟩⟩, nofun⟩
              · replace h := ite_f h ha8
                obtain ⟨ha9, h⟩ := grd_of h
                replace h := Option.some.inj h
                subst h
                exact ⟨100, 9, [.br true, .el (.v (.int .u8 ta2)), .br false, .no, .el (.v (.int .u8 ta2)), .br true, .el (.v (.int .u8 ta2)), .el (.v (.int .u8 ta2)), .br true, .el (.v (.int .u8 ta2)), .br true, .br true, .br false, .no], [], [0, 3], [], round_of (ob := [inI64 (sa + 1), (sa == 0) = false, (!(decide (ta2 ≤ 90))) = true, (decide (ta2 ≤ 57)) = true, pureRun cx.P (Instr.index 9 (.string a0) (.int .i64 sa)) = some (.int .u8 ta2), (decide (ta2 ≥ 48)) = true, pureRun cx.P (Instr.index 9 (.string a0) (.int .i64 sa)) = some (.int .u8 ta2), pureRun cx.P (Instr.index 9 (.string a0) (.int .i64 sa)) = some (.int .u8 ta2), (decide (ta2 ≥ 65)) = true, pureRun cx.P (Instr.index 9 (.string a0) (.int .i64 sa)) = some (.int .u8 ta2), (decide (ta2 ≥ 97)) = false, pureRun cx.P (Instr.index 9 (.string a0) (.int .i64 sa)) = some (.int .u8 ta2), (decide (sa < (a0.size : Int))) = true]) (by kernel_rfl) ⟨ha9, (eqf ha8), (nott (decide_eq_false ha7)), (decide_eq_true ha6), strAt_ok ha2, (decide_eq_true ha5), strAt_ok ha2, strAt_ok ha2, (decide_eq_true ha4), strAt_ok ha2, (decide_eq_false ha3), strAt_ok ha2, (decide_eq_true ha1), trivial⟩⟩
          · replace h := ite_f h ha6
            by_cases ha7 : ta2 ≤ 90
            · replace h := ite_t h ha7
              obtain ⟨ha8, h⟩ := grd_of h
              replace h := Option.some.inj h
              subst h
              exact ⟨100, 9, [.br true, .el (.v (.int .u8 ta2)), .br false, .no, .el (.v (.int .u8 ta2)), .br true, .el (.v (.int .u8 ta2)), .el (.v (.int .u8 ta2)), .br true, .el (.v (.int .u8 ta2)), .br false, .el (.v (.int .u8 ta2)), .br false, .no], [], [0, 3], [], round_of (ob := [inI64 (sa + 1), (!(decide (ta2 ≤ 90))) = false, pureRun cx.P (Instr.index 9 (.string a0) (.int .i64 sa)) = some (.int .u8 ta2), (decide (ta2 ≤ 57)) = false, pureRun cx.P (Instr.index 9 (.string a0) (.int .i64 sa)) = some (.int .u8 ta2), (decide (ta2 ≥ 48)) = true, pureRun cx.P (Instr.index 9 (.string a0) (.int .i64 sa)) = some (.int .u8 ta2), pureRun cx.P (Instr.index 9 (.string a0) (.int .i64 sa)) = some (.int .u8 ta2), (decide (ta2 ≥ 65)) = true, pureRun cx.P (Instr.index 9 (.string a0) (.int .i64 sa)) = some (.int .u8 ta2), (decide (ta2 ≥ 97)) = false, pureRun cx.P (Instr.index 9 (.string a0) (.int .i64 sa)) = some (.int .u8 ta2), (decide (sa < (a0.size : Int))) = true]) (by kernel_rfl) ⟨ha8, (notf (decide_eq_true ha7)), strAt_ok ha2, (decide_eq_false ha6), strAt_ok ha2, (decide_eq_true ha5), strAt_ok ha2, strAt_ok ha2, (decide_eq_true ha4), strAt_ok ha2, (decide_eq_false ha3), strAt_ok ha2, (decide_eq_true ha1), trivial⟩⟩
            · replace h := ite_f h ha7
              by_cases ha8 : sa = 0
              · replace h := ite_t h ha8
                replace h := Option.some.inj h
                subst h
                exact ⟨⟨100, 9, [.br true, .el (.v (.int .u8 ta2)), .br false, .no, .el (.v (.int .u8 ta2)), .br true, .el (.v (.int .u8 ta2)), .el (.v (.int .u8 ta2)), .br true, .el (.v (.int .u8 ta2)), .br false, .el (.v (.int .u8 ta2)), .br true, .br true, .no], [], [2], [], round_of (ob := [(sa == 0) = true, (!(decide (ta2 ≤ 90))) = true, pureRun cx.P (Instr.index 9 (.string a0) (.int .i64 sa)) = some (.int .u8 ta2), (decide (ta2 ≤ 57)) = false, pureRun cx.P (Instr.index 9 (.string a0) (.int .i64 sa)) = some (.int .u8 ta2), (decide (ta2 ≥ 48)) = true, pureRun cx.P (Instr.index 9 (.string a0) (.int .i64 sa)) = some (.int .u8 ta2), pureRun cx.P (Instr.index 9 (.string a0) (.int .i64 sa)) = some (.int .u8 ta2), (decide (ta2 ≥ 65)) = true, pureRun cx.P (Instr.index 9 (.string a0) (.int .i64 sa)) = some (.int .u8 ta2), (decide (ta2 ≥ 97)) = false, pureRun cx.P (Instr.index 9 (.string a0) (.int .i64 sa)) = some (.int .u8 ta2), (decide (sa < (a0.size : Int))) = true]) (by kernel_rfl) ⟨(eqt ha8), (nott (decide_eq_false ha7)), strAt_ok ha2, (decide_eq_false ha6), strAt_ok ha2, (decide_eq_true ha5), strAt_ok ha2, strAt_ok ha2, (decide_eq_true ha4), strAt_ok ha2, (decide_eq_false ha3), strAt_ok ha2, (decide_eq_true ha1), trivial⟩⟩, nofun⟩
              · replace h := ite_f h ha8
                by_cases ha9 : ta2 = 95
                · replace h := ite_t h ha9
                  obtain ⟨ha10, h⟩ := grd_of h
                  replace h := Option.some.inj h
                  subst h
                  exact ⟨100, 9, [.br true, .el (.v (.int .u8 ta2)), .br false, .no, .el (.v (.int .u8 ta2)), .br true, .el (.v (.int .u8 ta2)), .el (.v (.int .u8 ta2)), .br true, .el (.v (.int .u8 ta2)), .br false, .el (.v (.int .u8 ta2)), .br true, .br false, .br false], [], [0, 3], [], round_of (ob := [inI64 (sa + 1), (!(ta2 == 95)) = false, (sa == 0) = false, (!(decide (ta2 ≤ 90))) = true, pureRun cx.P (Instr.index 9 (.string a0) (.int .i64 sa)) = some (.int .u8 ta2), (decide (ta2 ≤ 57)) = false, pureRun cx.P (Instr.index 9 (.string a0) (.int .i64 sa)) = some (.int .u8 ta2), (decide (ta2 ≥ 48)) = true, pureRun cx.P (Instr.index 9 (.string a0) (.int .i64 sa)) = some (.int .u8 ta2), pureRun cx.P (Instr.index 9 (.string a0) (.int .i64 sa)) = some (.int .u8 ta2), (decide (ta2 ≥ 65)) = true, pureRun cx.P (Instr.index 9 (.string a0) (.int .i64 sa)) = some (.int .u8 ta2), (decide (ta2 ≥ 97)) = false, pureRun cx.P (Instr.index 9 (.string a0) (.int .i64 sa)) = some (.int .u8 ta2), (decide (sa < (a0.size : Int))) = true]) (by kernel_rfl) ⟨ha10, (notf (eqt ha9)), (eqf ha8), (nott (decide_eq_false ha7)), strAt_ok ha2, (decide_eq_false ha6), strAt_ok ha2, (decide_eq_true ha5), strAt_ok ha2, strAt_ok ha2, (decide_eq_true ha4), strAt_ok ha2, (decide_eq_false ha3), strAt_ok ha2, (decide_eq_true ha1), trivial⟩⟩
                · replace h := ite_f h ha9
                  replace h := Option.some.inj h
                  subst h
                  exact ⟨⟨100, 9, [.br true, .el (.v (.int .u8 ta2)), .br false, .no, .el (.v (.int .u8 ta2)), .br true, .el (.v (.int .u8 ta2)), .el (.v (.int .u8 ta2)), .br true, .el (.v (.int .u8 ta2)), .br false, .el (.v (.int .u8 ta2)), .br true, .br false, .br true], [], [2], [], round_of (ob := [(!(ta2 == 95)) = true, (sa == 0) = false, (!(decide (ta2 ≤ 90))) = true, pureRun cx.P (Instr.index 9 (.string a0) (.int .i64 sa)) = some (.int .u8 ta2), (decide (ta2 ≤ 57)) = false, pureRun cx.P (Instr.index 9 (.string a0) (.int .i64 sa)) = some (.int .u8 ta2), (decide (ta2 ≥ 48)) = true, pureRun cx.P (Instr.index 9 (.string a0) (.int .i64 sa)) = some (.int .u8 ta2), pureRun cx.P (Instr.index 9 (.string a0) (.int .i64 sa)) = some (.int .u8 ta2), (decide (ta2 ≥ 65)) = true, pureRun cx.P (Instr.index 9 (.string a0) (.int .i64 sa)) = some (.int .u8 ta2), (decide (ta2 ≥ 97)) = false, pureRun cx.P (Instr.index 9 (.string a0) (.int .i64 sa)) = some (.int .u8 ta2), (decide (sa < (a0.size : Int))) = true]) (by kernel_rfl) ⟨(nott (eqf ha9)), (eqf ha8), (nott (decide_eq_false ha7)), strAt_ok ha2, (decide_eq_false ha6), strAt_ok ha2, (decide_eq_true ha5), strAt_ok ha2, strAt_ok ha2, (decide_eq_true ha4), strAt_ok ha2, (decide_eq_false ha3), strAt_ok ha2, (decide_eq_true ha1), trivial⟩⟩, nofun⟩
        · replace h := ite_f h ha5
          by_cases ha6 : ta2 ≤ 90
          · replace h := ite_t h ha6
            obtain ⟨ha7, h⟩ := grd_of h
            replace h := Option.some.inj h
            subst h
            exact ⟨100, 9, [.br true, .el (.v (.int .u8 ta2)), .br false, .no, .el (.v (.int .u8 ta2)), .br true, .el (.v (.int .u8 ta2)), .el (.v (.int .u8 ta2)), .br false, .no, .el (.v (.int .u8 ta2)), .br false, .no], [], [0, 3], [], round_of (ob := [inI64 (sa + 1), (!(decide (ta2 ≤ 90))) = false, pureRun cx.P (Instr.index 9 (.string a0) (.int .i64 sa)) = some (.int .u8 ta2), (decide (ta2 ≥ 48)) = false, pureRun cx.P (Instr.index 9 (.string a0) (.int .i64 sa)) = some (.int .u8 ta2), pureRun cx.P (Instr.index 9 (.string a0) (.int .i64 sa)) = some (.int .u8 ta2), (decide (ta2 ≥ 65)) = true, pureRun cx.P (Instr.index 9 (.string a0) (.int .i64 sa)) = some (.int .u8 ta2), (decide (ta2 ≥ 97)) = false, pureRun cx.P (Instr.index 9 (.string a0) (.int .i64 sa)) = some (.int .u8 ta2), (decide (sa < (a0.size : Int))) = true]) (by kernel_rfl) ⟨ha7, (notf (decide_eq_true ha6)), strAt_ok ha2, (decide_eq_false ha5), strAt_ok ha2, strAt_ok ha2, (decide_eq_true ha4), strAt_ok ha2, (decide_eq_false ha3), strAt_ok ha2, (decide_eq_true ha1), trivial⟩⟩
          · replace h := ite_f h ha6
            by_cases ha7 : sa = 0
            · replace h := ite_t h ha7
              replace h := Option.some.inj h
              subst h
              exact ⟨⟨100, 9, [.br true, .el (.v (.int .u8 ta2)), .br false, .no, .el (.v (.int .u8 ta2)), .br true, .el (.v (.int .u8 ta2)), .el (.v (.int .u8 ta2)), .br false, .no, .el (.v (.int .u8 ta2)), .br true, .br true, .no], [], [2], [], round_of (ob := [(sa == 0) = true, (!(decide (ta2 ≤ 90))) = true, pureRun cx.P (Instr.index 9 (.string a0) (.int .i64 sa)) = some (.int .u8 ta2), (decide (ta2 ≥ 48)) = false, pureRun cx.P (Instr.index 9 (.string a0) (.int .i64 sa)) = some (.int .u8 ta2), pureRun cx.P (Instr.index 9 (.string a0) (.int .i64 sa)) = some (.int .u8 ta2), (decide (ta2 ≥ 65)) = true, pureRun cx.P (Instr.index 9 (.string a0) (.int .i64 sa)) = some (.int .u8 ta2), (decide (ta2 ≥ 97)) = false, pureRun cx.P (Instr.index 9 (.string a0) (.int .i64 sa)) = some (.int .u8 ta2), (decide (sa < (a0.size : Int))) = true]) (by kernel_rfl) ⟨(eqt ha7), (nott (decide_eq_false ha6)), strAt_ok ha2, (decide_eq_false ha5), strAt_ok ha2, strAt_ok ha2, (decide_eq_true ha4), strAt_ok ha2, (decide_eq_false ha3), strAt_ok ha2, (decide_eq_true ha1), trivial⟩⟩, nofun⟩
            · replace h := ite_f h ha7
              by_cases ha8 : ta2 = 95
              · replace h := ite_t h ha8
                obtain ⟨ha9, h⟩ := grd_of h
                replace h := Option.some.inj h
                subst h
                exact ⟨100, 9, [.br true, .el (.v (.int .u8 ta2)), .br false, .no, .el (.v (.int .u8 ta2)), .br true, .el (.v (.int .u8 ta2)), .el (.v (.int .u8 ta2)), .br false, .no, .el (.v (.int .u8 ta2)), .br true, .br false, .br false], [], [0, 3], [], round_of (ob := [inI64 (sa + 1), (!(ta2 == 95)) = false, (sa == 0) = false, (!(decide (ta2 ≤ 90))) = true, pureRun cx.P (Instr.index 9 (.string a0) (.int .i64 sa)) = some (.int .u8 ta2), (decide (ta2 ≥ 48)) = false, pureRun cx.P (Instr.index 9 (.string a0) (.int .i64 sa)) = some (.int .u8 ta2), pureRun cx.P (Instr.index 9 (.string a0) (.int .i64 sa)) = some (.int .u8 ta2), (decide (ta2 ≥ 65)) = true, pureRun cx.P (Instr.index 9 (.string a0) (.int .i64 sa)) = some (.int .u8 ta2), (decide (ta2 ≥ 97)) = false, pureRun cx.P (Instr.index 9 (.string a0) (.int .i64 sa)) = some (.int .u8 ta2), (decide (sa < (a0.size : Int))) = true]) (by kernel_rfl) ⟨ha9, (notf (eqt ha8)), (eqf ha7), (nott (decide_eq_false ha6)), strAt_ok ha2, (decide_eq_false ha5), strAt_ok ha2, strAt_ok ha2, (decide_eq_true ha4), strAt_ok ha2, (decide_eq_false ha3), strAt_ok ha2, (decide_eq_true ha1), trivial⟩⟩
              · replace h := ite_f h ha8
                replace h := Option.some.inj h
                subst h
                exact ⟨⟨100, 9, [.br true, .el (.v (.int .u8 ta2)), .br false, .no, .el (.v (.int .u8 ta2)), .br true, .el (.v (.int .u8 ta2)), .el (.v (.int .u8 ta2)), .br false, .no, .el (.v (.int .u8 ta2)), .br true, .br false, .br true], [], [2], [], round_of (ob := [(!(ta2 == 95)) = true, (sa == 0) = false, (!(decide (ta2 ≤ 90))) = true, pureRun cx.P (Instr.index 9 (.string a0) (.int .i64 sa)) = some (.int .u8 ta2), (decide (ta2 ≥ 48)) = false, pureRun cx.P (Instr.index 9 (.string a0) (.int .i64 sa)) = some (.int .u8 ta2), pureRun cx.P (Instr.index 9 (.string a0) (.int .i64 sa)) = some (.int .u8 ta2), (decide (ta2 ≥ 65)) = true, pureRun cx.P (Instr.index 9 (.string a0) (.int .i64 sa)) = some (.int .u8 ta2), (decide (ta2 ≥ 97)) = false, pureRun cx.P (Instr.index 9 (.string a0) (.int .i64 sa)) = some (.int .u8 ta2), (decide (sa < (a0.size : Int))) = true]) (by kernel_rfl) ⟨(nott (eqf ha8)), (eqf ha7), (nott (decide_eq_false ha6)), strAt_ok ha2, (decide_eq_false ha5), strAt_ok ha2, strAt_ok ha2, (decide_eq_true ha4), strAt_ok ha2, (decide_eq_false ha3), strAt_ok ha2, (decide_eq_true ha1), trivial⟩⟩, nofun⟩
      · replace h := ite_f h ha4
        by_cases ha5 : ta2 ≥ 48
        · replace h := ite_t h ha5
          by_cases ha6 : ta2 ≤ 57
          · replace h := ite_t h ha6
            by_cases ha7 : sa = 0
            · replace h := ite_t h ha7
              replace h := Option.some.inj h
              subst h
              exact ⟨⟨100, 9, [.br true, .el (.v (.int .u8 ta2)), .br false, .no, .el (.v (.int .u8 ta2)), .br false, .el (.v (.int .u8 ta2)), .br true, .el (.v (.int .u8 ta2)), .br true, .no, .br true, .no], [], [2], [], round_of (ob := [(sa == 0) = true, (decide (ta2 ≤ 57)) = true, pureRun cx.P (Instr.index 9 (.string a0) (.int .i64 sa)) = some (.int .u8 ta2), (decide (ta2 ≥ 48)) = true, pureRun cx.P (Instr.index 9 (.string a0) (.int .i64 sa)) = some (.int .u8 ta2), (decide (ta2 ≥ 65)) = false, pureRun cx.P (Instr.index 9 (.string a0) (.int .i64 sa)) = some (.int .u8 ta2), (decide (ta2 ≥ 97)) = false, pureRun cx.P (Instr.index 9 (.string a0) (.int .i64 sa)) = some (.int .u8 ta2), (decide (sa < (a0.size : Int))) = true]) (by kernel_rfl) ⟨(eqt ha7), (decide_eq_true ha6), strAt_ok ha2, (decide_eq_true ha5), strAt_ok ha2, (decide_eq_false ha4), strAt_ok ha2, (decide_eq_false ha3), strAt_ok ha2, (decide_eq_true ha1), trivial⟩⟩, nofun⟩
            · replace h := ite_f h ha7
              obtain ⟨ha8, h⟩ := grd_of h
              replace h := Option.some.inj h
              subst h
              exact ⟨100, 9, [.br true, .el (.v (.int .u8 ta2)), .br false, .no, .el (.v (.int .u8 ta2)), .br false, .el (.v (.int .u8 ta2)), .br true, .el (.v (.int .u8 ta2)), .br true, .no, .br false, .no], [], [0, 3], [], round_of (ob := [inI64 (sa + 1), (sa == 0) = false, (decide (ta2 ≤ 57)) = true, pureRun cx.P (Instr.index 9 (.string a0) (.int .i64 sa)) = some (.int .u8 ta2), (decide (ta2 ≥ 48)) = true, pureRun cx.P (Instr.index 9 (.string a0) (.int .i64 sa)) = some (.int .u8 ta2), (decide (ta2 ≥ 65)) = false, pureRun cx.P (Instr.index 9 (.string a0) (.int .i64 sa)) = some (.int .u8 ta2), (decide (ta2 ≥ 97)) = false, pureRun cx.P (Instr.index 9 (.string a0) (.int .i64 sa)) = some (.int .u8 ta2), (decide (sa < (a0.size : Int))) = true]) (by kernel_rfl) ⟨ha8, (eqf ha7), (decide_eq_true ha6), strAt_ok ha2, (decide_eq_true ha5), strAt_ok ha2, (decide_eq_false ha4), strAt_ok ha2, (decide_eq_false ha3), strAt_ok ha2, (decide_eq_true ha1), trivial⟩⟩
          · replace h := ite_f h ha6
            by_cases ha7 : sa = 0
            · replace h := ite_t h ha7
              replace h := Option.some.inj h
              subst h
              exact ⟨⟨100, 9, [.br true, .el (.v (.int .u8 ta2)), .br false, .no, .el (.v (.int .u8 ta2)), .br false, .el (.v (.int .u8 ta2)), .br true, .el (.v (.int .u8 ta2)), .br false, .el (.v (.int .u8 ta2)), .no, .br true, .no], [], [2], [], round_of (ob := [(sa == 0) = true, pureRun cx.P (Instr.index 9 (.string a0) (.int .i64 sa)) = some (.int .u8 ta2), (decide (ta2 ≤ 57)) = false, pureRun cx.P (Instr.index 9 (.string a0) (.int .i64 sa)) = some (.int .u8 ta2), (decide (ta2 ≥ 48)) = true, pureRun cx.P (Instr.index 9 (.string a0) (.int .i64 sa)) = some (.int .u8 ta2), (decide (ta2 ≥ 65)) = false, pureRun cx.P (Instr.index 9 (.string a0) (.int .i64 sa)) = some (.int .u8 ta2), (decide (ta2 ≥ 97)) = false, pureRun cx.P (Instr.index 9 (.string a0) (.int .i64 sa)) = some (.int .u8 ta2), (decide (sa < (a0.size : Int))) = true]) (by kernel_rfl) ⟨(eqt ha7), strAt_ok ha2, (decide_eq_false ha6), strAt_ok ha2, (decide_eq_true ha5), strAt_ok ha2, (decide_eq_false ha4), strAt_ok ha2, (decide_eq_false ha3), strAt_ok ha2, (decide_eq_true ha1), trivial⟩⟩, nofun⟩
            · replace h := ite_f h ha7
              by_cases ha8 : ta2 = 95
              · replace h := ite_t h ha8
                obtain ⟨ha9, h⟩ := grd_of h
                replace h := Option.some.inj h
                subst h
                exact ⟨100, 9, [.br true, .el (.v (.int .u8 ta2)), .br false, .no, .el (.v (.int .u8 ta2)), .br false, .el (.v (.int .u8 ta2)), .br true, .el (.v (.int .u8 ta2)), .br false, .el (.v (.int .u8 ta2)), .no, .br false, .br false], [], [0, 3], [], round_of (ob := [inI64 (sa + 1), (!(ta2 == 95)) = false, (sa == 0) = false, pureRun cx.P (Instr.index 9 (.string a0) (.int .i64 sa)) = some (.int .u8 ta2), (decide (ta2 ≤ 57)) = false, pureRun cx.P (Instr.index 9 (.string a0) (.int .i64 sa)) = some (.int .u8 ta2), (decide (ta2 ≥ 48)) = true, pureRun cx.P (Instr.index 9 (.string a0) (.int .i64 sa)) = some (.int .u8 ta2), (decide (ta2 ≥ 65)) = false, pureRun cx.P (Instr.index 9 (.string a0) (.int .i64 sa)) = some (.int .u8 ta2), (decide (ta2 ≥ 97)) = false, pureRun cx.P (Instr.index 9 (.string a0) (.int .i64 sa)) = some (.int .u8 ta2), (decide (sa < (a0.size : Int))) = true]) (by kernel_rfl) ⟨ha9, (notf (eqt ha8)), (eqf ha7), strAt_ok ha2, (decide_eq_false ha6), strAt_ok ha2, (decide_eq_true ha5), strAt_ok ha2, (decide_eq_false ha4), strAt_ok ha2, (decide_eq_false ha3), strAt_ok ha2, (decide_eq_true ha1), trivial⟩⟩
              · replace h := ite_f h ha8
                replace h := Option.some.inj h
                subst h
                exact ⟨⟨100, 9, [.br true, .el (.v (.int .u8 ta2)), .br false, .no, .el (.v (.int .u8 ta2)), .br false, .el (.v (.int .u8 ta2)), .br true, .el (.v (.int .u8 ta2)), .br false, .el (.v (.int .u8 ta2)), .no, .br false, .br true], [], [2], [], round_of (ob := [(!(ta2 == 95)) = true, (sa == 0) = false, pureRun cx.P (Instr.index 9 (.string a0) (.int .i64 sa)) = some (.int .u8 ta2), (decide (ta2 ≤ 57)) = false, pureRun cx.P (Instr.index 9 (.string a0) (.int .i64 sa)) = some (.int .u8 ta2), (decide (ta2 ≥ 48)) = true, pureRun cx.P (Instr.index 9 (.string a0) (.int .i64 sa)) = some (.int .u8 ta2), (decide (ta2 ≥ 65)) = false, pureRun cx.P (Instr.index 9 (.string a0) (.int .i64 sa)) = some (.int .u8 ta2), (decide (ta2 ≥ 97)) = false, pureRun cx.P (Instr.index 9 (.string a0) (.int .i64 sa)) = some (.int .u8 ta2), (decide (sa < (a0.size : Int))) = true]) (by kernel_rfl) ⟨(nott (eqf ha8)), (eqf ha7), strAt_ok ha2, (decide_eq_false ha6), strAt_ok ha2, (decide_eq_true ha5), strAt_ok ha2, (decide_eq_false ha4), strAt_ok ha2, (decide_eq_false ha3), strAt_ok ha2, (decide_eq_true ha1), trivial⟩⟩, nofun⟩
        · replace h := ite_f h ha5
          by_cases ha6 : sa = 0
          · replace h := ite_t h ha6
            replace h := Option.some.inj h
            subst h
            exact ⟨⟨100, 9, [.br true, .el (.v (.int .u8 ta2)), .br false, .no, .el (.v (.int .u8 ta2)), .br false, .el (.v (.int .u8 ta2)), .br false, .no, .el (.v (.int .u8 ta2)), .no, .br true, .no], [], [2], [], round_of (ob := [(sa == 0) = true, pureRun cx.P (Instr.index 9 (.string a0) (.int .i64 sa)) = some (.int .u8 ta2), (decide (ta2 ≥ 48)) = false, pureRun cx.P (Instr.index 9 (.string a0) (.int .i64 sa)) = some (.int .u8 ta2), (decide (ta2 ≥ 65)) = false, pureRun cx.P (Instr.index 9 (.string a0) (.int .i64 sa)) = some (.int .u8 ta2), (decide (ta2 ≥ 97)) = false, pureRun cx.P (Instr.index 9 (.string a0) (.int .i64 sa)) = some (.int .u8 ta2), (decide (sa < (a0.size : Int))) = true]) (by kernel_rfl) ⟨(eqt ha6), strAt_ok ha2, (decide_eq_false ha5), strAt_ok ha2, (decide_eq_false ha4), strAt_ok ha2, (decide_eq_false ha3), strAt_ok ha2, (decide_eq_true ha1), trivial⟩⟩, nofun⟩
          · replace h := ite_f h ha6
            by_cases ha7 : ta2 = 95
            · replace h := ite_t h ha7
              obtain ⟨ha8, h⟩ := grd_of h
              replace h := Option.some.inj h
              subst h
              exact ⟨100, 9, [.br true, .el (.v (.int .u8 ta2)), .br false, .no, .el (.v (.int .u8 ta2)), .br false, .el (.v (.int .u8 ta2)), .br false, .no, .el (.v (.int .u8 ta2)), .no, .br false, .br false], [], [0, 3], [], round_of (ob := [inI64 (sa + 1), (!(ta2 == 95)) = false, (sa == 0) = false, pureRun cx.P (Instr.index 9 (.string a0) (.int .i64 sa)) = some (.int .u8 ta2), (decide (ta2 ≥ 48)) = false, pureRun cx.P (Instr.index 9 (.string a0) (.int .i64 sa)) = some (.int .u8 ta2), (decide (ta2 ≥ 65)) = false, pureRun cx.P (Instr.index 9 (.string a0) (.int .i64 sa)) = some (.int .u8 ta2), (decide (ta2 ≥ 97)) = false, pureRun cx.P (Instr.index 9 (.string a0) (.int .i64 sa)) = some (.int .u8 ta2), (decide (sa < (a0.size : Int))) = true]) (by kernel_rfl) ⟨ha8, (notf (eqt ha7)), (eqf ha6), strAt_ok ha2, (decide_eq_false ha5), strAt_ok ha2, (decide_eq_false ha4), strAt_ok ha2, (decide_eq_false ha3), strAt_ok ha2, (decide_eq_true ha1), trivial⟩⟩
            · replace h := ite_f h ha7
              replace h := Option.some.inj h
              subst h
              exact ⟨⟨100, 9, [.br true, .el (.v (.int .u8 ta2)), .br false, .no, .el (.v (.int .u8 ta2)), .br false, .el (.v (.int .u8 ta2)), .br false, .no, .el (.v (.int .u8 ta2)), .no, .br false, .br true], [], [2], [], round_of (ob := [(!(ta2 == 95)) = true, (sa == 0) = false, pureRun cx.P (Instr.index 9 (.string a0) (.int .i64 sa)) = some (.int .u8 ta2), (decide (ta2 ≥ 48)) = false, pureRun cx.P (Instr.index 9 (.string a0) (.int .i64 sa)) = some (.int .u8 ta2), (decide (ta2 ≥ 65)) = false, pureRun cx.P (Instr.index 9 (.string a0) (.int .i64 sa)) = some (.int .u8 ta2), (decide (ta2 ≥ 97)) = false, pureRun cx.P (Instr.index 9 (.string a0) (.int .i64 sa)) = some (.int .u8 ta2), (decide (sa < (a0.size : Int))) = true]) (by kernel_rfl) ⟨(nott (eqf ha7)), (eqf ha6), strAt_ok ha2, (decide_eq_false ha5), strAt_ok ha2, (decide_eq_false ha4), strAt_ok ha2, (decide_eq_false ha3), strAt_ok ha2, (decide_eq_true ha1), trivial⟩⟩, nofun⟩
  · replace h := ite_f h ha1
    replace h := Option.some.inj h
    subst h
    exact ⟨⟨100, 9, [.br false], [], [], [], round_of (ob := [(decide (sa < (a0.size : Int))) = false]) (by kernel_rfl) ⟨(decide_eq_false ha1), trivial⟩⟩, nofun⟩
/- spillage/spillageref01.IsName: .v (.string a0) -/
def F_ref01_IsName (n : Nat) (a0 : ByteArray) : Option (Bool) :=
  if (a0.toList == (⟨#[]⟩ : ByteArray).toList) = true then
    some false
  else
  if (a0.size : Int) > 24 then
    some false
  else
  (loopF (F_ref01_IsName_L1 n a0) n 0).bind fun t3 => match t3 with
    | (.inl t3) => (
      some false)
    | (.inr t3) => (
      some true)
theorem c_ref01_IsName {n : Nat} {a0 : ByteArray} {r : Bool} (h : F_ref01_IsName n a0 = some r) : Computes cx 82 [.v (.string a0)] (B r) := by
  unfold F_ref01_IsName at h
  by_cases h1 : (a0.toList == (⟨#[]⟩ : ByteArray).toList) = true
  · replace h := ite_t h h1
    replace h := Option.some.inj h
    subst h
    exact run (n := 100) (f := 82) (args := [.v (.string a0)]) (orc := [.br true, .no]) (r := B false) (ob := [(a0.toList == (⟨#[]⟩ : ByteArray).toList) = true]) (by kernel_rfl) ⟨h1, trivial⟩
  · replace h := ite_f h h1
    by_cases h2 : (a0.size : Int) > 24
    · replace h := ite_t h h2
      replace h := Option.some.inj h
      subst h
      exact run (n := 100) (f := 82) (args := [.v (.string a0)]) (orc := [.br false, .br true]) (r := B false) (ob := [(decide ((a0.size : Int) > 24)) = true, (a0.toList == (⟨#[]⟩ : ByteArray).toList) = false]) (by kernel_rfl) ⟨(decide_eq_true h2), (bfalse h1), trivial⟩
    · replace h := ite_f h h2
      obtain ⟨t3, h3, h⟩ := bnd_of h
      rcases t3 with t3 | t3
      · replace h := Option.some.inj h
        subst h
        exact run (n := 100) (f := 82) (args := [.v (.string a0)]) (orc := [.br false, .br false, .lp [] [0, 3] [] .ret [(2, .d (B false))] [] 77]) (r := B false) (ob := [LoopN cx (loopAt cx.P 82 0) 67 0 false [(0, .d (.v (.string a0))), (3, .d (I 0))] [] .ret [(2, .d (B false))] [], (decide ((a0.size : Int) > 24)) = false, (a0.toList == (⟨#[]⟩ : ByteArray).toList) = false]) (by kernel_rfl) ⟨(loopF_to R_ref01_IsName_L1 h3), (decide_eq_false h2), (bfalse h1), trivial⟩
      · replace h := Option.some.inj h
        subst h
        exact run (n := 100) (f := 82) (args := [.v (.string a0)]) (orc := [.br false, .br false, .lp [] [0, 3] [] (.exit 0) [] [] 77]) (r := B true) (ob := [LoopN cx (loopAt cx.P 82 0) 67 0 false [(0, .d (.v (.string a0))), (3, .d (I 0))] [] (.exit 0) [] [], (decide ((a0.size : Int) > 24)) = false, (a0.toList == (⟨#[]⟩ : ByteArray).toList) = false]) (by kernel_rfl) ⟨(loopF_to R_ref01_IsName_L1 h3), (decide_eq_false h2), (bfalse h1), trivial⟩
/- spillage/spillageref01.When: B a0, I a1 -/
def F_ref01_When (n : Nat) (a0 : Bool) (a1 : Int) : Option (Int) :=
  if a0 = true then
    some a1
  else
  some 0
theorem c_ref01_When {n : Nat} {a0 : Bool} {a1 : Int} {r : Int} (h : F_ref01_When n a0 a1 = some r) : Computes cx 41 [B a0, I a1] (I r) := by
  unfold F_ref01_When at h
  by_cases h1 : a0 = true
  · replace h := ite_t h h1
    replace h := Option.some.inj h
    subst h
    exact run (n := 100) (f := 41) (args := [B a0, I a1]) (orc := [.br true]) (r := I a1) (ob := [a0 = true]) (by kernel_rfl) ⟨h1, trivial⟩
  · replace h := ite_f h h1
    replace h := Option.some.inj h
    subst h
    exact run (n := 100) (f := 41) (args := [B a0, I a1]) (orc := [.br false]) (r := I 0) (ob := [a0 = false]) (by kernel_rfl) ⟨(bfalse h1), trivial⟩
/- spillage/spillageref01.CheckName: .v (.string a0) -/
def F_ref01_CheckName (n : Nat) (a0 : ByteArray) : Option (Int) :=
  (F_ref01_IsName n a0).bind fun t1 =>
  (F_ref01_When n (!t1) 8).bind fun t2 =>
  some t2
theorem c_ref01_CheckName {n : Nat} {a0 : ByteArray} {r : Int} (h : F_ref01_CheckName n a0 = some r) : Computes cx 51 [.v (.string a0)] (I r) := by
  unfold F_ref01_CheckName at h
  obtain ⟨t1, h1, h⟩ := bnd_of h
  obtain ⟨t2, h2, h⟩ := bnd_of h
  replace h := Option.some.inj h
  subst h
  exact run (n := 100) (f := 51) (args := [.v (.string a0)]) (orc := [.ret (B t1), .ret (I t2)]) (r := I t2) (ob := [Computes cx 41 [B (!t1), I 8] (I t2), Computes cx 82 [.v (.string a0)] (B t1)]) (by kernel_rfl) ⟨(c_ref01_When h2), (c_ref01_IsName h1), trivial⟩
/- spillage/spillageref01.When: B true, I 3 -/
def F_ref01_When_2 (n : Nat)  : Option (Int) :=
  some 3
theorem c_ref01_When_2 {n : Nat}  {r : Int} (h : F_ref01_When_2 n  = some r) : Computes cx 41 [B true, I 3] (I r) := by
  unfold F_ref01_When_2 at h
  replace h := Option.some.inj h
  subst h
  exact run (n := 100) (f := 41) (args := [B true, I 3]) (orc := [.no]) (r := I 3) (ob := []) (by kernel_rfl) trivial
/- spillage/spillageref01.CheckRange: I a0, I a1, I a2 -/
def F_ref01_CheckRange (n : Nat) (a0 : Int) (a1 : Int) (a2 : Int) : Option (Int) :=
  if a0 < a1 then
    (F_ref01_When_2 n).bind fun t2 =>
    some t2
  else
  (F_ref01_When n (decide (a0 > a2)) 3).bind fun t2 =>
  some t2
theorem c_ref01_CheckRange {n : Nat} {a0 : Int} {a1 : Int} {a2 : Int} {r : Int} (h : F_ref01_CheckRange n a0 a1 a2 = some r) : Computes cx 67 [I a0, I a1, I a2] (I r) := by
  unfold F_ref01_CheckRange at h
  by_cases h1 : a0 < a1
  · replace h := ite_t h h1
    obtain ⟨t2, h2, h⟩ := bnd_of h
    replace h := Option.some.inj h
    subst h
    exact run (n := 100) (f := 67) (args := [I a0, I a1, I a2]) (orc := [.br true, .ret (I t2)]) (r := I t2) (ob := [Computes cx 41 [B true, I 3] (I t2), (decide (a0 < a1)) = true]) (by kernel_rfl) ⟨(c_ref01_When_2 h2), (decide_eq_true h1), trivial⟩
  · replace h := ite_f h h1
    obtain ⟨t2, h2, h⟩ := bnd_of h
    replace h := Option.some.inj h
    subst h
    exact run (n := 100) (f := 67) (args := [I a0, I a1, I a2]) (orc := [.br false, .ret (I t2)]) (r := I t2) (ob := [Computes cx 41 [B (decide (a0 > a2)), I 3] (I t2), (decide (a0 < a1)) = false]) (by kernel_rfl) ⟨(c_ref01_When h2), (decide_eq_false h1), trivial⟩
def F_ref01_First_L1 (n : Nat) (a0 : List D) (sa : (Int)) : Option (((Int)) ⊕ ((Int) ⊕ (Unit))) :=
  if sa < ((a0).length : Int) then
    (el un_i a0 sa).bind fun ta2 =>
    if ta2 = 0 then
      if inI64 (sa + 1) then
      some (.inl (sa + 1))
      else none
    else
    some (.inr (.inl ta2))
  else
  some (.inr (.inr ()))
noncomputable def T_ref01_First_L1 (a0 : List D) (sa : (Int)) : List (Nat × AV) := [(0, .d (.lst false 1 a0)), (3, .d (I sa))]
noncomputable def H_ref01_First_L1 (a0 : List D) (sa : (Int)) : List (Nat × Blk) := []
noncomputable def X_ref01_First_L1 (a0 : List D) (e : (Int) ⊕ (Unit)) : Ex := match e with
  | (.inl e) => .ret
  | (.inr e) => (.exit 0)
noncomputable def XT_ref01_First_L1 (a0 : List D) (e : (Int) ⊕ (Unit)) : List (Nat × AV) := match e with
  | (.inl e) => [(2, .d (I e))]
  | (.inr e) => []
noncomputable def XH_ref01_First_L1 (a0 : List D) (e : (Int) ⊕ (Unit)) : List (Nat × Blk) := match e with
  | (.inl e) => []
  | (.inr e) => []
theorem R_ref01_First_L1 {n : Nat} {a0 : List D} (sa : (Int)) (r) (h : F_ref01_First_L1 n a0 sa = some r) : Rd cx (loopAt cx.P 37 0) 19 0 false (T_ref01_First_L1 a0) (H_ref01_First_L1 a0) (X_ref01_First_L1 a0) (XT_ref01_First_L1 a0) (XH_ref01_First_L1 a0) sa r := by
  unfold F_ref01_First_L1 at h
  by_cases ha1 : sa < ((a0).length : Int)
  · replace h := ite_t h ha1
    obtain ⟨ta2, ha2, h⟩ := bnd_of h
    by_cases ha3 : ta2 = 0
    · replace h := ite_t h ha3
      obtain ⟨ha4, h⟩ := grd_of h
      replace h := Option.some.inj h
      subst h
      exact ⟨100, 2, [.br true, .el (I ta2), .br false], [], [0, 3], [], round_of (ob := [inI64 (sa + 1), (ta2 != 0) = false, (0 : Int) ≤ sa, nth (a0) (Int.toNat sa) = some (I ta2), (decide (sa < ((a0).length : Int))) = true]) (by kernel_rfl) ⟨ha4, (nef ha3), (el_ok un_i_ok ha2).1, (el_ok un_i_ok ha2).2, (decide_eq_true ha1), trivial⟩⟩
    · replace h := ite_f h ha3
      replace h := Option.some.inj h
      subst h
      exact ⟨⟨100, 2, [.br true, .el (I ta2), .br true, .el (I ta2)], [], [2], [], round_of (ob := [(0 : Int) ≤ sa, nth (a0) (Int.toNat sa) = some (I ta2), (ta2 != 0) = true, (0 : Int) ≤ sa, nth (a0) (Int.toNat sa) = some (I ta2), (decide (sa < ((a0).length : Int))) = true]) (by kernel_rfl) ⟨(el_ok un_i_ok ha2).1, (el_ok un_i_ok ha2).2, (net ha3), (el_ok un_i_ok ha2).1, (el_ok un_i_ok ha2).2, (decide_eq_true ha1), trivial⟩⟩, nofun⟩
  · replace h := ite_f h ha1
    replace h := Option.some.inj h
    subst h
    exact ⟨⟨100, 2, [.br false], [], [], [], round_of (ob := [(decide (sa < ((a0).length : Int))) = false]) (by kernel_rfl) ⟨(decide_eq_false ha1), trivial⟩⟩, nofun⟩
/- spillage/spillageref01.First: .lst false 1 a0 -/
def F_ref01_First (n : Nat) (a0 : List D) : Option (Int) :=
  (loopF (F_ref01_First_L1 n a0) n 0).bind fun t1 => match t1 with
    | (.inl t1) => (
      some t1)
    | (.inr t1) => (
      some 0)
theorem c_ref01_First {n : Nat} {a0 : List D} {r : Int} (h : F_ref01_First n a0 = some r) : Computes cx 37 [.lst false 1 a0] (I r) := by
  unfold F_ref01_First at h
  obtain ⟨t1, h1, h⟩ := bnd_of h
  rcases t1 with t1 | t1
  · replace h := Option.some.inj h
    subst h
    exact run (n := 100) (f := 37) (args := [.lst false 1 a0]) (orc := [.lp [] [0, 3] [] .ret [(2, .d (I t1))] [] 27]) (r := I t1) (ob := [LoopN cx (loopAt cx.P 37 0) 19 0 false [(0, .d (.lst false 1 a0)), (3, .d (I 0))] [] .ret [(2, .d (I t1))] []]) (by kernel_rfl) ⟨(loopF_to R_ref01_First_L1 h1), trivial⟩
  · replace h := Option.some.inj h
    subst h
    exact run (n := 100) (f := 37) (args := [.lst false 1 a0]) (orc := [.lp [] [0, 3] [] (.exit 0) [] [] 27]) (r := I 0) (ob := [LoopN cx (loopAt cx.P 37 0) 19 0 false [(0, .d (.lst false 1 a0)), (3, .d (I 0))] [] (.exit 0) [] []]) (by kernel_rfl) ⟨(loopF_to R_ref01_First_L1 h1), trivial⟩
/- spillage/spillageref04.checkParts: .agg [I a0, I a1, I a2], I a3 -/
def F_ref04_checkParts (n : Nat) (a0 : Int) (a1 : Int) (a2 : Int) (a3 : Int) : Option (Int) :=
  if inI64 (0 - a3) then
  (F_ref01_CheckRange n a0 (0 - a3) a3).bind fun t2 =>
  (F_ref01_CheckRange n a1 (0 - a3) a3).bind fun t3 =>
  (F_ref01_CheckRange n a2 (0 - a3) a3).bind fun t4 =>
  (F_ref01_First n ([I t2, I t3, I t4])).bind fun t5 =>
  some t5
  else none
theorem c_ref04_checkParts {n : Nat} {a0 : Int} {a1 : Int} {a2 : Int} {a3 : Int} {r : Int} (h : F_ref04_checkParts n a0 a1 a2 a3 = some r) : Computes cx 40 [.agg [I a0, I a1, I a2], I a3] (I r) := by
  unfold F_ref04_checkParts at h
  obtain ⟨h1, h⟩ := grd_of h
  obtain ⟨t2, h2, h⟩ := bnd_of h
  obtain ⟨t3, h3, h⟩ := bnd_of h
  obtain ⟨t4, h4, h⟩ := bnd_of h
  obtain ⟨t5, h5, h⟩ := bnd_of h
  replace h := Option.some.inj h
  subst h
  exact run (n := 100) (f := 40) (args := [.agg [I a0, I a1, I a2], I a3]) (orc := [.ret (I t2), .ret (I t3), .ret (I t4), .ret (I t5)]) (r := I t5) (ob := [Computes cx 37 [.lst true 1 [I t2, I t3, I t4]] (I t5), Computes cx 67 [I a2, I (0 - a3), I a3] (I t4), inI64 (0 - a3), Computes cx 67 [I a1, I (0 - a3), I a3] (I t3), inI64 (0 - a3), Computes cx 67 [I a0, I (0 - a3), I a3] (I t2), inI64 (0 - a3)]) (by kernel_rfl) ⟨((c_ref01_First h5).le (.cons (.full _ _ _) (.nil)) (.refl _)), (c_ref01_CheckRange h4), h1, (c_ref01_CheckRange h3), h1, (c_ref01_CheckRange h2), h1, trivial⟩
/- spillage/spillageref04.Cross: .agg [I a0, I a1, I a2], .agg [I a3, I a4, I a5] -/
def F_ref04_Cross (n : Nat) (a0 : Int) (a1 : Int) (a2 : Int) (a3 : Int) (a4 : Int) (a5 : Int) : Option (Int × Int × Int) :=
  if inI64 (a1 * a5) then
  if inI64 (a2 * a4) then
  if inI64 ((a1 * a5) - (a2 * a4)) then
  if inI64 (a2 * a3) then
  if inI64 (a0 * a5) then
  if inI64 ((a2 * a3) - (a0 * a5)) then
  if inI64 (a0 * a4) then
  if inI64 (a1 * a3) then
  if inI64 ((a0 * a4) - (a1 * a3)) then
  some (((a1 * a5) - (a2 * a4)), ((a2 * a3) - (a0 * a5)), ((a0 * a4) - (a1 * a3)))
  else none
  else none
  else none
  else none
  else none
  else none
  else none
  else none
  else none
theorem c_ref04_Cross {n : Nat} {a0 : Int} {a1 : Int} {a2 : Int} {a3 : Int} {a4 : Int} {a5 : Int} {r : Int × Int × Int} (h : F_ref04_Cross n a0 a1 a2 a3 a4 a5 = some r) : Computes cx 52 [.agg [I a0, I a1, I a2], .agg [I a3, I a4, I a5]] (.agg [I r.1, I r.2.1, I r.2.2]) := by
  unfold F_ref04_Cross at h
  obtain ⟨h1, h⟩ := grd_of h
  obtain ⟨h2, h⟩ := grd_of h
  obtain ⟨h3, h⟩ := grd_of h
  obtain ⟨h4, h⟩ := grd_of h
  obtain ⟨h5, h⟩ := grd_of h
  obtain ⟨h6, h⟩ := grd_of h
  obtain ⟨h7, h⟩ := grd_of h
  obtain ⟨h8, h⟩ := grd_of h
  obtain ⟨h9, h⟩ := grd_of h
  replace h := Option.some.inj h
  subst h
  exact run (n := 100) (f := 52) (args := [.agg [I a0, I a1, I a2], .agg [I a3, I a4, I a5]]) (orc := []) (r := .agg [I ((a1 * a5) - (a2 * a4)), I ((a2 * a3) - (a0 * a5)), I ((a0 * a4) - (a1 * a3))]) (ob := [inI64 ((a0 * a4) - (a1 * a3)), inI64 (a1 * a3), inI64 (a0 * a4), inI64 ((a2 * a3) - (a0 * a5)), inI64 (a0 * a5), inI64 (a2 * a3), inI64 ((a1 * a5) - (a2 * a4)), inI64 (a2 * a4), inI64 (a1 * a5)]) (by kernel_rfl) ⟨h9, h8, h7, h6, h5, h4, h3, h2, h1, trivial⟩
/- spillage/spillageref04.CheckMirror: .agg [.v (.string a0), I a1, I a2, I a3, I a4, I a5, I a6, I a7, I a8, I a9] -/
def F_ref04_CheckMirror (n : Nat) (a0 : ByteArray) (a1 : Int) (a2 : Int) (a3 : Int) (a4 : Int) (a5 : Int) (a6 : Int) (a7 : Int) (a8 : Int) (a9 : Int) : Option (Int) :=
  (F_ref01_CheckName n a0).bind fun t1 =>
  (F_ref04_checkParts n a1 a2 a3 4096).bind fun t2 =>
  (F_ref04_checkParts n a4 a5 a6 64).bind fun t3 =>
  (F_ref04_checkParts n a7 a8 a9 64).bind fun t4 =>
  (F_ref01_First n ([I t1, I t2, I t3, I t4])).bind fun t5 =>
  if t5 = 0 then
    (F_ref04_Cross n a4 a5 a6 a7 a8 a9).bind fun t7 =>
    (F_ref01_When n ((t7.1 == 0) && ((t7.2.1 == 0) && ((t7.2.2 == 0) && true))) 17).bind fun t8 =>
    some t8
  else
  some t5
theorem c_ref04_CheckMirror {n : Nat} {a0 : ByteArray} {a1 : Int} {a2 : Int} {a3 : Int} {a4 : Int} {a5 : Int} {a6 : Int} {a7 : Int} {a8 : Int} {a9 : Int} {r : Int} (h : F_ref04_CheckMirror n a0 a1 a2 a3 a4 a5 a6 a7 a8 a9 = some r) : Computes cx 12 [.agg [.v (.string a0), I a1, I a2, I a3, I a4, I a5, I a6, I a7, I a8, I a9]] (I r) := by
  unfold F_ref04_CheckMirror at h
  obtain ⟨t1, h1, h⟩ := bnd_of h
  obtain ⟨t2, h2, h⟩ := bnd_of h
  obtain ⟨t3, h3, h⟩ := bnd_of h
  obtain ⟨t4, h4, h⟩ := bnd_of h
  obtain ⟨t5, h5, h⟩ := bnd_of h
  by_cases h6 : t5 = 0
  · replace h := ite_t h h6
    obtain ⟨t7, h7, h⟩ := bnd_of h
    obtain ⟨t8, h8, h⟩ := bnd_of h
    replace h := Option.some.inj h
    subst h
    exact run (n := 100) (f := 12) (args := [.agg [.v (.string a0), I a1, I a2, I a3, I a4, I a5, I a6, I a7, I a8, I a9]]) (orc := [.ret (I t1), .ret (I t2), .ret (I t3), .ret (I t4), .ret (I t5), .br false, .ret (.agg [I t7.1, I t7.2.1, I t7.2.2]), .ret (I t8)]) (r := I t8) (ob := [Computes cx 41 [B ((t7.1 == 0) && ((t7.2.1 == 0) && ((t7.2.2 == 0) && true))), I 17] (I t8), Computes cx 52 [.agg [I a4, I a5, I a6], .agg [I a7, I a8, I a9]] (.agg [I t7.1, I t7.2.1, I t7.2.2]), (t5 != 0) = false, Computes cx 37 [.lst true 1 [I t1, I t2, I t3, I t4]] (I t5), Computes cx 40 [.agg [I a7, I a8, I a9], I 64] (I t4), Computes cx 40 [.agg [I a4, I a5, I a6], I 64] (I t3), Computes cx 40 [.agg [I a1, I a2, I a3], I 4096] (I t2), Computes cx 51 [.v (.string a0)] (I t1)]) (by kernel_rfl) ⟨(c_ref01_When h8), (c_ref04_Cross h7), (nef h6), ((c_ref01_First h5).le (.cons (.full _ _ _) (.nil)) (.refl _)), (c_ref04_checkParts h4), (c_ref04_checkParts h3), (c_ref04_checkParts h2), (c_ref01_CheckName h1), trivial⟩
  · replace h := ite_f h h6
    replace h := Option.some.inj h
    subst h
    exact run (n := 100) (f := 12) (args := [.agg [.v (.string a0), I a1, I a2, I a3, I a4, I a5, I a6, I a7, I a8, I a9]]) (orc := [.ret (I t1), .ret (I t2), .ret (I t3), .ret (I t4), .ret (I t5), .br true]) (r := I t5) (ob := [(t5 != 0) = true, Computes cx 37 [.lst true 1 [I t1, I t2, I t3, I t4]] (I t5), Computes cx 40 [.agg [I a7, I a8, I a9], I 64] (I t4), Computes cx 40 [.agg [I a4, I a5, I a6], I 64] (I t3), Computes cx 40 [.agg [I a1, I a2, I a3], I 4096] (I t2), Computes cx 51 [.v (.string a0)] (I t1)]) (by kernel_rfl) ⟨(net h6), ((c_ref01_First h5).le (.cons (.full _ _ _) (.nil)) (.refl _)), (c_ref04_checkParts h4), (c_ref04_checkParts h3), (c_ref04_checkParts h2), (c_ref01_CheckName h1), trivial⟩
def F_light_IsName_L1 (n : Nat) (a0 : ByteArray) (sa : (Nat)) : Option (((Nat)) ⊕ ((Unit) ⊕ (Unit))) :=
  if sa < a0.size then
    if ((Utf8.decode a0 sa).1 : Int) ≥ 97 then
      if ((Utf8.decode a0 sa).1 : Int) ≤ 122 then
        some (.inl (sa + (Utf8.decode a0 sa).2))
      else
      if ((Utf8.decode a0 sa).1 : Int) ≥ 65 then
        if ((Utf8.decode a0 sa).1 : Int) ≤ 90 then
          some (.inl (sa + (Utf8.decode a0 sa).2))
        else
        if ((sa : Nat) : Int) = 0 then
          some (.inr (.inl ()))
        else
        if ((Utf8.decode a0 sa).1 : Int) = 95 then
          some (.inl (sa + (Utf8.decode a0 sa).2))
        else
        if ((Utf8.decode a0 sa).1 : Int) < 48 then
          some (.inr (.inl ()))
        else
        if ((Utf8.decode a0 sa).1 : Int) > 57 then
          some (.inr (.inl ()))
        else
        some (.inl (sa + (Utf8.decode a0 sa).2))
      else
      if ((sa : Nat) : Int) = 0 then
        some (.inr (.inl ()))
      else
      if ((Utf8.decode a0 sa).1 : Int) = 95 then
        some (.inl (sa + (Utf8.decode a0 sa).2))
      else
      if ((Utf8.decode a0 sa).1 : Int) < 48 then
        some (.inr (.inl ()))
      else
      if ((Utf8.decode a0 sa).1 : Int) > 57 then
        some (.inr (.inl ()))
      else
      some (.inl (sa + (Utf8.decode a0 sa).2))
    else
    if ((Utf8.decode a0 sa).1 : Int) ≥ 65 then
      if ((Utf8.decode a0 sa).1 : Int) ≤ 90 then
        some (.inl (sa + (Utf8.decode a0 sa).2))
      else
      if ((sa : Nat) : Int) = 0 then
        some (.inr (.inl ()))
      else
      if ((Utf8.decode a0 sa).1 : Int) = 95 then
        some (.inl (sa + (Utf8.decode a0 sa).2))
      else
      if ((Utf8.decode a0 sa).1 : Int) < 48 then
        some (.inr (.inl ()))
      else
      if ((Utf8.decode a0 sa).1 : Int) > 57 then
        some (.inr (.inl ()))
      else
      some (.inl (sa + (Utf8.decode a0 sa).2))
    else
    if ((sa : Nat) : Int) = 0 then
      some (.inr (.inl ()))
    else
    if ((Utf8.decode a0 sa).1 : Int) = 95 then
      some (.inl (sa + (Utf8.decode a0 sa).2))
    else
    if ((Utf8.decode a0 sa).1 : Int) < 48 then
      some (.inr (.inl ()))
    else
    if ((Utf8.decode a0 sa).1 : Int) > 57 then
      some (.inr (.inl ()))
    else
    some (.inl (sa + (Utf8.decode a0 sa).2))
  else
  some (.inr (.inr ()))
noncomputable def T_light_IsName_L1 (a0 : ByteArray) (sa : (Nat)) : List (Nat × AV) := [(0, .d (.v (.string a0))), (7, .own 2 0)]
noncomputable def H_light_IsName_L1 (a0 : ByteArray) (sa : (Nat)) : List (Nat × Blk) := [(2, .it a0 sa)]
noncomputable def X_light_IsName_L1 (a0 : ByteArray) (e : (Unit) ⊕ (Unit)) : Ex := match e with
  | (.inl e) => .ret
  | (.inr e) => (.exit 0)
noncomputable def XT_light_IsName_L1 (a0 : ByteArray) (e : (Unit) ⊕ (Unit)) : List (Nat × AV) := match e with
  | (.inl e) => [(2, .d (B false))]
  | (.inr e) => [(0, .d (.v (.string a0)))]
noncomputable def XH_light_IsName_L1 (a0 : ByteArray) (e : (Unit) ⊕ (Unit)) : List (Nat × Blk) := match e with
  | (.inl e) => []
  | (.inr e) => []
theorem R_light_IsName_L1 {n : Nat} {a0 : ByteArray} (sa : (Nat)) (r) (h : F_light_IsName_L1 n a0 sa = some r) : Rd cx (loopAt cx.P 84 0) 51 0 false (T_light_IsName_L1 a0) (H_light_IsName_L1 a0) (X_light_IsName_L1 a0) (XT_light_IsName_L1 a0) (XH_light_IsName_L1 a0) sa r := by
  unfold F_light_IsName_L1 at h
  by_cases ha1 : sa < a0.size
  · replace h := ite_t h ha1
    by_cases ha2 : ((Utf8.decode a0 sa).1 : Int) ≥ 97
    · replace h := ite_t h ha2
      by_cases ha3 : ((Utf8.decode a0 sa).1 : Int) ≤ 122
      · replace h := ite_t h ha3
        replace h := Option.some.inj h
        subst h
        exact ⟨100, 3, [.br true, .no, .br true, .br true, .no, .no], [], [0, 7], [2], round_of (ob := [(decide (((Utf8.decode a0 sa).1 : Int) ≤ 122)) = true, (decide (((Utf8.decode a0 sa).1 : Int) ≥ 97)) = true, sa < a0.size]) (by kernel_rfl) ⟨(decide_eq_true ha3), (decide_eq_true ha2), ha1, trivial⟩⟩
      · replace h := ite_f h ha3
        by_cases ha4 : ((Utf8.decode a0 sa).1 : Int) ≥ 65
        · replace h := ite_t h ha4
          by_cases ha5 : ((Utf8.decode a0 sa).1 : Int) ≤ 90
          · replace h := ite_t h ha5
            replace h := Option.some.inj h
            subst h
            exact ⟨100, 3, [.br true, .no, .br true, .br false, .br true, .br false, .no], [], [0, 7], [2], round_of (ob := [(!(decide (((Utf8.decode a0 sa).1 : Int) ≤ 90))) = false, (decide (((Utf8.decode a0 sa).1 : Int) ≥ 65)) = true, (decide (((Utf8.decode a0 sa).1 : Int) ≤ 122)) = false, (decide (((Utf8.decode a0 sa).1 : Int) ≥ 97)) = true, sa < a0.size]) (by kernel_rfl) ⟨(notf (decide_eq_true ha5)), (decide_eq_true ha4), (decide_eq_false ha3), (decide_eq_true ha2), ha1, trivial⟩⟩
          · replace h := ite_f h ha5
            by_cases ha6 : ((sa : Nat) : Int) = 0
            · replace h := ite_t h ha6
              replace h := Option.some.inj h
              subst h
              exact ⟨⟨100, 3, [.br true, .no, .br true, .br false, .br true, .br true, .br true, .no], [], [2], [], round_of (ob := [(((sa : Nat) : Int) == 0) = true, (!(decide (((Utf8.decode a0 sa).1 : Int) ≤ 90))) = true, (decide (((Utf8.decode a0 sa).1 : Int) ≥ 65)) = true, (decide (((Utf8.decode a0 sa).1 : Int) ≤ 122)) = false, (decide (((Utf8.decode a0 sa).1 : Int) ≥ 97)) = true, sa < a0.size]) (by kernel_rfl) ⟨(eqt ha6), (nott (decide_eq_false ha5)), (decide_eq_true ha4), (decide_eq_false ha3), (decide_eq_true ha2), ha1, trivial⟩⟩, nofun⟩
            · replace h := ite_f h ha6
              by_cases ha7 : ((Utf8.decode a0 sa).1 : Int) = 95
              · replace h := ite_t h ha7
                replace h := Option.some.inj h
                subst h
                exact ⟨100, 3, [.br true, .no, .br true, .br false, .br true, .br true, .br false, .br false, .no], [], [0, 7], [2], round_of (ob := [(((Utf8.decode a0 sa).1 : Int) != 95) = false, (((sa : Nat) : Int) == 0) = false, (!(decide (((Utf8.decode a0 sa).1 : Int) ≤ 90))) = true, (decide (((Utf8.decode a0 sa).1 : Int) ≥ 65)) = true, (decide (((Utf8.decode a0 sa).1 : Int) ≤ 122)) = false, (decide (((Utf8.decode a0 sa).1 : Int) ≥ 97)) = true, sa < a0.size]) (by kernel_rfl) ⟨(nef ha7), (eqf ha6), (nott (decide_eq_false ha5)), (decide_eq_true ha4), (decide_eq_false ha3), (decide_eq_true ha2), ha1, trivial⟩⟩
              · replace h := ite_f h ha7
                by_cases ha8 : ((Utf8.decode a0 sa).1 : Int) < 48
                · replace h := ite_t h ha8
                  replace h := Option.some.inj h
                  subst h
                  exact ⟨⟨100, 3, [.br true, .no, .br true, .br false, .br true, .br true, .br false, .br true, .br true, .no], [], [2], [], round_of (ob := [(decide (((Utf8.decode a0 sa).1 : Int) < 48)) = true, (((Utf8.decode a0 sa).1 : Int) != 95) = true, (((sa : Nat) : Int) == 0) = false, (!(decide (((Utf8.decode a0 sa).1 : Int) ≤ 90))) = true, (decide (((Utf8.decode a0 sa).1 : Int) ≥ 65)) = true, (decide (((Utf8.decode a0 sa).1 : Int) ≤ 122)) = false, (decide (((Utf8.decode a0 sa).1 : Int) ≥ 97)) = true, sa < a0.size]) (by kernel_rfl) ⟨(decide_eq_true ha8), (net ha7), (eqf ha6), (nott (decide_eq_false ha5)), (decide_eq_true ha4), (decide_eq_false ha3), (decide_eq_true ha2), ha1, trivial⟩⟩, nofun⟩
                · replace h := ite_f h ha8
                  by_cases ha9 : ((Utf8.decode a0 sa).1 : Int) > 57
                  · replace h := ite_t h ha9
                    replace h := Option.some.inj h
                    subst h
                    exact ⟨⟨100, 3, [.br true, .no, .br true, .br false, .br true, .br true, .br false, .br true, .br false, .br true], [], [2], [], round_of (ob := [(decide (((Utf8.decode a0 sa).1 : Int) > 57)) = true, (decide (((Utf8.decode a0 sa).1 : Int) < 48)) = false, (((Utf8.decode a0 sa).1 : Int) != 95) = true, (((sa : Nat) : Int) == 0) = false, (!(decide (((Utf8.decode a0 sa).1 : Int) ≤ 90))) = true, (decide (((Utf8.decode a0 sa).1 : Int) ≥ 65)) = true, (decide (((Utf8.decode a0 sa).1 : Int) ≤ 122)) = false, (decide (((Utf8.decode a0 sa).1 : Int) ≥ 97)) = true, sa < a0.size]) (by kernel_rfl) ⟨(decide_eq_true ha9), (decide_eq_false ha8), (net ha7), (eqf ha6), (nott (decide_eq_false ha5)), (decide_eq_true ha4), (decide_eq_false ha3), (decide_eq_true ha2), ha1, trivial⟩⟩, nofun⟩
                  · replace h := ite_f h ha9
                    replace h := Option.some.inj h
                    subst h
                    exact ⟨100, 3, [.br true, .no, .br true, .br false, .br true, .br true, .br false, .br true, .br false, .br false], [], [0, 7], [2], round_of (ob := [(decide (((Utf8.decode a0 sa).1 : Int) > 57)) = false, (decide (((Utf8.decode a0 sa).1 : Int) < 48)) = false, (((Utf8.decode a0 sa).1 : Int) != 95) = true, (((sa : Nat) : Int) == 0) = false, (!(decide (((Utf8.decode a0 sa).1 : Int) ≤ 90))) = true, (decide (((Utf8.decode a0 sa).1 : Int) ≥ 65)) = true, (decide (((Utf8.decode a0 sa).1 : Int) ≤ 122)) = false, (decide (((Utf8.decode a0 sa).1 : Int) ≥ 97)) = true, sa < a0.size]) (by kernel_rfl) ⟨(decide_eq_false ha9), (decide_eq_false ha8), (net ha7), (eqf ha6), (nott (decide_eq_false ha5)), (decide_eq_true ha4), (decide_eq_false ha3), (decide_eq_true ha2), ha1, trivial⟩⟩
        · replace h := ite_f h ha4
          by_cases ha5 : ((sa : Nat) : Int) = 0
          · replace h := ite_t h ha5
            replace h := Option.some.inj h
            subst h
            exact ⟨⟨100, 3, [.br true, .no, .br true, .br false, .br false, .no, .br true, .no], [], [2], [], round_of (ob := [(((sa : Nat) : Int) == 0) = true, (decide (((Utf8.decode a0 sa).1 : Int) ≥ 65)) = false, (decide (((Utf8.decode a0 sa).1 : Int) ≤ 122)) = false, (decide (((Utf8.decode a0 sa).1 : Int) ≥ 97)) = true, sa < a0.size]) (by kernel_rfl) ⟨(eqt ha5), (decide_eq_false ha4), (decide_eq_false ha3), (decide_eq_true ha2), ha1, trivial⟩⟩, nofun⟩
          · replace h := ite_f h ha5
            by_cases ha6 : ((Utf8.decode a0 sa).1 : Int) = 95
            · replace h := ite_t h ha6
              replace h := Option.some.inj h
              subst h
              exact ⟨100, 3, [.br true, .no, .br true, .br false, .br false, .no, .br false, .br false, .no], [], [0, 7], [2], round_of (ob := [(((Utf8.decode a0 sa).1 : Int) != 95) = false, (((sa : Nat) : Int) == 0) = false, (decide (((Utf8.decode a0 sa).1 : Int) ≥ 65)) = false, (decide (((Utf8.decode a0 sa).1 : Int) ≤ 122)) = false, (decide (((Utf8.decode a0 sa).1 : Int) ≥ 97)) = true, sa < a0.size]) (by kernel_rfl) ⟨(nef ha6), (eqf ha5), (decide_eq_false ha4), (decide_eq_false ha3), (decide_eq_true ha2), ha1, trivial⟩⟩
            · replace h := ite_f h ha6
              by_cases ha7 : ((Utf8.decode a0 sa).1 : Int) < 48
              · replace h := ite_t h ha7
                replace h := Option.some.inj h
                subst h
                exact ⟨⟨100, 3, [.br true, .no, .br true, .br false, .br false, .no, .br false, .br true, .br true, .no], [], [2], [], round_of (ob := [(decide (((Utf8.decode a0 sa).1 : Int) < 48)) = true, (((Utf8.decode a0 sa).1 : Int) != 95) = true, (((sa : Nat) : Int) == 0) = false, (decide (((Utf8.decode a0 sa).1 : Int) ≥ 65)) = false, (decide (((Utf8.decode a0 sa).1 : Int) ≤ 122)) = false, (decide (((Utf8.decode a0 sa).1 : Int) ≥ 97)) = true, sa < a0.size]) (by kernel_rfl) ⟨(decide_eq_true ha7), (net ha6), (eqf ha5), (decide_eq_false ha4), (decide_eq_false ha3), (decide_eq_true ha2), ha1, trivial⟩⟩, nofun⟩
              · replace h := ite_f h ha7
                by_cases ha8 : ((Utf8.decode a0 sa).1 : Int) > 57
                · replace h := ite_t h ha8
                  replace h := Option.some.inj h
                  subst h
                  exact ⟨⟨100, 3, [.br true, .no, .br true, .br false, .br false, .no, .br false, .br true, .br false, .br true], [], [2], [], round_of (ob := [(decide (((Utf8.decode a0 sa).1 : Int) > 57)) = true, (decide (((Utf8.decode a0 sa).1 : Int) < 48)) = false, (((Utf8.decode a0 sa).1 : Int) != 95) = true, (((sa : Nat) : Int) == 0) = false, (decide (((Utf8.decode a0 sa).1 : Int) ≥ 65)) = false, (decide (((Utf8.decode a0 sa).1 : Int) ≤ 122)) = false, (decide (((Utf8.decode a0 sa).1 : Int) ≥ 97)) = true, sa < a0.size]) (by kernel_rfl) ⟨(decide_eq_true ha8), (decide_eq_false ha7), (net ha6), (eqf ha5), (decide_eq_false ha4), (decide_eq_false ha3), (decide_eq_true ha2), ha1, trivial⟩⟩, nofun⟩
                · replace h := ite_f h ha8
                  replace h := Option.some.inj h
                  subst h
                  exact ⟨100, 3, [.br true, .no, .br true, .br false, .br false, .no, .br false, .br true, .br false, .br false], [], [0, 7], [2], round_of (ob := [(decide (((Utf8.decode a0 sa).1 : Int) > 57)) = false, (decide (((Utf8.decode a0 sa).1 : Int) < 48)) = false, (((Utf8.decode a0 sa).1 : Int) != 95) = true, (((sa : Nat) : Int) == 0) = false, (decide (((Utf8.decode a0 sa).1 : Int) ≥ 65)) = false, (decide (((Utf8.decode a0 sa).1 : Int) ≤ 122)) = false, (decide (((Utf8.decode a0 sa).1 : Int) ≥ 97)) = true, sa < a0.size]) (by kernel_rfl) ⟨(decide_eq_false ha8), (decide_eq_false ha7), (net ha6), (eqf ha5), (decide_eq_false ha4), (decide_eq_false ha3), (decide_eq_true ha2), ha1, trivial⟩⟩
    · replace h := ite_f h ha2
      by_cases ha3 : ((Utf8.decode a0 sa).1 : Int) ≥ 65
      · replace h := ite_t h ha3
        by_cases ha4 : ((Utf8.decode a0 sa).1 : Int) ≤ 90
        · replace h := ite_t h ha4
          replace h := Option.some.inj h
          subst h
          exact ⟨100, 3, [.br true, .no, .br false, .no, .br true, .br false, .no], [], [0, 7], [2], round_of (ob := [(!(decide (((Utf8.decode a0 sa).1 : Int) ≤ 90))) = false, (decide (((Utf8.decode a0 sa).1 : Int) ≥ 65)) = true, (decide (((Utf8.decode a0 sa).1 : Int) ≥ 97)) = false, sa < a0.size]) (by kernel_rfl) ⟨(notf (decide_eq_true ha4)), (decide_eq_true ha3), (decide_eq_false ha2), ha1, trivial⟩⟩
        · replace h := ite_f h ha4
          by_cases ha5 : ((sa : Nat) : Int) = 0
          · replace h := ite_t h ha5
            replace h := Option.some.inj h
            subst h
            exact ⟨⟨100, 3, [.br true, .no, .br false, .no, .br true, .br true, .br true, .no], [], [2], [], round_of (ob := [(((sa : Nat) : Int) == 0) = true, (!(decide (((Utf8.decode a0 sa).1 : Int) ≤ 90))) = true, (decide (((Utf8.decode a0 sa).1 : Int) ≥ 65)) = true, (decide (((Utf8.decode a0 sa).1 : Int) ≥ 97)) = false, sa < a0.size]) (by kernel_rfl) ⟨(eqt ha5), (nott (decide_eq_false ha4)), (decide_eq_true ha3), (decide_eq_false ha2), ha1, trivial⟩⟩, nofun⟩
          · replace h := ite_f h ha5
            by_cases ha6 : ((Utf8.decode a0 sa).1 : Int) = 95
            · replace h := ite_t h ha6
              replace h := Option.some.inj h
              subst h
              exact ⟨100, 3, [.br true, .no, .br false, .no, .br true, .br true, .br false, .br false, .no], [], [0, 7], [2], round_of (ob := [(((Utf8.decode a0 sa).1 : Int) != 95) = false, (((sa : Nat) : Int) == 0) = false, (!(decide (((Utf8.decode a0 sa).1 : Int) ≤ 90))) = true, (decide (((Utf8.decode a0 sa).1 : Int) ≥ 65)) = true, (decide (((Utf8.decode a0 sa).1 : Int) ≥ 97)) = false, sa < a0.size]) (by kernel_rfl) ⟨(nef ha6), (eqf ha5), (nott (decide_eq_false ha4)), (decide_eq_true ha3), (decide_eq_false ha2), ha1, trivial⟩⟩
            · replace h := ite_f h ha6
              by_cases ha7 : ((Utf8.decode a0 sa).1 : Int) < 48
              · replace h := ite_t h ha7
                replace h := Option.some.inj h
                subst h
                exact ⟨⟨100, 3, [.br true, .no, .br false, .no, .br true, .br true, .br false, .br true, .br true, .no], [], [2], [], round_of (ob := [(decide (((Utf8.decode a0 sa).1 : Int) < 48)) = true, (((Utf8.decode a0 sa).1 : Int) != 95) = true, (((sa : Nat) : Int) == 0) = false, (!(decide (((Utf8.decode a0 sa).1 : Int) ≤ 90))) = true, (decide (((Utf8.decode a0 sa).1 : Int) ≥ 65)) = true, (decide (((Utf8.decode a0 sa).1 : Int) ≥ 97)) = false, sa < a0.size]) (by kernel_rfl) ⟨(decide_eq_true ha7), (net ha6), (eqf ha5), (nott (decide_eq_false ha4)), (decide_eq_true ha3), (decide_eq_false ha2), ha1, trivial⟩⟩, nofun⟩
              · replace h := ite_f h ha7
                by_cases ha8 : ((Utf8.decode a0 sa).1 : Int) > 57
                · replace h := ite_t h ha8
                  replace h := Option.some.inj h
                  subst h
                  exact ⟨⟨100, 3, [.br true, .no, .br false, .no, .br true, .br true, .br false, .br true, .br false, .br true], [], [2], [], round_of (ob := [(decide (((Utf8.decode a0 sa).1 : Int) > 57)) = true, (decide (((Utf8.decode a0 sa).1 : Int) < 48)) = false, (((Utf8.decode a0 sa).1 : Int) != 95) = true, (((sa : Nat) : Int) == 0) = false, (!(decide (((Utf8.decode a0 sa).1 : Int) ≤ 90))) = true, (decide (((Utf8.decode a0 sa).1 : Int) ≥ 65)) = true, (decide (((Utf8.decode a0 sa).1 : Int) ≥ 97)) = false, sa < a0.size]) (by kernel_rfl) ⟨(decide_eq_true ha8), (decide_eq_false ha7), (net ha6), (eqf ha5), (nott (decide_eq_false ha4)), (decide_eq_true ha3), (decide_eq_false ha2), ha1, trivial⟩⟩, nofun⟩
                · replace h := ite_f h ha8
                  replace h := Option.some.inj h
                  subst h
                  exact ⟨100, 3, [.br true, .no, .br false, .no, .br true, .br true, .br false, .br true, .br false, .br false], [], [0, 7], [2], round_of (ob := [(decide (((Utf8.decode a0 sa).1 : Int) > 57)) = false, (decide (((Utf8.decode a0 sa).1 : Int) < 48)) = false, (((Utf8.decode a0 sa).1 : Int) != 95) = true, (((sa : Nat) : Int) == 0) = false, (!(decide (((Utf8.decode a0 sa).1 : Int) ≤ 90))) = true, (decide (((Utf8.decode a0 sa).1 : Int) ≥ 65)) = true, (decide (((Utf8.decode a0 sa).1 : Int) ≥ 97)) = false, sa < a0.size]) (by kernel_rfl) ⟨(decide_eq_false ha8), (decide_eq_false ha7), (net ha6), (eqf ha5), (nott (decide_eq_false ha4)), (decide_eq_true ha3), (decide_eq_false ha2), ha1, trivial⟩⟩
      · replace h := ite_f h ha3
        by_cases ha4 : ((sa : Nat) : Int) = 0
        · replace h := ite_t h ha4
          replace h := Option.some.inj h
          subst h
          exact ⟨⟨100, 3, [.br true, .no, .br false, .no, .br false, .no, .br true, .no], [], [2], [], round_of (ob := [(((sa : Nat) : Int) == 0) = true, (decide (((Utf8.decode a0 sa).1 : Int) ≥ 65)) = false, (decide (((Utf8.decode a0 sa).1 : Int) ≥ 97)) = false, sa < a0.size]) (by kernel_rfl) ⟨(eqt ha4), (decide_eq_false ha3), (decide_eq_false ha2), ha1, trivial⟩⟩, nofun⟩
        · replace h := ite_f h ha4
          by_cases ha5 : ((Utf8.decode a0 sa).1 : Int) = 95
          · replace h := ite_t h ha5
            replace h := Option.some.inj h
            subst h
            exact ⟨100, 3, [.br true, .no, .br false, .no, .br false, .no, .br false, .br false, .no], [], [0, 7], [2], round_of (ob := [(((Utf8.decode a0 sa).1 : Int) != 95) = false, (((sa : Nat) : Int) == 0) = false, (decide (((Utf8.decode a0 sa).1 : Int) ≥ 65)) = false, (decide (((Utf8.decode a0 sa).1 : Int) ≥ 97)) = false, sa < a0.size]) (by kernel_rfl) ⟨(nef ha5), (eqf ha4), (decide_eq_false ha3), (decide_eq_false ha2), ha1, trivial⟩⟩
          · replace h := ite_f h ha5
            by_cases ha6 : ((Utf8.decode a0 sa).1 : Int) < 48
            · replace h := ite_t h ha6
              replace h := Option.some.inj h
              subst h
              exact ⟨⟨100, 3, [.br true, .no, .br false, .no, .br false, .no, .br false, .br true, .br true, .no], [], [2], [], round_of (ob := [(decide (((Utf8.decode a0 sa).1 : Int) < 48)) = true, (((Utf8.decode a0 sa).1 : Int) != 95) = true, (((sa : Nat) : Int) == 0) = false, (decide (((Utf8.decode a0 sa).1 : Int) ≥ 65)) = false, (decide (((Utf8.decode a0 sa).1 : Int) ≥ 97)) = false, sa < a0.size]) (by kernel_rfl) ⟨(decide_eq_true ha6), (net ha5), (eqf ha4), (decide_eq_false ha3), (decide_eq_false ha2), ha1, trivial⟩⟩, nofun⟩
            · replace h := ite_f h ha6
              by_cases ha7 : ((Utf8.decode a0 sa).1 : Int) > 57
              · replace h := ite_t h ha7
                replace h := Option.some.inj h
                subst h
                exact ⟨⟨100, 3, [.br true, .no, .br false, .no, .br false, .no, .br false, .br true, .br false, .br true], [], [2], [], round_of (ob := [(decide (((Utf8.decode a0 sa).1 : Int) > 57)) = true, (decide (((Utf8.decode a0 sa).1 : Int) < 48)) = false, (((Utf8.decode a0 sa).1 : Int) != 95) = true, (((sa : Nat) : Int) == 0) = false, (decide (((Utf8.decode a0 sa).1 : Int) ≥ 65)) = false, (decide (((Utf8.decode a0 sa).1 : Int) ≥ 97)) = false, sa < a0.size]) (by kernel_rfl) ⟨(decide_eq_true ha7), (decide_eq_false ha6), (net ha5), (eqf ha4), (decide_eq_false ha3), (decide_eq_false ha2), ha1, trivial⟩⟩, nofun⟩
              · replace h := ite_f h ha7
                replace h := Option.some.inj h
                subst h
                exact ⟨100, 3, [.br true, .no, .br false, .no, .br false, .no, .br false, .br true, .br false, .br false], [], [0, 7], [2], round_of (ob := [(decide (((Utf8.decode a0 sa).1 : Int) > 57)) = false, (decide (((Utf8.decode a0 sa).1 : Int) < 48)) = false, (((Utf8.decode a0 sa).1 : Int) != 95) = true, (((sa : Nat) : Int) == 0) = false, (decide (((Utf8.decode a0 sa).1 : Int) ≥ 65)) = false, (decide (((Utf8.decode a0 sa).1 : Int) ≥ 97)) = false, sa < a0.size]) (by kernel_rfl) ⟨(decide_eq_false ha7), (decide_eq_false ha6), (net ha5), (eqf ha4), (decide_eq_false ha3), (decide_eq_false ha2), ha1, trivial⟩⟩
  · replace h := ite_f h ha1
    replace h := Option.some.inj h
    subst h
    exact ⟨⟨100, 3, [.br false, .no], [], [0], [], round_of (ob := [¬ sa < a0.size]) (by kernel_rfl) ⟨ha1, trivial⟩⟩, nofun⟩
/- spillage/light.IsName: .v (.string a0) -/
def F_light_IsName (n : Nat) (a0 : ByteArray) : Option (Bool) :=
  (loopF (F_light_IsName_L1 n a0) n 0).bind fun t1 => match t1 with
    | (.inl t1) => (
      some false)
    | (.inr t1) => (
      if (!(a0.toList == (⟨#[]⟩ : ByteArray).toList)) = true then
        some (decide ((a0.size : Int) ≤ 24))
      else
      some false)
theorem c_light_IsName {n : Nat} {a0 : ByteArray} {r : Bool} (h : F_light_IsName n a0 = some r) : Computes cx 84 [.v (.string a0)] (B r) := by
  unfold F_light_IsName at h
  obtain ⟨t1, h1, h⟩ := bnd_of h
  rcases t1 with t1 | t1
  · replace h := Option.some.inj h
    subst h
    exact run (n := 100) (f := 84) (args := [.v (.string a0)]) (orc := [.lp [] [0, 7] [2] .ret [(2, .d (B false))] [] 54]) (r := B false) (ob := [LoopN cx (loopAt cx.P 84 0) 51 0 false [(0, .d (.v (.string a0))), (7, .own 2 0)] [(2, .it a0 0)] .ret [(2, .d (B false))] []]) (by kernel_rfl) ⟨(loopF_to R_light_IsName_L1 h1), trivial⟩
  · by_cases h2 : (!(a0.toList == (⟨#[]⟩ : ByteArray).toList)) = true
    · replace h := ite_t h h2
      replace h := Option.some.inj h
      subst h
      exact run (n := 100) (f := 84) (args := [.v (.string a0)]) (orc := [.lp [] [0, 7] [2] (.exit 0) [(0, .d (.v (.string a0)))] [] 54, .br true]) (r := B (decide ((a0.size : Int) ≤ 24))) (ob := [(!(a0.toList == (⟨#[]⟩ : ByteArray).toList)) = true, LoopN cx (loopAt cx.P 84 0) 51 0 false [(0, .d (.v (.string a0))), (7, .own 2 0)] [(2, .it a0 0)] (.exit 0) [(0, .d (.v (.string a0)))] []]) (by kernel_rfl) ⟨h2, (loopF_to R_light_IsName_L1 h1), trivial⟩
    · replace h := ite_f h h2
      replace h := Option.some.inj h
      subst h
      exact run (n := 100) (f := 84) (args := [.v (.string a0)]) (orc := [.lp [] [0, 7] [2] (.exit 0) [(0, .d (.v (.string a0)))] [] 54, .br false]) (r := B false) (ob := [(!(a0.toList == (⟨#[]⟩ : ByteArray).toList)) = false, LoopN cx (loopAt cx.P 84 0) 51 0 false [(0, .d (.v (.string a0))), (7, .own 2 0)] [(2, .it a0 0)] (.exit 0) [(0, .d (.v (.string a0)))] []]) (by kernel_rfl) ⟨(bfalse h2), (loopF_to R_light_IsName_L1 h1), trivial⟩
/- spillage/field.when: B a0, I a1 -/
def F_field_when (n : Nat) (a0 : Bool) (a1 : Int) : Option (Int) :=
  if a0 = true then
    some a1
  else
  some 0
theorem c_field_when {n : Nat} {a0 : Bool} {a1 : Int} {r : Int} (h : F_field_when n a0 a1 = some r) : Computes cx 83 [B a0, I a1] (I r) := by
  unfold F_field_when at h
  by_cases h1 : a0 = true
  · replace h := ite_t h h1
    replace h := Option.some.inj h
    subst h
    exact run (n := 100) (f := 83) (args := [B a0, I a1]) (orc := [.br true]) (r := I a1) (ob := [a0 = true]) (by kernel_rfl) ⟨h1, trivial⟩
  · replace h := ite_f h h1
    replace h := Option.some.inj h
    subst h
    exact run (n := 100) (f := 83) (args := [B a0, I a1]) (orc := [.br false]) (r := I 0) (ob := [a0 = false]) (by kernel_rfl) ⟨(bfalse h1), trivial⟩
/- spillage/field.when: B true, I 3 -/
def F_field_when_2 (n : Nat)  : Option (Int) :=
  some 3
theorem c_field_when_2 {n : Nat}  {r : Int} (h : F_field_when_2 n  = some r) : Computes cx 83 [B true, I 3] (I r) := by
  unfold F_field_when_2 at h
  replace h := Option.some.inj h
  subst h
  exact run (n := 100) (f := 83) (args := [B true, I 3]) (orc := [.no]) (r := I 3) (ob := []) (by kernel_rfl) trivial
/- spillage/field.within: I a0, I a1, I a2 -/
def F_field_within (n : Nat) (a0 : Int) (a1 : Int) (a2 : Int) : Option (Int) :=
  if a0 < a1 then
    (F_field_when_2 n).bind fun t2 =>
    some t2
  else
  (F_field_when n (decide (a0 > a2)) 3).bind fun t2 =>
  some t2
theorem c_field_within {n : Nat} {a0 : Int} {a1 : Int} {a2 : Int} {r : Int} (h : F_field_within n a0 a1 a2 = some r) : Computes cx 73 [I a0, I a1, I a2] (I r) := by
  unfold F_field_within at h
  by_cases h1 : a0 < a1
  · replace h := ite_t h h1
    obtain ⟨t2, h2, h⟩ := bnd_of h
    replace h := Option.some.inj h
    subst h
    exact run (n := 100) (f := 73) (args := [I a0, I a1, I a2]) (orc := [.br true, .ret (I t2)]) (r := I t2) (ob := [Computes cx 83 [B true, I 3] (I t2), (decide (a0 < a1)) = true]) (by kernel_rfl) ⟨(c_field_when_2 h2), (decide_eq_true h1), trivial⟩
  · replace h := ite_f h h1
    obtain ⟨t2, h2, h⟩ := bnd_of h
    replace h := Option.some.inj h
    subst h
    exact run (n := 100) (f := 73) (args := [I a0, I a1, I a2]) (orc := [.br false, .ret (I t2)]) (r := I t2) (ob := [Computes cx 83 [B (decide (a0 > a2)), I 3] (I t2), (decide (a0 < a1)) = false]) (by kernel_rfl) ⟨(c_field_when h2), (decide_eq_false h1), trivial⟩
def F_field_first_L1 (n : Nat) (a0 : List D) (sa : (Int)) : Option (((Int)) ⊕ ((Int) ⊕ (Unit))) :=
  if sa < ((a0).length : Int) then
    (el un_i a0 sa).bind fun ta2 =>
    if ta2 = 0 then
      if inI64 (sa + 1) then
      some (.inl (sa + 1))
      else none
    else
    some (.inr (.inl ta2))
  else
  some (.inr (.inr ()))
noncomputable def T_field_first_L1 (a0 : List D) (sa : (Int)) : List (Nat × AV) := [(5, .d (.lst false 1 a0)), (6, .d (I ((a0).length : Int))), (7, .d (I sa))]
noncomputable def H_field_first_L1 (a0 : List D) (sa : (Int)) : List (Nat × Blk) := []
noncomputable def X_field_first_L1 (a0 : List D) (e : (Int) ⊕ (Unit)) : Ex := match e with
  | (.inl e) => .ret
  | (.inr e) => (.exit 0)
noncomputable def XT_field_first_L1 (a0 : List D) (e : (Int) ⊕ (Unit)) : List (Nat × AV) := match e with
  | (.inl e) => [(2, .d (I e))]
  | (.inr e) => []
noncomputable def XH_field_first_L1 (a0 : List D) (e : (Int) ⊕ (Unit)) : List (Nat × Blk) := match e with
  | (.inl e) => []
  | (.inr e) => []
theorem R_field_first_L1 {n : Nat} {a0 : List D} (sa : (Int)) (r) (h : F_field_first_L1 n a0 sa = some r) : Rd cx (loopAt cx.P 56 0) 15 0 false (T_field_first_L1 a0) (H_field_first_L1 a0) (X_field_first_L1 a0) (XT_field_first_L1 a0) (XH_field_first_L1 a0) sa r := by
  unfold F_field_first_L1 at h
  by_cases ha1 : sa < ((a0).length : Int)
  · replace h := ite_t h ha1
    obtain ⟨ta2, ha2, h⟩ := bnd_of h
    by_cases ha3 : ta2 = 0
    · replace h := ite_t h ha3
      obtain ⟨ha4, h⟩ := grd_of h
      replace h := Option.some.inj h
      subst h
      exact ⟨100, 4, [.br true, .el (I ta2), .br false], [], [5, 6, 7], [], round_of (ob := [inI64 (sa + 1), (ta2 != 0) = false, (0 : Int) ≤ sa, nth (a0) (Int.toNat sa) = some (I ta2), (decide (sa < ((a0).length : Int))) = true]) (by kernel_rfl) ⟨ha4, (nef ha3), (el_ok un_i_ok ha2).1, (el_ok un_i_ok ha2).2, (decide_eq_true ha1), trivial⟩⟩
    · replace h := ite_f h ha3
      replace h := Option.some.inj h
      subst h
      exact ⟨⟨100, 4, [.br true, .el (I ta2), .br true], [], [2], [], round_of (ob := [(ta2 != 0) = true, (0 : Int) ≤ sa, nth (a0) (Int.toNat sa) = some (I ta2), (decide (sa < ((a0).length : Int))) = true]) (by kernel_rfl) ⟨(net ha3), (el_ok un_i_ok ha2).1, (el_ok un_i_ok ha2).2, (decide_eq_true ha1), trivial⟩⟩, nofun⟩
  · replace h := ite_f h ha1
    replace h := Option.some.inj h
    subst h
    exact ⟨⟨100, 4, [.br false], [], [], [], round_of (ob := [(decide (sa < ((a0).length : Int))) = false]) (by kernel_rfl) ⟨(decide_eq_false ha1), trivial⟩⟩, nofun⟩
/- spillage/field.first: .lst false 1 a0 -/
def F_field_first (n : Nat) (a0 : List D) : Option (Int) :=
  (loopF (F_field_first_L1 n a0) n 0).bind fun t1 => match t1 with
    | (.inl t1) => (
      some t1)
    | (.inr t1) => (
      some 0)
theorem c_field_first {n : Nat} {a0 : List D} {r : Int} (h : F_field_first n a0 = some r) : Computes cx 56 [.lst false 1 a0] (I r) := by
  unfold F_field_first at h
  obtain ⟨t1, h1, h⟩ := bnd_of h
  rcases t1 with t1 | t1
  · replace h := Option.some.inj h
    subst h
    exact run (n := 100) (f := 56) (args := [.lst false 1 a0]) (orc := [.lp [] [5, 6, 7] [] .ret [(2, .d (I t1))] [] 23]) (r := I t1) (ob := [LoopN cx (loopAt cx.P 56 0) 15 0 false [(5, .d (.lst false 1 a0)), (6, .d (I ((a0).length : Int))), (7, .d (I 0))] [] .ret [(2, .d (I t1))] []]) (by kernel_rfl) ⟨(loopF_to R_field_first_L1 h1), trivial⟩
  · replace h := Option.some.inj h
    subst h
    exact run (n := 100) (f := 56) (args := [.lst false 1 a0]) (orc := [.lp [] [5, 6, 7] [] (.exit 0) [] [] 23]) (r := I 0) (ob := [LoopN cx (loopAt cx.P 56 0) 15 0 false [(5, .d (.lst false 1 a0)), (6, .d (I ((a0).length : Int))), (7, .d (I 0))] [] (.exit 0) [] []]) (by kernel_rfl) ⟨(loopF_to R_field_first_L1 h1), trivial⟩
end Go.Proofs.YtiogobiijlaalaaDoor
