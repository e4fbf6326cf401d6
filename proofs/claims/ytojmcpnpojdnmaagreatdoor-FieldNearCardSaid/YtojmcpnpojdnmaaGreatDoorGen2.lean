/-
  Printed by gsx.py: functions of the program as Lean functions, and that the code computes them.
-/
import Derived.Test.YtojmcpnpojdnmaaGreatDoorGen1
set_option linter.unusedVariables false
set_option linter.unusedSimpArgs false
set_option linter.unnecessarySimpa false
set_option maxRecDepth 10000
namespace Go.Proofs.YtojmcpnpojdnmaaGreatDoor
open Go.SX
def F_ref01_IsName_L1 (n : Nat) (a0 : ByteArray) (sa : (Int)) : Option (((Int)) ⊕ ((Unit) ⊕ (Unit))) :=
  if sa < (a0.size : Int) then
    (strAt a0 sa).bind fun ta2 =>
    if ta2 ≥ 97 then
      if ta2 ≤ 122 then
        if ta2 ≥ 48 then
          if ta2 ≤ 57 then
            if inI64 (sa + 1) then
            some (.inl (sa + 1))
            else none
          else
          if inI64 (sa + 1) then
          some (.inl (sa + 1))
          else none
        else
        if inI64 (sa + 1) then
        some (.inl (sa + 1))
        else none
      else
      if ta2 ≥ 65 then
        if ta2 ≥ 48 then
          if ta2 ≤ 57 then
            if ta2 ≤ 90 then
              if inI64 (sa + 1) then
              some (.inl (sa + 1))
              else none
            else
            if sa = 0 then
              some (.inr (.inl ()))
            else
            if inI64 (sa + 1) then
            some (.inl (sa + 1))
            else none
          else
          if ta2 ≤ 90 then
            if inI64 (sa + 1) then
            some (.inl (sa + 1))
            else none
          else
          if sa = 0 then
            some (.inr (.inl ()))
          else
          if ta2 = 95 then
            if inI64 (sa + 1) then
            some (.inl (sa + 1))
            else none
          else
          some (.inr (.inl ()))
        else
        if ta2 ≤ 90 then
          if inI64 (sa + 1) then
          some (.inl (sa + 1))
          else none
        else
        if sa = 0 then
          some (.inr (.inl ()))
        else
        if ta2 = 95 then
          if inI64 (sa + 1) then
          some (.inl (sa + 1))
          else none
        else
        some (.inr (.inl ()))
      else
      if ta2 ≥ 48 then
        if ta2 ≤ 57 then
          if sa = 0 then
            some (.inr (.inl ()))
          else
          if inI64 (sa + 1) then
          some (.inl (sa + 1))
          else none
        else
        if sa = 0 then
          some (.inr (.inl ()))
        else
        if ta2 = 95 then
          if inI64 (sa + 1) then
          some (.inl (sa + 1))
          else none
        else
        some (.inr (.inl ()))
      else
      if sa = 0 then
        some (.inr (.inl ()))
      else
      if ta2 = 95 then
        if inI64 (sa + 1) then
        some (.inl (sa + 1))
        else none
      else
      some (.inr (.inl ()))
    else
    if ta2 ≥ 65 then
      if ta2 ≥ 48 then
        if ta2 ≤ 57 then
          if ta2 ≤ 90 then
            if inI64 (sa + 1) then
            some (.inl (sa + 1))
            else none
          else
          if sa = 0 then
            some (.inr (.inl ()))
          else
          if inI64 (sa + 1) then
          some (.inl (sa + 1))
          else none
        else
        if ta2 ≤ 90 then
          if inI64 (sa + 1) then
          some (.inl (sa + 1))
          else none
        else
        if sa = 0 then
          some (.inr (.inl ()))
        else
        if ta2 = 95 then
          if inI64 (sa + 1) then
          some (.inl (sa + 1))
          else none
        else
        some (.inr (.inl ()))
      else
      if ta2 ≤ 90 then
        if inI64 (sa + 1) then
        some (.inl (sa + 1))
        else none
      else
      if sa = 0 then
        some (.inr (.inl ()))
      else
      if ta2 = 95 then
        if inI64 (sa + 1) then
        some (.inl (sa + 1))
        else none
      else
      some (.inr (.inl ()))
    else
    if ta2 ≥ 48 then
      if ta2 ≤ 57 then
        if sa = 0 then
          some (.inr (.inl ()))
        else
        if inI64 (sa + 1) then
        some (.inl (sa + 1))
        else none
      else
      if sa = 0 then
        some (.inr (.inl ()))
      else
      if ta2 = 95 then
        if inI64 (sa + 1) then
        some (.inl (sa + 1))
        else none
      else
      some (.inr (.inl ()))
    else
    if sa = 0 then
      some (.inr (.inl ()))
    else
    if ta2 = 95 then
      if inI64 (sa + 1) then
      some (.inl (sa + 1))
      else none
    else
    some (.inr (.inl ()))
  else
  some (.inr (.inr ()))
noncomputable def T_ref01_IsName_L1 (a0 : ByteArray) (sa : (Int)) : List (Nat × AV) := [(0, .d (.v (.string a0))), (3, .d (I sa))]
noncomputable def H_ref01_IsName_L1 (a0 : ByteArray) (sa : (Int)) : List (Nat × Blk) := []
noncomputable def X_ref01_IsName_L1 (a0 : ByteArray) (e : (Unit) ⊕ (Unit)) : Ex := match e with
  | (.inl e) => .ret
  | (.inr e) => (.exit 0)
noncomputable def XT_ref01_IsName_L1 (a0 : ByteArray) (e : (Unit) ⊕ (Unit)) : List (Nat × AV) := match e with
  | (.inl e) => [(2, .d (B false))]
  | (.inr e) => []
noncomputable def XH_ref01_IsName_L1 (a0 : ByteArray) (e : (Unit) ⊕ (Unit)) : List (Nat × Blk) := match e with
  | (.inl e) => []
  | (.inr e) => []
theorem R_ref01_IsName_L1 {n : Nat} {a0 : ByteArray} (sa : (Int)) (r) (h : F_ref01_IsName_L1 n a0 sa = some r) : Rd cx (loopAt cx.P 124 0) 67 0 false (T_ref01_IsName_L1 a0) (H_ref01_IsName_L1 a0) (X_ref01_IsName_L1 a0) (XT_ref01_IsName_L1 a0) (XH_ref01_IsName_L1 a0) sa r := by
  unfold F_ref01_IsName_L1 at h
  by_cases ha1 : sa < (a0.size : Int)
  · replace h := ite_t h ha1
    obtain ⟨ta2, ha2, h⟩ := bnd_of h
    by_cases ha3 : ta2 ≥ 97
    · replace h := ite_t h ha3
      by_cases ha4 : ta2 ≤ 122
      · replace h := ite_t h ha4
        by_cases ha5 : ta2 ≥ 48
        · replace h := ite_t h ha5
          by_cases ha6 : ta2 ≤ 57
          · replace h := ite_t h ha6
            obtain ⟨ha7, h⟩ := grd_of h
            replace h := Option.some.inj h
            subst h
            exact ⟨100, 9, [.br true, .el (.v (.int .u8 ta2)), .br true, .el (.v (.int .u8 ta2)), .br true, .el (.v (.int .u8 ta2)), .br true, .el (.v (.int .u8 ta2)), .br true, .no, .no], [], [0, 3], [], round_of (ob := [inI64 (sa + 1), (decide (ta2 ≤ 57)) = true, pureRun cx.P (Instr.index 9 (.string a0) (.int .i64 sa)) = some (.int .u8 ta2), (decide (ta2 ≥ 48)) = true, pureRun cx.P (Instr.index 9 (.string a0) (.int .i64 sa)) = some (.int .u8 ta2), (decide (ta2 ≤ 122)) = true, pureRun cx.P (Instr.index 9 (.string a0) (.int .i64 sa)) = some (.int .u8 ta2), (decide (ta2 ≥ 97)) = true, pureRun cx.P (Instr.index 9 (.string a0) (.int .i64 sa)) = some (.int .u8 ta2), (decide (sa < (a0.size : Int))) = true]) (by kernel_rfl) ⟨ha7, (decide_eq_true ha6), strAt_ok ha2, (decide_eq_true ha5), strAt_ok ha2, (decide_eq_true ha4), strAt_ok ha2, (decide_eq_true ha3), strAt_ok ha2, (decide_eq_true ha1), trivial⟩⟩
          · replace h := ite_f h ha6
            obtain ⟨ha7, h⟩ := grd_of h
            replace h := Option.some.inj h
            subst h
            exact ⟨100, 9, [.br true, .el (.v (.int .u8 ta2)), .br true, .el (.v (.int .u8 ta2)), .br true, .el (.v (.int .u8 ta2)), .br true, .el (.v (.int .u8 ta2)), .br false, .el (.v (.int .u8 ta2)), .no, .no], [], [0, 3], [], round_of (ob := [inI64 (sa + 1), pureRun cx.P (Instr.index 9 (.string a0) (.int .i64 sa)) = some (.int .u8 ta2), (decide (ta2 ≤ 57)) = false, pureRun cx.P (Instr.index 9 (.string a0) (.int .i64 sa)) = some (.int .u8 ta2), (decide (ta2 ≥ 48)) = true, pureRun cx.P (Instr.index 9 (.string a0) (.int .i64 sa)) = some (.int .u8 ta2), (decide (ta2 ≤ 122)) = true, pureRun cx.P (Instr.index 9 (.string a0) (.int .i64 sa)) = some (.int .u8 ta2), (decide (ta2 ≥ 97)) = true, pureRun cx.P (Instr.index 9 (.string a0) (.int .i64 sa)) = some (.int .u8 ta2), (decide (sa < (a0.size : Int))) = true]) (by kernel_rfl) ⟨ha7, strAt_ok ha2, (decide_eq_false ha6), strAt_ok ha2, (decide_eq_true ha5), strAt_ok ha2, (decide_eq_true ha4), strAt_ok ha2, (decide_eq_true ha3), strAt_ok ha2, (decide_eq_true ha1), trivial⟩⟩
        · replace h := ite_f h ha5
          obtain ⟨ha6, h⟩ := grd_of h
          replace h := Option.some.inj h
          subst h
          exact ⟨100, 9, [.br true, .el (.v (.int .u8 ta2)), .br true, .el (.v (.int .u8 ta2)), .br true, .el (.v (.int .u8 ta2)), .br false, .no, .el (.v (.int .u8 ta2)), .no, .no], [], [0, 3], [], round_of (ob := [inI64 (sa + 1), pureRun cx.P (Instr.index 9 (.string a0) (.int .i64 sa)) = some (.int .u8 ta2), (decide (ta2 ≥ 48)) = false, pureRun cx.P (Instr.index 9 (.string a0) (.int .i64 sa)) = some (.int .u8 ta2), (decide (ta2 ≤ 122)) = true, pureRun cx.P (Instr.index 9 (.string a0) (.int .i64 sa)) = some (.int .u8 ta2), (decide (ta2 ≥ 97)) = true, pureRun cx.P (Instr.index 9 (.string a0) (.int .i64 sa)) = some (.int .u8 ta2), (decide (sa < (a0.size : Int))) = true]) (by kernel_rfl) ⟨ha6, strAt_ok ha2, (decide_eq_false ha5), strAt_ok ha2, (decide_eq_true ha4), strAt_ok ha2, (decide_eq_true ha3), strAt_ok ha2, (decide_eq_true ha1), trivial⟩⟩
      · replace h := ite_f h ha4
        by_cases ha5 : ta2 ≥ 65
        · replace h := ite_t h ha5
          by_cases ha6 : ta2 ≥ 48
          · replace h := ite_t h ha6
            by_cases ha7 : ta2 ≤ 57
            · replace h := ite_t h ha7
              by_cases ha8 : ta2 ≤ 90
              · replace h := ite_t h ha8
                obtain ⟨ha9, h⟩ := grd_of h
                replace h := Option.some.inj h
                subst h
                exact ⟨100, 9, [.br true, .el (.v (.int .u8 ta2)), .br true, .el (.v (.int .u8 ta2)), .br false, .el (.v (.int .u8 ta2)), .br true, .el (.v (.int .u8 ta2)), .el (.v (.int .u8 ta2)), .br true, .el (.v (.int .u8 ta2)), .br true, .br false, .no], [], [0, 3], [], round_of (ob := [inI64 (sa + 1), (!(decide (ta2 ≤ 90))) = false, (decide (ta2 ≤ 57)) = true, pureRun cx.P (Instr.index 9 (.string a0) (.int .i64 sa)) = some (.int .u8 ta2), (decide (ta2 ≥ 48)) = true, pureRun cx.P (Instr.index 9 (.string a0) (.int .i64 sa)) = some (.int .u8 ta2), pureRun cx.P (Instr.index 9 (.string a0) (.int .i64 sa)) = some (.int .u8 ta2), (decide (ta2 ≥ 65)) = true, pureRun cx.P (Instr.index 9 (.string a0) (.int .i64 sa)) = some (.int .u8 ta2), (decide (ta2 ≤ 122)) = false, pureRun cx.P (Instr.index 9 (.string a0) (.int .i64 sa)) = some (.int .u8 ta2), (decide (ta2 ≥ 97)) = true, pureRun cx.P (Instr.index 9 (.string a0) (.int .i64 sa)) = some (.int .u8 ta2), (decide (sa < (a0.size : Int))) = true]) (by kernel_rfl) ⟨ha9, (notf (decide_eq_true ha8)), (decide_eq_true ha7), strAt_ok ha2, (decide_eq_true ha6), strAt_ok ha2, strAt_ok ha2, (decide_eq_true ha5), strAt_ok ha2, (decide_eq_false ha4), strAt_ok ha2, (decide_eq_true ha3), strAt_ok ha2, (decide_eq_true ha1), trivial⟩⟩
              · replace h := ite_f h ha8
                by_cases ha9 : sa = 0
                · replace h := ite_t h ha9
                  replace h := Option.some.inj h
                  subst h
                  exact ⟨⟨100, 9, [.br true, .el (.v (.int .u8 ta2)), .br true, .el (.v (.int .u8 ta2)), .br false, .el (.v (.int .u8 ta2)), .br true, .el (.v (.int .u8 ta2)), .el (.v (.int .u8 ta2)), .br true, .el (.v (.int .u8 ta2)), .br true, .br true, .br true, .no], [], [2], [], round_of (ob := [(sa == 0) = true, (!(decide (ta2 ≤ 90))) = true, (decide (ta2 ≤ 57)) = true, pureRun cx.P (Instr.index 9 (.string a0) (.int .i64 sa)) = some (.int .u8 ta2), (decide (ta2 ≥ 48)) = true, pureRun cx.P (Instr.index 9 (.string a0) (.int .i64 sa)) = some (.int .u8 ta2), pureRun cx.P (Instr.index 9 (.string a0) (.int .i64 sa)) = some (.int .u8 ta2), (decide (ta2 ≥ 65)) = true, pureRun cx.P (Instr.index 9 (.string a0) (.int .i64 sa)) = some (.int .u8 ta2), (decide (ta2 ≤ 122)) = false, pureRun cx.P (Instr.index 9 (.string a0) (.int .i64 sa)) = some (.int .u8 ta2), (decide (ta2 ≥ 97)) = true, pureRun cx.P (Instr.index 9 (.string a0) (.int .i64 sa)) = some (.int .u8 ta2), (decide (sa < (a0.size : Int))) = true]) (by kernel_rfl) ⟨(eqt ha9), (nott (decide_eq_false ha8)), (decide_eq_true ha7), strAt_ok ha2, (decide_eq_true ha6), strAt_ok ha2, strAt_ok ha2, (decide_eq_true ha5), strAt_ok ha2, (decide_eq_false ha4), strAt_ok ha2, (decide_eq_true ha3), strAt_ok ha2, (decide_eq_true ha1), trivial⟩⟩, nofun⟩
                · replace h := ite_f h ha9
                  obtain ⟨ha10, h⟩ := grd_of h
                  replace h := Option.some.inj h
                  subst h
                  exact ⟨100, 9, [.br true, .el (.v (.int .u8 ta2)), .br true, .el (.v (.int .u8 ta2)), .br false, .el (.v (.int .u8 ta2)), .br true, .el (.v (.int .u8 ta2)), .el (.v (.int .u8 ta2)), .br true, .el (.v (.int .u8 ta2)), .br true, .br true, .br false, .no], [], [0, 3], [], round_of (ob := [inI64 (sa + 1), (sa == 0) = false, (!(decide (ta2 ≤ 90))) = true, (decide (ta2 ≤ 57)) = true, pureRun cx.P (Instr.index 9 (.string a0) (.int .i64 sa)) = some (.int .u8 ta2), (decide (ta2 ≥ 48)) = true, pureRun cx.P (Instr.index 9 (.string a0) (.int .i64 sa)) = some (.int .u8 ta2), pureRun cx.P (Instr.index 9 (.string a0) (.int .i64 sa)) = some (.int .u8 ta2), (decide (ta2 ≥ 65)) = true, pureRun cx.P (Instr.index 9 (.string a0) (.int .i64 sa)) = some (.int .u8 ta2), (decide (ta2 ≤ 122)) = false, pureRun cx.P (Instr.index 9 (.string a0) (.int .i64 sa)) = some (.int .u8 ta2), (decide (ta2 ≥ 97)) = true, pureRun cx.P (Instr.index 9 (.string a0) (.int .i64 sa)) = some (.int .u8 ta2), (decide (sa < (a0.size : Int))) = true]) (by kernel_rfl) ⟨ha10, (eqf ha9), (nott (decide_eq_false ha8)), (decide_eq_true ha7), strAt_ok ha2, (decide_eq_true ha6), strAt_ok ha2, strAt_ok ha2, (decide_eq_true ha5), strAt_ok ha2, (decide_eq_false ha4), strAt_ok ha2, (decide_eq_true ha3), strAt_ok ha2, (decide_eq_true ha1), trivial⟩⟩
            · replace h := ite_f h ha7
              by_cases ha8 : ta2 ≤ 90
              · replace h := ite_t h ha8
                obtain ⟨ha9, h⟩ := grd_of h
                replace h := Option.some.inj h
                subst h
                exact ⟨100, 9, [.br true, .el (.v (.int .u8 ta2)), .br true, .el (.v (.int .u8 ta2)), .br false, .el (.v (.int .u8 ta2)), .br true, .el (.v (.int .u8 ta2)), .el (.v (.int .u8 ta2)), .br true, .el (.v (.int .u8 ta2)), .br false, .el (.v (.int .u8 ta2)), .br false, .no], [], [0, 3], [], round_of (ob := [inI64 (sa + 1), (!(decide (ta2 ≤ 90))) = false, pureRun cx.P (Instr.index 9 (.string a0) (.int .i64 sa)) = some (.int .u8 ta2), (decide (ta2 ≤ 57)) = false, pureRun cx.P (Instr.index 9 (.string a0) (.int .i64 sa)) = some (.int .u8 ta2), (decide (ta2 ≥ 48)) = true, pureRun cx.P (Instr.index 9 (.string a0) (.int .i64 sa)) = some (.int .u8 ta2), pureRun cx.P (Instr.index 9 (.string a0) (.int .i64 sa)) = some (.int .u8 ta2), (decide (ta2 ≥ 65)) = true, pureRun cx.P (Instr.index 9 (.string a0) (.int .i64 sa)) = some (.int .u8 ta2), (decide (ta2 ≤ 122)) = false, pureRun cx.P (Instr.index 9 (.string a0) (.int .i64 sa)) = some (.int .u8 ta2), (decide (ta2 ≥ 97)) = true, pureRun cx.P (Instr.index 9 (.string a0) (.int .i64 sa)) = some (.int .u8 ta2), (decide (sa < (a0.size : Int))) = true]) (by kernel_rfl) ⟨ha9, (notf (decide_eq_true ha8)), strAt_ok ha2, (decide_eq_false ha7), strAt_ok ha2, (decide_eq_true ha6), strAt_ok ha2, strAt_ok ha2, (decide_eq_true ha5), strAt_ok ha2, (decide_eq_false ha4), strAt_ok ha2, (decide_eq_true ha3), strAt_ok ha2, (decide_eq_true ha1), trivial⟩⟩
              · replace h := ite_f h ha8
                by_cases ha9 : sa = 0
                · replace h := ite_t h ha9
                  replace h := Option.some.inj h
                  subst h
                  exact ⟨⟨100, 9, [.br true, .el (.v (.int .u8 ta2)), .br true, .el (.v (.int .u8 ta2)), .br false, .el (.v (.int .u8 ta2)), .br true, .el (.v (.int .u8 ta2)), .el (.v (.int .u8 ta2)), .br true, .el (.v (.int .u8 ta2)), .br false, .el (.v (.int .u8 ta2)), .br true, .br true, .no], [], [2], [], round_of (ob := [(sa == 0) = true, (!(decide (ta2 ≤ 90))) = true, pureRun cx.P (Instr.index 9 (.string a0) (.int .i64 sa)) = some (.int .u8 ta2), (decide (ta2 ≤ 57)) = false, pureRun cx.P (Instr.index 9 (.string a0) (.int .i64 sa)) = some (.int .u8 ta2), (decide (ta2 ≥ 48)) = true, pureRun cx.P (Instr.index 9 (.string a0) (.int .i64 sa)) = some (.int .u8 ta2), pureRun cx.P (Instr.index 9 (.string a0) (.int .i64 sa)) = some (.int .u8 ta2), (decide (ta2 ≥ 65)) = true, pureRun cx.P (Instr.index 9 (.string a0) (.int .i64 sa)) = some (.int .u8 ta2), (decide (ta2 ≤ 122)) = false, pureRun cx.P (Instr.index 9 (.string a0) (.int .i64 sa)) = some (.int .u8 ta2), (decide (ta2 ≥ 97)) = true, pureRun cx.P (Instr.index 9 (.string a0) (.int .i64 sa)) = some (.int .u8 ta2), (decide (sa < (a0.size : Int))) = true]) (by kernel_rfl) ⟨(eqt ha9), (nott (decide_eq_false ha8)), strAt_ok ha2, (decide_eq_false ha7), strAt_ok ha2, (decide_eq_true ha6), strAt_ok ha2, strAt_ok ha2, (decide_eq_true ha5), strAt_ok ha2, (decide_eq_false ha4), strAt_ok ha2, (decide_eq_true ha3), strAt_ok ha2, (decide_eq_true ha1), trivial⟩⟩, nofun⟩
                · replace h := ite_f h ha9
                  by_cases ha10 : ta2 = 95
                  · replace h := ite_t h ha10
                    obtain ⟨ha11, h⟩ := grd_of h
                    replace h := Option.some.inj h
                    subst h
                    exact ⟨100, 9, [.br true, .el (.v (.int .u8 ta2)), .br true, .el (.v (.int .u8 ta2)), .br false, .el (.v (.int .u8 ta2)), .br true, .el (.v (.int .u8 ta2)), .el (.v (.int .u8 ta2)), .br true, .el (.v (.int .u8 ta2)), .br false, .el (.v (.int .u8 ta2)), .br true, .br false, .br false], [], [0, 3], [], round_of (ob := [inI64 (sa + 1), (!(ta2 == 95)) = false, (sa == 0) = false, (!(decide (ta2 ≤ 90))) = true, pureRun cx.P (Instr.index 9 (.string a0) (.int .i64 sa)) = some (.int .u8 ta2), (decide (ta2 ≤ 57)) = false, pureRun cx.P (Instr.index 9 (.string a0) (.int .i64 sa)) = some (.int .u8 ta2), (decide (ta2 ≥ 48)) = true, pureRun cx.P (Instr.index 9 (.string a0) (.int .i64 sa)) = some (.int .u8 ta2), pureRun cx.P (Instr.index 9 (.string a0) (.int .i64 sa)) = some (.int .u8 ta2), (decide (ta2 ≥ 65)) = true, pureRun cx.P (Instr.index 9 (.string a0) (.int .i64 sa)) = some (.int .u8 ta2), (decide (ta2 ≤ 122)) = false, pureRun cx.P (Instr.index 9 (.string a0) (.int .i64 sa)) = some (.int .u8 ta2), (decide (ta2 ≥ 97)) = true, pureRun cx.P (Instr.index 9 (.string a0) (.int .i64 sa)) = some (.int .u8 ta2), (decide (sa < (a0.size : Int))) = true]) (by kernel_rfl) ⟨ha11, (notf (eqt ha10)), (eqf ha9), (nott (decide_eq_false ha8)), strAt_ok ha2, (decide_eq_false ha7), strAt_ok ha2, (decide_eq_true ha6), strAt_ok ha2, strAt_ok ha2, (decide_eq_true ha5), strAt_ok ha2, (decide_eq_false ha4), strAt_ok ha2, (decide_eq_true ha3), strAt_ok ha2, (decide_eq_true ha1), trivial⟩⟩
                  · replace h := ite_f h ha10
                    replace h := Option.some.inj h
                    subst h
                    exact ⟨⟨100, 9, [.br true, .el (.v (.int .u8 ta2)), .br true, .el (.v (.int .u8 ta2)), .br false, .el (.v (.int .u8 ta2)), .br true, .el (.v (.int .u8 ta2)), .el (.v (.int .u8 ta2)), .br true, .el (.v (.int .u8 ta2)), .br false, .el (.v (.int .u8 ta2)), .br true, .br false, .br true], [], [2], [], round_of (ob := [(!(ta2 == 95)) = true, (sa == 0) = false, (!(decide (ta2 ≤ 90))) = true, pureRun cx.P (Instr.index 9 (.string a0) (.int .i64 sa)) = some (.int .u8 ta2), (decide (ta2 ≤ 57)) = false, pureRun cx.P (Instr.index 9 (.string a0) (.int .i64 sa)) = some (.int .u8 ta2), (decide (ta2 ≥ 48)) = true, pureRun cx.P (Instr.index 9 (.string a0) (.int .i64 sa)) = some (.int .u8 ta2), pureRun cx.P (Instr.index 9 (.string a0) (.int .i64 sa)) = some (.int .u8 ta2), (decide (ta2 ≥ 65)) = true, pureRun cx.P (Instr.index 9 (.string a0) (.int .i64 sa)) = some (.int .u8 ta2), (decide (ta2 ≤ 122)) = false, pureRun cx.P (Instr.index 9 (.string a0) (.int .i64 sa)) = some (.int .u8 ta2), (decide (ta2 ≥ 97)) = true, pureRun cx.P (Instr.index 9 (.string a0) (.int .i64 sa)) = some (.int .u8 ta2), (decide (sa < (a0.size : Int))) = true]) (by kernel_rfl) ⟨(nott (eqf ha10)), (eqf ha9), (nott (decide_eq_false ha8)), strAt_ok ha2, (decide_eq_false ha7), strAt_ok ha2, (decide_eq_true ha6), strAt_ok ha2, strAt_ok ha2, (decide_eq_true ha5), strAt_ok ha2, (decide_eq_false ha4), strAt_ok ha2, (decide_eq_true ha3), strAt_ok ha2, (decide_eq_true ha1), trivial⟩⟩, nofun⟩
          · replace h := ite_f h ha6
            by_cases ha7 : ta2 ≤ 90
            · replace h := ite_t h ha7
              obtain ⟨ha8, h⟩ := grd_of h
              replace h := Option.some.inj h
              subst h
              exact ⟨100, 9, [.br true, .el (.v (.int .u8 ta2)), .br true, .el (.v (.int .u8 ta2)), .br false, .el (.v (.int .u8 ta2)), .br true, .el (.v (.int .u8 ta2)), .el (.v (.int .u8 ta2)), .br false, .no, .el (.v (.int .u8 ta2)), .br false, .no], [], [0, 3], [], round_of (ob := [inI64 (sa + 1), (!(decide (ta2 ≤ 90))) = false, pureRun cx.P (Instr.index 9 (.string a0) (.int .i64 sa)) = some (.int .u8 ta2), (decide (ta2 ≥ 48)) = false, pureRun cx.P (Instr.index 9 (.string a0) (.int .i64 sa)) = some (.int .u8 ta2), pureRun cx.P (Instr.index 9 (.string a0) (.int .i64 sa)) = some (.int .u8 ta2), (decide (ta2 ≥ 65)) = true, pureRun cx.P (Instr.index 9 (.string a0) (.int .i64 sa)) = some (.int .u8 ta2), (decide (ta2 ≤ 122)) = false, pureRun cx.P (Instr.index 9 (.string a0) (.int .i64 sa)) = some (.int .u8 ta2), (decide (ta2 ≥ 97)) = true, pureRun cx.P (Instr.index 9 (.string a0) (.int .i64 sa)) = some (.int .u8 ta2), (decide (sa < (a0.size : Int))) = true]) (by kernel_rfl) ⟨ha8, (notf (decide_eq_true ha7)), strAt_ok ha2, (decide_eq_false ha6), strAt_ok ha2, strAt_ok ha2, (decide_eq_true ha5), strAt_ok ha2, (decide_eq_false ha4), strAt_ok ha2, (decide_eq_true ha3), strAt_ok ha2, (decide_eq_true ha1), trivial⟩⟩
            · replace h := ite_f h ha7
              by_cases ha8 : sa = 0
              · replace h := ite_t h ha8
                replace h := Option.some.inj h
                subst h
                exact ⟨⟨100, 9, [.br true, .el (.v (.int .u8 ta2)), .br true, .el (.v (.int .u8 ta2)), .br false, .el (.v (.int .u8 ta2)), .br true, .el (.v (.int .u8 ta2)), .el (.v (.int .u8 ta2)), .br false, .no, .el (.v (.int .u8 ta2)), .br true, .br true, .no], [], [2], [], round_of (ob := [(sa == 0) = true, (!(decide (ta2 ≤ 90))) = true, pureRun cx.P (Instr.index 9 (.string a0) (.int .i64 sa)) = some (.int .u8 ta2), (decide (ta2 ≥ 48)) = false, pureRun cx.P (Instr.index 9 (.string a0) (.int .i64 sa)) = some (.int .u8 ta2), pureRun cx.P (Instr.index 9 (.string a0) (.int .i64 sa)) = some (.int .u8 ta2), (decide (ta2 ≥ 65)) = true, pureRun cx.P (Instr.index 9 (.string a0) (.int .i64 sa)) = some (.int .u8 ta2), (decide (ta2 ≤ 122)) = false, pureRun cx.P (Instr.index 9 (.string a0) (.int .i64 sa)) = some (.int .u8 ta2), (decide (ta2 ≥ 97)) = true, pureRun cx.P (Instr.index 9 (.string a0) (.int .i64 sa)) = some (.int .u8 ta2), (decide (sa < (a0.size : Int))) = true]) (by kernel_rfl) ⟨(eqt ha8), (nott (decide_eq_false ha7)), strAt_ok ha2, (decide_eq_false ha6), strAt_ok ha2, strAt_ok ha2, (decide_eq_true ha5), strAt_ok ha2, (decide_eq_false ha4), strAt_ok ha2, (decide_eq_true ha3), strAt_ok ha2, (decide_eq_true ha1), trivial⟩⟩, nofun⟩
              · replace h := ite_f h ha8
                by_cases ha9 : ta2 = 95
                · replace h := ite_t h ha9
                  obtain ⟨ha10, h⟩ := grd_of h
                  replace h := Option.some.inj h
                  subst h
                  exact ⟨100, 9, [.br true, .el (.v (.int .u8 ta2)), .br true, .el (.v (.int .u8 ta2)), .br false, .el (.v (.int .u8 ta2)), .br true, .el (.v (.int .u8 ta2)), .el (.v (.int .u8 ta2)), .br false, .no, .el (.v (.int .u8 ta2)), .br true, .br false, .br false], [], [0, 3], [], round_of (ob := [inI64 (sa + 1), (!(ta2 == 95)) = false, (sa == 0) = false, (!(decide (ta2 ≤ 90))) = true, pureRun cx.P (Instr.index 9 (.string a0) (.int .i64 sa)) = some (.int .u8 ta2), (decide (ta2 ≥ 48)) = false, pureRun cx.P (Instr.index 9 (.string a0) (.int .i64 sa)) = some (.int .u8 ta2), pureRun cx.P (Instr.index 9 (.string a0) (.int .i64 sa)) = some (.int .u8 ta2), (decide (ta2 ≥ 65)) = true, pureRun cx.P (Instr.index 9 (.string a0) (.int .i64 sa)) = some (.int .u8 ta2), (decide (ta2 ≤ 122)) = false, pureRun cx.P (Instr.index 9 (.string a0) (.int .i64 sa)) = some (.int .u8 ta2), (decide (ta2 ≥ 97)) = true, pureRun cx.P (Instr.index 9 (.string a0) (.int .i64 sa)) = some (.int .u8 ta2), (decide (sa < (a0.size : Int))) = true]) (by kernel_rfl) ⟨ha10, (notf (eqt ha9)), (eqf ha8), (nott (decide_eq_false ha7)), strAt_ok ha2, (decide_eq_false ha6), strAt_ok ha2, strAt_ok ha2, (decide_eq_true ha5), strAt_ok ha2, (decide_eq_false ha4), strAt_ok ha2, (decide_eq_true ha3), strAt_ok ha2, (decide_eq_true ha1), trivial⟩⟩
                · replace h := ite_f h ha9
                  replace h := Option.some.inj h
                  subst h
                  exact ⟨⟨100, 9, [.br true, .el (.v (.int .u8 ta2)), .br true, .el (.v (.int .u8 ta2)), .br false, .el (.v (.int .u8 ta2)), .br true, .el (.v (.int .u8 ta2)), .el (.v (.int .u8 ta2)), .br false, .no, .el (.v (.int .u8 ta2)), .br true, .br false, .br true], [], [2], [], round_of (ob := [(!(ta2 == 95)) = true, (sa == 0) = false, (!(decide (ta2 ≤ 90))) = true, pureRun cx.P (Instr.index 9 (.string a0) (.int .i64 sa)) = some (.int .u8 ta2), (decide (ta2 ≥ 48)) = false, pureRun cx.P (Instr.index 9 (.string a0) (.int .i64 sa)) = some (.int .u8 ta2), pureRun cx.P (Instr.index 9 (.string a0) (.int .i64 sa)) = some (.int .u8 ta2), (decide (ta2 ≥ 65)) = true, pureRun cx.P (Instr.index 9 (.string a0) (.int .i64 sa)) = some (.int .u8 ta2), (decide (ta2 ≤ 122)) = false, pureRun cx.P (Instr.index 9 (.string a0) (.int .i64 sa)) = some (.int .u8 ta2), (decide (ta2 ≥ 97)) = true, pureRun cx.P (Instr.index 9 (.string a0) (.int .i64 sa)) = some (.int .u8 ta2), (decide (sa < (a0.size : Int))) = true]) (by kernel_rfl) ⟨(nott (eqf ha9)), (eqf ha8), (nott (decide_eq_false ha7)), strAt_ok ha2, (decide_eq_false ha6), strAt_ok ha2, strAt_ok ha2, (decide_eq_true ha5), strAt_ok ha2, (decide_eq_false ha4), strAt_ok ha2, (decide_eq_true ha3), strAt_ok ha2, (decide_eq_true ha1), trivial⟩⟩, nofun⟩
        · replace h := ite_f h ha5
          by_cases ha6 : ta2 ≥ 48
          · replace h := ite_t h ha6
            by_cases ha7 : ta2 ≤ 57
            · replace h := ite_t h ha7
              by_cases ha8 : sa = 0
              · replace h := ite_t h ha8
                replace h := Option.some.inj h
                subst h
                exact ⟨⟨100, 9, [.br true, .el (.v (.int .u8 ta2)), .br true, .el (.v (.int .u8 ta2)), .br false, .el (.v (.int .u8 ta2)), .br false, .el (.v (.int .u8 ta2)), .br true, .el (.v (.int .u8 ta2)), .br true, .no, .br true, .no], [], [2], [], round_of (ob := [(sa == 0) = true, (decide (ta2 ≤ 57)) = true, pureRun cx.P (Instr.index 9 (.string a0) (.int .i64 sa)) = some (.int .u8 ta2), (decide (ta2 ≥ 48)) = true, pureRun cx.P (Instr.index 9 (.string a0) (.int .i64 sa)) = some (.int .u8 ta2), (decide (ta2 ≥ 65)) = false, pureRun cx.P (Instr.index 9 (.string a0) (.int .i64 sa)) = some (.int .u8 ta2), (decide (ta2 ≤ 122)) = false, pureRun cx.P (Instr.index 9 (.string a0) (.int .i64 sa)) = some (.int .u8 ta2), (decide (ta2 ≥ 97)) = true, pureRun cx.P (Instr.index 9 (.string a0) (.int .i64 sa)) = some (.int .u8 ta2), (decide (sa < (a0.size : Int))) = true]) (by kernel_rfl) ⟨(eqt ha8), (decide_eq_true ha7), strAt_ok ha2, (decide_eq_true ha6), strAt_ok ha2, (decide_eq_false ha5), strAt_ok ha2, (decide_eq_false ha4), strAt_ok ha2, (decide_eq_true ha3), strAt_ok ha2, (decide_eq_true ha1), trivial⟩⟩, nofun⟩
              · replace h := ite_f h ha8
                obtain ⟨ha9, h⟩ := grd_of h
                replace h := Option.some.inj h
                subst h
                exact ⟨100, 9, [.br true, .el (.v (.int .u8 ta2)), .br true, .el (.v (.int .u8 ta2)), .br false, .el (.v (.int .u8 ta2)), .br false, .el (.v (.int .u8 ta2)), .br true, .el (.v (.int .u8 ta2)), .br true, .no, .br false, .no], [], [0, 3], [], round_of (ob := [inI64 (sa + 1), (sa == 0) = false, (decide (ta2 ≤ 57)) = true, pureRun cx.P (Instr.index 9 (.string a0) (.int .i64 sa)) = some (.int .u8 ta2), (decide (ta2 ≥ 48)) = true, pureRun cx.P (Instr.index 9 (.string a0) (.int .i64 sa)) = some (.int .u8 ta2), (decide (ta2 ≥ 65)) = false, pureRun cx.P (Instr.index 9 (.string a0) (.int .i64 sa)) = some (.int .u8 ta2), (decide (ta2 ≤ 122)) = false, pureRun cx.P (Instr.index 9 (.string a0) (.int .i64 sa)) = some (.int .u8 ta2), (decide (ta2 ≥ 97)) = true, pureRun cx.P (Instr.index 9 (.string a0) (.int .i64 sa)) = some (.int .u8 ta2), (decide (sa < (a0.size : Int))) = true]) (by kernel_rfl) ⟨ha9, (eqf ha8), (decide_eq_true ha7), strAt_ok ha2, (decide_eq_true ha6), strAt_ok ha2, (decide_eq_false ha5), strAt_ok ha2, (decide_eq_false ha4), strAt_ok ha2, (decide_eq_true ha3), strAt_ok ha2, (decide_eq_true ha1), trivial⟩⟩
            · replace h := ite_f h ha7
              by_cases ha8 : sa = 0
              · replace h := ite_t h ha8
                replace h := Option.some.inj h
                subst h
                exact ⟨⟨100, 9, [.br true, .el (.v (.int .u8 ta2)), .br true, .el (.v (.int .u8 ta2)), .br false, .el (.v (.int .u8 ta2)), .br false, .el (.v (.int .u8 ta2)), .br true, .el (.v (.int .u8 ta2)), .br false, .el (.v (.int .u8 ta2)), .no, .br true, .no], [], [2], [], round_of (ob := [(sa == 0) = true, pureRun cx.P (Instr.index 9 (.string a0) (.int .i64 sa)) = some (.int .u8 ta2), (decide (ta2 ≤ 57)) = false, pureRun cx.P (Instr.index 9 (.string a0) (.int .i64 sa)) = some (.int .u8 ta2), (decide (ta2 ≥ 48)) = true, pureRun cx.P (Instr.index 9 (.string a0) (.int .i64 sa)) = some (.int .u8 ta2), (decide (ta2 ≥ 65)) = false, pureRun cx.P (Instr.index 9 (.string a0) (.int .i64 sa)) = some (.int .u8 ta2), (decide (ta2 ≤ 122)) = false, pureRun cx.P (Instr.index 9 (.string a0) (.int .i64 sa)) = some (.int .u8 ta2), (decide (ta2 ≥ 97)) = true, pureRun cx.P (Instr.index 9 (.string a0) (.int .i64 sa)) = some (.int .u8 ta2), (decide (sa < (a0.size : Int))) = true]) (by kernel_rfl) ⟨(eqt ha8), strAt_ok ha2, (decide_eq_false ha7), strAt_ok ha2, (decide_eq_true ha6), strAt_ok ha2, (decide_eq_false ha5), strAt_ok ha2, (decide_eq_false ha4), strAt_ok ha2, (decide_eq_true ha3), strAt_ok ha2, (decide_eq_true ha1), trivial⟩⟩, nofun⟩
              · replace h := ite_f h ha8
                by_cases ha9 : ta2 = 95
                · replace h := ite_t h ha9
                  obtain ⟨ha10, h⟩ := grd_of h
                  replace h := Option.some.inj h
                  subst h
                  exact ⟨100, 9, [.br true, .el (.v (.int .u8 ta2)), .br true, .el (.v (.int .u8 ta2)), .br false, .el (.v (.int .u8 ta2)), .br false, .el (.v (.int .u8 ta2)), .br true, .el (.v (.int .u8 ta2)), .br false, .el (.v (.int .u8 ta2)), .no, .br false, .br false], [], [0, 3], [], round_of (ob := [inI64 (sa + 1), (!(ta2 == 95)) = false, (sa == 0) = false, pureRun cx.P (Instr.index 9 (.string a0) (.int .i64 sa)) = some (.int .u8 ta2), (decide (ta2 ≤ 57)) = false, pureRun cx.P (Instr.index 9 (.string a0) (.int .i64 sa)) = some (.int .u8 ta2), (decide (ta2 ≥ 48)) = true, pureRun cx.P (Instr.index 9 (.string a0) (.int .i64 sa)) = some (.int .u8 ta2), (decide (ta2 ≥ 65)) = false, pureRun cx.P (Instr.index 9 (.string a0) (.int .i64 sa)) = some (.int .u8 ta2), (decide (ta2 ≤ 122)) = false, pureRun cx.P (Instr.index 9 (.string a0) (.int .i64 sa)) = some (.int .u8 ta2), (decide (ta2 ≥ 97)) = true, pureRun cx.P (Instr.index 9 (.string a0) (.int .i64 sa)) = some (.int .u8 ta2), (decide (sa < (a0.size : Int))) = true]) (by kernel_rfl) ⟨ha10, (notf (eqt ha9)), (eqf ha8), strAt_ok ha2, (decide_eq_false ha7), strAt_ok ha2, (decide_eq_true ha6), strAt_ok ha2, (decide_eq_false ha5), strAt_ok ha2, (decide_eq_false ha4), strAt_ok ha2, (decide_eq_true ha3), strAt_ok ha2, (decide_eq_true ha1), trivial⟩⟩
                · replace h := ite_f h ha9
                  replace h := Option.some.inj h
                  subst h
                  exact ⟨⟨100, 9, [.br true, .el (.v (.int .u8 ta2)), .br true, .el (.v (.int .u8 ta2)), .br false, .el (.v (.int .u8 ta2)), .br false, .el (.v (.int .u8 ta2)), .br true, .el (.v (.int .u8 ta2)), .br false, .el (.v (.int .u8 ta2)), .no, .br false, .br true], [], [2], [], round_of (ob := [(!(ta2 == 95)) = true, (sa == 0) = false, pureRun cx.P (Instr.index 9 (.string a0) (.int .i64 sa)) = some (.int .u8 ta2), (decide (ta2 ≤ 57)) = false, pureRun cx.P (Instr.index 9 (.string a0) (.int .i64 sa)) = some (.int .u8 ta2), (decide (ta2 ≥ 48)) = true, pureRun cx.P (Instr.index 9 (.string a0) (.int .i64 sa)) = some (.int .u8 ta2), (decide (ta2 ≥ 65)) = false, pureRun cx.P (Instr.index 9 (.string a0) (.int .i64 sa)) = some (.int .u8 ta2), (decide (ta2 ≤ 122)) = false, pureRun cx.P (Instr.index 9 (.string a0) (.int .i64 sa)) = some (.int .u8 ta2), (decide (ta2 ≥ 97)) = true, pureRun cx.P (Instr.index 9 (.string a0) (.int .i64 sa)) = some (.int .u8 ta2), (decide (sa < (a0.size : Int))) = true]) (by kernel_rfl) ⟨(nott (eqf ha9)), (eqf ha8), strAt_ok ha2, (decide_eq_false ha7), strAt_ok ha2, (decide_eq_true ha6), strAt_ok ha2, (decide_eq_false ha5), strAt_ok ha2, (decide_eq_false ha4), strAt_ok ha2, (decide_eq_true ha3), strAt_ok ha2, (decide_eq_true ha1), trivial⟩⟩, nofun⟩
          · replace h := ite_f h ha6
            by_cases ha7 : sa = 0
            · replace h := ite_t h ha7
              replace h := Option.some.inj h
              subst h
              exact ⟨⟨100, 9, [.br true, .el (.v (.int .u8 ta2)), .br true, .el (.v (.int .u8 ta2)), .br false, .el (.v (.int .u8 ta2)), .br false, .el (.v (.int .u8 ta2)), .br false, .no, .el (.v (.int .u8 ta2)), .no, .br true, .no], [], [2], [], round_of (ob := [(sa == 0) = true, pureRun cx.P (Instr.index 9 (.string a0) (.int .i64 sa)) = some (.int .u8 ta2), (decide (ta2 ≥ 48)) = false, pureRun cx.P (Instr.index 9 (.string a0) (.int .i64 sa)) = some (.int .u8 ta2), (decide (ta2 ≥ 65)) = false, pureRun cx.P (Instr.index 9 (.string a0) (.int .i64 sa)) = some (.int .u8 ta2), (decide (ta2 ≤ 122)) = false, pureRun cx.P (Instr.index 9 (.string a0) (.int .i64 sa)) = some (.int .u8 ta2), (decide (ta2 ≥ 97)) = true, pureRun cx.P (Instr.index 9 (.string a0) (.int .i64 sa)) = some (.int .u8 ta2), (decide (sa < (a0.size : Int))) = true]) (by kernel_rfl) ⟨(eqt ha7), strAt_ok ha2, (decide_eq_false ha6), strAt_ok ha2, (decide_eq_false ha5), strAt_ok ha2, (decide_eq_false ha4), strAt_ok ha2, (decide_eq_true ha3), strAt_ok ha2, (decide_eq_true ha1), trivial⟩⟩, nofun⟩
            · replace h := ite_f h ha7
              by_cases ha8 : ta2 = 95
              · replace h := ite_t h ha8
                obtain ⟨ha9, h⟩ := grd_of h
                replace h := Option.some.inj h
                subst h
                exact ⟨100, 9, [.br true, .el (.v (.int .u8 ta2)), .br true, .el (.v (.int .u8 ta2)), .br false, .el (.v (.int .u8 ta2)), .br false, .el (.v (.int .u8 ta2)), .br false, .no, .el (.v (.int .u8 ta2)), .no, .br false, .br false], [], [0, 3], [], round_of (ob := [inI64 (sa + 1), (!(ta2 == 95)) = false, (sa == 0) = false, pureRun cx.P (Instr.index 9 (.string a0) (.int .i64 sa)) = some (.int .u8 ta2), (decide (ta2 ≥ 48)) = false, pureRun cx.P (Instr.index 9 (.string a0) (.int .i64 sa)) = some (.int .u8 ta2), (decide (ta2 ≥ 65)) = false, pureRun cx.P (Instr.index 9 (.string a0) (.int .i64 sa)) = some (.int .u8 ta2), (decide (ta2 ≤ 122)) = false, pureRun cx.P (Instr.index 9 (.string a0) (.int .i64 sa)) = some (.int .u8 ta2), (decide (ta2 ≥ 97)) = true, pureRun cx.P (Instr.index 9 (.string a0) (.int .i64 sa)) = some (.int .u8 ta2), (decide (sa < (a0.size : Int))) = true]) (by kernel_rfl) ⟨ha9, (notf (eqt ha8)), (eqf ha7), strAt_ok ha2, (decide_eq_false ha6), strAt_ok ha2, (decide_eq_false ha5), strAt_ok ha2, (decide_eq_false ha4), strAt_ok ha2, (decide_eq_true ha3), strAt_ok ha2, (decide_eq_true ha1), trivial⟩⟩
              · replace h := ite_f h ha8
                replace h := Option.some.inj h
                subst h
                exact ⟨⟨100, 9, [.br true, .el (.v (.int .u8 ta2)), .br true, .el (.v (.int .u8 ta2)), .br false, .el (.v (.int .u8 ta2)), .br false, .el (.v (.int .u8 ta2)), .br false, .no, .el (.v (.int .u8 ta2)), .no, .br false, .br true], [], [2], [], round_of (ob := [(!(ta2 == 95)) = true, (sa == 0) = false, pureRun cx.P (Instr.index 9 (.string a0) (.int .i64 sa)) = some (.int .u8 ta2), (decide (ta2 ≥ 48)) = false, pureRun cx.P (Instr.index 9 (.string a0) (.int .i64 sa)) = some (.int .u8 ta2), (decide (ta2 ≥ 65)) = false, pureRun cx.P (Instr.index 9 (.string a0) (.int .i64 sa)) = some (.int .u8 ta2), (decide (ta2 ≤ 122)) = false, pureRun cx.P (Instr.index 9 (.string a0) (.int .i64 sa)) = some (.int .u8 ta2), (decide (ta2 ≥ 97)) = true, pureRun cx.P (Instr.index 9 (.string a0) (.int .i64 sa)) = some (.int .u8 ta2), (decide (sa < (a0.size : Int))) = true]) (by kernel_rfl) ⟨(nott (eqf ha8)), (eqf ha7), strAt_ok ha2, (decide_eq_false ha6), strAt_ok ha2, (decide_eq_false ha5), strAt_ok ha2, (decide_eq_false ha4), strAt_ok ha2, (decide_eq_true ha3), strAt_ok ha2, (decide_eq_true ha1), trivial⟩⟩, nofun⟩
    · replace h := ite_f h ha3
      by_cases ha4 : ta2 ≥ 65
      · replace h := ite_t h ha4
        by_cases ha5 : ta2 ≥ 48
        · replace h := ite_t h ha5
          by_cases ha6 : ta2 ≤ 57
          · replace h := ite_t h ha6
            by_cases ha7 : ta2 ≤ 90
            · replace h := ite_t h ha7
              obtain ⟨ha8, h⟩ := grd_of h
              replace h := Option.some.inj h
              subst h
              exact ⟨100, 9, [.br true, .el (.v (.int .u8 ta2)), .br false, .no, .el (.v (.int .u8 ta2)), .br true, .el (.v (.int .u8 ta2)), .el (.v (.int .u8 ta2)), .br true, .el (.v (.int .u8 ta2)), .br true, .br false, .no], [], [0, 3], [], round_of (ob := [inI64 (sa + 1), (!(decide (ta2 ≤ 90))) = false, (decide (ta2 ≤ 57)) = true, pureRun cx.P (Instr.index 9 (.string a0) (.int .i64 sa)) = some (.int .u8 ta2), (decide (ta2 ≥ 48)) = true, pureRun cx.P (Instr.index 9 (.string a0) (.int .i64 sa)) = some (.int .u8 ta2), pureRun cx.P (Instr.index 9 (.string a0) (.int .i64 sa)) = some (.int .u8 ta2), (decide (ta2 ≥ 65)) = true, pureRun cx.P (Instr.index 9 (.string a0) (.int .i64 sa)) = some (.int .u8 ta2), (decide (ta2 ≥ 97)) = false, pureRun cx.P (Instr.index 9 (.string a0) (.int .i64 sa)) = some (.int .u8 ta2), (decide (sa < (a0.size : Int))) = true]) (by kernel_rfl) ⟨ha8, (notf (decide_eq_true ha7)), (decide_eq_true ha6), strAt_ok ha2, (decide_eq_true ha5), strAt_ok ha2, strAt_ok ha2, (decide_eq_true ha4), strAt_ok ha2, (decide_eq_false ha3), strAt_ok ha2, (decide_eq_true ha1), trivial⟩⟩
            · replace h := ite_f h ha7
              by_cases ha8 : sa = 0
              · replace h := ite_t h ha8
                replace h := Option.some.inj h
                subst h
                exact ⟨⟨100, 9, [.br true, .el (.v (.int .u8 ta2)), .br false, .no, .el (.v (.int .u8 ta2)), .br true, .el (.v (.int .u8 ta2)), .el (.v (.int .u8 ta2)), .br true, .el (.v (.int .u8 ta2)), .br true, .br true, .br true, .no], [], [2], [], round_of (ob := [(sa == 0) = true, (!(decide (ta2 ≤ 90))) = true, (decide (ta2 ≤ 57)) = true, pureRun cx.P (Instr.index 9 (.string a0) (.int .i64 sa)) = some (.int .u8 ta2), (decide (ta2 ≥ 48)) = true, pureRun cx.P (Instr.index 9 (.string a0) (.int .i64 sa)) = some (.int .u8 ta2), pureRun cx.P (Instr.index 9 (.string a0) (.int .i64 sa)) = some (.int .u8 ta2), (decide (ta2 ≥ 65)) = true, pureRun cx.P (Instr.index 9 (.string a0) (.int .i64 sa)) = some (.int .u8 ta2), (decide (ta2 ≥ 97)) = false, pureRun cx.P (Instr.index 9 (.string a0) (.int .i64 sa)) = some (.int .u8 ta2), (decide (sa < (a0.size : Int))) = true]) (by kernel_rfl) ⟨(eqt ha8), (nott (decide_eq_false ha7)), (decide_eq_true ha6), strAt_ok ha2, (decide_eq_true ha5), strAt_ok ha2, strAt_ok ha2, (decide_eq_true ha4), strAt_ok ha2, (decide_eq_false ha3), strAt_ok ha2, (decide_eq_true ha1), trivial⟩⟩, nofun⟩
              · replace h := ite_f h ha8
                obtain ⟨ha9, h⟩ := grd_of h
                replace h := Option.some.inj h
                subst h
                exact ⟨100, 9, [.br true, .el (.v (.int .u8 ta2)), .br false, .no, .el (.v (.int .u8 ta2)), .br true, .el (.v (.int .u8 ta2)), .el (.v (.int .u8 ta2)), .br true, .el (.v (.int .u8 ta2)), .br true, .br true, .br false, .no], [], [0, 3], [], round_of (ob := [inI64 (sa + 1), (sa == 0) = false, (!(decide (ta2 ≤ 90))) = true, (decide (ta2 ≤ 57)) = true, pureRun cx.P (Instr.index 9 (.string a0) (.int .i64 sa)) = some (.int .u8 ta2), (decide (ta2 ≥ 48)) = true, pureRun cx.P (Instr.index 9 (.string a0) (.int .i64 sa)) = some (.int .u8 ta2), pureRun cx.P (Instr.index 9 (.string a0) (.int .i64 sa)) = some (.int .u8 ta2), (decide (ta2 ≥ 65)) = true, pureRun cx.P (Instr.index 9 (.string a0) (.int .i64 sa)) = some (.int .u8 ta2), (decide (ta2 ≥ 97)) = false, pureRun cx.P (Instr.index 9 (.string a0) (.int .i64 sa)) = some (.int .u8 ta2), (decide (sa < (a0.size : Int))) = true]) (by kernel_rfl) ⟨ha9, (eqf ha8), (nott (decide_eq_false ha7)), (decide_eq_true ha6), strAt_ok ha2, (decide_eq_true ha5), strAt_ok ha2, strAt_ok ha2, (decide_eq_true ha4), strAt_ok ha2, (decide_eq_false ha3), strAt_ok ha2, (decide_eq_true ha1), trivial⟩⟩
          · replace h := ite_f h ha6
            by_cases ha7 : ta2 ≤ 90
            · replace h := ite_t h ha7
              obtain ⟨ha8, h⟩ := grd_of h
              replace h := Option.some.inj h
              subst h
              exact ⟨100, 9, [.br true, .el (.v (.int .u8 ta2)), .br false, .no, .el (.v (.int .u8 ta2)), .br true, .el (.v (.int .u8 ta2)), .el (.v (.int .u8 ta2)), .br true, .el (.v (.int .u8 ta2)), .br false, .el (.v (.int .u8 ta2)), .br false, .no], [], [0, 3], [], round_of (ob := [inI64 (sa + 1), (!(decide (ta2 ≤ 90))) = false, pureRun cx.P (Instr.index 9 (.string a0) (.int .i64 sa)) = some (.int .u8 ta2), (decide (ta2 ≤ 57)) = false, pureRun cx.P (Instr.index 9 (.string a0) (.int .i64 sa)) = some (.int .u8 ta2), (decide (ta2 ≥ 48)) = true, pureRun cx.P (Instr.index 9 (.string a0) (.int .i64 sa)) = some (.int .u8 ta2), pureRun cx.P (Instr.index 9 (.string a0) (.int .i64 sa)) = some (.int .u8 ta2), (decide (ta2 ≥ 65)) = true, pureRun cx.P (Instr.index 9 (.string a0) (.int .i64 sa)) = some (.int .u8 ta2), (decide (ta2 ≥ 97)) = false, pureRun cx.P (Instr.index 9 (.string a0) (.int .i64 sa)) = some (.int .u8 ta2), (decide (sa < (a0.size : Int))) = true]) (by kernel_rfl) ⟨ha8, (notf (decide_eq_true ha7)), strAt_ok ha2, (decide_eq_false ha6), strAt_ok ha2, (decide_eq_true ha5), strAt_ok ha2, strAt_ok ha2, (decide_eq_true ha4), strAt_ok ha2, (decide_eq_false ha3), strAt_ok ha2, (decide_eq_true ha1), trivial⟩⟩
            · replace h := ite_f h ha7
              by_cases ha8 : sa = 0
              · replace h := ite_t h ha8
                replace h := Option.some.inj h
                subst h
                exact ⟨⟨100, 9, [.br true, .el (.v (.int .u8 ta2)), .br false, .no, .el (.v (.int .u8 ta2)), .br true, .el (.v (.int .u8 ta2)), .el (.v (.int .u8 ta2)), .br true, .el (.v (.int .u8 ta2)), .br false, .el (.v (.int .u8 ta2)), .br true, .br true, .no], [], [2], [], round_of (ob := [(sa == 0) = true, (!(decide (ta2 ≤ 90))) = true, pureRun cx.P (Instr.index 9 (.string a0) (.int .i64 sa)) = some (.int .u8 ta2), (decide (ta2 ≤ 57)) = false, pureRun cx.P (Instr.index 9 (.string a0) (.int .i64 sa)) = some (.int .u8 ta2), (decide (ta2 ≥ 48)) = true, pureRun cx.P (Instr.index 9 (.string a0) (.int .i64 sa)) = some (.int .u8 ta2), pureRun cx.P (Instr.index 9 (.string a0) (.int .i64 sa)) = some (.int .u8 ta2), (decide (ta2 ≥ 65)) = true, pureRun cx.P (Instr.index 9 (.string a0) (.int .i64 sa)) = some (.int .u8 ta2), (decide (ta2 ≥ 97)) = false, pureRun cx.P (Instr.index 9 (.string a0) (.int .i64 sa)) = some (.int .u8 ta2), (decide (sa < (a0.size : Int))) = true]) (by kernel_rfl) ⟨(eqt ha8), (nott (decide_eq_false ha7)), strAt_ok ha2, (decide_eq_false ha6), strAt_ok ha2, (decide_eq_true ha5), strAt_ok ha2, strAt_ok ha2, (decide_eq_true ha4), strAt_ok ha2, (decide_eq_false ha3), strAt_ok ha2, (decide_eq_true ha1), trivial⟩⟩, nofun⟩
              · replace h := ite_f h ha8
                by_cases ha9 : ta2 = 95
                · replace h := ite_t h ha9
                  obtain ⟨ha10, h⟩ := grd_of h
                  replace h := Option.some.inj h
                  subst h
                  exact ⟨100, 9, [.br true, .el (.v (.int .u8 ta2)), .br false, .no, .el (.v (.int .u8 ta2)), .br true, .el (.v (.int .u8 ta2)), .el (.v (.int .u8 ta2)), .br true, .el (.v (.int .u8 ta2)), .br false, .el (.v (.int .u8 ta2)), .br true, .br false, .br false], [], [0, 3], [], round_of (ob := [inI64 (sa + 1), (!(ta2 == 95)) = false, (sa == 0) = false, (!(decide (ta2 ≤ 90))) = true, pureRun cx.P (Instr.index 9 (.string a0) (.int .i64 sa)) = some (.int .u8 ta2), (decide (ta2 ≤ 57)) = false, pureRun cx.P (Instr.index 9 (.string a0) (.int .i64 sa)) = some (.int .u8 ta2), (decide (ta2 ≥ 48)) = true, pureRun cx.P (Instr.index 9 (.string a0) (.int .i64 sa)) = some (.int .u8 ta2), pureRun cx.P (Instr.index 9 (.string a0) (.int .i64 sa)) = some (.int .u8 ta2), (decide (ta2 ≥ 65)) = true, pureRun cx.P (Instr.index 9 (.string a0) (.int .i64 sa)) = some (.int .u8 ta2), (decide (ta2 ≥ 97)) = false, pureRun cx.P (Instr.index 9 (.string a0) (.int .i64 sa)) = some (.int .u8 ta2), (decide (sa < (a0.size : Int))) = true]) (by kernel_rfl) ⟨ha10, (notf (eqt ha9)), (eqf ha8), (nott (decide_eq_false ha7)), strAt_ok ha2, (decide_eq_false ha6), strAt_ok ha2, (decide_eq_true ha5), strAt_ok ha2, strAt_ok ha2, (decide_eq_true ha4), strAt_ok ha2, (decide_eq_false ha3), strAt_ok ha2, (decide_eq_true ha1), trivial⟩⟩
                · replace h := ite_f h ha9
                  replace h := Option.some.inj h
                  subst h
                  exact ⟨⟨100, 9, [.br true, .el (.v (.int .u8 ta2)), .br false, .no, .el (.v (.int .u8 ta2)), .br true, .el (.v (.int .u8 ta2)), .el (.v (.int .u8 ta2)), .br true, .el (.v (.int .u8 ta2)), .br false, .el (.v (.int .u8 ta2)), .br true, .br false, .br true], [], [2], [], round_of (ob := [(!(ta2 == 95)) = true, (sa == 0) = false, (!(decide (ta2 ≤ 90))) = true, pureRun cx.P (Instr.index 9 (.string a0) (.int .i64 sa)) = some (.int .u8 ta2), (decide (ta2 ≤ 57)) = false, pureRun cx.P (Instr.index 9 (.string a0) (.int .i64 sa)) = some (.int .u8 ta2), (decide (ta2 ≥ 48)) = true, pureRun cx.P (Instr.index 9 (.string a0) (.int .i64 sa)) = some (.int .u8 ta2), pureRun cx.P (Instr.index 9 (.string a0) (.int .i64 sa)) = some (.int .u8 ta2), (decide (ta2 ≥ 65)) = true, pureRun cx.P (Instr.index 9 (.string a0) (.int .i64 sa)) = some (.int .u8 ta2), (decide (ta2 ≥ 97)) = false, pureRun cx.P (Instr.index 9 (.string a0) (.int .i64 sa)) = some (.int .u8 ta2), (decide (sa < (a0.size : Int))) = true]) (by kernel_rfl) ⟨(nott (eqf ha9)), (eqf ha8), (nott (decide_eq_false ha7)), strAt_ok ha2, (decide_eq_false ha6), strAt_ok ha2, (decide_eq_true ha5), strAt_ok ha2, strAt_ok ha2, (decide_eq_true ha4), strAt_ok ha2, (decide_eq_false ha3), strAt_ok ha2, (decide_eq_true ha1), trivial⟩⟩, nofun⟩
        · replace h := ite_f h ha5
          by_cases ha6 : ta2 ≤ 90
          · replace h := ite_t h ha6
            obtain ⟨ha7, h⟩ := grd_of h
            replace h := Option.some.inj h
            subst h
            exact ⟨100, 9, [.br true, .el (.v (.int .u8 ta2)), .br false, .no, .el (.v (.int .u8 ta2)), .br true, .el (.v (.int .u8 ta2)), .el (.v (.int .u8 ta2)), .br false, .no, .el (.v (.int .u8 ta2)), .br false, .no], [], [0, 3], [], round_of (ob := [inI64 (sa + 1), (!(decide (ta2 ≤ 90))) = false, pureRun cx.P (Instr.index 9 (.string a0) (.int .i64 sa)) = some (.int .u8 ta2), (decide (ta2 ≥ 48)) = false, pureRun cx.P (Instr.index 9 (.string a0) (.int .i64 sa)) = some (.int .u8 ta2), pureRun cx.P (Instr.index 9 (.string a0) (.int .i64 sa)) = some (.int .u8 ta2), (decide (ta2 ≥ 65)) = true, pureRun cx.P (Instr.index 9 (.string a0) (.int .i64 sa)) = some (.int .u8 ta2), (decide (ta2 ≥ 97)) = false, pureRun cx.P (Instr.index 9 (.string a0) (.int .i64 sa)) = some (.int .u8 ta2), (decide (sa < (a0.size : Int))) = true]) (by kernel_rfl) ⟨ha7, (notf (decide_eq_true ha6)), strAt_ok ha2, (decide_eq_false ha5), strAt_ok ha2, strAt_ok ha2, (decide_eq_true ha4), strAt_ok ha2, (decide_eq_false ha3), strAt_ok ha2, (decide_eq_true ha1), trivial⟩⟩
          · replace h := ite_f h ha6
            by_cases ha7 : sa = 0
            · replace h := ite_t h ha7
              replace h := Option.some.inj h
              subst h
              exact ⟨⟨100, 9, [.br true, .el (.v (.int .u8 ta2)), .br false, .no, .el (.v (.int .u8 ta2)), .br true, .el (.v (.int .u8 ta2)), .el (.v (.int .u8 ta2)), .br false, .no, .el (.v (.int .u8 ta2)), .br true, .br true, .no], [], [2], [], round_of (ob := [(sa == 0) = true, (!(decide (ta2 ≤ 90))) = true, pureRun cx.P (Instr.index 9 (.string a0) (.int .i64 sa)) = some (.int .u8 ta2), (decide (ta2 ≥ 48)) = false, pureRun cx.P (Instr.index 9 (.string a0) (.int .i64 sa)) = some (.int .u8 ta2), pureRun cx.P (Instr.index 9 (.string a0) (.int .i64 sa)) = some (.int .u8 ta2), (decide (ta2 ≥ 65)) = true, pureRun cx.P (Instr.index 9 (.string a0) (.int .i64 sa)) = some (.int .u8 ta2), (decide (ta2 ≥ 97)) = false, pureRun cx.P (Instr.index 9 (.string a0) (.int .i64 sa)) = some (.int .u8 ta2), (decide (sa < (a0.size : Int))) = true]) (by kernel_rfl) ⟨(eqt ha7), (nott (decide_eq_false ha6)), strAt_ok ha2, (decide_eq_false ha5), strAt_ok ha2, strAt_ok ha2, (decide_eq_true ha4), strAt_ok ha2, (decide_eq_false ha3), strAt_ok ha2, (decide_eq_true ha1), trivial⟩⟩, nofun⟩
            · replace h := ite_f h ha7
              by_cases ha8 : ta2 = 95
              · replace h := ite_t h ha8
                obtain ⟨ha9, h⟩ := grd_of h
                replace h := Option.some.inj h
                subst h
                exact ⟨100, 9, [.br true, .el (.v (.int .u8 ta2)), .br false, .no, .el (.v (.int .u8 ta2)), .br true, .el (.v (.int .u8 ta2)), .el (.v (.int .u8 ta2)), .br false, .no, .el (.v (.int .u8 ta2)), .br true, .br false, .br false], [], [0, 3], [], round_of (ob := [inI64 (sa + 1), (!(ta2 == 95)) = false, (sa == 0) = false, (!(decide (ta2 ≤ 90))) = true, pureRun cx.P (Instr.index 9 (.string a0) (.int .i64 sa)) = some (.int .u8 ta2), (decide (ta2 ≥ 48)) = false, pureRun cx.P (Instr.index 9 (.string a0) (.int .i64 sa)) = some (.int .u8 ta2), pureRun cx.P (Instr.index 9 (.string a0) (.int .i64 sa)) = some (.int .u8 ta2), (decide (ta2 ≥ 65)) = true, pureRun cx.P (Instr.index 9 (.string a0) (.int .i64 sa)) = some (.int .u8 ta2), (decide (ta2 ≥ 97)) = false, pureRun cx.P (Instr.index 9 (.string a0) (.int .i64 sa)) = some (.int .u8 ta2), (decide (sa < (a0.size : Int))) = true]) (by kernel_rfl) ⟨ha9, (notf (eqt ha8)), (eqf ha7), (nott (decide_eq_false ha6)), strAt_ok ha2, (decide_eq_false ha5), strAt_ok ha2, strAt_ok ha2, (decide_eq_true ha4), strAt_ok ha2, (decide_eq_false ha3), strAt_ok ha2, (decide_eq_true ha1), trivial⟩⟩
              · replace h := ite_f h ha8
                replace h := Option.some.inj h
                subst h
                exact ⟨⟨100, 9, [.br true, .el (.v (.int .u8 ta2)), .br false, .no, .el (.v (.int .u8 ta2)), .br true, .el (.v (.int .u8 ta2)), .el (.v (.int .u8 ta2)), .br false, .no, .el (.v (.int .u8 ta2)), .br true, .br false, .br true], [], [2], [], round_of (ob := [(!(ta2 == 95)) = true, (sa == 0) = false, (!(decide (ta2 ≤ 90))) = true, pureRun cx.P (Instr.index 9 (.string a0) (.int .i64 sa)) = some (.int .u8 ta2), (decide (ta2 ≥ 48)) = false, pureRun cx.P (Instr.index 9 (.string a0) (.int .i64 sa)) = some (.int .u8 ta2), pureRun cx.P (Instr.index 9 (.string a0) (.int .i64 sa)) = some (.int .u8 ta2), (decide (ta2 ≥ 65)) = true, pureRun cx.P (Instr.index 9 (.string a0) (.int .i64 sa)) = some (.int .u8 ta2), (decide (ta2 ≥ 97)) = false, pureRun cx.P (Instr.index 9 (.string a0) (.int .i64 sa)) = some (.int .u8 ta2), (decide (sa < (a0.size : Int))) = true]) (by kernel_rfl) ⟨(nott (eqf ha8)), (eqf ha7), (nott (decide_eq_false ha6)), strAt_ok ha2, (decide_eq_false ha5), strAt_ok ha2, strAt_ok ha2, (decide_eq_true ha4), strAt_ok ha2, (decide_eq_false ha3), strAt_ok ha2, (decide_eq_true ha1), trivial⟩⟩, nofun⟩
      · replace h := ite_f h ha4
        by_cases ha5 : ta2 ≥ 48
        · replace h := ite_t h ha5
          by_cases ha6 : ta2 ≤ 57
          · replace h := ite_t h ha6
            by_cases ha7 : sa = 0
            · replace h := ite_t h ha7
              replace h := Option.some.inj h
              subst h
              exact ⟨⟨100, 9, [.br true, .el (.v (.int .u8 ta2)), .br false, .no, .el (.v (.int .u8 ta2)), .br false, .el (.v (.int .u8 ta2)), .br true, .el (.v (.int .u8 ta2)), .br true, .no, .br true, .no], [], [2], [], round_of (ob := [(sa == 0) = true, (decide (ta2 ≤ 57)) = true, pureRun cx.P (Instr.index 9 (.string a0) (.int .i64 sa)) = some (.int .u8 ta2), (decide (ta2 ≥ 48)) = true, pureRun cx.P (Instr.index 9 (.string a0) (.int .i64 sa)) = some (.int .u8 ta2), (decide (ta2 ≥ 65)) = false, pureRun cx.P (Instr.index 9 (.string a0) (.int .i64 sa)) = some (.int .u8 ta2), (decide (ta2 ≥ 97)) = false, pureRun cx.P (Instr.index 9 (.string a0) (.int .i64 sa)) = some (.int .u8 ta2), (decide (sa < (a0.size : Int))) = true]) (by kernel_rfl) ⟨(eqt ha7), (decide_eq_true ha6), strAt_ok ha2, (decide_eq_true ha5), strAt_ok ha2, (decide_eq_false ha4), strAt_ok ha2, (decide_eq_false ha3), strAt_ok ha2, (decide_eq_true ha1), trivial⟩⟩, nofun⟩
            · replace h := ite_f h ha7
              obtain ⟨ha8, h⟩ := grd_of h
              replace h := Option.some.inj h
              subst h
              exact ⟨100, 9, [.br true, .el (.v (.int .u8 ta2)), .br false, .no, .el (.v (.int .u8 ta2)), .br false, .el (.v (.int .u8 ta2)), .br true, .el (.v (.int .u8 ta2)), .br true, .no, .br false, .no], [], [0, 3], [], round_of (ob := [inI64 (sa + 1), (sa == 0) = false, (decide (ta2 ≤ 57)) = true, pureRun cx.P (Instr.index 9 (.string a0) (.int .i64 sa)) = some (.int .u8 ta2), (decide (ta2 ≥ 48)) = true, pureRun cx.P (Instr.index 9 (.string a0) (.int .i64 sa)) = some (.int .u8 ta2), (decide (ta2 ≥ 65)) = false, pureRun cx.P (Instr.index 9 (.string a0) (.int .i64 sa)) = some (.int .u8 ta2), (decide (ta2 ≥ 97)) = false, pureRun cx.P (Instr.index 9 (.string a0) (.int .i64 sa)) = some (.int .u8 ta2), (decide (sa < (a0.size : Int))) = true]) (by kernel_rfl) ⟨ha8, (eqf ha7), (decide_eq_true ha6), strAt_ok ha2, (decide_eq_true ha5), strAt_ok ha2, (decide_eq_false ha4), strAt_ok ha2, (decide_eq_false ha3), strAt_ok ha2, (decide_eq_true ha1), trivial⟩⟩
          · replace h := ite_f h ha6
            by_cases ha7 : sa = 0
            · replace h := ite_t h ha7
              replace h := Option.some.inj h
              subst h
              exact ⟨⟨100, 9, [.br true, .el (.v (.int .u8 ta2)), .br false, .no, .el (.v (.int .u8 ta2)), .br false, .el (.v (.int .u8 ta2)), .br true, .el (.v (.int .u8 ta2)), .br false, .el (.v (.int .u8 ta2)), .no, .br true, .no], [], [2], [], round_of (ob := [(sa == 0) = true, pureRun cx.P (Instr.index 9 (.string a0) (.int .i64 sa)) = some (.int .u8 ta2), (decide (ta2 ≤ 57)) = false, pureRun cx.P (Instr.index 9 (.string a0) (.int .i64 sa)) = some (.int .u8 ta2), (decide (ta2 ≥ 48)) = true, pureRun cx.P (Instr.index 9 (.string a0) (.int .i64 sa)) = some (.int .u8 ta2), (decide (ta2 ≥ 65)) = false, pureRun cx.P (Instr.index 9 (.string a0) (.int .i64 sa)) = some (.int .u8 ta2), (decide (ta2 ≥ 97)) = false, pureRun cx.P (Instr.index 9 (.string a0) (.int .i64 sa)) = some (.int .u8 ta2), (decide (sa < (a0.size : Int))) = true]) (by kernel_rfl) ⟨(eqt ha7), strAt_ok ha2, (decide_eq_false ha6), strAt_ok ha2, (decide_eq_true ha5), strAt_ok ha2, (decide_eq_false ha4), strAt_ok ha2, (decide_eq_false ha3), strAt_ok ha2, (decide_eq_true ha1), trivial⟩⟩, nofun⟩
            · replace h := ite_f h ha7
              by_cases ha8 : ta2 = 95
              · replace h := ite_t h ha8
                obtain ⟨ha9, h⟩ := grd_of h
                replace h := Option.some.inj h
                subst h
                exact ⟨100, 9, [.br true, .el (.v (.int .u8 ta2)), .br false, .no, .el (.v (.int .u8 ta2)), .br false, .el (.v (.int .u8 ta2)), .br true, .el (.v (.int .u8 ta2)), .br false, .el (.v (.int .u8 ta2)), .no, .br false, .br false], [], [0, 3], [], round_of (ob := [inI64 (sa + 1), (!(ta2 == 95)) = false, (sa == 0) = false, pureRun cx.P (Instr.index 9 (.string a0) (.int .i64 sa)) = some (.int .u8 ta2), (decide (ta2 ≤ 57)) = false, pureRun cx.P (Instr.index 9 (.string a0) (.int .i64 sa)) = some (.int .u8 ta2), (decide (ta2 ≥ 48)) = true, pureRun cx.P (Instr.index 9 (.string a0) (.int .i64 sa)) = some (.int .u8 ta2), (decide (ta2 ≥ 65)) = false, pureRun cx.P (Instr.index 9 (.string a0) (.int .i64 sa)) = some (.int .u8 ta2), (decide (ta2 ≥ 97)) = false, pureRun cx.P (Instr.index 9 (.string a0) (.int .i64 sa)) = some (.int .u8 ta2), (decide (sa < (a0.size : Int))) = true]) (by kernel_rfl) ⟨ha9, (notf (eqt ha8)), (eqf ha7), strAt_ok ha2, (decide_eq_false ha6), strAt_ok ha2, (decide_eq_true ha5), strAt_ok ha2, (decide_eq_false ha4), strAt_ok ha2, (decide_eq_false ha3), strAt_ok ha2, (decide_eq_true ha1), trivial⟩⟩
              · replace h := ite_f h ha8
                replace h := Option.some.inj h
                subst h
                exact ⟨⟨100, 9, [.br true, .el (.v (.int .u8 ta2)), .br false, .no, .el (.v (.int .u8 ta2)), .br false, .el (.v (.int .u8 ta2)), .br true, .el (.v (.int .u8 ta2)), .br false, .el (.v (.int .u8 ta2)), .no, .br false, .br true], [], [2], [], round_of (ob := [(!(ta2 == 95)) = true, (sa == 0) = false, pureRun cx.P (Instr.index 9 (.string a0) (.int .i64 sa)) = some (.int .u8 ta2), (decide (ta2 ≤ 57)) = false, pureRun cx.P (Instr.index 9 (.string a0) (.int .i64 sa)) = some (.int .u8 ta2), (decide (ta2 ≥ 48)) = true, pureRun cx.P (Instr.index 9 (.string a0) (.int .i64 sa)) = some (.int .u8 ta2), (decide (ta2 ≥ 65)) = false, pureRun cx.P (Instr.index 9 (.string a0) (.int .i64 sa)) = some (.int .u8 ta2), (decide (ta2 ≥ 97)) = false, pureRun cx.P (Instr.index 9 (.string a0) (.int .i64 sa)) = some (.int .u8 ta2), (decide (sa < (a0.size : Int))) = true]) (by kernel_rfl) ⟨(nott (eqf ha8)), (eqf ha7), strAt_ok ha2, (decide_eq_false ha6), strAt_ok ha2, (decide_eq_true ha5), strAt_ok ha2, (decide_eq_false ha4), strAt_ok ha2, (decide_eq_false ha3), strAt_ok ha2, (decide_eq_true ha1), trivial⟩⟩, nofun⟩
        · replace h := ite_f h ha5
          by_cases ha6 : sa = 0
          · replace h := ite_t h ha6
            replace h := Option.some.inj h
            subst h
            exact ⟨⟨100, 9, [.br true, .el (.v (.int .u8 ta2)), .br false, .no, .el (.v (.int .u8 ta2)), .br false, .el (.v (.int .u8 ta2)), .br false, .no, .el (.v (.int .u8 ta2)), .no, .br true, .no], [], [2], [], round_of (ob := [(sa == 0) = true, pureRun cx.P (Instr.index 9 (.string a0) (.int .i64 sa)) = some (.int .u8 ta2), (decide (ta2 ≥ 48)) = false, pureRun cx.P (Instr.index 9 (.string a0) (.int .i64 sa)) = some (.int .u8 ta2), (decide (ta2 ≥ 65)) = false, pureRun cx.P (Instr.index 9 (.string a0) (.int .i64 sa)) = some (.int .u8 ta2), (decide (ta2 ≥ 97)) = false, pureRun cx.P (Instr.index 9 (.string a0) (.int .i64 sa)) = some (.int .u8 ta2), (decide (sa < (a0.size : Int))) = true]) (by kernel_rfl) ⟨(eqt ha6), strAt_ok ha2, (decide_eq_false ha5), strAt_ok ha2, (decide_eq_false ha4), strAt_ok ha2, (decide_eq_false ha3), strAt_ok ha2, (decide_eq_true ha1), trivial⟩⟩, nofun⟩
          · replace h := ite_f h ha6
            by_cases ha7 : ta2 = 95
            · replace h := ite_t h ha7
              obtain ⟨ha8, h⟩ := grd_of h
              replace h := Option.some.inj h
              subst h
              exact ⟨100, 9, [.br true, .el (.v (.int .u8 ta2)), .br false, .no, .el (.v (.int .u8 ta2)), .br false, .el (.v (.int .u8 ta2)), .br false, .no, .el (.v (.int .u8 ta2)), .no, .br false, .br false], [], [0, 3], [], round_of (ob := [inI64 (sa + 1), (!(ta2 == 95)) = false, (sa == 0) = false, pureRun cx.P (Instr.index 9 (.string a0) (.int .i64 sa)) = some (.int .u8 ta2), (decide (ta2 ≥ 48)) = false, pureRun cx.P (Instr.index 9 (.string a0) (.int .i64 sa)) = some (.int .u8 ta2), (decide (ta2 ≥ 65)) = false, pureRun cx.P (Instr.index 9 (.string a0) (.int .i64 sa)) = some (.int .u8 ta2), (decide (ta2 ≥ 97)) = false, pureRun cx.P (Instr.index 9 (.string a0) (.int .i64 sa)) = some (.int .u8 ta2), (decide (sa < (a0.size : Int))) = true]) (by kernel_rfl) ⟨ha8, (notf (eqt ha7)), (eqf ha6), strAt_ok ha2, (decide_eq_false ha5), strAt_ok ha2, (decide_eq_false ha4), strAt_ok ha2, (decide_eq_false ha3), strAt_ok ha2, (decide_eq_true ha1), trivial⟩⟩
            · replace h := ite_f h ha7
              replace h := Option.some.inj h
              subst h
              exact ⟨⟨100, 9, [.br true, .el (.v (.int .u8 ta2)), .br false, .no, .el (.v (.int .u8 ta2)), .br false, .el (.v (.int .u8 ta2)), .br false, .no, .el (.v (.int .u8 ta2)), .no, .br false, .br true], [], [2], [], round_of (ob := [(!(ta2 == 95)) = true, (sa == 0) = false, pureRun cx.P (Instr.index 9 (.string a0) (.int .i64 sa)) = some (.int .u8 ta2), (decide (ta2 ≥ 48)) = false, pureRun cx.P (Instr.index 9 (.string a0) (.int .i64 sa)) = some (.int .u8 ta2), (decide (ta2 ≥ 65)) = false, pureRun cx.P (Instr.index 9 (.string a0) (.int .i64 sa)) = some (.int .u8 ta2), (decide (ta2 ≥ 97)) = false, pureRun cx.P (Instr.index 9 (.string a0) (.int .i64 sa)) = some (.int .u8 ta2), (decide (sa < (a0.size : Int))) = true]) (by kernel_rfl) ⟨(nott (eqf ha7)), (eqf ha6), strAt_ok ha2, (decide_eq_false ha5), strAt_ok ha2, (decide_eq_false ha4), strAt_ok ha2, (decide_eq_false ha3), strAt_ok ha2, (decide_eq_true ha1), trivial⟩⟩, nofun⟩
  · replace h := ite_f h ha1
    replace h := Option.some.inj h
    subst h
    exact ⟨⟨100, 9, [.br false], [], [], [], round_of (ob := [(decide (sa < (a0.size : Int))) = false]) (by kernel_rfl) ⟨(decide_eq_false ha1), trivial⟩⟩, nofun⟩
/- spillage/spillageref01.IsName: .v (.string a0) -/
def F_ref01_IsName (n : Nat) (a0 : ByteArray) : Option (Bool) :=
  if (a0.toList == (⟨#[]⟩ : ByteArray).toList) = true then
    some false
  else
  if (a0.size : Int) > 24 then
    some false
  else
  (loopF (F_ref01_IsName_L1 n a0) n 0).bind fun t3 => match t3 with
    | (.inl t3) => (
      some false)
    | (.inr t3) => (
      some true)
theorem c_ref01_IsName {n : Nat} {a0 : ByteArray} {r : Bool} (h : F_ref01_IsName n a0 = some r) : Computes cx 124 [.v (.string a0)] (B r) := by
  unfold F_ref01_IsName at h
  by_cases h1 : (a0.toList == (⟨#[]⟩ : ByteArray).toList) = true
  · replace h := ite_t h h1
    replace h := Option.some.inj h
    subst h
    exact run (n := 100) (f := 124) (args := [.v (.string a0)]) (orc := [.br true, .no]) (r := B false) (ob := [(a0.toList == (⟨#[]⟩ : ByteArray).toList) = true]) (by kernel_rfl) ⟨h1, trivial⟩
  · replace h := ite_f h h1
    by_cases h2 : (a0.size : Int) > 24
    · replace h := ite_t h h2
      replace h := Option.some.inj h
      subst h
      exact run (n := 100) (f := 124) (args := [.v (.string a0)]) (orc := [.br false, .br true]) (r := B false) (ob := [(decide ((a0.size : Int) > 24)) = true, (a0.toList == (⟨#[]⟩ : ByteArray).toList) = false]) (by kernel_rfl) ⟨(decide_eq_true h2), (bfalse h1), trivial⟩
    · replace h := ite_f h h2
      obtain ⟨t3, h3, h⟩ := bnd_of h
      rcases t3 with t3 | t3
      · replace h := Option.some.inj h
        subst h
        exact run (n := 100) (f := 124) (args := [.v (.string a0)]) (orc := [.br false, .br false, .lp [] [0, 3] [] .ret [(2, .d (B false))] [] 77]) (r := B false) (ob := [LoopN cx (loopAt cx.P 124 0) 67 0 false [(0, .d (.v (.string a0))), (3, .d (I 0))] [] .ret [(2, .d (B false))] [], (decide ((a0.size : Int) > 24)) = false, (a0.toList == (⟨#[]⟩ : ByteArray).toList) = false]) (by kernel_rfl) ⟨(loopF_to R_ref01_IsName_L1 h3), (decide_eq_false h2), (bfalse h1), trivial⟩
      · replace h := Option.some.inj h
        subst h
        exact run (n := 100) (f := 124) (args := [.v (.string a0)]) (orc := [.br false, .br false, .lp [] [0, 3] [] (.exit 0) [] [] 77]) (r := B true) (ob := [LoopN cx (loopAt cx.P 124 0) 67 0 false [(0, .d (.v (.string a0))), (3, .d (I 0))] [] (.exit 0) [] [], (decide ((a0.size : Int) > 24)) = false, (a0.toList == (⟨#[]⟩ : ByteArray).toList) = false]) (by kernel_rfl) ⟨(loopF_to R_ref01_IsName_L1 h3), (decide_eq_false h2), (bfalse h1), trivial⟩
/- spillage/spillageref01.When: B a0, I a1 -/
def F_ref01_When (n : Nat) (a0 : Bool) (a1 : Int) : Option (Int) :=
  if a0 = true then
    some a1
  else
  some 0
theorem c_ref01_When {n : Nat} {a0 : Bool} {a1 : Int} {r : Int} (h : F_ref01_When n a0 a1 = some r) : Computes cx 16 [B a0, I a1] (I r) := by
  unfold F_ref01_When at h
  by_cases h1 : a0 = true
  · replace h := ite_t h h1
    replace h := Option.some.inj h
    subst h
    exact run (n := 100) (f := 16) (args := [B a0, I a1]) (orc := [.br true]) (r := I a1) (ob := [a0 = true]) (by kernel_rfl) ⟨h1, trivial⟩
  · replace h := ite_f h h1
    replace h := Option.some.inj h
    subst h
    exact run (n := 100) (f := 16) (args := [B a0, I a1]) (orc := [.br false]) (r := I 0) (ob := [a0 = false]) (by kernel_rfl) ⟨(bfalse h1), trivial⟩
/- spillage/spillageref01.CheckName: .v (.string a0) -/
def F_ref01_CheckName (n : Nat) (a0 : ByteArray) : Option (Int) :=
  (F_ref01_IsName n a0).bind fun t1 =>
  (F_ref01_When n (!t1) 8).bind fun t2 =>
  some t2
theorem c_ref01_CheckName {n : Nat} {a0 : ByteArray} {r : Int} (h : F_ref01_CheckName n a0 = some r) : Computes cx 72 [.v (.string a0)] (I r) := by
  unfold F_ref01_CheckName at h
  obtain ⟨t1, h1, h⟩ := bnd_of h
  obtain ⟨t2, h2, h⟩ := bnd_of h
  replace h := Option.some.inj h
  subst h
  exact run (n := 100) (f := 72) (args := [.v (.string a0)]) (orc := [.ret (B t1), .ret (I t2)]) (r := I t2) (ob := [Computes cx 16 [B (!t1), I 8] (I t2), Computes cx 124 [.v (.string a0)] (B t1)]) (by kernel_rfl) ⟨(c_ref01_When h2), (c_ref01_IsName h1), trivial⟩
/- spillage/spillageref01.When: B true, I 3 -/
def F_ref01_When_2 (n : Nat)  : Option (Int) :=
  some 3
theorem c_ref01_When_2 {n : Nat}  {r : Int} (h : F_ref01_When_2 n  = some r) : Computes cx 16 [B true, I 3] (I r) := by
  unfold F_ref01_When_2 at h
  replace h := Option.some.inj h
  subst h
  exact run (n := 100) (f := 16) (args := [B true, I 3]) (orc := [.no]) (r := I 3) (ob := []) (by kernel_rfl) trivial
/- spillage/spillageref01.CheckRange: I a0, I a1, I a2 -/
def F_ref01_CheckRange (n : Nat) (a0 : Int) (a1 : Int) (a2 : Int) : Option (Int) :=
  if a0 < a1 then
    (F_ref01_When_2 n).bind fun t2 =>
    some t2
  else
  (F_ref01_When n (decide (a0 > a2)) 3).bind fun t2 =>
  some t2
theorem c_ref01_CheckRange {n : Nat} {a0 : Int} {a1 : Int} {a2 : Int} {r : Int} (h : F_ref01_CheckRange n a0 a1 a2 = some r) : Computes cx 32 [I a0, I a1, I a2] (I r) := by
  unfold F_ref01_CheckRange at h
  by_cases h1 : a0 < a1
  · replace h := ite_t h h1
    obtain ⟨t2, h2, h⟩ := bnd_of h
    replace h := Option.some.inj h
    subst h
    exact run (n := 100) (f := 32) (args := [I a0, I a1, I a2]) (orc := [.br true, .ret (I t2)]) (r := I t2) (ob := [Computes cx 16 [B true, I 3] (I t2), (decide (a0 < a1)) = true]) (by kernel_rfl) ⟨(c_ref01_When_2 h2), (decide_eq_true h1), trivial⟩
  · replace h := ite_f h h1
    obtain ⟨t2, h2, h⟩ := bnd_of h
    replace h := Option.some.inj h
    subst h
    exact run (n := 100) (f := 32) (args := [I a0, I a1, I a2]) (orc := [.br false, .ret (I t2)]) (r := I t2) (ob := [Computes cx 16 [B (decide (a0 > a2)), I 3] (I t2), (decide (a0 < a1)) = false]) (by kernel_rfl) ⟨(c_ref01_When h2), (decide_eq_false h1), trivial⟩
def F_ref01_First_L1 (n : Nat) (a0 : List D) (sa : (Int)) : Option (((Int)) ⊕ ((Int) ⊕ (Unit))) :=
  if sa < ((a0).length : Int) then
    (el un_i a0 sa).bind fun ta2 =>
    if ta2 = 0 then
      if inI64 (sa + 1) then
      some (.inl (sa + 1))
      else none
    else
    some (.inr (.inl ta2))
  else
  some (.inr (.inr ()))
noncomputable def T_ref01_First_L1 (a0 : List D) (sa : (Int)) : List (Nat × AV) := [(0, .d (.lst false 1 a0)), (3, .d (I sa))]
noncomputable def H_ref01_First_L1 (a0 : List D) (sa : (Int)) : List (Nat × Blk) := []
noncomputable def X_ref01_First_L1 (a0 : List D) (e : (Int) ⊕ (Unit)) : Ex := match e with
  | (.inl e) => .ret
  | (.inr e) => (.exit 0)
noncomputable def XT_ref01_First_L1 (a0 : List D) (e : (Int) ⊕ (Unit)) : List (Nat × AV) := match e with
  | (.inl e) => [(2, .d (I e))]
  | (.inr e) => []
noncomputable def XH_ref01_First_L1 (a0 : List D) (e : (Int) ⊕ (Unit)) : List (Nat × Blk) := match e with
  | (.inl e) => []
  | (.inr e) => []
theorem R_ref01_First_L1 {n : Nat} {a0 : List D} (sa : (Int)) (r) (h : F_ref01_First_L1 n a0 sa = some r) : Rd cx (loopAt cx.P 13 0) 19 0 false (T_ref01_First_L1 a0) (H_ref01_First_L1 a0) (X_ref01_First_L1 a0) (XT_ref01_First_L1 a0) (XH_ref01_First_L1 a0) sa r := by
  unfold F_ref01_First_L1 at h
  by_cases ha1 : sa < ((a0).length : Int)
  · replace h := ite_t h ha1
    obtain ⟨ta2, ha2, h⟩ := bnd_of h
    by_cases ha3 : ta2 = 0
    · replace h := ite_t h ha3
      obtain ⟨ha4, h⟩ := grd_of h
      replace h := Option.some.inj h
      subst h
      exact ⟨100, 2, [.br true, .el (I ta2), .br false], [], [0, 3], [], round_of (ob := [inI64 (sa + 1), (ta2 != 0) = false, (0 : Int) ≤ sa, nth (a0) (Int.toNat sa) = some (I ta2), (decide (sa < ((a0).length : Int))) = true]) (by kernel_rfl) ⟨ha4, (nef ha3), (el_ok un_i_ok ha2).1, (el_ok un_i_ok ha2).2, (decide_eq_true ha1), trivial⟩⟩
    · replace h := ite_f h ha3
      replace h := Option.some.inj h
      subst h
      exact ⟨⟨100, 2, [.br true, .el (I ta2), .br true, .el (I ta2)], [], [2], [], round_of (ob := [(0 : Int) ≤ sa, nth (a0) (Int.toNat sa) = some (I ta2), (ta2 != 0) = true, (0 : Int) ≤ sa, nth (a0) (Int.toNat sa) = some (I ta2), (decide (sa < ((a0).length : Int))) = true]) (by kernel_rfl) ⟨(el_ok un_i_ok ha2).1, (el_ok un_i_ok ha2).2, (net ha3), (el_ok un_i_ok ha2).1, (el_ok un_i_ok ha2).2, (decide_eq_true ha1), trivial⟩⟩, nofun⟩
  · replace h := ite_f h ha1
    replace h := Option.some.inj h
    subst h
    exact ⟨⟨100, 2, [.br false], [], [], [], round_of (ob := [(decide (sa < ((a0).length : Int))) = false]) (by kernel_rfl) ⟨(decide_eq_false ha1), trivial⟩⟩, nofun⟩
/- spillage/spillageref01.First: .lst false 1 a0 -/
def F_ref01_First (n : Nat) (a0 : List D) : Option (Int) :=
  (loopF (F_ref01_First_L1 n a0) n 0).bind fun t1 => match t1 with
    | (.inl t1) => (
      some t1)
    | (.inr t1) => (
      some 0)
theorem c_ref01_First {n : Nat} {a0 : List D} {r : Int} (h : F_ref01_First n a0 = some r) : Computes cx 13 [.lst false 1 a0] (I r) := by
  unfold F_ref01_First at h
  obtain ⟨t1, h1, h⟩ := bnd_of h
  rcases t1 with t1 | t1
  · replace h := Option.some.inj h
    subst h
    exact run (n := 100) (f := 13) (args := [.lst false 1 a0]) (orc := [.lp [] [0, 3] [] .ret [(2, .d (I t1))] [] 27]) (r := I t1) (ob := [LoopN cx (loopAt cx.P 13 0) 19 0 false [(0, .d (.lst false 1 a0)), (3, .d (I 0))] [] .ret [(2, .d (I t1))] []]) (by kernel_rfl) ⟨(loopF_to R_ref01_First_L1 h1), trivial⟩
  · replace h := Option.some.inj h
    subst h
    exact run (n := 100) (f := 13) (args := [.lst false 1 a0]) (orc := [.lp [] [0, 3] [] (.exit 0) [] [] 27]) (r := I 0) (ob := [LoopN cx (loopAt cx.P 13 0) 19 0 false [(0, .d (.lst false 1 a0)), (3, .d (I 0))] [] (.exit 0) [] []]) (by kernel_rfl) ⟨(loopF_to R_ref01_First_L1 h1), trivial⟩
/- spillage/spillageref04.checkParts: .agg [I a0, I a1, I a2], I a3 -/
def F_ref04_checkParts (n : Nat) (a0 : Int) (a1 : Int) (a2 : Int) (a3 : Int) : Option (Int) :=
  if inI64 (0 - a3) then
  (F_ref01_CheckRange n a0 (0 - a3) a3).bind fun t2 =>
  (F_ref01_CheckRange n a1 (0 - a3) a3).bind fun t3 =>
  (F_ref01_CheckRange n a2 (0 - a3) a3).bind fun t4 =>
  (F_ref01_First n ([I t2, I t3, I t4])).bind fun t5 =>
  some t5
  else none
theorem c_ref04_checkParts {n : Nat} {a0 : Int} {a1 : Int} {a2 : Int} {a3 : Int} {r : Int} (h : F_ref04_checkParts n a0 a1 a2 a3 = some r) : Computes cx 73 [.agg [I a0, I a1, I a2], I a3] (I r) := by
  unfold F_ref04_checkParts at h
  obtain ⟨h1, h⟩ := grd_of h
  obtain ⟨t2, h2, h⟩ := bnd_of h
  obtain ⟨t3, h3, h⟩ := bnd_of h
  obtain ⟨t4, h4, h⟩ := bnd_of h
  obtain ⟨t5, h5, h⟩ := bnd_of h
  replace h := Option.some.inj h
  subst h
  exact run (n := 100) (f := 73) (args := [.agg [I a0, I a1, I a2], I a3]) (orc := [.ret (I t2), .ret (I t3), .ret (I t4), .ret (I t5)]) (r := I t5) (ob := [Computes cx 13 [.lst true 1 [I t2, I t3, I t4]] (I t5), Computes cx 32 [I a2, I (0 - a3), I a3] (I t4), inI64 (0 - a3), Computes cx 32 [I a1, I (0 - a3), I a3] (I t3), inI64 (0 - a3), Computes cx 32 [I a0, I (0 - a3), I a3] (I t2), inI64 (0 - a3)]) (by kernel_rfl) ⟨((c_ref01_First h5).le (.cons (.full _ _ _) (.nil)) (.refl _)), (c_ref01_CheckRange h4), h1, (c_ref01_CheckRange h3), h1, (c_ref01_CheckRange h2), h1, trivial⟩
/- spillage/spillageref04.Cross: .agg [I a0, I a1, I a2], .agg [I a3, I a4, I a5] -/
def F_ref04_Cross (n : Nat) (a0 : Int) (a1 : Int) (a2 : Int) (a3 : Int) (a4 : Int) (a5 : Int) : Option (Int × Int × Int) :=
  if inI64 (a1 * a5) then
  if inI64 (a2 * a4) then
  if inI64 ((a1 * a5) - (a2 * a4)) then
  if inI64 (a2 * a3) then
  if inI64 (a0 * a5) then
  if inI64 ((a2 * a3) - (a0 * a5)) then
  if inI64 (a0 * a4) then
  if inI64 (a1 * a3) then
  if inI64 ((a0 * a4) - (a1 * a3)) then
  some (((a1 * a5) - (a2 * a4)), ((a2 * a3) - (a0 * a5)), ((a0 * a4) - (a1 * a3)))
  else none
  else none
  else none
  else none
  else none
  else none
  else none
  else none
  else none
theorem c_ref04_Cross {n : Nat} {a0 : Int} {a1 : Int} {a2 : Int} {a3 : Int} {a4 : Int} {a5 : Int} {r : Int × Int × Int} (h : F_ref04_Cross n a0 a1 a2 a3 a4 a5 = some r) : Computes cx 74 [.agg [I a0, I a1, I a2], .agg [I a3, I a4, I a5]] (.agg [I r.1, I r.2.1, I r.2.2]) := by
  unfold F_ref04_Cross at h
  obtain ⟨h1, h⟩ := grd_of h
  obtain ⟨h2, h⟩ := grd_of h
  obtain ⟨h3, h⟩ := grd_of h
  obtain ⟨h4, h⟩ := grd_of h
  obtain ⟨h5, h⟩ := grd_of h
  obtain ⟨h6, h⟩ := grd_of h
  obtain ⟨h7, h⟩ := grd_of h
  obtain ⟨h8, h⟩ := grd_of h
  obtain ⟨h9, h⟩ := grd_of h
  replace h := Option.some.inj h
  subst h
  exact run (n := 100) (f := 74) (args := [.agg [I a0, I a1, I a2], .agg [I a3, I a4, I a5]]) (orc := []) (r := .agg [I ((a1 * a5) - (a2 * a4)), I ((a2 * a3) - (a0 * a5)), I ((a0 * a4) - (a1 * a3))]) (ob := [inI64 ((a0 * a4) - (a1 * a3)), inI64 (a1 * a3), inI64 (a0 * a4), inI64 ((a2 * a3) - (a0 * a5)), inI64 (a0 * a5), inI64 (a2 * a3), inI64 ((a1 * a5) - (a2 * a4)), inI64 (a2 * a4), inI64 (a1 * a5)]) (by kernel_rfl) ⟨h9, h8, h7, h6, h5, h4, h3, h2, h1, trivial⟩
/- spillage/spillageref04.CheckMirror: .agg [.v (.string a0), I a1, I a2, I a3, I a4, I a5, I a6, I a7, I a8, I a9] -/
def F_ref04_CheckMirror (n : Nat) (a0 : ByteArray) (a1 : Int) (a2 : Int) (a3 : Int) (a4 : Int) (a5 : Int) (a6 : Int) (a7 : Int) (a8 : Int) (a9 : Int) : Option (Int) :=
  (F_ref01_CheckName n a0).bind fun t1 =>
  (F_ref04_checkParts n a1 a2 a3 4096).bind fun t2 =>
  (F_ref04_checkParts n a4 a5 a6 64).bind fun t3 =>
  (F_ref04_checkParts n a7 a8 a9 64).bind fun t4 =>
  (F_ref01_First n ([I t1, I t2, I t3, I t4])).bind fun t5 =>
  if t5 = 0 then
    (F_ref04_Cross n a4 a5 a6 a7 a8 a9).bind fun t7 =>
    (F_ref01_When n ((t7.1 == 0) && ((t7.2.1 == 0) && ((t7.2.2 == 0) && true))) 17).bind fun t8 =>
    some t8
  else
  some t5
theorem c_ref04_CheckMirror {n : Nat} {a0 : ByteArray} {a1 : Int} {a2 : Int} {a3 : Int} {a4 : Int} {a5 : Int} {a6 : Int} {a7 : Int} {a8 : Int} {a9 : Int} {r : Int} (h : F_ref04_CheckMirror n a0 a1 a2 a3 a4 a5 a6 a7 a8 a9 = some r) : Computes cx 14 [.agg [.v (.string a0), I a1, I a2, I a3, I a4, I a5, I a6, I a7, I a8, I a9]] (I r) := by
  unfold F_ref04_CheckMirror at h
  obtain ⟨t1, h1, h⟩ := bnd_of h
  obtain ⟨t2, h2, h⟩ := bnd_of h
  obtain ⟨t3, h3, h⟩ := bnd_of h
  obtain ⟨t4, h4, h⟩ := bnd_of h
  obtain ⟨t5, h5, h⟩ := bnd_of h
  by_cases h6 : t5 = 0
  · replace h := ite_t h h6
    obtain ⟨t7, h7, h⟩ := bnd_of h
    obtain ⟨t8, h8, h⟩ := bnd_of h
    replace h := Option.some.inj h
    subst h
    exact run (n := 100) (f := 14) (args := [.agg [.v (.string a0), I a1, I a2, I a3, I a4, I a5, I a6, I a7, I a8, I a9]]) (orc := [.ret (I t1), .ret (I t2), .ret (I t3), .ret (I t4), .ret (I t5), .br false, .ret (.agg [I t7.1, I t7.2.1, I t7.2.2]), .ret (I t8)]) (r := I t8) (ob := [Computes cx 16 [B ((t7.1 == 0) && ((t7.2.1 == 0) && ((t7.2.2 == 0) && true))), I 17] (I t8), Computes cx 74 [.agg [I a4, I a5, I a6], .agg [I a7, I a8, I a9]] (.agg [I t7.1, I t7.2.1, I t7.2.2]), (t5 != 0) = false, Computes cx 13 [.lst true 1 [I t1, I t2, I t3, I t4]] (I t5), Computes cx 73 [.agg [I a7, I a8, I a9], I 64] (I t4), Computes cx 73 [.agg [I a4, I a5, I a6], I 64] (I t3), Computes cx 73 [.agg [I a1, I a2, I a3], I 4096] (I t2), Computes cx 72 [.v (.string a0)] (I t1)]) (by kernel_rfl) ⟨(c_ref01_When h8), (c_ref04_Cross h7), (nef h6), ((c_ref01_First h5).le (.cons (.full _ _ _) (.nil)) (.refl _)), (c_ref04_checkParts h4), (c_ref04_checkParts h3), (c_ref04_checkParts h2), (c_ref01_CheckName h1), trivial⟩
  · replace h := ite_f h h6
    replace h := Option.some.inj h
    subst h
    exact run (n := 100) (f := 14) (args := [.agg [.v (.string a0), I a1, I a2, I a3, I a4, I a5, I a6, I a7, I a8, I a9]]) (orc := [.ret (I t1), .ret (I t2), .ret (I t3), .ret (I t4), .ret (I t5), .br true]) (r := I t5) (ob := [(t5 != 0) = true, Computes cx 13 [.lst true 1 [I t1, I t2, I t3, I t4]] (I t5), Computes cx 73 [.agg [I a7, I a8, I a9], I 64] (I t4), Computes cx 73 [.agg [I a4, I a5, I a6], I 64] (I t3), Computes cx 73 [.agg [I a1, I a2, I a3], I 4096] (I t2), Computes cx 72 [.v (.string a0)] (I t1)]) (by kernel_rfl) ⟨(net h6), ((c_ref01_First h5).le (.cons (.full _ _ _) (.nil)) (.refl _)), (c_ref04_checkParts h4), (c_ref04_checkParts h3), (c_ref04_checkParts h2), (c_ref01_CheckName h1), trivial⟩
/- spillage/spillageref04.CheckDirection: .agg [I a0, I a1, I a2] -/
def F_ref04_CheckDirection (n : Nat) (a0 : Int) (a1 : Int) (a2 : Int) : Option (Int) :=
  (F_ref04_checkParts n a0 a1 a2 1024).bind fun t1 =>
  (F_ref01_When n ((a0 == 0) && ((a1 == 0) && ((a2 == 0) && true))) 6).bind fun t2 =>
  (F_ref01_First n ([I t1, I t2])).bind fun t3 =>
  some t3
theorem c_ref04_CheckDirection {n : Nat} {a0 : Int} {a1 : Int} {a2 : Int} {r : Int} (h : F_ref04_CheckDirection n a0 a1 a2 = some r) : Computes cx 15 [.agg [I a0, I a1, I a2]] (I r) := by
  unfold F_ref04_CheckDirection at h
  obtain ⟨t1, h1, h⟩ := bnd_of h
  obtain ⟨t2, h2, h⟩ := bnd_of h
  obtain ⟨t3, h3, h⟩ := bnd_of h
  replace h := Option.some.inj h
  subst h
  exact run (n := 100) (f := 15) (args := [.agg [I a0, I a1, I a2]]) (orc := [.ret (I t1), .ret (I t2), .ret (I t3)]) (r := I t3) (ob := [Computes cx 13 [.lst true 1 [I t1, I t2]] (I t3), Computes cx 16 [B ((a0 == 0) && ((a1 == 0) && ((a2 == 0) && true))), I 6] (I t2), Computes cx 73 [.agg [I a0, I a1, I a2], I 1024] (I t1)]) (by kernel_rfl) ⟨((c_ref01_First h3).le (.cons (.full _ _ _) (.nil)) (.refl _)), (c_ref01_When h2), (c_ref04_checkParts h1), trivial⟩
/- spillage/spillageref04.Normal: .agg [.v (.string a0), I a1, I a2, I a3, I a4, I a5, I a6, I a7, I a8, I a9] -/
def F_ref04_Normal (n : Nat) (a0 : ByteArray) (a1 : Int) (a2 : Int) (a3 : Int) (a4 : Int) (a5 : Int) (a6 : Int) (a7 : Int) (a8 : Int) (a9 : Int) : Option (Int × Int × Int) :=
  (F_ref04_Cross n a4 a5 a6 a7 a8 a9).bind fun t1 =>
  some (t1.1, t1.2.1, t1.2.2)
theorem c_ref04_Normal {n : Nat} {a0 : ByteArray} {a1 : Int} {a2 : Int} {a3 : Int} {a4 : Int} {a5 : Int} {a6 : Int} {a7 : Int} {a8 : Int} {a9 : Int} {r : Int × Int × Int} (h : F_ref04_Normal n a0 a1 a2 a3 a4 a5 a6 a7 a8 a9 = some r) : Computes cx 75 [.agg [.v (.string a0), I a1, I a2, I a3, I a4, I a5, I a6, I a7, I a8, I a9]] (.agg [I r.1, I r.2.1, I r.2.2]) := by
  unfold F_ref04_Normal at h
  obtain ⟨t1, h1, h⟩ := bnd_of h
  replace h := Option.some.inj h
  subst h
  exact run (n := 100) (f := 75) (args := [.agg [.v (.string a0), I a1, I a2, I a3, I a4, I a5, I a6, I a7, I a8, I a9]]) (orc := [.ret (.agg [I t1.1, I t1.2.1, I t1.2.2])]) (r := .agg [I t1.1, I t1.2.1, I t1.2.2]) (ob := [Computes cx 74 [.agg [I a4, I a5, I a6], .agg [I a7, I a8, I a9]] (.agg [I t1.1, I t1.2.1, I t1.2.2])]) (by kernel_rfl) ⟨(c_ref04_Cross h1), trivial⟩
/- spillage/spillageref04.Dot: .agg [I a0, I a1, I a2], .agg [I a3, I a4, I a5] -/
def F_ref04_Dot (n : Nat) (a0 : Int) (a1 : Int) (a2 : Int) (a3 : Int) (a4 : Int) (a5 : Int) : Option (Int) :=
  if inI64 (a0 * a3) then
  if inI64 (a1 * a4) then
  if inI64 ((a0 * a3) + (a1 * a4)) then
  if inI64 (a2 * a5) then
  if inI64 (((a0 * a3) + (a1 * a4)) + (a2 * a5)) then
  some (((a0 * a3) + (a1 * a4)) + (a2 * a5))
  else none
  else none
  else none
  else none
  else none
theorem c_ref04_Dot {n : Nat} {a0 : Int} {a1 : Int} {a2 : Int} {a3 : Int} {a4 : Int} {a5 : Int} {r : Int} (h : F_ref04_Dot n a0 a1 a2 a3 a4 a5 = some r) : Computes cx 76 [.agg [I a0, I a1, I a2], .agg [I a3, I a4, I a5]] (I r) := by
  unfold F_ref04_Dot at h
  obtain ⟨h1, h⟩ := grd_of h
  obtain ⟨h2, h⟩ := grd_of h
  obtain ⟨h3, h⟩ := grd_of h
  obtain ⟨h4, h⟩ := grd_of h
  obtain ⟨h5, h⟩ := grd_of h
  replace h := Option.some.inj h
  subst h
  exact run (n := 100) (f := 76) (args := [.agg [I a0, I a1, I a2], .agg [I a3, I a4, I a5]]) (orc := []) (r := I (((a0 * a3) + (a1 * a4)) + (a2 * a5))) (ob := [inI64 (((a0 * a3) + (a1 * a4)) + (a2 * a5)), inI64 (a2 * a5), inI64 ((a0 * a3) + (a1 * a4)), inI64 (a1 * a4), inI64 (a0 * a3)]) (by kernel_rfl) ⟨h5, h4, h3, h2, h1, trivial⟩
/- spillage/spillageref04.times: I a0, .agg [I a1, I a2, I a3] -/
def F_ref04_times (n : Nat) (a0 : Int) (a1 : Int) (a2 : Int) (a3 : Int) : Option (Int × Int × Int) :=
  if inI64 (a0 * a1) then
  if inI64 (a0 * a2) then
  if inI64 (a0 * a3) then
  some ((a0 * a1), (a0 * a2), (a0 * a3))
  else none
  else none
  else none
theorem c_ref04_times {n : Nat} {a0 : Int} {a1 : Int} {a2 : Int} {a3 : Int} {r : Int × Int × Int} (h : F_ref04_times n a0 a1 a2 a3 = some r) : Computes cx 127 [I a0, .agg [I a1, I a2, I a3]] (.agg [I r.1, I r.2.1, I r.2.2]) := by
  unfold F_ref04_times at h
  obtain ⟨h1, h⟩ := grd_of h
  obtain ⟨h2, h⟩ := grd_of h
  obtain ⟨h3, h⟩ := grd_of h
  replace h := Option.some.inj h
  subst h
  exact run (n := 100) (f := 127) (args := [I a0, .agg [I a1, I a2, I a3]]) (orc := []) (r := .agg [I (a0 * a1), I (a0 * a2), I (a0 * a3)]) (ob := [inI64 (a0 * a3), inI64 (a0 * a2), inI64 (a0 * a1)]) (by kernel_rfl) ⟨h3, h2, h1, trivial⟩
/- spillage/spillageref04.plus: .agg [I a0, I a1, I a2], .agg [I a3, I a4, I a5] -/
def F_ref04_plus (n : Nat) (a0 : Int) (a1 : Int) (a2 : Int) (a3 : Int) (a4 : Int) (a5 : Int) : Option (Int × Int × Int) :=
  if inI64 (a0 + a3) then
  if inI64 (a1 + a4) then
  if inI64 (a2 + a5) then
  some ((a0 + a3), (a1 + a4), (a2 + a5))
  else none
  else none
  else none
theorem c_ref04_plus {n : Nat} {a0 : Int} {a1 : Int} {a2 : Int} {a3 : Int} {a4 : Int} {a5 : Int} {r : Int × Int × Int} (h : F_ref04_plus n a0 a1 a2 a3 a4 a5 = some r) : Computes cx 126 [.agg [I a0, I a1, I a2], .agg [I a3, I a4, I a5]] (.agg [I r.1, I r.2.1, I r.2.2]) := by
  unfold F_ref04_plus at h
  obtain ⟨h1, h⟩ := grd_of h
  obtain ⟨h2, h⟩ := grd_of h
  obtain ⟨h3, h⟩ := grd_of h
  replace h := Option.some.inj h
  subst h
  exact run (n := 100) (f := 126) (args := [.agg [I a0, I a1, I a2], .agg [I a3, I a4, I a5]]) (orc := []) (r := .agg [I (a0 + a3), I (a1 + a4), I (a2 + a5)]) (ob := [inI64 (a2 + a5), inI64 (a1 + a4), inI64 (a0 + a3)]) (by kernel_rfl) ⟨h3, h2, h1, trivial⟩
def enc_Asi9Z (x : ByteArray × Int × Int × Int × Int × Int × Int × Int × Int × Int) : D := .agg [.v (.string x.1), I x.2.1, I x.2.2.1, I x.2.2.2.1, I x.2.2.2.2.1, I x.2.2.2.2.2.1, I x.2.2.2.2.2.2.1, I x.2.2.2.2.2.2.2.1, I x.2.2.2.2.2.2.2.2.1, I x.2.2.2.2.2.2.2.2.2]
def un_Asi9Z : D → Option (ByteArray × Int × Int × Int × Int × Int × Int × Int × Int × Int)
  | .agg [c0, c1, c2, c3, c4, c5, c6, c7, c8, c9] => (un_str c0).bind fun y0 => (un_int .i64 c1).bind fun y1 => (un_int .i64 c2).bind fun y2 => (un_int .i64 c3).bind fun y3 => (un_int .i64 c4).bind fun y4 => (un_int .i64 c5).bind fun y5 => (un_int .i64 c6).bind fun y6 => (un_int .i64 c7).bind fun y7 => (un_int .i64 c8).bind fun y8 => (un_int .i64 c9).bind fun y9 => some (y0, y1, y2, y3, y4, y5, y6, y7, y8, y9)
  | _ => none
theorem un_Asi9Z_ok {d : D} {x : ByteArray × Int × Int × Int × Int × Int × Int × Int × Int × Int} (h : un_Asi9Z d = some x) : d = enc_Asi9Z x := by
  unfold un_Asi9Z at h
  split at h
  case h_2 => cases h
  obtain ⟨y0, h0, h⟩ := bnd_of h
  obtain ⟨y1, h1, h⟩ := bnd_of h
  obtain ⟨y2, h2, h⟩ := bnd_of h
  obtain ⟨y3, h3, h⟩ := bnd_of h
  obtain ⟨y4, h4, h⟩ := bnd_of h
  obtain ⟨y5, h5, h⟩ := bnd_of h
  obtain ⟨y6, h6, h⟩ := bnd_of h
  obtain ⟨y7, h7, h⟩ := bnd_of h
  obtain ⟨y8, h8, h⟩ := bnd_of h
  obtain ⟨y9, h9, h⟩ := bnd_of h
  cases h
  have e0 := un_str_ok h0
  have e1 := un_int_ok h1
  have e2 := un_int_ok h2
  have e3 := un_int_ok h3
  have e4 := un_int_ok h4
  have e5 := un_int_ok h5
  have e6 := un_int_ok h6
  have e7 := un_int_ok h7
  have e8 := un_int_ok h8
  have e9 := un_int_ok h9
  rw [e0, e1, e2, e3, e4, e5, e6, e7, e8, e9]; rfl
def F_ref04_Short_L1 (n : Nat) (a0 : List D) (sa : (Int)) : Option (((Int)) ⊕ ((Unit) ⊕ (Unit))) :=
  if sa < ((a0).length : Int) then
    (el un_Asi9Z a0 sa).bind fun ta2 =>
    (F_ref04_ShortMirror n ta2.1 ta2.2.1 ta2.2.2.1 ta2.2.2.2.1 ta2.2.2.2.2.1 ta2.2.2.2.2.2.1 ta2.2.2.2.2.2.2.1 ta2.2.2.2.2.2.2.2.1 ta2.2.2.2.2.2.2.2.2.1 ta2.2.2.2.2.2.2.2.2.2).bind fun ta3 =>
    if ta3 = true then
      if inI64 (sa + 1) then
      some (.inl (sa + 1))
      else none
    else
    some (.inr (.inl ()))
  else
  some (.inr (.inr ()))
noncomputable def T_ref04_Short_L1 (a0 : List D) (sa : (Int)) : List (Nat × AV) := [(0, .d (.lst false 10 a0)), (3, .d (I sa))]
noncomputable def H_ref04_Short_L1 (a0 : List D) (sa : (Int)) : List (Nat × Blk) := []
noncomputable def X_ref04_Short_L1 (a0 : List D) (e : (Unit) ⊕ (Unit)) : Ex := match e with
  | (.inl e) => .ret
  | (.inr e) => (.exit 0)
noncomputable def XT_ref04_Short_L1 (a0 : List D) (e : (Unit) ⊕ (Unit)) : List (Nat × AV) := match e with
  | (.inl e) => [(2, .d (B false))]
  | (.inr e) => [(0, .d (.lst false 10 a0))]
noncomputable def XH_ref04_Short_L1 (a0 : List D) (e : (Unit) ⊕ (Unit)) : List (Nat × Blk) := match e with
  | (.inl e) => []
  | (.inr e) => []
theorem R_ref04_Short_L1 {n : Nat} {a0 : List D} (sa : (Int)) (r) (h : F_ref04_Short_L1 n a0 sa = some r) : Rd cx (loopAt cx.P 20 0) 24 0 false (T_ref04_Short_L1 a0) (H_ref04_Short_L1 a0) (X_ref04_Short_L1 a0) (XT_ref04_Short_L1 a0) (XH_ref04_Short_L1 a0) sa r := by
  unfold F_ref04_Short_L1 at h
  by_cases ha1 : sa < ((a0).length : Int)
  · replace h := ite_t h ha1
    obtain ⟨ta2, ha2, h⟩ := bnd_of h
    obtain ⟨ta3, ha3, h⟩ := bnd_of h
    by_cases ha4 : ta3 = true
    · replace h := ite_t h ha4
      obtain ⟨ha5, h⟩ := grd_of h
      replace h := Option.some.inj h
      subst h
      exact ⟨100, 2, [.br true, .el (.agg [.v (.string ta2.1), I ta2.2.1, I ta2.2.2.1, I ta2.2.2.2.1, I ta2.2.2.2.2.1, I ta2.2.2.2.2.2.1, I ta2.2.2.2.2.2.2.1, I ta2.2.2.2.2.2.2.2.1, I ta2.2.2.2.2.2.2.2.2.1, I ta2.2.2.2.2.2.2.2.2.2]), .ret (B ta3), .br false], [], [0, 3], [], round_of (ob := [inI64 (sa + 1), (!ta3) = false, Computes cx 10 [.agg [.v (.string ta2.1), I ta2.2.1, I ta2.2.2.1, I ta2.2.2.2.1, I ta2.2.2.2.2.1, I ta2.2.2.2.2.2.1, I ta2.2.2.2.2.2.2.1, I ta2.2.2.2.2.2.2.2.1, I ta2.2.2.2.2.2.2.2.2.1, I ta2.2.2.2.2.2.2.2.2.2]] (B ta3), (0 : Int) ≤ sa, nth (a0) (Int.toNat sa) = some (.agg [.v (.string ta2.1), I ta2.2.1, I ta2.2.2.1, I ta2.2.2.2.1, I ta2.2.2.2.2.1, I ta2.2.2.2.2.2.1, I ta2.2.2.2.2.2.2.1, I ta2.2.2.2.2.2.2.2.1, I ta2.2.2.2.2.2.2.2.2.1, I ta2.2.2.2.2.2.2.2.2.2]), (decide (sa < ((a0).length : Int))) = true]) (by kernel_rfl) ⟨ha5, (notf ha4), (c_ref04_ShortMirror ha3), (el_ok un_Asi9Z_ok ha2).1, (el_ok un_Asi9Z_ok ha2).2, (decide_eq_true ha1), trivial⟩⟩
    · replace h := ite_f h ha4
      replace h := Option.some.inj h
      subst h
      exact ⟨⟨100, 2, [.br true, .el (.agg [.v (.string ta2.1), I ta2.2.1, I ta2.2.2.1, I ta2.2.2.2.1, I ta2.2.2.2.2.1, I ta2.2.2.2.2.2.1, I ta2.2.2.2.2.2.2.1, I ta2.2.2.2.2.2.2.2.1, I ta2.2.2.2.2.2.2.2.2.1, I ta2.2.2.2.2.2.2.2.2.2]), .ret (B ta3), .br true], [], [2], [], round_of (ob := [(!ta3) = true, Computes cx 10 [.agg [.v (.string ta2.1), I ta2.2.1, I ta2.2.2.1, I ta2.2.2.2.1, I ta2.2.2.2.2.1, I ta2.2.2.2.2.2.1, I ta2.2.2.2.2.2.2.1, I ta2.2.2.2.2.2.2.2.1, I ta2.2.2.2.2.2.2.2.2.1, I ta2.2.2.2.2.2.2.2.2.2]] (B ta3), (0 : Int) ≤ sa, nth (a0) (Int.toNat sa) = some (.agg [.v (.string ta2.1), I ta2.2.1, I ta2.2.2.1, I ta2.2.2.2.1, I ta2.2.2.2.2.1, I ta2.2.2.2.2.2.1, I ta2.2.2.2.2.2.2.1, I ta2.2.2.2.2.2.2.2.1, I ta2.2.2.2.2.2.2.2.2.1, I ta2.2.2.2.2.2.2.2.2.2]), (decide (sa < ((a0).length : Int))) = true]) (by kernel_rfl) ⟨(nott (bfalse ha4)), (c_ref04_ShortMirror ha3), (el_ok un_Asi9Z_ok ha2).1, (el_ok un_Asi9Z_ok ha2).2, (decide_eq_true ha1), trivial⟩⟩, nofun⟩
  · replace h := ite_f h ha1
    replace h := Option.some.inj h
    subst h
    exact ⟨⟨100, 2, [.br false], [], [0], [], round_of (ob := [(decide (sa < ((a0).length : Int))) = false]) (by kernel_rfl) ⟨(decide_eq_false ha1), trivial⟩⟩, nofun⟩
/- spillage/spillageref04.Short: .lst false 10 a0 -/
def F_ref04_Short (n : Nat) (a0 : List D) : Option (Bool) :=
  (loopF (F_ref04_Short_L1 n a0) n 0).bind fun t1 => match t1 with
    | (.inl t1) => (
      some false)
    | (.inr t1) => (
      if ((a0).length : Int) ≤ 6 then
        some true
      else
      some (((a0).length : Int) == 65))
theorem c_ref04_Short {n : Nat} {a0 : List D} {r : Bool} (h : F_ref04_Short n a0 = some r) : Computes cx 20 [.lst false 10 a0] (B r) := by
  unfold F_ref04_Short at h
  obtain ⟨t1, h1, h⟩ := bnd_of h
  rcases t1 with t1 | t1
  · replace h := Option.some.inj h
    subst h
    exact run (n := 100) (f := 20) (args := [.lst false 10 a0]) (orc := [.lp [] [0, 3] [] .ret [(2, .d (B false))] [] 26]) (r := B false) (ob := [LoopN cx (loopAt cx.P 20 0) 24 0 false [(0, .d (.lst false 10 a0)), (3, .d (I 0))] [] .ret [(2, .d (B false))] []]) (by kernel_rfl) ⟨(loopF_to R_ref04_Short_L1 h1), trivial⟩
  · by_cases h2 : ((a0).length : Int) ≤ 6
    · replace h := ite_t h h2
      replace h := Option.some.inj h
      subst h
      exact run (n := 100) (f := 20) (args := [.lst false 10 a0]) (orc := [.lp [] [0, 3] [] (.exit 0) [(0, .d (.lst false 10 a0))] [] 26, .br true]) (r := B true) (ob := [(decide (((a0).length : Int) ≤ 6)) = true, LoopN cx (loopAt cx.P 20 0) 24 0 false [(0, .d (.lst false 10 a0)), (3, .d (I 0))] [] (.exit 0) [(0, .d (.lst false 10 a0))] []]) (by kernel_rfl) ⟨(decide_eq_true h2), (loopF_to R_ref04_Short_L1 h1), trivial⟩
    · replace h := ite_f h h2
      replace h := Option.some.inj h
      subst h
      exact run (n := 100) (f := 20) (args := [.lst false 10 a0]) (orc := [.lp [] [0, 3] [] (.exit 0) [(0, .d (.lst false 10 a0))] [] 26, .br false]) (r := B (((a0).length : Int) == 65)) (ob := [(decide (((a0).length : Int) ≤ 6)) = false, LoopN cx (loopAt cx.P 20 0) 24 0 false [(0, .d (.lst false 10 a0)), (3, .d (I 0))] [] (.exit 0) [(0, .d (.lst false 10 a0))] []]) (by kernel_rfl) ⟨(decide_eq_false h2), (loopF_to R_ref04_Short_L1 h1), trivial⟩
def F_law04_own_L1 (n : Nat) (a0 : List D) (sa : (Int × List D)) : Option (((Int × List D)) ⊕ ((List D))) :=
  if sa.1 < ((a0).length : Int) then
    (el un_Asi9Z a0 sa.1).bind fun ta2 =>
    if roomP 88 ((sa.2).length + 1) then
    if inI64 (sa.1 + 1) then
    some (.inl ((sa.1 + 1), (sa.2 ++ ([.agg [.v (.string ta2.1), I ta2.2.1, I ta2.2.2.1, I ta2.2.2.2.1, I ta2.2.2.2.2.1, I ta2.2.2.2.2.2.1, I ta2.2.2.2.2.2.2.1, I ta2.2.2.2.2.2.2.2.1, I ta2.2.2.2.2.2.2.2.2.1, I ta2.2.2.2.2.2.2.2.2.2]] : List D))))
    else none
    else none
  else
  some (.inr sa.2)
noncomputable def T_law04_own_L1 (a0 : List D) (sa : (Int × List D)) : List (Nat × AV) := [(3, .own 5 0), (6, .d (.lst false 10 a0)), (7, .d (I ((a0).length : Int))), (8, .d (I sa.1))]
noncomputable def H_law04_own_L1 (a0 : List D) (sa : (Int × List D)) : List (Nat × Blk) := [(5, .row 0 10 sa.2)]
noncomputable def X_law04_own_L1 (a0 : List D) (e : (List D)) : Ex := (.exit 0)
noncomputable def XT_law04_own_L1 (a0 : List D) (e : (List D)) : List (Nat × AV) := [(3, .own 5 0)]
noncomputable def XH_law04_own_L1 (a0 : List D) (e : (List D)) : List (Nat × Blk) := [(5, .row 0 10 e)]
theorem R_law04_own_L1 {n : Nat} {a0 : List D} (sa : (Int × List D)) (r) (h : F_law04_own_L1 n a0 sa = some r) : Rd cx (loopAt cx.P 22 0) 18 0 false (T_law04_own_L1 a0) (H_law04_own_L1 a0) (X_law04_own_L1 a0) (XT_law04_own_L1 a0) (XH_law04_own_L1 a0) sa r := by
  unfold F_law04_own_L1 at h
  by_cases ha1 : sa.1 < ((a0).length : Int)
  · replace h := ite_t h ha1
    obtain ⟨ta2, ha2, h⟩ := bnd_of h
    obtain ⟨ha3, h⟩ := grd_of h
    obtain ⟨ha4, h⟩ := grd_of h
    replace h := Option.some.inj h
    subst h
    exact ⟨100, 6, [.br true, .el (.agg [.v (.string ta2.1), I ta2.2.1, I ta2.2.2.1, I ta2.2.2.2.1, I ta2.2.2.2.2.1, I ta2.2.2.2.2.2.1, I ta2.2.2.2.2.2.2.1, I ta2.2.2.2.2.2.2.2.1, I ta2.2.2.2.2.2.2.2.2.1, I ta2.2.2.2.2.2.2.2.2.2]), .br true], [], [3, 6, 7, 8], [5], round_of (ob := [inI64 (sa.1 + 1), room cx 33 ((sa.2).length + 1), (0 : Int) ≤ sa.1, nth (a0) (Int.toNat sa.1) = some (.agg [.v (.string ta2.1), I ta2.2.1, I ta2.2.2.1, I ta2.2.2.2.1, I ta2.2.2.2.2.1, I ta2.2.2.2.2.2.1, I ta2.2.2.2.2.2.2.1, I ta2.2.2.2.2.2.2.2.1, I ta2.2.2.2.2.2.2.2.2.1, I ta2.2.2.2.2.2.2.2.2.2]), (decide (sa.1 < ((a0).length : Int))) = true]) (by kernel_rfl) ⟨ha4, (room_of (b := 88) (by kernel_rfl) (by decide) ha3), (el_ok un_Asi9Z_ok ha2).1, (el_ok un_Asi9Z_ok ha2).2, (decide_eq_true ha1), trivial⟩⟩
  · replace h := ite_f h ha1
    replace h := Option.some.inj h
    subst h
    exact ⟨⟨100, 6, [.br false], [], [3], [5], round_of (ob := [(decide (sa.1 < ((a0).length : Int))) = false]) (by kernel_rfl) ⟨(decide_eq_false ha1), trivial⟩⟩, nofun⟩
/- spillage/spillagelaw04.own: .lst false 10 a0 -/
def F_law04_own (n : Nat) (a0 : List D) : Option (List D) :=
  (loopF (F_law04_own_L1 n a0) n (0, [])).bind fun t1 =>
  some t1
theorem c_law04_own {n : Nat} {a0 : List D} {r : List D} (h : F_law04_own n a0 = some r) : Computes cx 22 [.lst false 10 a0] (.lst false 10 r) := by
  unfold F_law04_own at h
  obtain ⟨t1, h1, h⟩ := bnd_of h
  replace h := Option.some.inj h
  subst h
  exact run (n := 100) (f := 22) (args := [.lst false 10 a0]) (orc := [.lp [3, 10] [3, 6, 7, 8] [5] (.exit 0) [(3, .own 5 0)] [(5, .row 0 10 t1)] 29]) (r := .lst false 10 t1) (ob := [LoopN cx (loopAt cx.P 22 0) 18 0 false [(3, .own 5 0), (6, .d (.lst false 10 a0)), (7, .d (I ((a0).length : Int))), (8, .d (I 0))] [(5, .row 0 10 [])] (.exit 0) [(3, .own 5 0)] [(5, .row 0 10 t1)]]) (by kernel_rfl) ⟨(loopF_to R_law04_own_L1 h1), trivial⟩
def enc_b (x : Bool) : D := B x
def un_b (d : D) : Option (Bool) := un_bool d
theorem un_b_ok {d : D} {x : Bool} (h : un_b d = some x) : d = enc_b x := un_bool_ok h
/- spillage/field.when: B false, I 9 -/
def F_field_when_3 (n : Nat)  : Option (Int) :=
  some 0
theorem c_field_when_3 {n : Nat}  {r : Int} (h : F_field_when_3 n  = some r) : Computes cx 66 [B false, I 9] (I r) := by
  unfold F_field_when_3 at h
  replace h := Option.some.inj h
  subst h
  exact run (n := 100) (f := 66) (args := [B false, I 9]) (orc := [.no]) (r := I 0) (ob := []) (by kernel_rfl) trivial
def F_field_CheckMirrors_L1 (n : Nat) (a0 : List D) (sa : (Int × List D)) : Option (((Int × List D)) ⊕ ((Int) ⊕ (Unit))) :=
  if sa.1 < ((a0).length : Int) then
    (el un_Asi9Z a0 sa.1).bind fun ta2 =>
    (F_field_Mirror_check n ta2.1 ta2.2.1 ta2.2.2.1 ta2.2.2.2.1 ta2.2.2.2.2.1 ta2.2.2.2.2.2.1 ta2.2.2.2.2.2.2.1 ta2.2.2.2.2.2.2.2.1 ta2.2.2.2.2.2.2.2.2.1 ta2.2.2.2.2.2.2.2.2.2).bind fun ta3 =>
    if mok (.string ta2.1) (sa.2 : List D) = true then
    if (mfind (.string ta2.1) (sa.2 : List D)).isSome = true then
      ((mfind (.string ta2.1) (sa.2 : List D)).bind un_b).bind fun ta6 =>
      (F_field_when n ta6 9).bind fun ta7 =>
      (F_field_first n ([I ta3, I ta7])).bind fun ta8 =>
      if ta8 = 0 then
        if inI64 (sa.1 + 1) then
        some (.inl ((sa.1 + 1), (mput (.string ta2.1) (B true) (sa.2 : List D))))
        else none
      else
      some (.inr (.inl ta8))
    else
    (F_field_when_3 n).bind fun ta6 =>
    (F_field_first n ([I ta3, I ta6])).bind fun ta7 =>
    if ta7 = 0 then
      if inI64 (sa.1 + 1) then
      some (.inl ((sa.1 + 1), (mput (.string ta2.1) (B true) (sa.2 : List D))))
      else none
    else
    some (.inr (.inl ta7))
    else none
  else
  some (.inr (.inr ()))
noncomputable def T_field_CheckMirrors_L1 (a0 : List D) (sa : (Int × List D)) : List (Nat × AV) := [(3, .own 4 0), (11, .d (.lst false 10 a0)), (12, .d (I ((a0).length : Int))), (13, .d (I sa.1))]
noncomputable def H_field_CheckMirrors_L1 (a0 : List D) (sa : (Int × List D)) : List (Nat × Blk) := [(4, .mp sa.2)]
noncomputable def X_field_CheckMirrors_L1 (a0 : List D) (e : (Int) ⊕ (Unit)) : Ex := match e with
  | (.inl e) => .ret
  | (.inr e) => (.exit 0)
noncomputable def XT_field_CheckMirrors_L1 (a0 : List D) (e : (Int) ⊕ (Unit)) : List (Nat × AV) := match e with
  | (.inl e) => [(2, .d (I e))]
  | (.inr e) => []
noncomputable def XH_field_CheckMirrors_L1 (a0 : List D) (e : (Int) ⊕ (Unit)) : List (Nat × Blk) := match e with
  | (.inl e) => []
  | (.inr e) => []
theorem R_field_CheckMirrors_L1 {n : Nat} {a0 : List D} (sa : (Int × List D)) (r) (h : F_field_CheckMirrors_L1 n a0 sa = some r) : Rd cx (loopAt cx.P 84 0) 33 0 false (T_field_CheckMirrors_L1 a0) (H_field_CheckMirrors_L1 a0) (X_field_CheckMirrors_L1 a0) (XT_field_CheckMirrors_L1 a0) (XH_field_CheckMirrors_L1 a0) sa r := by
  unfold F_field_CheckMirrors_L1 at h
  by_cases ha1 : sa.1 < ((a0).length : Int)
  · replace h := ite_t h ha1
    obtain ⟨ta2, ha2, h⟩ := bnd_of h
    obtain ⟨ta3, ha3, h⟩ := bnd_of h
    obtain ⟨ha4, h⟩ := grd_of h
    by_cases ha5 : (mfind (.string ta2.1) (sa.2 : List D)).isSome = true
    · replace h := ite_t h ha5
      obtain ⟨ta6, ha6, h⟩ := bnd_of h
      obtain ⟨ta7, ha7, h⟩ := bnd_of h
      obtain ⟨ta8, ha8, h⟩ := bnd_of h
      by_cases ha9 : ta8 = 0
      · replace h := ite_t h ha9
        obtain ⟨ha10, h⟩ := grd_of h
        replace h := Option.some.inj h
        subst h
        exact ⟨100, 9, [.br true, .el (.agg [.v (.string ta2.1), I ta2.2.1, I ta2.2.2.1, I ta2.2.2.2.1, I ta2.2.2.2.2.1, I ta2.2.2.2.2.2.1, I ta2.2.2.2.2.2.2.1, I ta2.2.2.2.2.2.2.2.1, I ta2.2.2.2.2.2.2.2.2.1, I ta2.2.2.2.2.2.2.2.2.2]), .ret (I ta3), .el (B ta6), .ret (I ta7), .ret (I ta8), .br false, .br true], [], [3, 11, 12, 13], [4], round_of (ob := [inI64 (sa.1 + 1), mok (.string ta2.1) (sa.2 : List D) = true, (ta8 != 0) = false, Computes cx 59 [.lst true 1 [I ta3, I ta7]] (I ta8), Computes cx 66 [B ta6, I 9] (I ta7), mlook false (.string ta2.1) (B false) (sa.2 : List D) = some (B ta6), Computes cx 60 [.agg [.v (.string ta2.1), I ta2.2.1, I ta2.2.2.1, I ta2.2.2.2.1, I ta2.2.2.2.2.1, I ta2.2.2.2.2.2.1, I ta2.2.2.2.2.2.2.1, I ta2.2.2.2.2.2.2.2.1, I ta2.2.2.2.2.2.2.2.2.1, I ta2.2.2.2.2.2.2.2.2.2]] (I ta3), (0 : Int) ≤ sa.1, nth (a0) (Int.toNat sa.1) = some (.agg [.v (.string ta2.1), I ta2.2.1, I ta2.2.2.1, I ta2.2.2.2.1, I ta2.2.2.2.2.1, I ta2.2.2.2.2.2.1, I ta2.2.2.2.2.2.2.1, I ta2.2.2.2.2.2.2.2.1, I ta2.2.2.2.2.2.2.2.2.1, I ta2.2.2.2.2.2.2.2.2.2]), (decide (sa.1 < ((a0).length : Int))) = true]) (by kernel_rfl) ⟨ha10, ha4, (nef ha9), ((c_field_first ha8).le (.cons (.full _ _ _) (.nil)) (.refl _)), (c_field_when ha7), (mlook_hit1 ha4 (mel_ok un_b_ok ha6)), (c_field_Mirror_check ha3), (el_ok un_Asi9Z_ok ha2).1, (el_ok un_Asi9Z_ok ha2).2, (decide_eq_true ha1), trivial⟩⟩
      · replace h := ite_f h ha9
        replace h := Option.some.inj h
        subst h
        exact ⟨⟨100, 9, [.br true, .el (.agg [.v (.string ta2.1), I ta2.2.1, I ta2.2.2.1, I ta2.2.2.2.1, I ta2.2.2.2.2.1, I ta2.2.2.2.2.2.1, I ta2.2.2.2.2.2.2.1, I ta2.2.2.2.2.2.2.2.1, I ta2.2.2.2.2.2.2.2.2.1, I ta2.2.2.2.2.2.2.2.2.2]), .ret (I ta3), .el (B ta6), .ret (I ta7), .ret (I ta8), .br true], [], [2], [], round_of (ob := [(ta8 != 0) = true, Computes cx 59 [.lst true 1 [I ta3, I ta7]] (I ta8), Computes cx 66 [B ta6, I 9] (I ta7), mlook false (.string ta2.1) (B false) (sa.2 : List D) = some (B ta6), Computes cx 60 [.agg [.v (.string ta2.1), I ta2.2.1, I ta2.2.2.1, I ta2.2.2.2.1, I ta2.2.2.2.2.1, I ta2.2.2.2.2.2.1, I ta2.2.2.2.2.2.2.1, I ta2.2.2.2.2.2.2.2.1, I ta2.2.2.2.2.2.2.2.2.1, I ta2.2.2.2.2.2.2.2.2.2]] (I ta3), (0 : Int) ≤ sa.1, nth (a0) (Int.toNat sa.1) = some (.agg [.v (.string ta2.1), I ta2.2.1, I ta2.2.2.1, I ta2.2.2.2.1, I ta2.2.2.2.2.1, I ta2.2.2.2.2.2.1, I ta2.2.2.2.2.2.2.1, I ta2.2.2.2.2.2.2.2.1, I ta2.2.2.2.2.2.2.2.2.1, I ta2.2.2.2.2.2.2.2.2.2]), (decide (sa.1 < ((a0).length : Int))) = true]) (by kernel_rfl) ⟨(net ha9), ((c_field_first ha8).le (.cons (.full _ _ _) (.nil)) (.refl _)), (c_field_when ha7), (mlook_hit1 ha4 (mel_ok un_b_ok ha6)), (c_field_Mirror_check ha3), (el_ok un_Asi9Z_ok ha2).1, (el_ok un_Asi9Z_ok ha2).2, (decide_eq_true ha1), trivial⟩⟩, nofun⟩
    · replace h := ite_f h ha5
      obtain ⟨ta6, ha6, h⟩ := bnd_of h
      obtain ⟨ta7, ha7, h⟩ := bnd_of h
      by_cases ha8 : ta7 = 0
      · replace h := ite_t h ha8
        obtain ⟨ha9, h⟩ := grd_of h
        replace h := Option.some.inj h
        subst h
        exact ⟨100, 9, [.br true, .el (.agg [.v (.string ta2.1), I ta2.2.1, I ta2.2.2.1, I ta2.2.2.2.1, I ta2.2.2.2.2.1, I ta2.2.2.2.2.2.1, I ta2.2.2.2.2.2.2.1, I ta2.2.2.2.2.2.2.2.1, I ta2.2.2.2.2.2.2.2.2.1, I ta2.2.2.2.2.2.2.2.2.2]), .ret (I ta3), .el (B false), .ret (I ta6), .ret (I ta7), .br false, .br true], [], [3, 11, 12, 13], [4], round_of (ob := [inI64 (sa.1 + 1), mok (.string ta2.1) (sa.2 : List D) = true, (ta7 != 0) = false, Computes cx 59 [.lst true 1 [I ta3, I ta6]] (I ta7), Computes cx 66 [B false, I 9] (I ta6), mlook false (.string ta2.1) (B false) (sa.2 : List D) = some (B false), Computes cx 60 [.agg [.v (.string ta2.1), I ta2.2.1, I ta2.2.2.1, I ta2.2.2.2.1, I ta2.2.2.2.2.1, I ta2.2.2.2.2.2.1, I ta2.2.2.2.2.2.2.1, I ta2.2.2.2.2.2.2.2.1, I ta2.2.2.2.2.2.2.2.2.1, I ta2.2.2.2.2.2.2.2.2.2]] (I ta3), (0 : Int) ≤ sa.1, nth (a0) (Int.toNat sa.1) = some (.agg [.v (.string ta2.1), I ta2.2.1, I ta2.2.2.1, I ta2.2.2.2.1, I ta2.2.2.2.2.1, I ta2.2.2.2.2.2.1, I ta2.2.2.2.2.2.2.1, I ta2.2.2.2.2.2.2.2.1, I ta2.2.2.2.2.2.2.2.2.1, I ta2.2.2.2.2.2.2.2.2.2]), (decide (sa.1 < ((a0).length : Int))) = true]) (by kernel_rfl) ⟨ha9, ha4, (nef ha8), ((c_field_first ha7).le (.cons (.full _ _ _) (.nil)) (.refl _)), (c_field_when_3 ha6), (mlook_miss1 ha4 (mno ha5)), (c_field_Mirror_check ha3), (el_ok un_Asi9Z_ok ha2).1, (el_ok un_Asi9Z_ok ha2).2, (decide_eq_true ha1), trivial⟩⟩
      · replace h := ite_f h ha8
        replace h := Option.some.inj h
        subst h
        exact ⟨⟨100, 9, [.br true, .el (.agg [.v (.string ta2.1), I ta2.2.1, I ta2.2.2.1, I ta2.2.2.2.1, I ta2.2.2.2.2.1, I ta2.2.2.2.2.2.1, I ta2.2.2.2.2.2.2.1, I ta2.2.2.2.2.2.2.2.1, I ta2.2.2.2.2.2.2.2.2.1, I ta2.2.2.2.2.2.2.2.2.2]), .ret (I ta3), .el (B false), .ret (I ta6), .ret (I ta7), .br true], [], [2], [], round_of (ob := [(ta7 != 0) = true, Computes cx 59 [.lst true 1 [I ta3, I ta6]] (I ta7), Computes cx 66 [B false, I 9] (I ta6), mlook false (.string ta2.1) (B false) (sa.2 : List D) = some (B false), Computes cx 60 [.agg [.v (.string ta2.1), I ta2.2.1, I ta2.2.2.1, I ta2.2.2.2.1, I ta2.2.2.2.2.1, I ta2.2.2.2.2.2.1, I ta2.2.2.2.2.2.2.1, I ta2.2.2.2.2.2.2.2.1, I ta2.2.2.2.2.2.2.2.2.1, I ta2.2.2.2.2.2.2.2.2.2]] (I ta3), (0 : Int) ≤ sa.1, nth (a0) (Int.toNat sa.1) = some (.agg [.v (.string ta2.1), I ta2.2.1, I ta2.2.2.1, I ta2.2.2.2.1, I ta2.2.2.2.2.1, I ta2.2.2.2.2.2.1, I ta2.2.2.2.2.2.2.1, I ta2.2.2.2.2.2.2.2.1, I ta2.2.2.2.2.2.2.2.2.1, I ta2.2.2.2.2.2.2.2.2.2]), (decide (sa.1 < ((a0).length : Int))) = true]) (by kernel_rfl) ⟨(net ha8), ((c_field_first ha7).le (.cons (.full _ _ _) (.nil)) (.refl _)), (c_field_when_3 ha6), (mlook_miss1 ha4 (mno ha5)), (c_field_Mirror_check ha3), (el_ok un_Asi9Z_ok ha2).1, (el_ok un_Asi9Z_ok ha2).2, (decide_eq_true ha1), trivial⟩⟩, nofun⟩
  · replace h := ite_f h ha1
    replace h := Option.some.inj h
    subst h
    exact ⟨⟨100, 9, [.br false], [], [], [], round_of (ob := [(decide (sa.1 < ((a0).length : Int))) = false]) (by kernel_rfl) ⟨(decide_eq_false ha1), trivial⟩⟩, nofun⟩
/- spillage/field.CheckMirrors: .lst false 10 a0 -/
def F_field_CheckMirrors (n : Nat) (a0 : List D) : Option (Int) :=
  if ((a0).length : Int) > 64 then
    some 5
  else
  (loopF (F_field_CheckMirrors_L1 n a0) n (0, [])).bind fun t2 => match t2 with
    | (.inl t2) => (
      some t2)
    | (.inr t2) => (
      some 0)
theorem c_field_CheckMirrors {n : Nat} {a0 : List D} {r : Int} (h : F_field_CheckMirrors n a0 = some r) : Computes cx 84 [.lst false 10 a0] (I r) := by
  unfold F_field_CheckMirrors at h
  by_cases h1 : ((a0).length : Int) > 64
  · replace h := ite_t h h1
    replace h := Option.some.inj h
    subst h
    exact run (n := 100) (f := 84) (args := [.lst false 10 a0]) (orc := [.br true]) (r := I 5) (ob := [(decide (((a0).length : Int) > 64)) = true]) (by kernel_rfl) ⟨(decide_eq_true h1), trivial⟩
  · replace h := ite_f h h1
    obtain ⟨t2, h2, h⟩ := bnd_of h
    rcases t2 with t2 | t2
    · replace h := Option.some.inj h
      subst h
      exact run (n := 100) (f := 84) (args := [.lst false 10 a0]) (orc := [.br false, .lp [] [3, 11, 12, 13] [4] .ret [(2, .d (I t2))] [] 43]) (r := I t2) (ob := [LoopN cx (loopAt cx.P 84 0) 33 0 false [(3, .own 4 0), (11, .d (.lst false 10 a0)), (12, .d (I ((a0).length : Int))), (13, .d (I 0))] [(4, .mp [])] .ret [(2, .d (I t2))] [], (decide (((a0).length : Int) > 64)) = false]) (by kernel_rfl) ⟨(loopF_to R_field_CheckMirrors_L1 h2), (decide_eq_false h1), trivial⟩
    · replace h := Option.some.inj h
      subst h
      exact run (n := 100) (f := 84) (args := [.lst false 10 a0]) (orc := [.br false, .lp [] [3, 11, 12, 13] [4] (.exit 0) [] [] 43]) (r := I 0) (ob := [LoopN cx (loopAt cx.P 84 0) 33 0 false [(3, .own 4 0), (11, .d (.lst false 10 a0)), (12, .d (I ((a0).length : Int))), (13, .d (I 0))] [(4, .mp [])] (.exit 0) [] [], (decide (((a0).length : Int) > 64)) = false]) (by kernel_rfl) ⟨(loopF_to R_field_CheckMirrors_L1 h2), (decide_eq_false h1), trivial⟩
/- spillage/field.when: B true, I 10 -/
def F_field_when_4 (n : Nat)  : Option (Int) :=
  some 10
theorem c_field_when_4 {n : Nat}  {r : Int} (h : F_field_when_4 n  = some r) : Computes cx 66 [B true, I 10] (I r) := by
  unfold F_field_when_4 at h
  replace h := Option.some.inj h
  subst h
  exact run (n := 100) (f := 66) (args := [B true, I 10]) (orc := [.no]) (r := I 10) (ob := []) (by kernel_rfl) trivial
/- spillage/field.checkIndex: .lst false 10 a0, I a1 -/
def F_field_checkIndex (n : Nat) (a0 : List D) (a1 : Int) : Option (Int) :=
  (F_field_CheckMirrors n a0).bind fun t1 =>
  if a1 < 0 then
    (F_field_when_4 n).bind fun t3 =>
    (F_field_first n ([I t1, I t3])).bind fun t4 =>
    some t4
  else
  (F_field_when n (decide (a1 ≥ ((a0).length : Int))) 10).bind fun t3 =>
  (F_field_first n ([I t1, I t3])).bind fun t4 =>
  some t4
theorem c_field_checkIndex {n : Nat} {a0 : List D} {a1 : Int} {r : Int} (h : F_field_checkIndex n a0 a1 = some r) : Computes cx 80 [.lst false 10 a0, I a1] (I r) := by
  unfold F_field_checkIndex at h
  obtain ⟨t1, h1, h⟩ := bnd_of h
  by_cases h2 : a1 < 0
  · replace h := ite_t h h2
    obtain ⟨t3, h3, h⟩ := bnd_of h
    obtain ⟨t4, h4, h⟩ := bnd_of h
    replace h := Option.some.inj h
    subst h
    exact run (n := 100) (f := 80) (args := [.lst false 10 a0, I a1]) (orc := [.ret (I t1), .br true, .ret (I t3), .ret (I t4)]) (r := I t4) (ob := [Computes cx 59 [.lst true 1 [I t1, I t3]] (I t4), Computes cx 66 [B true, I 10] (I t3), (decide (a1 < 0)) = true, Computes cx 84 [.lst false 10 a0] (I t1)]) (by kernel_rfl) ⟨((c_field_first h4).le (.cons (.full _ _ _) (.nil)) (.refl _)), (c_field_when_4 h3), (decide_eq_true h2), (c_field_CheckMirrors h1), trivial⟩
  · replace h := ite_f h h2
    obtain ⟨t3, h3, h⟩ := bnd_of h
    obtain ⟨t4, h4, h⟩ := bnd_of h
    replace h := Option.some.inj h
    subst h
    exact run (n := 100) (f := 80) (args := [.lst false 10 a0, I a1]) (orc := [.ret (I t1), .br false, .ret (I t3), .ret (I t4)]) (r := I t4) (ob := [Computes cx 59 [.lst true 1 [I t1, I t3]] (I t4), Computes cx 66 [B (decide (a1 ≥ ((a0).length : Int))), I 10] (I t3), (decide (a1 < 0)) = false, Computes cx 84 [.lst false 10 a0] (I t1)]) (by kernel_rfl) ⟨((c_field_first h4).le (.cons (.full _ _ _) (.nil)) (.refl _)), (c_field_when h3), (decide_eq_false h2), (c_field_CheckMirrors h1), trivial⟩
/- math/bits.Len64: .v (.int .u64 a0) -/
def F_math_bits_Len64 (n : Nat) (a0 : Int) : Option (Int) :=
  if a0 ≥ 4294967296 then
    none /- symbolic shift -/
  else
  if a0 ≥ 65536 then
    none /- symbolic shift -/
  else
  if a0 ≥ 256 then
    none /- symbolic shift -/
  else
  (strAt (⟨#[0, 1, 2, 2, 3, 3, 3, 3, 4, 4, 4, 4, 4, 4, 4, 4, 5, 5, 5, 5, 5, 5, 5, 5, 5, 5, 5, 5, 5, 5, 5, 5, 6, 6, 6, 6, 6, 6, 6, 6, 6, 6, 6, 6, 6, 6, 6, 6, 6, 6, 6, 6, 6, 6, 6, 6, 6, 6, 6, 6, 6, 6, 6, 6, 7, 7, 7, 7, 7, 7, 7, 7, 7, 7, 7, 7, 7, 7, 7, 7, 7, 7, 7, 7, 7, 7, 7, 7, 7, 7, 7, 7, 7, 7, 7, 7, 7, 7, 7, 7, 7, 7, 7, 7, 7, 7, 7, 7, 7, 7, 7, 7, 7, 7, 7, 7, 7, 7, 7, 7, 7, 7, 7, 7, 7, 7, 7, 7, 8, 8, 8, 8, 8, 8, 8, 8, 8, 8, 8, 8, 8, 8, 8, 8, 8, 8, 8, 8, 8, 8, 8, 8, 8, 8, 8, 8, 8, 8, 8, 8, 8, 8, 8, 8, 8, 8, 8, 8, 8, 8, 8, 8, 8, 8, 8, 8, 8, 8, 8, 8, 8, 8, 8, 8, 8, 8, 8, 8, 8, 8, 8, 8, 8, 8, 8, 8, 8, 8, 8, 8, 8, 8, 8, 8, 8, 8, 8, 8, 8, 8, 8, 8, 8, 8, 8, 8, 8, 8, 8, 8, 8, 8, 8, 8, 8, 8, 8, 8, 8, 8, 8, 8, 8, 8, 8, 8, 8, 8, 8, 8, 8, 8, 8, 8, 8, 8, 8, 8, 8, 8, 8, 8, 8, 8, 8, 8]⟩ : ByteArray) (IntKind.wrap .u8 a0)).bind fun t4 =>
  if inI64 (0 + (IntKind.wrap .i64 t4)) then
  some (0 + (IntKind.wrap .i64 t4))
  else none
theorem c_math_bits_Len64 {n : Nat} {a0 : Int} {r : Int} (h : F_math_bits_Len64 n a0 = some r) : Computes cx 184 [.v (.int .u64 a0)] (I r) := by
  unfold F_math_bits_Len64 at h
  by_cases h1 : a0 ≥ 4294967296
  · replace h := ite_t h h1
    cases h
  · replace h := ite_f h h1
    by_cases h2 : a0 ≥ 65536
    · replace h := ite_t h h2
      cases h
    · replace h := ite_f h h2
      by_cases h3 : a0 ≥ 256
      · replace h := ite_t h h3
        cases h
      · replace h := ite_f h h3
        obtain ⟨t4, h4, h⟩ := bnd_of h
        obtain ⟨h5, h⟩ := grd_of h
        replace h := Option.some.inj h
        subst h
        exact run (n := 100) (f := 184) (args := [.v (.int .u64 a0)]) (orc := [.br false, .br false, .br false, .el (.v (.int .u8 t4))]) (r := I (0 + (IntKind.wrap .i64 t4))) (ob := [inI64 (0 + (IntKind.wrap .i64 t4)), pureRun cx.P (Instr.index 9 (.string (⟨#[0, 1, 2, 2, 3, 3, 3, 3, 4, 4, 4, 4, 4, 4, 4, 4, 5, 5, 5, 5, 5, 5, 5, 5, 5, 5, 5, 5, 5, 5, 5, 5, 6, 6, 6, 6, 6, 6, 6, 6, 6, 6, 6, 6, 6, 6, 6, 6, 6, 6, 6, 6, 6, 6, 6, 6, 6, 6, 6, 6, 6, 6, 6, 6, 7, 7, 7, 7, 7, 7, 7, 7, 7, 7, 7, 7, 7, 7, 7, 7, 7, 7, 7, 7, 7, 7, 7, 7, 7, 7, 7, 7, 7, 7, 7, 7, 7, 7, 7, 7, 7, 7, 7, 7, 7, 7, 7, 7, 7, 7, 7, 7, 7, 7, 7, 7, 7, 7, 7, 7, 7, 7, 7, 7, 7, 7, 7, 7, 8, 8, 8, 8, 8, 8, 8, 8, 8, 8, 8, 8, 8, 8, 8, 8, 8, 8, 8, 8, 8, 8, 8, 8, 8, 8, 8, 8, 8, 8, 8, 8, 8, 8, 8, 8, 8, 8, 8, 8, 8, 8, 8, 8, 8, 8, 8, 8, 8, 8, 8, 8, 8, 8, 8, 8, 8, 8, 8, 8, 8, 8, 8, 8, 8, 8, 8, 8, 8, 8, 8, 8, 8, 8, 8, 8, 8, 8, 8, 8, 8, 8, 8, 8, 8, 8, 8, 8, 8, 8, 8, 8, 8, 8, 8, 8, 8, 8, 8, 8, 8, 8, 8, 8, 8, 8, 8, 8, 8, 8, 8, 8, 8, 8, 8, 8, 8, 8, 8, 8, 8, 8, 8, 8, 8, 8, 8, 8]⟩ : ByteArray)) (.int .u8 (IntKind.wrap .u8 a0))) = some (.int .u8 t4), (decide (a0 ≥ 256)) = false, (decide (a0 ≥ 65536)) = false, (decide (a0 ≥ 4294967296)) = false]) (by kernel_rfl) ⟨h5, strAt_ok h4, (decide_eq_false h3), (decide_eq_false h2), (decide_eq_false h1), trivial⟩
/- math/bits.Len: .v (.int .u64 a0) -/
def F_math_bits_Len (n : Nat) (a0 : Int) : Option (Int) :=
  (F_math_bits_Len64 n a0).bind fun t1 =>
  some t1
theorem c_math_bits_Len {n : Nat} {a0 : Int} {r : Int} (h : F_math_bits_Len n a0 = some r) : Computes cx 154 [.v (.int .u64 a0)] (I r) := by
  unfold F_math_bits_Len at h
  obtain ⟨t1, h1, h⟩ := bnd_of h
  replace h := Option.some.inj h
  subst h
  exact run (n := 100) (f := 154) (args := [.v (.int .u64 a0)]) (orc := [.no, .ret (I t1)]) (r := I t1) (ob := [Computes cx 184 [.v (.int .u64 a0)] (I t1)]) (by kernel_rfl) ⟨(c_math_bits_Len64 h1), trivial⟩
def enc_Asi11Z (x : ByteArray × Int × Int × Int × Int × Int × Int × Int × Int × Int × Int × Int) : D := .agg [.v (.string x.1), I x.2.1, I x.2.2.1, I x.2.2.2.1, I x.2.2.2.2.1, I x.2.2.2.2.2.1, I x.2.2.2.2.2.2.1, I x.2.2.2.2.2.2.2.1, I x.2.2.2.2.2.2.2.2.1, I x.2.2.2.2.2.2.2.2.2.1, I x.2.2.2.2.2.2.2.2.2.2.1, I x.2.2.2.2.2.2.2.2.2.2.2]
def un_Asi11Z : D → Option (ByteArray × Int × Int × Int × Int × Int × Int × Int × Int × Int × Int × Int)
  | .agg [c0, c1, c2, c3, c4, c5, c6, c7, c8, c9, c10, c11] => (un_str c0).bind fun y0 => (un_int .i64 c1).bind fun y1 => (un_int .i64 c2).bind fun y2 => (un_int .i64 c3).bind fun y3 => (un_int .i64 c4).bind fun y4 => (un_int .i64 c5).bind fun y5 => (un_int .i64 c6).bind fun y6 => (un_int .i64 c7).bind fun y7 => (un_int .i64 c8).bind fun y8 => (un_int .i64 c9).bind fun y9 => (un_int .i64 c10).bind fun y10 => (un_int .i64 c11).bind fun y11 => some (y0, y1, y2, y3, y4, y5, y6, y7, y8, y9, y10, y11)
  | _ => none
theorem un_Asi11Z_ok {d : D} {x : ByteArray × Int × Int × Int × Int × Int × Int × Int × Int × Int × Int × Int} (h : un_Asi11Z d = some x) : d = enc_Asi11Z x := by
  unfold un_Asi11Z at h
  split at h
  case h_2 => cases h
  obtain ⟨y0, h0, h⟩ := bnd_of h
  obtain ⟨y1, h1, h⟩ := bnd_of h
  obtain ⟨y2, h2, h⟩ := bnd_of h
  obtain ⟨y3, h3, h⟩ := bnd_of h
  obtain ⟨y4, h4, h⟩ := bnd_of h
  obtain ⟨y5, h5, h⟩ := bnd_of h
  obtain ⟨y6, h6, h⟩ := bnd_of h
  obtain ⟨y7, h7, h⟩ := bnd_of h
  obtain ⟨y8, h8, h⟩ := bnd_of h
  obtain ⟨y9, h9, h⟩ := bnd_of h
  obtain ⟨y10, h10, h⟩ := bnd_of h
  obtain ⟨y11, h11, h⟩ := bnd_of h
  cases h
  have e0 := un_str_ok h0
  have e1 := un_int_ok h1
  have e2 := un_int_ok h2
  have e3 := un_int_ok h3
  have e4 := un_int_ok h4
  have e5 := un_int_ok h5
  have e6 := un_int_ok h6
  have e7 := un_int_ok h7
  have e8 := un_int_ok h8
  have e9 := un_int_ok h9
  have e10 := un_int_ok h10
  have e11 := un_int_ok h11
  rw [e0, e1, e2, e3, e4, e5, e6, e7, e8, e9, e10, e11]; rfl
def F_cmp_Or_g_L1 (n : Nat) (a0 : List D) (sa : (Int)) : Option (((Int)) ⊕ ((Int) ⊕ (Unit))) :=
  if sa < ((a0).length : Int) then
    (el un_i a0 sa).bind fun ta2 =>
    if ta2 = 0 then
      if inI64 (sa + 1) then
      some (.inl (sa + 1))
      else none
    else
    some (.inr (.inl ta2))
  else
  some (.inr (.inr ()))
noncomputable def T_cmp_Or_g_L1 (a0 : List D) (sa : (Int)) : List (Nat × AV) := [(3, .d (I 0)), (6, .d (.lst false 1 a0)), (7, .d (I ((a0).length : Int))), (8, .d (I sa))]
noncomputable def H_cmp_Or_g_L1 (a0 : List D) (sa : (Int)) : List (Nat × Blk) := []
noncomputable def X_cmp_Or_g_L1 (a0 : List D) (e : (Int) ⊕ (Unit)) : Ex := match e with
  | (.inl e) => .ret
  | (.inr e) => (.exit 0)
noncomputable def XT_cmp_Or_g_L1 (a0 : List D) (e : (Int) ⊕ (Unit)) : List (Nat × AV) := match e with
  | (.inl e) => [(2, .d (I e))]
  | (.inr e) => [(3, .d (I 0))]
noncomputable def XH_cmp_Or_g_L1 (a0 : List D) (e : (Int) ⊕ (Unit)) : List (Nat × Blk) := match e with
  | (.inl e) => []
  | (.inr e) => []
theorem R_cmp_Or_g_L1 {n : Nat} {a0 : List D} (sa : (Int)) (r) (h : F_cmp_Or_g_L1 n a0 sa = some r) : Rd cx (loopAt cx.P 155 0) 18 0 false (T_cmp_Or_g_L1 a0) (H_cmp_Or_g_L1 a0) (X_cmp_Or_g_L1 a0) (XT_cmp_Or_g_L1 a0) (XH_cmp_Or_g_L1 a0) sa r := by
  unfold F_cmp_Or_g_L1 at h
  by_cases ha1 : sa < ((a0).length : Int)
  · replace h := ite_t h ha1
    obtain ⟨ta2, ha2, h⟩ := bnd_of h
    by_cases ha3 : ta2 = 0
    · replace h := ite_t h ha3
      obtain ⟨ha4, h⟩ := grd_of h
      replace h := Option.some.inj h
      subst h
      exact ⟨100, 5, [.br true, .el (I ta2), .br false], [], [3, 6, 7, 8], [], round_of (ob := [inI64 (sa + 1), (ta2 != 0) = false, (0 : Int) ≤ sa, nth (a0) (Int.toNat sa) = some (I ta2), (decide (sa < ((a0).length : Int))) = true]) (by kernel_rfl) ⟨ha4, (nef ha3), (el_ok un_i_ok ha2).1, (el_ok un_i_ok ha2).2, (decide_eq_true ha1), trivial⟩⟩
    · replace h := ite_f h ha3
      replace h := Option.some.inj h
      subst h
      exact ⟨⟨100, 5, [.br true, .el (I ta2), .br true], [], [2], [], round_of (ob := [(ta2 != 0) = true, (0 : Int) ≤ sa, nth (a0) (Int.toNat sa) = some (I ta2), (decide (sa < ((a0).length : Int))) = true]) (by kernel_rfl) ⟨(net ha3), (el_ok un_i_ok ha2).1, (el_ok un_i_ok ha2).2, (decide_eq_true ha1), trivial⟩⟩, nofun⟩
  · replace h := ite_f h ha1
    replace h := Option.some.inj h
    subst h
    exact ⟨⟨100, 5, [.br false], [], [3], [], round_of (ob := [(decide (sa < ((a0).length : Int))) = false]) (by kernel_rfl) ⟨(decide_eq_false ha1), trivial⟩⟩, nofun⟩
/- cmp.Or[int]: .lst false 1 a0 -/
def F_cmp_Or_g (n : Nat) (a0 : List D) : Option (Int) :=
  (loopF (F_cmp_Or_g_L1 n a0) n 0).bind fun t1 => match t1 with
    | (.inl t1) => (
      some t1)
    | (.inr t1) => (
      some 0)
theorem c_cmp_Or_g {n : Nat} {a0 : List D} {r : Int} (h : F_cmp_Or_g n a0 = some r) : Computes cx 155 [.lst false 1 a0] (I r) := by
  unfold F_cmp_Or_g at h
  obtain ⟨t1, h1, h⟩ := bnd_of h
  rcases t1 with t1 | t1
  · replace h := Option.some.inj h
    subst h
    exact run (n := 100) (f := 155) (args := [.lst false 1 a0]) (orc := [.lp [] [3, 6, 7, 8] [] .ret [(2, .d (I t1))] [] 25]) (r := I t1) (ob := [LoopN cx (loopAt cx.P 155 0) 18 0 false [(3, .d (I 0)), (6, .d (.lst false 1 a0)), (7, .d (I ((a0).length : Int))), (8, .d (I 0))] [] .ret [(2, .d (I t1))] []]) (by kernel_rfl) ⟨(loopF_to R_cmp_Or_g_L1 h1), trivial⟩
  · replace h := Option.some.inj h
    subst h
    exact run (n := 100) (f := 155) (args := [.lst false 1 a0]) (orc := [.lp [] [3, 6, 7, 8] [] (.exit 0) [(3, .d (I 0))] [] 25]) (r := I 0) (ob := [LoopN cx (loopAt cx.P 155 0) 18 0 false [(3, .d (I 0)), (6, .d (.lst false 1 a0)), (7, .d (I ((a0).length : Int))), (8, .d (I 0))] [] (.exit 0) [(3, .d (I 0))] []]) (by kernel_rfl) ⟨(loopF_to R_cmp_Or_g_L1 h1), trivial⟩
end Go.Proofs.YtojmcpnpojdnmaaGreatDoor
