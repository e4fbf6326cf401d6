/-
  Printed by gsx.py: functions of the program as Lean functions, and that the code computes them.
-/
import Derived.Test.YtojmcpnpojdnmaaGreatDoorWake
set_option linter.unusedVariables false
set_option maxRecDepth 10000
namespace Go.Proofs.YtojmcpnpojdnmaaGreatDoor
open Go.SX
def enc_Asi9Z (x : ByteArray × Int × Int × Int × Int × Int × Int × Int × Int × Int) : D := .agg [.v (.string x.1), I x.2.1, I x.2.2.1, I x.2.2.2.1, I x.2.2.2.2.1, I x.2.2.2.2.2.1, I x.2.2.2.2.2.2.1, I x.2.2.2.2.2.2.2.1, I x.2.2.2.2.2.2.2.2.1, I x.2.2.2.2.2.2.2.2.2]
def un_Asi9Z : D → Option (ByteArray × Int × Int × Int × Int × Int × Int × Int × Int × Int)
  | .agg [c0, c1, c2, c3, c4, c5, c6, c7, c8, c9] => (un_str c0).bind fun y0 => (un_int .i64 c1).bind fun y1 => (un_int .i64 c2).bind fun y2 => (un_int .i64 c3).bind fun y3 => (un_int .i64 c4).bind fun y4 => (un_int .i64 c5).bind fun y5 => (un_int .i64 c6).bind fun y6 => (un_int .i64 c7).bind fun y7 => (un_int .i64 c8).bind fun y8 => (un_int .i64 c9).bind fun y9 => some (y0, y1, y2, y3, y4, y5, y6, y7, y8, y9)
  | _ => none
theorem un_Asi9Z_ok {d : D} {x : ByteArray × Int × Int × Int × Int × Int × Int × Int × Int × Int} (h : un_Asi9Z d = some x) : d = enc_Asi9Z x := by
  unfold un_Asi9Z at h
  split at h
  case h_2 => cases h
  obtain ⟨y0, h0, h⟩ := bnd_of h
  obtain ⟨y1, h1, h⟩ := bnd_of h
  obtain ⟨y2, h2, h⟩ := bnd_of h
  obtain ⟨y3, h3, h⟩ := bnd_of h
  obtain ⟨y4, h4, h⟩ := bnd_of h
  obtain ⟨y5, h5, h⟩ := bnd_of h
  obtain ⟨y6, h6, h⟩ := bnd_of h
  obtain ⟨y7, h7, h⟩ := bnd_of h
  obtain ⟨y8, h8, h⟩ := bnd_of h
  obtain ⟨y9, h9, h⟩ := bnd_of h
  cases h
  have e0 := un_str_ok h0
  have e1 := un_int_ok h1
  have e2 := un_int_ok h2
  have e3 := un_int_ok h3
  have e4 := un_int_ok h4
  have e5 := un_int_ok h5
  have e6 := un_int_ok h6
  have e7 := un_int_ok h7
  have e8 := un_int_ok h8
  have e9 := un_int_ok h9
  rw [e0, e1, e2, e3, e4, e5, e6, e7, e8, e9]; rfl
def F_ref04_ShortMirror (n : Nat) (a0 : ByteArray) (a1 : Int) (a2 : Int) (a3 : Int) (a4 : Int) (a5 : Int) (a6 : Int) (a7 : Int) (a8 : Int) (a9 : Int) : Option (Bool) :=
 some (decide ((a0.size : Int) ≤ 40))
theorem c_ref04_ShortMirror {n : Nat} {a0 : ByteArray} {a1 : Int} {a2 : Int} {a3 : Int} {a4 : Int} {a5 : Int} {a6 : Int} {a7 : Int} {a8 : Int} {a9 : Int} {r : Bool} (h : F_ref04_ShortMirror n a0 a1 a2 a3 a4 a5 a6 a7 a8 a9 = some r) : Computes cx 10 [.agg [.v (.string a0), I a1, I a2, I a3, I a4, I a5, I a6, I a7, I a8, I a9]] (B r) := by
  unfold F_ref04_ShortMirror at h
  replace h := Option.some.inj h
  subst h
  exact run (n := 100) (f := 10) (args := [.agg [.v (.string a0), I a1, I a2, I a3, I a4, I a5, I a6, I a7, I a8, I a9]]) (orc := []) (r := B (decide ((a0.size : Int) ≤ 40))) (ob := []) (by kernel_rfl) trivial
def F_ref04_Short_L1 (n : Nat) (a0 : List D) (sa : (Int)) : Option (((Int)) ⊕ ((Unit) ⊕ (Unit))) :=
 if sa < ((a0).length : Int) then
  (el un_Asi9Z a0 sa).bind fun ta2 =>
  (F_ref04_ShortMirror n ta2.1 ta2.2.1 ta2.2.2.1 ta2.2.2.2.1 ta2.2.2.2.2.1 ta2.2.2.2.2.2.1 ta2.2.2.2.2.2.2.1 ta2.2.2.2.2.2.2.2.1 ta2.2.2.2.2.2.2.2.2.1 ta2.2.2.2.2.2.2.2.2.2).bind fun ta3 =>
  if ta3 = true then
  if inI64 (sa + 1) then
  some (.inl (sa + 1))
  else none
  else
  some (.inr (.inl ()))
 else
 some (.inr (.inr ()))
noncomputable def T_ref04_Short_L1 (a0 : List D) (sa : (Int)) : List (Nat × AV) := [(0, .d (.lst false 10 a0)), (3, .d (I sa))]
noncomputable def H_ref04_Short_L1 (a0 : List D) (sa : (Int)) : List (Nat × Blk) := []
noncomputable def X_ref04_Short_L1 (a0 : List D) (e : (Unit) ⊕ (Unit)) : Ex := match e with
  | (.inl e) => .ret
  | (.inr e) => (.exit 0)
noncomputable def XT_ref04_Short_L1 (a0 : List D) (e : (Unit) ⊕ (Unit)) : List (Nat × AV) := match e with
  | (.inl e) => [(2, .d (B false))]
  | (.inr e) => [(0, .d (.lst false 10 a0))]
noncomputable def XH_ref04_Short_L1 (a0 : List D) (e : (Unit) ⊕ (Unit)) : List (Nat × Blk) := match e with
  | (.inl e) => []
  | (.inr e) => []
theorem R_ref04_Short_L1 {n : Nat} {a0 : List D} (sa : (Int)) (r) (h : F_ref04_Short_L1 n a0 sa = some r) : Rd cx (loopAt cx.P 20 0) 24 0 false (T_ref04_Short_L1 a0) (H_ref04_Short_L1 a0) (X_ref04_Short_L1 a0) (XT_ref04_Short_L1 a0) (XH_ref04_Short_L1 a0) sa r := by
  unfold F_ref04_Short_L1 at h
  by_cases ha1 : sa < ((a0).length : Int)
  · replace h := ite_t h ha1
    obtain ⟨ta2, ha2, h⟩ := bnd_of h
    obtain ⟨ta3, ha3, h⟩ := bnd_of h
    by_cases ha4 : ta3 = true
    · replace h := ite_t h ha4
      obtain ⟨ha5, h⟩ := grd_of h
      replace h := Option.some.inj h
      subst h
      exact ⟨100, 2, [.br true, .el (.agg [.v (.string ta2.1), I ta2.2.1, I ta2.2.2.1, I ta2.2.2.2.1, I ta2.2.2.2.2.1, I ta2.2.2.2.2.2.1, I ta2.2.2.2.2.2.2.1, I ta2.2.2.2.2.2.2.2.1, I ta2.2.2.2.2.2.2.2.2.1, I ta2.2.2.2.2.2.2.2.2.2]), .ret (B ta3), .br false], [], [0, 3], [], round_of (ob := [inI64 (sa + 1), (!ta3) = false, Computes cx 10 [.agg [.v (.string ta2.1), I ta2.2.1, I ta2.2.2.1, I ta2.2.2.2.1, I ta2.2.2.2.2.1, I ta2.2.2.2.2.2.1, I ta2.2.2.2.2.2.2.1, I ta2.2.2.2.2.2.2.2.1, I ta2.2.2.2.2.2.2.2.2.1, I ta2.2.2.2.2.2.2.2.2.2]] (B ta3), (0 : Int) ≤ sa, nth (a0) (Int.toNat sa) = some (.agg [.v (.string ta2.1), I ta2.2.1, I ta2.2.2.1, I ta2.2.2.2.1, I ta2.2.2.2.2.1, I ta2.2.2.2.2.2.1, I ta2.2.2.2.2.2.2.1, I ta2.2.2.2.2.2.2.2.1, I ta2.2.2.2.2.2.2.2.2.1, I ta2.2.2.2.2.2.2.2.2.2]), (decide (sa < ((a0).length : Int))) = true]) (by kernel_rfl) ⟨ha5, (notf ha4), (c_ref04_ShortMirror ha3), (el_ok un_Asi9Z_ok ha2).1, (el_ok un_Asi9Z_ok ha2).2, (decide_eq_true ha1), trivial⟩⟩
    · replace h := ite_f h ha4
      replace h := Option.some.inj h
      subst h
      exact ⟨⟨100, 2, [.br true, .el (.agg [.v (.string ta2.1), I ta2.2.1, I ta2.2.2.1, I ta2.2.2.2.1, I ta2.2.2.2.2.1, I ta2.2.2.2.2.2.1, I ta2.2.2.2.2.2.2.1, I ta2.2.2.2.2.2.2.2.1, I ta2.2.2.2.2.2.2.2.2.1, I ta2.2.2.2.2.2.2.2.2.2]), .ret (B ta3), .br true], [], [2], [], round_of (ob := [(!ta3) = true, Computes cx 10 [.agg [.v (.string ta2.1), I ta2.2.1, I ta2.2.2.1, I ta2.2.2.2.1, I ta2.2.2.2.2.1, I ta2.2.2.2.2.2.1, I ta2.2.2.2.2.2.2.1, I ta2.2.2.2.2.2.2.2.1, I ta2.2.2.2.2.2.2.2.2.1, I ta2.2.2.2.2.2.2.2.2.2]] (B ta3), (0 : Int) ≤ sa, nth (a0) (Int.toNat sa) = some (.agg [.v (.string ta2.1), I ta2.2.1, I ta2.2.2.1, I ta2.2.2.2.1, I ta2.2.2.2.2.1, I ta2.2.2.2.2.2.1, I ta2.2.2.2.2.2.2.1, I ta2.2.2.2.2.2.2.2.1, I ta2.2.2.2.2.2.2.2.2.1, I ta2.2.2.2.2.2.2.2.2.2]), (decide (sa < ((a0).length : Int))) = true]) (by kernel_rfl) ⟨(nott (bfalse ha4)), (c_ref04_ShortMirror ha3), (el_ok un_Asi9Z_ok ha2).1, (el_ok un_Asi9Z_ok ha2).2, (decide_eq_true ha1), trivial⟩⟩, nofun⟩
  · replace h := ite_f h ha1
    replace h := Option.some.inj h
    subst h
    exact ⟨⟨100, 2, [.br false], [], [0], [], round_of (ob := [(decide (sa < ((a0).length : Int))) = false]) (by kernel_rfl) ⟨(decide_eq_false ha1), trivial⟩⟩, nofun⟩
def F_ref04_Short (n : Nat) (a0 : List D) : Option (Bool) :=
 (loopF (F_ref04_Short_L1 n a0) n 0).bind fun t1 => match t1 with
  | (.inl t1) => (
  some false)
  | (.inr t1) => (
  if ((a0).length : Int) ≤ 6 then
   some true
  else
  some (((a0).length : Int) == 65))
theorem c_ref04_Short {n : Nat} {a0 : List D} {r : Bool} (h : F_ref04_Short n a0 = some r) : Computes cx 20 [.lst false 10 a0] (B r) := by
  unfold F_ref04_Short at h
  obtain ⟨t1, h1, h⟩ := bnd_of h
  rcases t1 with t1 | t1
  · replace h := Option.some.inj h
    subst h
    exact run (n := 100) (f := 20) (args := [.lst false 10 a0]) (orc := [.lp [] [0, 3] [] .ret [(2, .d (B false))] [] 26]) (r := B false) (ob := [LoopN cx (loopAt cx.P 20 0) 24 0 false [(0, .d (.lst false 10 a0)), (3, .d (I 0))] [] .ret [(2, .d (B false))] []]) (by kernel_rfl) ⟨(loopF_to R_ref04_Short_L1 h1), trivial⟩
  · by_cases h2 : ((a0).length : Int) ≤ 6
    · replace h := ite_t h h2
      replace h := Option.some.inj h
      subst h
      exact run (n := 100) (f := 20) (args := [.lst false 10 a0]) (orc := [.lp [] [0, 3] [] (.exit 0) [(0, .d (.lst false 10 a0))] [] 26, .br true]) (r := B true) (ob := [(decide (((a0).length : Int) ≤ 6)) = true, LoopN cx (loopAt cx.P 20 0) 24 0 false [(0, .d (.lst false 10 a0)), (3, .d (I 0))] [] (.exit 0) [(0, .d (.lst false 10 a0))] []]) (by kernel_rfl) ⟨(decide_eq_true h2), (loopF_to R_ref04_Short_L1 h1), trivial⟩
    · replace h := ite_f h h2
      replace h := Option.some.inj h
      subst h
      exact run (n := 100) (f := 20) (args := [.lst false 10 a0]) (orc := [.lp [] [0, 3] [] (.exit 0) [(0, .d (.lst false 10 a0))] [] 26, .br false]) (r := B (((a0).length : Int) == 65)) (ob := [(decide (((a0).length : Int) ≤ 6)) = false, LoopN cx (loopAt cx.P 20 0) 24 0 false [(0, .d (.lst false 10 a0)), (3, .d (I 0))] [] (.exit 0) [(0, .d (.lst false 10 a0))] []]) (by kernel_rfl) ⟨(decide_eq_false h2), (loopF_to R_ref04_Short_L1 h1), trivial⟩
def F_ref01_IsName_L1 (n : Nat) (a0 : ByteArray) (sa : (Int)) : Option (((Int)) ⊕ ((Unit) ⊕ (Unit))) :=
 if sa < (a0.size : Int) then
  (strAt a0 sa).bind fun ta2 =>
  if ta2 ≥ 97 then
  if ta2 ≤ 122 then
   if ta2 ≥ 48 then
   if ta2 ≤ 57 then
    if inI64 (sa + 1) then
    some (.inl (sa + 1))
    else none
   else
   if inI64 (sa + 1) then
   some (.inl (sa + 1))
   else none
   else
   if inI64 (sa + 1) then
   some (.inl (sa + 1))
   else none
  else
  if ta2 ≥ 65 then
   if ta2 ≥ 48 then
   if ta2 ≤ 57 then
    if ta2 ≤ 90 then
    if inI64 (sa + 1) then
    some (.inl (sa + 1))
    else none
    else
    if sa = 0 then
    some (.inr (.inl ()))
    else
    if inI64 (sa + 1) then
    some (.inl (sa + 1))
    else none
   else
   if ta2 ≤ 90 then
    if inI64 (sa + 1) then
    some (.inl (sa + 1))
    else none
   else
   if sa = 0 then
    some (.inr (.inl ()))
   else
   if ta2 = 95 then
    if inI64 (sa + 1) then
    some (.inl (sa + 1))
    else none
   else
   some (.inr (.inl ()))
   else
   if ta2 ≤ 90 then
   if inI64 (sa + 1) then
   some (.inl (sa + 1))
   else none
   else
   if sa = 0 then
   some (.inr (.inl ()))
   else
   if ta2 = 95 then
   if inI64 (sa + 1) then
   some (.inl (sa + 1))
   else none
   else
   some (.inr (.inl ()))
  else
  if ta2 ≥ 48 then
   if ta2 ≤ 57 then
   if sa = 0 then
    some (.inr (.inl ()))
   else
   if inI64 (sa + 1) then
   some (.inl (sa + 1))
   else none
   else
   if sa = 0 then
   some (.inr (.inl ()))
   else
   if ta2 = 95 then
   if inI64 (sa + 1) then
   some (.inl (sa + 1))
   else none
   else
   some (.inr (.inl ()))
  else
  if sa = 0 then
   some (.inr (.inl ()))
  else
  if ta2 = 95 then
   if inI64 (sa + 1) then
   some (.inl (sa + 1))
   else none
  else
  some (.inr (.inl ()))
  else
  if ta2 ≥ 65 then
  if ta2 ≥ 48 then
   if ta2 ≤ 57 then
   if ta2 ≤ 90 then
    if inI64 (sa + 1) then
    some (.inl (sa + 1))
    else none
   else
   if sa = 0 then
    some (.inr (.inl ()))
   else
   if inI64 (sa + 1) then
   some (.inl (sa + 1))
   else none
   else
   if ta2 ≤ 90 then
   if inI64 (sa + 1) then
   some (.inl (sa + 1))
   else none
   else
   if sa = 0 then
   some (.inr (.inl ()))
   else
   if ta2 = 95 then
   if inI64 (sa + 1) then
   some (.inl (sa + 1))
   else none
   else
   some (.inr (.inl ()))
  else
  if ta2 ≤ 90 then
   if inI64 (sa + 1) then
   some (.inl (sa + 1))
   else none
  else
  if sa = 0 then
   some (.inr (.inl ()))
  else
  if ta2 = 95 then
   if inI64 (sa + 1) then
   some (.inl (sa + 1))
   else none
  else
  some (.inr (.inl ()))
  else
  if ta2 ≥ 48 then
  if ta2 ≤ 57 then
   if sa = 0 then
   some (.inr (.inl ()))
   else
   if inI64 (sa + 1) then
   some (.inl (sa + 1))
   else none
  else
  if sa = 0 then
   some (.inr (.inl ()))
  else
  if ta2 = 95 then
   if inI64 (sa + 1) then
   some (.inl (sa + 1))
   else none
  else
  some (.inr (.inl ()))
  else
  if sa = 0 then
  some (.inr (.inl ()))
  else
  if ta2 = 95 then
  if inI64 (sa + 1) then
  some (.inl (sa + 1))
  else none
  else
  some (.inr (.inl ()))
 else
 some (.inr (.inr ()))
noncomputable def T_ref01_IsName_L1 (a0 : ByteArray) (sa : (Int)) : List (Nat × AV) := [(0, .d (.v (.string a0))), (3, .d (I sa))]
noncomputable def H_ref01_IsName_L1 (a0 : ByteArray) (sa : (Int)) : List (Nat × Blk) := []
noncomputable def X_ref01_IsName_L1 (a0 : ByteArray) (e : (Unit) ⊕ (Unit)) : Ex := match e with
  | (.inl e) => .ret
  | (.inr e) => (.exit 0)
noncomputable def XT_ref01_IsName_L1 (a0 : ByteArray) (e : (Unit) ⊕ (Unit)) : List (Nat × AV) := match e with
  | (.inl e) => [(2, .d (B false))]
  | (.inr e) => []
noncomputable def XH_ref01_IsName_L1 (a0 : ByteArray) (e : (Unit) ⊕ (Unit)) : List (Nat × Blk) := match e with
  | (.inl e) => []
  | (.inr e) => []
theorem R_ref01_IsName_L1 {n : Nat} {a0 : ByteArray} (sa : (Int)) (r) (h : F_ref01_IsName_L1 n a0 sa = some r) : Rd cx (loopAt cx.P 124 0) 67 0 false (T_ref01_IsName_L1 a0) (H_ref01_IsName_L1 a0) (X_ref01_IsName_L1 a0) (XT_ref01_IsName_L1 a0) (XH_ref01_IsName_L1 a0) sa r := by
  unfold F_ref01_IsName_L1 at h
  by_cases ha1 : sa < (a0.size : Int)
  · replace h := ite_t h ha1
    obtain ⟨ta2, ha2, h⟩ := bnd_of h
    by_cases ha3 : ta2 ≥ 97
    · replace h := ite_t h ha3
      by_cases ha4 : ta2 ≤ 122
      · replace h := ite_t h ha4
        by_cases ha5 : ta2 ≥ 48
        · replace h := ite_t h ha5
          by_cases ha6 : ta2 ≤ 57
          · replace h := ite_t h ha6
            obtain ⟨ha7, h⟩ := grd_of h
            replace h := Option.some.inj h
            subst h
            exact ⟨100, 9, [.br true, .el (.v (.int .u8 ta2)), .br true, .el (.v (.int .u8 ta2)), .br true, .el (.v (.int .u8 ta2)), .br true, .el (.v (.int .u8 ta2)), .br true, .no, .no], [], [0, 3], [], round_of (ob := [inI64 (sa + 1), (decide (ta2 ≤ 57)) = true, pureRun cx.P (Instr.index 9 (.string a0) (.int .i64 sa)) = some (.int .u8 ta2), (decide (ta2 ≥ 48)) = true, pureRun cx.P (Instr.index 9 (.string a0) (.int .i64 sa)) = some (.int .u8 ta2), (decide (ta2 ≤ 122)) = true, pureRun cx.P (Instr.index 9 (.string a0) (.int .i64 sa)) = some (.int .u8 ta2), (decide (ta2 ≥ 97)) = true, pureRun cx.P (Instr.index 9 (.string a0) (.int .i64 sa)) = some (.int .u8 ta2), (decide (sa < (a0.size : Int))) = true]) (by kernel_rfl) ⟨ha7, (decide_eq_true ha6), strAt_ok ha2, (decide_eq_true ha5), strAt_ok ha2, (decide_eq_true ha4), strAt_ok ha2, (decide_eq_true ha3), strAt_ok ha2, (decide_eq_true ha1), trivial⟩⟩
          · replace h := ite_f h ha6
            obtain ⟨ha7, h⟩ := grd_of h
            replace h := Option.some.inj h
            subst h
            exact ⟨100, 9, [.br true, .el (.v (.int .u8 ta2)), .br true, .el (.v (.int .u8 ta2)), .br true, .el (.v (.int .u8 ta2)), .br true, .el (.v (.int .u8 ta2)), .br false, .el (.v (.int .u8 ta2)), .no, .no], [], [0, 3], [], round_of (ob := [inI64 (sa + 1), pureRun cx.P (Instr.index 9 (.string a0) (.int .i64 sa)) = some (.int .u8 ta2), (decide (ta2 ≤ 57)) = false, pureRun cx.P (Instr.index 9 (.string a0) (.int .i64 sa)) = some (.int .u8 ta2), (decide (ta2 ≥ 48)) = true, pureRun cx.P (Instr.index 9 (.string a0) (.int .i64 sa)) = some (.int .u8 ta2), (decide (ta2 ≤ 122)) = true, pureRun cx.P (Instr.index 9 (.string a0) (.int .i64 sa)) = some (.int .u8 ta2), (decide (ta2 ≥ 97)) = true, pureRun cx.P (Instr.index 9 (.string a0) (.int .i64 sa)) = some (.int .u8 ta2), (decide (sa < (a0.size : Int))) = true]) (by kernel_rfl) ⟨ha7, strAt_ok ha2, (decide_eq_false ha6), strAt_ok ha2, (decide_eq_true ha5), strAt_ok ha2, (decide_eq_true ha4), strAt_ok ha2, (decide_eq_true ha3), strAt_ok ha2, (decide_eq_true ha1), trivial⟩⟩
        · replace h := ite_f h ha5
          obtain ⟨ha6, h⟩ := grd_of h
          replace h := Option.some.inj h
          subst h
          exact ⟨100, 9, [.br true, .el (.v (.int .u8 ta2)), .br true, .el (.v (.int .u8 ta2)), .br true, .el (.v (.int .u8 ta2)), .br false, .no, .el (.v (.int .u8 ta2)), .no, .no], [], [0, 3], [], round_of (ob := [inI64 (sa + 1), pureRun cx.P (Instr.index 9 (.string a0) (.int .i64 sa)) = some (.int .u8 ta2), (decide (ta2 ≥ 48)) = false, pureRun cx.P (Instr.index 9 (.string a0) (.int .i64 sa)) = some (.int .u8 ta2), (decide (ta2 ≤ 122)) = true, pureRun cx.P (Instr.index 9 (.string a0) (.int .i64 sa)) = some (.int .u8 ta2), (decide (ta2 ≥ 97)) = true, pureRun cx.P (Instr.index 9 (.string a0) (.int .i64 sa)) = some (.int .u8 ta2), (decide (sa < (a0.size : Int))) = true]) (by kernel_rfl) ⟨ha6, strAt_ok ha2, (decide_eq_false ha5), strAt_ok ha2, (decide_eq_true ha4), strAt_ok ha2, (decide_eq_true ha3), strAt_ok ha2, (decide_eq_true ha1), trivial⟩⟩
      · replace h := ite_f h ha4
        by_cases ha5 : ta2 ≥ 65
        · replace h := ite_t h ha5
          by_cases ha6 : ta2 ≥ 48
          · replace h := ite_t h ha6
            by_cases ha7 : ta2 ≤ 57
            · replace h := ite_t h ha7
              by_cases ha8 : ta2 ≤ 90
              · replace h := ite_t h ha8
                obtain ⟨ha9, h⟩ := grd_of h
                replace h := Option.some.inj h
                subst h
                exact ⟨100, 9, [.br true, .el (.v (.int .u8 ta2)), .br true, .el (.v (.int .u8 ta2)), .br false, .el (.v (.int .u8 ta2)), .br true, .el (.v (.int .u8 ta2)), .el (.v (.int .u8 ta2)), .br true, .el (.v (.int .u8 ta2)), .br true, .br false, .no], [], [0, 3], [], round_of (ob := [inI64 (sa + 1), (!(decide (ta2 ≤ 90))) = false, (decide (ta2 ≤ 57)) = true, pureRun cx.P (Instr.index 9 (.string a0) (.int .i64 sa)) = some (.int .u8 ta2), (decide (ta2 ≥ 48)) = true, pureRun cx.P (Instr.index 9 (.string a0) (.int .i64 sa)) = some (.int .u8 ta2), pureRun cx.P (Instr.index 9 (.string a0) (.int .i64 sa)) = some (.int .u8 ta2), (decide (ta2 ≥ 65)) = true, pureRun cx.P (Instr.index 9 (.string a0) (.int .i64 sa)) = some (.int .u8 ta2), (decide (ta2 ≤ 122)) = false, pureRun cx.P (Instr.index 9 (.string a0) (.int .i64 sa)) = some (.int .u8 ta2), (decide (ta2 ≥ 97)) = true, pureRun cx.P (Instr.index 9 (.string a0) (.int .i64 sa)) = some (.int .u8 ta2), (decide (sa < (a0.size : Int))) = true]) (by kernel_rfl) ⟨ha9, (notf (decide_eq_true ha8)), (decide_eq_true ha7), strAt_ok ha2, (decide_eq_true ha6), strAt_ok ha2, strAt_ok ha2, (decide_eq_true ha5), strAt_ok ha2, (decide_eq_false ha4), strAt_ok ha2, (decide_eq_true ha3), strAt_ok ha2, (decide_eq_true ha1), trivial⟩⟩
              · replace h := ite_f h ha8
                by_cases ha9 : sa = 0
                · replace h := ite_t h ha9
                  replace h := Option.some.inj h
                  subst h
                  exact ⟨⟨100, 9, [.br true, .el (.v (.int .u8 ta2)), .br true, .el (.v (.int .u8 ta2)), .br false, .el (.v (.int .u8 ta2)), .br true, .el (.v (.int .u8 ta2)), .el (.v (.int .u8 ta2)), .br true, .el (.v (.int .u8 ta2)), .br true, .br true, .br true, .no], [], [2], [], round_of (ob := [(sa == 0) = true, (!(decide (ta2 ≤ 90))) = true, (decide (ta2 ≤ 57)) = true, pureRun cx.P (Instr.index 9 (.string a0) (.int .i64 sa)) = some (.int .u8 ta2), (decide (ta2 ≥ 48)) = true, pureRun cx.P (Instr.index 9 (.string a0) (.int .i64 sa)) = some (.int .u8 ta2), pureRun cx.P (Instr.index 9 (.string a0) (.int .i64 sa)) = some (.int .u8 ta2), (decide (ta2 ≥ 65)) = true, pureRun cx.P (Instr.index 9 (.string a0) (.int .i64 sa)) = some (.int .u8 ta2), (decide (ta2 ≤ 122)) = false, pureRun cx.P (Instr.index 9 (.string a0) (.int .i64 sa)) = some (.int .u8 ta2), (decide (ta2 ≥ 97)) = true, pureRun cx.P (Instr.index 9 (.string a0) (.int .i64 sa)) = some (.int .u8 ta2), (decide (sa < (a0.size : Int))) = true]) (by kernel_rfl) ⟨(eqt ha9), (nott (decide_eq_false ha8)), (decide_eq_true ha7), strAt_ok ha2, (decide_eq_true ha6), strAt_ok ha2, strAt_ok ha2, (decide_eq_true ha5), strAt_ok ha2, (decide_eq_false ha4), strAt_ok ha2, (decide_eq_true ha3), strAt_ok ha2, (decide_eq_true ha1), trivial⟩⟩, nofun⟩
                · replace h := ite_f h ha9
                  obtain ⟨ha10, h⟩ := grd_of h
                  replace h := Option.some.inj h
                  subst h
                  exact ⟨100, 9, [.br true, .el (.v (.int .u8 ta2)), .br true, .el (.v (.int .u8 ta2)), .br false, .el (.v (.int .u8 ta2)), .br true, .el (.v (.int .u8 ta2)), .el (.v (.int .u8 ta2)), .br true, .el (.v (.int .u8 ta2)), .br true, .br true, .br false, .no], [], [0, 3], [], round_of (ob := [inI64 (sa + 1), (sa == 0) = false, (!(decide (ta2 ≤ 90))) = true, (decide (ta2 ≤ 57)) = true, pureRun cx.P (Instr.index 9 (.string a0) (.int .i64 sa)) = some (.int .u8 ta2), (decide (ta2 ≥ 48)) = true, pureRun cx.P (Instr.index 9 (.string a0) (.int .i64 sa)) = some (.int .u8 ta2), pureRun cx.P (Instr.index 9 (.string a0) (.int .i64 sa)) = some (.int .u8 ta2), (decide (ta2 ≥ 65)) = true, pureRun cx.P (Instr.index 9 (.string a0) (.int .i64 sa)) = some (.int .u8 ta2), (decide (ta2 ≤ 122)) = false, pureRun cx.P (Instr.index 9 (.string a0) (.int .i64 sa)) = some (.int .u8 ta2), (decide (ta2 ≥ 97)) = true, pureRun cx.P (Instr.index 9 (.string a0) (.int .i64 sa)) = some (.int .u8 ta2), (decide (sa < (a0.size : Int))) = true]) (by kernel_rfl) ⟨ha10, (eqf ha9), (nott (decide_eq_false ha8)), (decide_eq_true ha7), strAt_ok ha2, (decide_eq_true ha6), strAt_ok ha2, strAt_ok ha2, (decide_eq_true ha5), strAt_ok ha2, (decide_eq_false ha4), strAt_ok ha2, (decide_eq_true ha3), strAt_ok ha2, (decide_eq_true ha1), trivial⟩⟩
            · replace h := ite_f h ha7
              by_cases ha8 : ta2 ≤ 90
              · replace h := ite_t h ha8
                obtain ⟨ha9, h⟩ := grd_of h
                replace h := Option.some.inj h
                subst h
                exact ⟨100, 9, [.br true, .el (.v (.int .u8 ta2)), .br true, .el (.v (.int .u8 ta2)), .br false, .el (.v (.int .u8 ta2)), .br true, .el (.v (.int .u8 ta2)), .el (.v (.int .u8 ta2)), .br true, .el (.v (.int .u8 ta2)), .br false, .el (.v (.int .u8 ta2)), .br false, .no], [], [0, 3], [], round_of (ob := [inI64 (sa + 1), (!(decide (ta2 ≤ 90))) = false, pureRun cx.P (Instr.index 9 (.string a0) (.int .i64 sa)) = some (.int .u8 ta2), (decide (ta2 ≤ 57)) = false, pureRun cx.P (Instr.index 9 (.string a0) (.int .i64 sa)) = some (.int .u8 ta2), (decide (ta2 ≥ 48)) = true, pureRun cx.P (Instr.index 9 (.string a0) (.int .i64 sa)) = some (.int .u8 ta2), pureRun cx.P (Instr.index 9 (.string a0) (.int .i64 sa)) = some (.int .u8 ta2), (decide (ta2 ≥ 65)) = true, pureRun cx.P (Instr.index 9 (.string a0) (.int .i64 sa)) = some (.int .u8 ta2), (decide (ta2 ≤ 122)) = false, pureRun cx.P (Instr.index 9 (.string a0) (.int .i64 sa)) = some (.int .u8 ta2), (decide (ta2 ≥ 97)) = true, pureRun cx.P (Instr.index 9 (.string a0) (.int .i64 sa)) = some (.int .u8 ta2), (decide (sa < (a0.size : Int))) = true]) (by kernel_rfl) ⟨ha9, (notf (decide_eq_true ha8)), strAt_ok ha2, (decide_eq_false ha7), strAt_ok ha2, (decide_eq_true ha6), strAt_ok ha2, strAt_ok ha2, (decide_eq_true ha5), strAt_ok ha2, (decide_eq_false ha4), strAt_ok ha2, (decide_eq_true ha3), strAt_ok ha2, (decide_eq_true ha1), trivial⟩⟩
              · replace h := ite_f h ha8
                by_cases ha9 : sa = 0
                · replace h := ite_t h ha9
                  replace h := Option.some.inj h
                  subst h
                  exact ⟨⟨100, 9, [.br true, .el (.v (.int .u8 ta2)), .br true, .el (.v (.int .u8 ta2)), .br false, .el (.v (.int .u8 ta2)), .br true, .el (.v (.int .u8 ta2)), .el (.v (.int .u8 ta2)), .br true, .el (.v (.int .u8 ta2)), .br false, .el (.v (.int .u8 ta2)), .br true, .br true, .no], [], [2], [], round_of (ob := [(sa == 0) = true, (!(decide (ta2 ≤ 90))) = true, pureRun cx.P (Instr.index 9 (.string a0) (.int .i64 sa)) = some (.int .u8 ta2), (decide (ta2 ≤ 57)) = false, pureRun cx.P (Instr.index 9 (.string a0) (.int .i64 sa)) = some (.int .u8 ta2), (decide (ta2 ≥ 48)) = true, pureRun cx.P (Instr.index 9 (.string a0) (.int .i64 sa)) = some (.int .u8 ta2), pureRun cx.P (Instr.index 9 (.string a0) (.int .i64 sa)) = some (.int .u8 ta2), (decide (ta2 ≥ 65)) = true, pureRun cx.P (Instr.index 9 (.string a0) (.int .i64 sa)) = some (.int .u8 ta2), (decide (ta2 ≤ 122)) = false, pureRun cx.P (Instr.index 9 (.string a0) (.int .i64 sa)) = some (.int .u8 ta2), (decide (ta2 ≥ 97)) = true, pureRun cx.P (Instr.index 9 (.string a0) (.int .i64 sa)) = some (.int .u8 ta2), (decide (sa < (a0.size : Int))) = true]) (by kernel_rfl) ⟨(eqt ha9), (nott (decide_eq_false ha8)), strAt_ok ha2, (decide_eq_false ha7), strAt_ok ha2, (decide_eq_true ha6), strAt_ok ha2, strAt_ok ha2, (decide_eq_true ha5), strAt_ok ha2, (decide_eq_false ha4), strAt_ok ha2, (decide_eq_true ha3), strAt_ok ha2, (decide_eq_true ha1), trivial⟩⟩, nofun⟩
                · replace h := ite_f h ha9
                  by_cases ha10 : ta2 = 95
                  · replace h := ite_t h ha10
                    obtain ⟨ha11, h⟩ := grd_of h
                    replace h := Option.some.inj h
                    subst h
                    exact ⟨100, 9, [.br true, .el (.v (.int .u8 ta2)), .br true, .el (.v (.int .u8 ta2)), .br false, .el (.v (.int .u8 ta2)), .br true, .el (.v (.int .u8 ta2)), .el (.v (.int .u8 ta2)), .br true, .el (.v (.int .u8 ta2)), .br false, .el (.v (.int .u8 ta2)), .br true, .br false, .br false], [], [0, 3], [], round_of (ob := [inI64 (sa + 1), (!(ta2 == 95)) = false, (sa == 0) = false, (!(decide (ta2 ≤ 90))) = true, pureRun cx.P (Instr.index 9 (.string a0) (.int .i64 sa)) = some (.int .u8 ta2), (decide (ta2 ≤ 57)) = false, pureRun cx.P (Instr.index 9 (.string a0) (.int .i64 sa)) = some (.int .u8 ta2), (decide (ta2 ≥ 48)) = true, pureRun cx.P (Instr.index 9 (.string a0) (.int .i64 sa)) = some (.int .u8 ta2), pureRun cx.P (Instr.index 9 (.string a0) (.int .i64 sa)) = some (.int .u8 ta2), (decide (ta2 ≥ 65)) = true, pureRun cx.P (Instr.index 9 (.string a0) (.int .i64 sa)) = some (.int .u8 ta2), (decide (ta2 ≤ 122)) = false, pureRun cx.P (Instr.index 9 (.string a0) (.int .i64 sa)) = some (.int .u8 ta2), (decide (ta2 ≥ 97)) = true, pureRun cx.P (Instr.index 9 (.string a0) (.int .i64 sa)) = some (.int .u8 ta2), (decide (sa < (a0.size : Int))) = true]) (by kernel_rfl) ⟨ha11, (notf (eqt ha10)), (eqf ha9), (nott (decide_eq_false ha8)), strAt_ok ha2, (decide_eq_false ha7), strAt_ok ha2, (decide_eq_true ha6), strAt_ok ha2, strAt_ok ha2, (decide_eq_true ha5), strAt_ok ha2, (decide_eq_false ha4), strAt_ok ha2, (decide_eq_true ha3), strAt_ok ha2, (decide_eq_true ha1), trivial⟩⟩
                  · replace h := ite_f h ha10
                    replace h := Option.some.inj h
                    subst h
                    exact ⟨⟨100, 9, [.br true, .el (.v (.int .u8 ta2)), .br true, .el (.v (.int .u8 ta2)), .br false, .el (.v (.int .u8 ta2)), .br true, .el (.v (.int .u8 ta2)), .el (.v (.int .u8 ta2)), .br true, .el (.v (.int .u8 ta2)), .br false, .el (.v (.int .u8 ta2)), .br true, .br false, .br true], [], [2], [], round_of (ob := [(!(ta2 == 95)) = true, (sa == 0) = false, (!(decide (ta2 ≤ 90))) = true, pureRun cx.P (Instr.index 9 (.string a0) (.int .i64 sa)) = some (.int .u8 ta2), (decide (ta2 ≤ 57)) = false, pureRun cx.P (Instr.index 9 (.string a0) (.int .i64 sa)) = some (.int .u8 ta2), (decide (ta2 ≥ 48)) = true, pureRun cx.P (Instr.index 9 (.string a0) (.int .i64 sa)) = some (.int .u8 ta2), pureRun cx.P (Instr.index 9 (.string a0) (.int .i64 sa)) = some (.int .u8 ta2), (decide (ta2 ≥ 65)) = true, pureRun cx.P (Instr.index 9 (.string a0) (.int .i64 sa)) = some (.int .u8 ta2), (decide (ta2 ≤ 122)) = false, pureRun cx.P (Instr.index 9 (.string a0) (.int .i64 sa)) = some (.int .u8 ta2), (decide (ta2 ≥ 97)) = true, pureRun cx.P (Instr.index 9 (.string a0) (.int .i64 sa)) = some (.int .u8 ta2), (decide (sa < (a0.size : Int))) = true]) (by kernel_rfl) ⟨(nott (eqf ha10)), (eqf ha9), (nott (decide_eq_false ha8)), strAt_ok ha2, (decide_eq_false ha7), strAt_ok ha2, (decide_eq_true ha6), strAt_ok ha2, strAt_ok ha2, (decide_eq_true ha5), strAt_ok ha2, (decide_eq_false ha4), strAt_ok ha2, (decide_eq_true ha3), strAt_ok ha2, (decide_eq_true ha1), trivial⟩⟩, nofun⟩
          · replace h := ite_f h ha6
            by_cases ha7 : ta2 ≤ 90
            · replace h := ite_t h ha7
              obtain ⟨ha8, h⟩ := grd_of h
              replace h := Option.some.inj h
              subst h
              exact ⟨100, 9, [.br true, .el (.v (.int .u8 ta2)), .br true, .el (.v (.int .u8 ta2)), .br false, .el (.v (.int .u8 ta2)), .br true, .el (.v (.int .u8 ta2)), .el (.v (.int .u8 ta2)), .br false, .no, .el (.v (.int .u8 ta2)), .br false, .no], [], [0, 3], [], round_of (ob := [inI64 (sa + 1), (!(decide (ta2 ≤ 90))) = false, pureRun cx.P (Instr.index 9 (.string a0) (.int .i64 sa)) = some (.int .u8 ta2), (decide (ta2 ≥ 48)) = false, pureRun cx.P (Instr.index 9 (.string a0) (.int .i64 sa)) = some (.int .u8 ta2), pureRun cx.P (Instr.index 9 (.string a0) (.int .i64 sa)) = some (.int .u8 ta2), (decide (ta2 ≥ 65)) = true, pureRun cx.P (Instr.index 9 (.string a0) (.int .i64 sa)) = some (.int .u8 ta2), (decide (ta2 ≤ 122)) = false, pureRun cx.P (Instr.index 9 (.string a0) (.int .i64 sa)) = some (.int .u8 ta2), (decide (ta2 ≥ 97)) = true, pureRun cx.P (Instr.index 9 (.string a0) (.int .i64 sa)) = some (.int .u8 ta2), (decide (sa < (a0.size : Int))) = true]) (by kernel_rfl) ⟨ha8, (notf (decide_eq_true ha7)), strAt_ok ha2, (decide_eq_false ha6), strAt_ok ha2, strAt_ok ha2, (decide_eq_true ha5), strAt_ok ha2, (decide_eq_false ha4), strAt_ok ha2, (decide_eq_true ha3), strAt_ok ha2, (decide_eq_true ha1), trivial⟩⟩
            · replace h := ite_f h ha7
              by_cases ha8 : sa = 0
              · replace h := ite_t h ha8
                replace h := Option.some.inj h
                subst h
                exact ⟨⟨100, 9, [.br true, .el (.v (.int .u8 ta2)), .br true, .el (.v (.int .u8 ta2)), .br false, .el (.v (.int .u8 ta2)), .br true, .el (.v (.int .u8 ta2)), .el (.v (.int .u8 ta2)), .br false, .no, .el (.v (.int .u8 ta2)), .br true, .br true, .no], [], [2], [], round_of (ob := [(sa == 0) = true, (!(decide (ta2 ≤ 90))) = true, pureRun cx.P (Instr.index 9 (.string a0) (.int .i64 sa)) = some (.int .u8 ta2), (decide (ta2 ≥ 48)) = false, pureRun cx.P (Instr.index 9 (.string a0) (.int .i64 sa)) = some (.int .u8 ta2), pureRun cx.P (Instr.index 9 (.string a0) (.int .i64 sa)) = some (.int .u8 ta2), (decide (ta2 ≥ 65)) = true, pureRun cx.P (Instr.index 9 (.string a0) (.int .i64 sa)) = some (.int .u8 ta2), (decide (ta2 ≤ 122)) = false, pureRun cx.P (Instr.index 9 (.string a0) (.int .i64 sa)) = some (.int .u8 ta2), (decide (ta2 ≥ 97)) = true, pureRun cx.P (Instr.index 9 (.string a0) (.int .i64 sa)) = some (.int .u8 ta2), (decide (sa < (a0.size : Int))) = true]) (by kernel_rfl) ⟨(eqt ha8), (nott (decide_eq_false ha7)), strAt_ok ha2, (decide_eq_false ha6), strAt_ok ha2, strAt_ok ha2, (decide_eq_true ha5), strAt_ok ha2, (decide_eq_false ha4), strAt_ok ha2, (decide_eq_true ha3), strAt_ok ha2, (decide_eq_true ha1), trivial⟩⟩, nofun⟩
              · replace h := ite_f h ha8
                by_cases ha9 : ta2 = 95
                · replace h := ite_t h ha9
                  obtain ⟨ha10, h⟩ := grd_of h
                  replace h := Option.some.inj h
                  subst h
                  exact ⟨100, 9, [.br true, .el (.v (.int .u8 ta2)), .br true, .el (.v (.int .u8 ta2)), .br false, .el (.v (.int .u8 ta2)), .br true, .el (.v (.int .u8 ta2)), .el (.v (.int .u8 ta2)), .br false, .no, .el (.v (.int .u8 ta2)), .br true, .br false, .br false], [], [0, 3], [], round_of (ob := [inI64 (sa + 1), (!(ta2 == 95)) = false, (sa == 0) = false, (!(decide (ta2 ≤ 90))) = true, pureRun cx.P (Instr.index 9 (.string a0) (.int .i64 sa)) = some (.int .u8 ta2), (decide (ta2 ≥ 48)) = false, pureRun cx.P (Instr.index 9 (.string a0) (.int .i64 sa)) = some (.int .u8 ta2), pureRun cx.P (Instr.index 9 (.string a0) (.int .i64 sa)) = some (.int .u8 ta2), (decide (ta2 ≥ 65)) = true, pureRun cx.P (Instr.index 9 (.string a0) (.int .i64 sa)) = some (.int .u8 ta2), (decide (ta2 ≤ 122)) = false, pureRun cx.P (Instr.index 9 (.string a0) (.int .i64 sa)) = some (.int .u8 ta2), (decide (ta2 ≥ 97)) = true, pureRun cx.P (Instr.index 9 (.string a0) (.int .i64 sa)) = some (.int .u8 ta2), (decide (sa < (a0.size : Int))) = true]) (by kernel_rfl) ⟨ha10, (notf (eqt ha9)), (eqf ha8), (nott (decide_eq_false ha7)), strAt_ok ha2, (decide_eq_false ha6), strAt_ok ha2, strAt_ok ha2, (decide_eq_true ha5), strAt_ok ha2, (decide_eq_false ha4), strAt_ok ha2, (decide_eq_true ha3), strAt_ok ha2, (decide_eq_true ha1), trivial⟩⟩
                · replace h := ite_f h ha9
                  replace h := Option.some.inj h
                  subst h
                  exact ⟨⟨100, 9, [.br true, .el (.v (.int .u8 ta2)), .br true, .el (.v (.int .u8 ta2)), .br false, .el (.v (.int .u8 ta2)), .br true, .el (.v (.int .u8 ta2)), .el (.v (.int .u8 ta2)), .br false, .no, .el (.v (.int .u8 ta2)), .br true, .br false, .br true], [], [2], [], round_of (ob := [(!(ta2 == 95)) = true, (sa == 0) = false, (!(decide (ta2 ≤ 90))) = true, pureRun cx.P (Instr.index 9 (.string a0) (.int .i64 sa)) = some (.int .u8 ta2), (decide (ta2 ≥ 48)) = false, pureRun cx.P (Instr.index 9 (.string a0) (.int .i64 sa)) = some (.int .u8 ta2), pureRun cx.P (Instr.index 9 (.string a0) (.int .i64 sa)) = some (.int .u8 ta2), (decide (ta2 ≥ 65)) = true, pureRun cx.P (Instr.index 9 (.string a0) (.int .i64 sa)) = some (.int .u8 ta2), (decide (ta2 ≤ 122)) = false, pureRun cx.P (Instr.index 9 (.string a0) (.int .i64 sa)) = some (.int .u8 ta2), (decide (ta2 ≥ 97)) = true, pureRun cx.P (Instr.index 9 (.string a0) (.int .i64 sa)) = some (.int .u8 ta2), (decide (sa < (a0.size : Int))) = true]) (by kernel_rfl) ⟨(nott (eqf ha9)), (eqf ha8), (nott (decide_eq_false ha7)), strAt_ok ha2, (decide_eq_false ha6), strAt_ok ha2, strAt_ok ha2, (decide_eq_true ha5), strAt_ok ha2, (decide_eq_false ha4), strAt_ok ha2, (decide_eq_true ha3), strAt_ok ha2, (decide_eq_true ha1), trivial⟩⟩, nofun⟩
        · replace h := ite_f h ha5
          by_cases ha6 : ta2 ≥ 48
          · replace h := ite_t h ha6
            by_cases ha7 : ta2 ≤ 57
            · replace h := ite_t h ha7
              by_cases ha8 : sa = 0
              · replace h := ite_t h ha8
                replace h := Option.some.inj h
                subst h
                exact ⟨⟨100, 9, [.br true, .el (.v (.int .u8 ta2)), .br true, .el (.v (.int .u8 ta2)), .br false, .el (.v (.int .u8 ta2)), .br false, .el (.v (.int .u8 ta2)), .br true, .el (.v (.int .u8 ta2)), .br true, .no, .br true, .no], [], [2], [], round_of (ob := [(sa == 0) = true, (decide (ta2 ≤ 57)) = true, pureRun cx.P (Instr.index 9 (.string a0) (.int .i64 sa)) = some (.int .u8 ta2), (decide (ta2 ≥ 48)) = true, pureRun cx.P (Instr.index 9 (.string a0) (.int .i64 sa)) = some (.int .u8 ta2), (decide (ta2 ≥ 65)) = false, pureRun cx.P (Instr.index 9 (.string a0) (.int .i64 sa)) = some (.int .u8 ta2), (decide (ta2 ≤ 122)) = false, pureRun cx.P (Instr.index 9 (.string a0) (.int .i64 sa)) = some (.int .u8 ta2), (decide (ta2 ≥ 97)) = true, pureRun cx.P (Instr.index 9 (.string a0) (.int .i64 sa)) = some (.int .u8 ta2), (decide (sa < (a0.size : Int))) = true]) (by kernel_rfl) ⟨(eqt ha8), (decide_eq_true ha7), strAt_ok ha2, (decide_eq_true ha6), strAt_ok ha2, (decide_eq_false ha5), strAt_ok ha2, (decide_eq_false ha4), strAt_ok ha2, (decide_eq_true ha3), strAt_ok ha2, (decide_eq_true ha1), trivial⟩⟩, nofun⟩
              · replace h := ite_f h ha8
                obtain ⟨ha9, h⟩ := grd_of h
                replace h := Option.some.inj h
                subst h
                exact ⟨100, 9, [.br true, .el (.v (.int .u8 ta2)), .br true, .el (.v (.int .u8 ta2)), .br false, .el (.v (.int .u8 ta2)), .br false, .el (.v (.int .u8 ta2)), .br true, .el (.v (.int .u8 ta2)), .br true, .no, .br false, .no], [], [0, 3], [], round_of (ob := [inI64 (sa + 1), (sa == 0) = false, (decide (ta2 ≤ 57)) = true, pureRun cx.P (Instr.index 9 (.string a0) (.int .i64 sa)) = some (.int .u8 ta2), (decide (ta2 ≥ 48)) = true, pureRun cx.P (Instr.index 9 (.string a0) (.int .i64 sa)) = some (.int .u8 ta2), (decide (ta2 ≥ 65)) = false, pureRun cx.P (Instr.index 9 (.string a0) (.int .i64 sa)) = some (.int .u8 ta2), (decide (ta2 ≤ 122)) = false, pureRun cx.P (Instr.index 9 (.string a0) (.int .i64 sa)) = some (.int .u8 ta2), (decide (ta2 ≥ 97)) = true, pureRun cx.P (Instr.index 9 (.string a0) (.int .i64 sa)) = some (.int .u8 ta2), (decide (sa < (a0.size : Int))) = true]) (by kernel_rfl) ⟨ha9, (eqf ha8), (decide_eq_true ha7), strAt_ok ha2, (decide_eq_true ha6), strAt_ok ha2, (decide_eq_false ha5), strAt_ok ha2, (decide_eq_false ha4), strAt_ok ha2, (decide_eq_true ha3), strAt_ok ha2, (decide_eq_true ha1), trivial⟩⟩
            · replace h := ite_f h ha7
              by_cases ha8 : sa = 0
              · replace h := ite_t h ha8
                replace h := Option.some.inj h
                subst h
                exact ⟨⟨100, 9, [.br true, .el (.v (.int .u8 ta2)), .br true, .el (.v (.int .u8 ta2)), .br false, .el (.v (.int .u8 ta2)), .br false, .el (.v (.int .u8 ta2)), .br true, .el (.v (.int .u8 ta2)), .br false, .el (.v (.int .u8 ta2)), .no, .br true, .no], [], [2], [], round_of (ob := [(sa == 0) = true, pureRun cx.P (Instr.index 9 (.string a0) (.int .i64 sa)) = some (.int .u8 ta2), (decide (ta2 ≤ 57)) = false, pureRun cx.P (Instr.index 9 (.string a0) (.int .i64 sa)) = some (.int .u8 ta2), (decide (ta2 ≥ 48)) = true, pureRun cx.P (Instr.index 9 (.string a0) (.int .i64 sa)) = some (.int .u8 ta2), (decide (ta2 ≥ 65)) = false, pureRun cx.P (Instr.index 9 (.string a0) (.int .i64 sa)) = some (.int .u8 ta2), (decide (ta2 ≤ 122)) = false, pureRun cx.P (Instr.index 9 (.string a0) (.int .i64 sa)) = some (.int .u8 ta2), (decide (ta2 ≥ 97)) = true, pureRun cx.P (Instr.index 9 (.string a0) (.int .i64 sa)) = some (.int .u8 ta2), (decide (sa < (a0.size : Int))) = true]) (by kernel_rfl) ⟨(eqt ha8), strAt_ok ha2, (decide_eq_false ha7), strAt_ok ha2, (decide_eq_true ha6), strAt_ok ha2, (decide_eq_false ha5), strAt_ok ha2, (decide_eq_false ha4), strAt_ok ha2, (decide_eq_true ha3), strAt_ok ha2, (decide_eq_true ha1), trivial⟩⟩, nofun⟩
              · replace h := ite_f h ha8
                by_cases ha9 : ta2 = 95
                · replace h := ite_t h ha9
                  obtain ⟨ha10, h⟩ := grd_of h
                  replace h := Option.some.inj h
                  subst h
                  exact ⟨100, 9, [.br true, .el (.v (.int .u8 ta2)), .br true, .el (.v (.int .u8 ta2)), .br false, .el (.v (.int .u8 ta2)), .br false, .el (.v (.int .u8 ta2)), .br true, .el (.v (.int .u8 ta2)), .br false, .el (.v (.int .u8 ta2)), .no, .br false, .br false], [], [0, 3], [], round_of (ob := [inI64 (sa + 1), (!(ta2 == 95)) = false, (sa == 0) = false, pureRun cx.P (Instr.index 9 (.string a0) (.int .i64 sa)) = some (.int .u8 ta2), (decide (ta2 ≤ 57)) = false, pureRun cx.P (Instr.index 9 (.string a0) (.int .i64 sa)) = some (.int .u8 ta2), (decide (ta2 ≥ 48)) = true, pureRun cx.P (Instr.index 9 (.string a0) (.int .i64 sa)) = some (.int .u8 ta2), (decide (ta2 ≥ 65)) = false, pureRun cx.P (Instr.index 9 (.string a0) (.int .i64 sa)) = some (.int .u8 ta2), (decide (ta2 ≤ 122)) = false, pureRun cx.P (Instr.index 9 (.string a0) (.int .i64 sa)) = some (.int .u8 ta2), (decide (ta2 ≥ 97)) = true, pureRun cx.P (Instr.index 9 (.string a0) (.int .i64 sa)) = some (.int .u8 ta2), (decide (sa < (a0.size : Int))) = true]) (by kernel_rfl) ⟨ha10, (notf (eqt ha9)), (eqf ha8), strAt_ok ha2, (decide_eq_false ha7), strAt_ok ha2, (decide_eq_true ha6), strAt_ok ha2, (decide_eq_false ha5), strAt_ok ha2, (decide_eq_false ha4), strAt_ok ha2, (decide_eq_true ha3), strAt_ok ha2, (decide_eq_true ha1), trivial⟩⟩
                · replace h := ite_f h ha9
                  replace h := Option.some.inj h
                  subst h
                  exact ⟨⟨100, 9, [.br true, .el (.v (.int .u8 ta2)), .br true, .el (.v (.int .u8 ta2)), .br false, .el (.v (.int .u8 ta2)), .br false, .el (.v (.int .u8 ta2)), .br true, .el (.v (.int .u8 ta2)), .br false, .el (.v (.int .u8 ta2)), .no, .br false, .br true], [], [2], [], round_of (ob := [(!(ta2 == 95)) = true, (sa == 0) = false, pureRun cx.P (Instr.index 9 (.string a0) (.int .i64 sa)) = some (.int .u8 ta2), (decide (ta2 ≤ 57)) = false, pureRun cx.P (Instr.index 9 (.string a0) (.int .i64 sa)) = some (.int .u8 ta2), (decide (ta2 ≥ 48)) = true, pureRun cx.P (Instr.index 9 (.string a0) (.int .i64 sa)) = some (.int .u8 ta2), (decide (ta2 ≥ 65)) = false, pureRun cx.P (Instr.index 9 (.string a0) (.int .i64 sa)) = some (.int .u8 ta2), (decide (ta2 ≤ 122)) = false, pureRun cx.P (Instr.index 9 (.string a0) (.int .i64 sa)) = some (.int .u8 ta2), (decide (ta2 ≥ 97)) = true, pureRun cx.P (Instr.index 9 (.string a0) (.int .i64 sa)) = some (.int .u8 ta2), (decide (sa < (a0.size : Int))) = true]) (by kernel_rfl) ⟨(nott (eqf ha9)), (eqf ha8), strAt_ok ha2, (decide_eq_false ha7), strAt_ok ha2, (decide_eq_true ha6), strAt_ok ha2, (decide_eq_false ha5), strAt_ok ha2, (decide_eq_false ha4), strAt_ok ha2, (decide_eq_true ha3), strAt_ok ha2, (decide_eq_true ha1), trivial⟩⟩, nofun⟩
          · replace h := ite_f h ha6
            by_cases ha7 : sa = 0
            · replace h := ite_t h ha7
              replace h := Option.some.inj h
              subst h
              exact ⟨⟨100, 9, [.br true, .el (.v (.int .u8 ta2)), .br true, .el (.v (.int .u8 ta2)), .br false, .el (.v (.int .u8 ta2)), .br false, .el (.v (.int .u8 ta2)), .br false, .no, .el (.v (.int .u8 ta2)), .no, .br true, .no], [], [2], [], round_of (ob := [(sa == 0) = true, pureRun cx.P (Instr.index 9 (.string a0) (.int .i64 sa)) = some (.int .u8 ta2), (decide (ta2 ≥ 48)) = false, pureRun cx.P (Instr.index 9 (.string a0) (.int .i64 sa)) = some (.int .u8 ta2), (decide (ta2 ≥ 65)) = false, pureRun cx.P (Instr.index 9 (.string a0) (.int .i64 sa)) = some (.int .u8 ta2), (decide (ta2 ≤ 122)) = false, pureRun cx.P (Instr.index 9 (.string a0) (.int .i64 sa)) = some (.int .u8 ta2), (decide (ta2 ≥ 97)) = true, pureRun cx.P (Instr.index 9 (.string a0) (.int .i64 sa)) = some (.int .u8 ta2), (decide (sa < (a0.size : Int))) = true]) (by kernel_rfl) ⟨(eqt ha7), strAt_ok ha2, (decide_eq_false ha6), strAt_ok ha2, (decide_eq_false ha5), strAt_ok ha2, (decide_eq_false ha4), strAt_ok ha2, (decide_eq_true ha3), strAt_ok ha2, (decide_eq_true ha1), trivial⟩⟩, nofun⟩
            · replace h := ite_f h ha7
              by_cases ha8 : ta2 = 95
              · replace h := ite_t h ha8
                obtain ⟨ha9, h⟩ := grd_of h
                replace h := Option.some.inj h
                subst h
                exact ⟨100, 9, [.br true, .el (.v (.int .u8 ta2)), .br true, .el (.v (.int .u8 ta2)), .br false, .el (.v (.int .u8 ta2)), .br false, .el (.v (.int .u8 ta2)), .br false, .no, .el (.v (.int .u8 ta2)), .no, .br false, .br false], [], [0, 3], [], round_of (ob := [inI64 (sa + 1), (!(ta2 == 95)) = false, (sa == 0) = false, pureRun cx.P (Instr.index 9 (.string a0) (.int .i64 sa)) = some (.int .u8 ta2), (decide (ta2 ≥ 48)) = false, pureRun cx.P (Instr.index 9 (.string a0) (.int .i64 sa)) = some (.int .u8 ta2), (decide (ta2 ≥ 65)) = false, pureRun cx.P (Instr.index 9 (.string a0) (.int .i64 sa)) = some (.int .u8 ta2), (decide (ta2 ≤ 122)) = false, pureRun cx.P (Instr.index 9 (.string a0) (.int .i64 sa)) = some (.int .u8 ta2), (decide (ta2 ≥ 97)) = true, pureRun cx.P (Instr.index 9 (.string a0) (.int .i64 sa)) = some (.int .u8 ta2), (decide (sa < (a0.size : Int))) = true]) (by kernel_rfl) ⟨ha9, (notf (eqt ha8)), (eqf ha7), strAt_ok ha2, (decide_eq_false ha6), strAt_ok ha2, (decide_eq_false ha5), strAt_ok ha2, (decide_eq_false ha4), strAt_ok ha2, (decide_eq_true ha3), strAt_ok ha2, (decide_eq_true ha1), trivial⟩⟩
              · replace h := ite_f h ha8
                replace h := Option.some.inj h
                subst h
                exact ⟨⟨100, 9, [.br true, .el (.v (.int .u8 ta2)), .br true, .el (.v (.int .u8 ta2)), .br false, .el (.v (.int .u8 ta2)), .br false, .el (.v (.int .u8 ta2)), .br false, .no, .el (.v (.int .u8 ta2)), .no, .br false, .br true], [], [2], [], round_of (ob := [(!(ta2 == 95)) = true, (sa == 0) = false, pureRun cx.P (Instr.index 9 (.string a0) (.int .i64 sa)) = some (.int .u8 ta2), (decide (ta2 ≥ 48)) = false, pureRun cx.P (Instr.index 9 (.string a0) (.int .i64 sa)) = some (.int .u8 ta2), (decide (ta2 ≥ 65)) = false, pureRun cx.P (Instr.index 9 (.string a0) (.int .i64 sa)) = some (.int .u8 ta2), (decide (ta2 ≤ 122)) = false, pureRun cx.P (Instr.index 9 (.string a0) (.int .i64 sa)) = some (.int .u8 ta2), (decide (ta2 ≥ 97)) = true, pureRun cx.P (Instr.index 9 (.string a0) (.int .i64 sa)) = some (.int .u8 ta2), (decide (sa < (a0.size : Int))) = true]) (by kernel_rfl) ⟨(nott (eqf ha8)), (eqf ha7), strAt_ok ha2, (decide_eq_false ha6), strAt_ok ha2, (decide_eq_false ha5), strAt_ok ha2, (decide_eq_false ha4), strAt_ok ha2, (decide_eq_true ha3), strAt_ok ha2, (decide_eq_true ha1), trivial⟩⟩, nofun⟩
    · replace h := ite_f h ha3
      by_cases ha4 : ta2 ≥ 65
      · replace h := ite_t h ha4
        by_cases ha5 : ta2 ≥ 48
        · replace h := ite_t h ha5
          by_cases ha6 : ta2 ≤ 57
          · replace h := ite_t h ha6
            by_cases ha7 : ta2 ≤ 90
            · replace h := ite_t h ha7
              obtain ⟨ha8, h⟩ := grd_of h
              replace h := Option.some.inj h
              subst h
              exact ⟨100, 9, [.br true, .el (.v (.int .u8 ta2)), .br false, .no, .el (.v (.int .u8 ta2)), .br true, .el (.v (.int .u8 ta2)), .el (.v (.int .u8 ta2)), .br true, .el (.v (.int .u8 ta2)), .br true, .br false, .no], [], [0, 3], [], round_of (ob := [inI64 (sa + 1), (!(decide (ta2 ≤ 90))) = false, (decide (ta2 ≤ 57)) = true, pureRun cx.P (Instr.index 9 (.string a0) (.int .i64 sa)) = some (.int .u8 ta2), (decide (ta2 ≥ 48)) = true, pureRun cx.P (Instr.index 9 (.string a0) (.int .i64 sa)) = some (.int .u8 ta2), pureRun cx.P (Instr.index 9 (.string a0) (.int .i64 sa)) = some (.int .u8 ta2), (decide (ta2 ≥ 65)) = true, pureRun cx.P (Instr.index 9 (.string a0) (.int .i64 sa)) = some (.int .u8 ta2), (decide (ta2 ≥ 97)) = false, pureRun cx.P (Instr.index 9 (.string a0) (.int .i64 sa)) = some (.int .u8 ta2), (decide (sa < (a0.size : Int))) = true]) (by kernel_rfl) ⟨ha8, (notf (decide_eq_true ha7)), (decide_eq_true ha6), strAt_ok ha2, (decide_eq_true ha5), strAt_ok ha2, strAt_ok ha2, (decide_eq_true ha4), strAt_ok ha2, (decide_eq_false ha3), strAt_ok ha2, (decide_eq_true ha1), trivial⟩⟩
            · replace h := ite_f h ha7
              by_cases ha8 : sa = 0
              · replace h := ite_t h ha8
                replace h := Option.some.inj h
                subst h
                exact ⟨⟨100, 9, [.br true, .el (.v (.int .u8 ta2)), .br false, .no, .el (.v (.int .u8 ta2)), .br true, .el (.v (.int .u8 ta2)), .el (.v (.int .u8 ta2)), .br true, .el (.v (.int .u8 ta2)), .br true, .br true, .br true, .no], [], [2], [], round_of (ob := [(sa == 0) = true, (!(decide (ta2 ≤ 90))) = true, (decide (ta2 ≤ 57)) = true, pureRun cx.P (Instr.index 9 (.string a0) (.int .i64 sa)) = some (.int .u8 ta2), (decide (ta2 ≥ 48)) = true, pureRun cx.P (Instr.index 9 (.string a0) (.int .i64 sa)) = some (.int .u8 ta2), pureRun cx.P (Instr.index 9 (.string a0) (.int .i64 sa)) = some (.int .u8 ta2), (decide (ta2 ≥ 65)) = true, pureRun cx.P (Instr.index 9 (.string a0) (.int .i64 sa)) = some (.int .u8 ta2), (decide (ta2 ≥ 97)) = false, pureRun cx.P (Instr.index 9 (.string a0) (.int .i64 sa)) = some (.int .u8 ta2), (decide (sa < (a0.size : Int))) = true]) (by kernel_rfl) ⟨(eqt ha8), (nott (decide_eq_false ha7)), (decide_eq_true ha6), strAt_ok ha2, (decide_eq_true ha5), strAt_ok ha2, strAt_ok ha2, (decide_eq_true ha4), strAt_ok ha2, (decide_eq_false ha3), strAt_ok ha2, (decide_eq_true ha1), trivial⟩⟩, nofun⟩
              · replace h := ite_f h ha8
                obtain ⟨ha9, h⟩ := grd_of h
                replace h := Option.some.inj h
                subst h
                exact ⟨100, 9, [.br true, .el (.v (.int .u8 ta2)), .br false, .no, .el (.v (.int .u8 ta2)), .br true, .el (.v (.int .u8 ta2)), .el (.v (.int .u8 ta2)), .br true, .el (.v (.int .u8 ta2)), .br true, .br true, .br false, .no], [], [0, 3], [], round_of (ob := [inI64 (sa + 1), (sa == 0) = false, (!(decide (ta2 ≤ 90))) = true, (decide (ta2 ≤ 57)) = true, pureRun cx.P (Instr.index 9 (.string a0) (.int .i64 sa)) = some (.int .u8 ta2), (decide (ta2 ≥ 48)) = true, pureRun cx.P (Instr.index 9 (.string a0) (.int .i64 sa)) = some (.int .u8 ta2), pureRun cx.P (Instr.index 9 (.string a0) (.int .i64 sa)) = some (.int .u8 ta2), (decide (ta2 ≥ 65)) = true, pureRun cx.P (Instr.index 9 (.string a0) (.int .i64 sa)) = some (.int .u8 ta2), (decide (ta2 ≥ 97)) = false, pureRun cx.P (Instr.index 9 (.string a0) (.int .i64 sa)) = some (.int .u8 ta2), (decide (sa < (a0.size : Int))) = true]) (by kernel_rfl) ⟨ha9, (eqf ha8), (nott (decide_eq_false ha7)), (decide_eq_true ha6), strAt_ok ha2, (decide_eq_true ha5), strAt_ok ha2, strAt_ok ha2, (decide_eq_true ha4), strAt_ok ha2, (decide_eq_false ha3), strAt_ok ha2, (decide_eq_true ha1), trivial⟩⟩
          · replace h := ite_f h ha6
            by_cases ha7 : ta2 ≤ 90
            · replace h := ite_t h ha7
              obtain ⟨ha8, h⟩ := grd_of h
              replace h := Option.some.inj h
              subst h
              exact ⟨100, 9, [.br true, .el (.v (.int .u8 ta2)), .br false, .no, .el (.v (.int .u8 ta2)), .br true, .el (.v (.int .u8 ta2)), .el (.v (.int .u8 ta2)), .br true, .el (.v (.int .u8 ta2)), .br false, .el (.v (.int .u8 ta2)), .br false, .no], [], [0, 3], [], round_of (ob := [inI64 (sa + 1), (!(decide (ta2 ≤ 90))) = false, pureRun cx.P (Instr.index 9 (.string a0) (.int .i64 sa)) = some (.int .u8 ta2), (decide (ta2 ≤ 57)) = false, pureRun cx.P (Instr.index 9 (.string a0) (.int .i64 sa)) = some (.int .u8 ta2), (decide (ta2 ≥ 48)) = true, pureRun cx.P (Instr.index 9 (.string a0) (.int .i64 sa)) = some (.int .u8 ta2), pureRun cx.P (Instr.index 9 (.string a0) (.int .i64 sa)) = some (.int .u8 ta2), (decide (ta2 ≥ 65)) = true, pureRun cx.P (Instr.index 9 (.string a0) (.int .i64 sa)) = some (.int .u8 ta2), (decide (ta2 ≥ 97)) = false, pureRun cx.P (Instr.index 9 (.string a0) (.int .i64 sa)) = some (.int .u8 ta2), (decide (sa < (a0.size : Int))) = true]) (by kernel_rfl) ⟨ha8, (notf (decide_eq_true ha7)), strAt_ok ha2, (decide_eq_false ha6), strAt_ok ha2, (decide_eq_true ha5), strAt_ok ha2, strAt_ok ha2, (decide_eq_true ha4), strAt_ok ha2, (decide_eq_false ha3), strAt_ok ha2, (decide_eq_true ha1), trivial⟩⟩
            · replace h := ite_f h ha7
              by_cases ha8 : sa = 0
              · replace h := ite_t h ha8
                replace h := Option.some.inj h
                subst h
                exact ⟨⟨100, 9, [.br true, .el (.v (.int .u8 ta2)), .br false, .no, .el (.v (.int .u8 ta2)), .br true, .el (.v (.int .u8 ta2)), .el (.v (.int .u8 ta2)), .br true, .el (.v (.int .u8 ta2)), .br false, .el (.v (.int .u8 ta2)), .br true, .br true, .no], [], [2], [], round_of (ob := [(sa == 0) = true, (!(decide (ta2 ≤ 90))) = true, pureRun cx.P (Instr.index 9 (.string a0) (.int .i64 sa)) = some (.int .u8 ta2), (decide (ta2 ≤ 57)) = false, pureRun cx.P (Instr.index 9 (.string a0) (.int .i64 sa)) = some (.int .u8 ta2), (decide (ta2 ≥ 48)) = true, pureRun cx.P (Instr.index 9 (.string a0) (.int .i64 sa)) = some (.int .u8 ta2), pureRun cx.P (Instr.index 9 (.string a0) (.int .i64 sa)) = some (.int .u8 ta2), (decide (ta2 ≥ 65)) = true, pureRun cx.P (Instr.index 9 (.string a0) (.int .i64 sa)) = some (.int .u8 ta2), (decide (ta2 ≥ 97)) = false, pureRun cx.P (Instr.index 9 (.string a0) (.int .i64 sa)) = some (.int .u8 ta2), (decide (sa < (a0.size : Int))) = true]) (by kernel_rfl) ⟨(eqt ha8), (nott (decide_eq_false ha7)), strAt_ok ha2, (decide_eq_false ha6), strAt_ok ha2, (decide_eq_true ha5), strAt_ok ha2, strAt_ok ha2, (decide_eq_true ha4), strAt_ok ha2, (decide_eq_false ha3), strAt_ok ha2, (decide_eq_true ha1), trivial⟩⟩, nofun⟩
              · replace h := ite_f h ha8
                by_cases ha9 : ta2 = 95
                · replace h := ite_t h ha9
                  obtain ⟨ha10, h⟩ := grd_of h
                  replace h := Option.some.inj h
                  subst h
                  exact ⟨100, 9, [.br true, .el (.v (.int .u8 ta2)), .br false, .no, .el (.v (.int .u8 ta2)), .br true, .el (.v (.int .u8 ta2)), .el (.v (.int .u8 ta2)), .br true, .el (.v (.int .u8 ta2)), .br false, .el (.v (.int .u8 ta2)), .br true, .br false, .br false], [], [0, 3], [], round_of (ob := [inI64 (sa + 1), (!(ta2 == 95)) = false, (sa == 0) = false, (!(decide (ta2 ≤ 90))) = true, pureRun cx.P (Instr.index 9 (.string a0) (.int .i64 sa)) = some (.int .u8 ta2), (decide (ta2 ≤ 57)) = false, pureRun cx.P (Instr.index 9 (.string a0) (.int .i64 sa)) = some (.int .u8 ta2), (decide (ta2 ≥ 48)) = true, pureRun cx.P (Instr.index 9 (.string a0) (.int .i64 sa)) = some (.int .u8 ta2), pureRun cx.P (Instr.index 9 (.string a0) (.int .i64 sa)) = some (.int .u8 ta2), (decide (ta2 ≥ 65)) = true, pureRun cx.P (Instr.index 9 (.string a0) (.int .i64 sa)) = some (.int .u8 ta2), (decide (ta2 ≥ 97)) = false, pureRun cx.P (Instr.index 9 (.string a0) (.int .i64 sa)) = some (.int .u8 ta2), (decide (sa < (a0.size : Int))) = true]) (by kernel_rfl) ⟨ha10, (notf (eqt ha9)), (eqf ha8), (nott (decide_eq_false ha7)), strAt_ok ha2, (decide_eq_false ha6), strAt_ok ha2, (decide_eq_true ha5), strAt_ok ha2, strAt_ok ha2, (decide_eq_true ha4), strAt_ok ha2, (decide_eq_false ha3), strAt_ok ha2, (decide_eq_true ha1), trivial⟩⟩
                · replace h := ite_f h ha9
                  replace h := Option.some.inj h
                  subst h
                  exact ⟨⟨100, 9, [.br true, .el (.v (.int .u8 ta2)), .br false, .no, .el (.v (.int .u8 ta2)), .br true, .el (.v (.int .u8 ta2)), .el (.v (.int .u8 ta2)), .br true, .el (.v (.int .u8 ta2)), .br false, .el (.v (.int .u8 ta2)), .br true, .br false, .br true], [], [2], [], round_of (ob := [(!(ta2 == 95)) = true, (sa == 0) = false, (!(decide (ta2 ≤ 90))) = true, pureRun cx.P (Instr.index 9 (.string a0) (.int .i64 sa)) = some (.int .u8 ta2), (decide (ta2 ≤ 57)) = false, pureRun cx.P (Instr.index 9 (.string a0) (.int .i64 sa)) = some (.int .u8 ta2), (decide (ta2 ≥ 48)) = true, pureRun cx.P (Instr.index 9 (.string a0) (.int .i64 sa)) = some (.int .u8 ta2), pureRun cx.P (Instr.index 9 (.string a0) (.int .i64 sa)) = some (.int .u8 ta2), (decide (ta2 ≥ 65)) = true, pureRun cx.P (Instr.index 9 (.string a0) (.int .i64 sa)) = some (.int .u8 ta2), (decide (ta2 ≥ 97)) = false, pureRun cx.P (Instr.index 9 (.string a0) (.int .i64 sa)) = some (.int .u8 ta2), (decide (sa < (a0.size : Int))) = true]) (by kernel_rfl) ⟨(nott (eqf ha9)), (eqf ha8), (nott (decide_eq_false ha7)), strAt_ok ha2, (decide_eq_false ha6), strAt_ok ha2, (decide_eq_true ha5), strAt_ok ha2, strAt_ok ha2, (decide_eq_true ha4), strAt_ok ha2, (decide_eq_false ha3), strAt_ok ha2, (decide_eq_true ha1), trivial⟩⟩, nofun⟩
        · replace h := ite_f h ha5
          by_cases ha6 : ta2 ≤ 90
          · replace h := ite_t h ha6
            obtain ⟨ha7, h⟩ := grd_of h
            replace h := Option.some.inj h
            subst h
            exact ⟨100, 9, [.br true, .el (.v (.int .u8 ta2)), .br false, .no, .el (.v (.int .u8 ta2)), .br true, .el (.v (.int .u8 ta2)), .el (.v (.int .u8 ta2)), .br false, .no, .el (.v (.int .u8 ta2)), .br false, .no], [], [0, 3], [], round_of (ob := [inI64 (sa + 1), (!(decide (ta2 ≤ 90))) = false, pureRun cx.P (Instr.index 9 (.string a0) (.int .i64 sa)) = some (.int .u8 ta2), (decide (ta2 ≥ 48)) = false, pureRun cx.P (Instr.index 9 (.string a0) (.int .i64 sa)) = some (.int .u8 ta2), pureRun cx.P (Instr.index 9 (.string a0) (.int .i64 sa)) = some (.int .u8 ta2), (decide (ta2 ≥ 65)) = true, pureRun cx.P (Instr.index 9 (.string a0) (.int .i64 sa)) = some (.int .u8 ta2), (decide (ta2 ≥ 97)) = false, pureRun cx.P (Instr.index 9 (.string a0) (.int .i64 sa)) = some (.int .u8 ta2), (decide (sa < (a0.size : Int))) = true]) (by kernel_rfl) ⟨ha7, (notf (decide_eq_true ha6)), strAt_ok ha2, (decide_eq_false ha5), strAt_ok ha2, strAt_ok ha2, (decide_eq_true ha4), strAt_ok ha2, (decide_eq_false ha3), strAt_ok ha2, (decide_eq_true ha1), trivial⟩⟩
          · replace h := ite_f h ha6
            by_cases ha7 : sa = 0
            · replace h := ite_t h ha7
              replace h := Option.some.inj h
              subst h
              exact ⟨⟨100, 9, [.br true, .el (.v (.int .u8 ta2)), .br false, .no, .el (.v (.int .u8 ta2)), .br true, .el (.v (.int .u8 ta2)), .el (.v (.int .u8 ta2)), .br false, .no, .el (.v (.int .u8 ta2)), .br true, .br true, .no], [], [2], [], round_of (ob := [(sa == 0) = true, (!(decide (ta2 ≤ 90))) = true, pureRun cx.P (Instr.index 9 (.string a0) (.int .i64 sa)) = some (.int .u8 ta2), (decide (ta2 ≥ 48)) = false, pureRun cx.P (Instr.index 9 (.string a0) (.int .i64 sa)) = some (.int .u8 ta2), pureRun cx.P (Instr.index 9 (.string a0) (.int .i64 sa)) = some (.int .u8 ta2), (decide (ta2 ≥ 65)) = true, pureRun cx.P (Instr.index 9 (.string a0) (.int .i64 sa)) = some (.int .u8 ta2), (decide (ta2 ≥ 97)) = false, pureRun cx.P (Instr.index 9 (.string a0) (.int .i64 sa)) = some (.int .u8 ta2), (decide (sa < (a0.size : Int))) = true]) (by kernel_rfl) ⟨(eqt ha7), (nott (decide_eq_false ha6)), strAt_ok ha2, (decide_eq_false ha5), strAt_ok ha2, strAt_ok ha2, (decide_eq_true ha4), strAt_ok ha2, (decide_eq_false ha3), strAt_ok ha2, (decide_eq_true ha1), trivial⟩⟩, nofun⟩
            · replace h := ite_f h ha7
              by_cases ha8 : ta2 = 95
              · replace h := ite_t h ha8
                obtain ⟨ha9, h⟩ := grd_of h
                replace h := Option.some.inj h
                subst h
                exact ⟨100, 9, [.br true, .el (.v (.int .u8 ta2)), .br false, .no, .el (.v (.int .u8 ta2)), .br true, .el (.v (.int .u8 ta2)), .el (.v (.int .u8 ta2)), .br false, .no, .el (.v (.int .u8 ta2)), .br true, .br false, .br false], [], [0, 3], [], round_of (ob := [inI64 (sa + 1), (!(ta2 == 95)) = false, (sa == 0) = false, (!(decide (ta2 ≤ 90))) = true, pureRun cx.P (Instr.index 9 (.string a0) (.int .i64 sa)) = some (.int .u8 ta2), (decide (ta2 ≥ 48)) = false, pureRun cx.P (Instr.index 9 (.string a0) (.int .i64 sa)) = some (.int .u8 ta2), pureRun cx.P (Instr.index 9 (.string a0) (.int .i64 sa)) = some (.int .u8 ta2), (decide (ta2 ≥ 65)) = true, pureRun cx.P (Instr.index 9 (.string a0) (.int .i64 sa)) = some (.int .u8 ta2), (decide (ta2 ≥ 97)) = false, pureRun cx.P (Instr.index 9 (.string a0) (.int .i64 sa)) = some (.int .u8 ta2), (decide (sa < (a0.size : Int))) = true]) (by kernel_rfl) ⟨ha9, (notf (eqt ha8)), (eqf ha7), (nott (decide_eq_false ha6)), strAt_ok ha2, (decide_eq_false ha5), strAt_ok ha2, strAt_ok ha2, (decide_eq_true ha4), strAt_ok ha2, (decide_eq_false ha3), strAt_ok ha2, (decide_eq_true ha1), trivial⟩⟩
              · replace h := ite_f h ha8
                replace h := Option.some.inj h
                subst h
                exact ⟨⟨100, 9, [.br true, .el (.v (.int .u8 ta2)), .br false, .no, .el (.v (.int .u8 ta2)), .br true, .el (.v (.int .u8 ta2)), .el (.v (.int .u8 ta2)), .br false, .no, .el (.v (.int .u8 ta2)), .br true, .br false, .br true], [], [2], [], round_of (ob := [(!(ta2 == 95)) = true, (sa == 0) = false, (!(decide (ta2 ≤ 90))) = true, pureRun cx.P (Instr.index 9 (.string a0) (.int .i64 sa)) = some (.int .u8 ta2), (decide (ta2 ≥ 48)) = false, pureRun cx.P (Instr.index 9 (.string a0) (.int .i64 sa)) = some (.int .u8 ta2), pureRun cx.P (Instr.index 9 (.string a0) (.int .i64 sa)) = some (.int .u8 ta2), (decide (ta2 ≥ 65)) = true, pureRun cx.P (Instr.index 9 (.string a0) (.int .i64 sa)) = some (.int .u8 ta2), (decide (ta2 ≥ 97)) = false, pureRun cx.P (Instr.index 9 (.string a0) (.int .i64 sa)) = some (.int .u8 ta2), (decide (sa < (a0.size : Int))) = true]) (by kernel_rfl) ⟨(nott (eqf ha8)), (eqf ha7), (nott (decide_eq_false ha6)), strAt_ok ha2, (decide_eq_false ha5), strAt_ok ha2, strAt_ok ha2, (decide_eq_true ha4), strAt_ok ha2, (decide_eq_false ha3), strAt_ok ha2, (decide_eq_true ha1), trivial⟩⟩, nofun⟩
      · replace h := ite_f h ha4
        by_cases ha5 : ta2 ≥ 48
        · replace h := ite_t h ha5
          by_cases ha6 : ta2 ≤ 57
          · replace h := ite_t h ha6
            by_cases ha7 : sa = 0
            · replace h := ite_t h ha7
              replace h := Option.some.inj h
              subst h
              exact ⟨⟨100, 9, [.br true, .el (.v (.int .u8 ta2)), .br false, .no, .el (.v (.int .u8 ta2)), .br false, .el (.v (.int .u8 ta2)), .br true, .el (.v (.int .u8 ta2)), .br true, .no, .br true, .no], [], [2], [], round_of (ob := [(sa == 0) = true, (decide (ta2 ≤ 57)) = true, pureRun cx.P (Instr.index 9 (.string a0) (.int .i64 sa)) = some (.int .u8 ta2), (decide (ta2 ≥ 48)) = true, pureRun cx.P (Instr.index 9 (.string a0) (.int .i64 sa)) = some (.int .u8 ta2), (decide (ta2 ≥ 65)) = false, pureRun cx.P (Instr.index 9 (.string a0) (.int .i64 sa)) = some (.int .u8 ta2), (decide (ta2 ≥ 97)) = false, pureRun cx.P (Instr.index 9 (.string a0) (.int .i64 sa)) = some (.int .u8 ta2), (decide (sa < (a0.size : Int))) = true]) (by kernel_rfl) ⟨(eqt ha7), (decide_eq_true ha6), strAt_ok ha2, (decide_eq_true ha5), strAt_ok ha2, (decide_eq_false ha4), strAt_ok ha2, (decide_eq_false ha3), strAt_ok ha2, (decide_eq_true ha1), trivial⟩⟩, nofun⟩
            · replace h := ite_f h ha7
              obtain ⟨ha8, h⟩ := grd_of h
              replace h := Option.some.inj h
              subst h
              exact ⟨100, 9, [.br true, .el (.v (.int .u8 ta2)), .br false, .no, .el (.v (.int .u8 ta2)), .br false, .el (.v (.int .u8 ta2)), .br true, .el (.v (.int .u8 ta2)), .br true, .no, .br false, .no], [], [0, 3], [], round_of (ob := [inI64 (sa + 1), (sa == 0) = false, (decide (ta2 ≤ 57)) = true, pureRun cx.P (Instr.index 9 (.string a0) (.int .i64 sa)) = some (.int .u8 ta2), (decide (ta2 ≥ 48)) = true, pureRun cx.P (Instr.index 9 (.string a0) (.int .i64 sa)) = some (.int .u8 ta2), (decide (ta2 ≥ 65)) = false, pureRun cx.P (Instr.index 9 (.string a0) (.int .i64 sa)) = some (.int .u8 ta2), (decide (ta2 ≥ 97)) = false, pureRun cx.P (Instr.index 9 (.string a0) (.int .i64 sa)) = some (.int .u8 ta2), (decide (sa < (a0.size : Int))) = true]) (by kernel_rfl) ⟨ha8, (eqf ha7), (decide_eq_true ha6), strAt_ok ha2, (decide_eq_true ha5), strAt_ok ha2, (decide_eq_false ha4), strAt_ok ha2, (decide_eq_false ha3), strAt_ok ha2, (decide_eq_true ha1), trivial⟩⟩
          · replace h := ite_f h ha6
            by_cases ha7 : sa = 0
            · replace h := ite_t h ha7
              replace h := Option.some.inj h
              subst h
              exact ⟨⟨100, 9, [.br true, .el (.v (.int .u8 ta2)), .br false, .no, .el (.v (.int .u8 ta2)), .br false, .el (.v (.int .u8 ta2)), .br true, .el (.v (.int .u8 ta2)), .br false, .el (.v (.int .u8 ta2)), .no, .br true, .no], [], [2], [], round_of (ob := [(sa == 0) = true, pureRun cx.P (Instr.index 9 (.string a0) (.int .i64 sa)) = some (.int .u8 ta2), (decide (ta2 ≤ 57)) = false, pureRun cx.P (Instr.index 9 (.string a0) (.int .i64 sa)) = some (.int .u8 ta2), (decide (ta2 ≥ 48)) = true, pureRun cx.P (Instr.index 9 (.string a0) (.int .i64 sa)) = some (.int .u8 ta2), (decide (ta2 ≥ 65)) = false, pureRun cx.P (Instr.index 9 (.string a0) (.int .i64 sa)) = some (.int .u8 ta2), (decide (ta2 ≥ 97)) = false, pureRun cx.P (Instr.index 9 (.string a0) (.int .i64 sa)) = some (.int .u8 ta2), (decide (sa < (a0.size : Int))) = true]) (by kernel_rfl) ⟨(eqt ha7), strAt_ok ha2, (decide_eq_false ha6), strAt_ok ha2, (decide_eq_true ha5), strAt_ok ha2, (decide_eq_false ha4), strAt_ok ha2, (decide_eq_false ha3), strAt_ok ha2, (decide_eq_true ha1), trivial⟩⟩, nofun⟩
            · replace h := ite_f h ha7
              by_cases ha8 : ta2 = 95
              · replace h := ite_t h ha8
                obtain ⟨ha9, h⟩ := grd_of h
                replace h := Option.some.inj h
                subst h
                exact ⟨100, 9, [.br true, .el (.v (.int .u8 ta2)), .br false, .no, .el (.v (.int .u8 ta2)), .br false, .el (.v (.int .u8 ta2)), .br true, .el (.v (.int .u8 ta2)), .br false, .el (.v (.int .u8 ta2)), .no, .br false, .br false], [], [0, 3], [], round_of (ob := [inI64 (sa + 1), (!(ta2 == 95)) = false, (sa == 0) = false, pureRun cx.P (Instr.index 9 (.string a0) (.int .i64 sa)) = some (.int .u8 ta2), (decide (ta2 ≤ 57)) = false, pureRun cx.P (Instr.index 9 (.string a0) (.int .i64 sa)) = some (.int .u8 ta2), (decide (ta2 ≥ 48)) = true, pureRun cx.P (Instr.index 9 (.string a0) (.int .i64 sa)) = some (.int .u8 ta2), (decide (ta2 ≥ 65)) = false, pureRun cx.P (Instr.index 9 (.string a0) (.int .i64 sa)) = some (.int .u8 ta2), (decide (ta2 ≥ 97)) = false, pureRun cx.P (Instr.index 9 (.string a0) (.int .i64 sa)) = some (.int .u8 ta2), (decide (sa < (a0.size : Int))) = true]) (by kernel_rfl) ⟨ha9, (notf (eqt ha8)), (eqf ha7), strAt_ok ha2, (decide_eq_false ha6), strAt_ok ha2, (decide_eq_true ha5), strAt_ok ha2, (decide_eq_false ha4), strAt_ok ha2, (decide_eq_false ha3), strAt_ok ha2, (decide_eq_true ha1), trivial⟩⟩
              · replace h := ite_f h ha8
                replace h := Option.some.inj h
                subst h
                exact ⟨⟨100, 9, [.br true, .el (.v (.int .u8 ta2)), .br false, .no, .el (.v (.int .u8 ta2)), .br false, .el (.v (.int .u8 ta2)), .br true, .el (.v (.int .u8 ta2)), .br false, .el (.v (.int .u8 ta2)), .no, .br false, .br true], [], [2], [], round_of (ob := [(!(ta2 == 95)) = true, (sa == 0) = false, pureRun cx.P (Instr.index 9 (.string a0) (.int .i64 sa)) = some (.int .u8 ta2), (decide (ta2 ≤ 57)) = false, pureRun cx.P (Instr.index 9 (.string a0) (.int .i64 sa)) = some (.int .u8 ta2), (decide (ta2 ≥ 48)) = true, pureRun cx.P (Instr.index 9 (.string a0) (.int .i64 sa)) = some (.int .u8 ta2), (decide (ta2 ≥ 65)) = false, pureRun cx.P (Instr.index 9 (.string a0) (.int .i64 sa)) = some (.int .u8 ta2), (decide (ta2 ≥ 97)) = false, pureRun cx.P (Instr.index 9 (.string a0) (.int .i64 sa)) = some (.int .u8 ta2), (decide (sa < (a0.size : Int))) = true]) (by kernel_rfl) ⟨(nott (eqf ha8)), (eqf ha7), strAt_ok ha2, (decide_eq_false ha6), strAt_ok ha2, (decide_eq_true ha5), strAt_ok ha2, (decide_eq_false ha4), strAt_ok ha2, (decide_eq_false ha3), strAt_ok ha2, (decide_eq_true ha1), trivial⟩⟩, nofun⟩
        · replace h := ite_f h ha5
          by_cases ha6 : sa = 0
          · replace h := ite_t h ha6
            replace h := Option.some.inj h
            subst h
            exact ⟨⟨100, 9, [.br true, .el (.v (.int .u8 ta2)), .br false, .no, .el (.v (.int .u8 ta2)), .br false, .el (.v (.int .u8 ta2)), .br false, .no, .el (.v (.int .u8 ta2)), .no, .br true, .no], [], [2], [], round_of (ob := [(sa == 0) = true, pureRun cx.P (Instr.index 9 (.string a0) (.int .i64 sa)) = some (.int .u8 ta2), (decide (ta2 ≥ 48)) = false, pureRun cx.P (Instr.index 9 (.string a0) (.int .i64 sa)) = some (.int .u8 ta2), (decide (ta2 ≥ 65)) = false, pureRun cx.P (Instr.index 9 (.string a0) (.int .i64 sa)) = some (.int .u8 ta2), (decide (ta2 ≥ 97)) = false, pureRun cx.P (Instr.index 9 (.string a0) (.int .i64 sa)) = some (.int .u8 ta2), (decide (sa < (a0.size : Int))) = true]) (by kernel_rfl) ⟨(eqt ha6), strAt_ok ha2, (decide_eq_false ha5), strAt_ok ha2, (decide_eq_false ha4), strAt_ok ha2, (decide_eq_false ha3), strAt_ok ha2, (decide_eq_true ha1), trivial⟩⟩, nofun⟩
          · replace h := ite_f h ha6
            by_cases ha7 : ta2 = 95
            · replace h := ite_t h ha7
              obtain ⟨ha8, h⟩ := grd_of h
              replace h := Option.some.inj h
              subst h
              exact ⟨100, 9, [.br true, .el (.v (.int .u8 ta2)), .br false, .no, .el (.v (.int .u8 ta2)), .br false, .el (.v (.int .u8 ta2)), .br false, .no, .el (.v (.int .u8 ta2)), .no, .br false, .br false], [], [0, 3], [], round_of (ob := [inI64 (sa + 1), (!(ta2 == 95)) = false, (sa == 0) = false, pureRun cx.P (Instr.index 9 (.string a0) (.int .i64 sa)) = some (.int .u8 ta2), (decide (ta2 ≥ 48)) = false, pureRun cx.P (Instr.index 9 (.string a0) (.int .i64 sa)) = some (.int .u8 ta2), (decide (ta2 ≥ 65)) = false, pureRun cx.P (Instr.index 9 (.string a0) (.int .i64 sa)) = some (.int .u8 ta2), (decide (ta2 ≥ 97)) = false, pureRun cx.P (Instr.index 9 (.string a0) (.int .i64 sa)) = some (.int .u8 ta2), (decide (sa < (a0.size : Int))) = true]) (by kernel_rfl) ⟨ha8, (notf (eqt ha7)), (eqf ha6), strAt_ok ha2, (decide_eq_false ha5), strAt_ok ha2, (decide_eq_false ha4), strAt_ok ha2, (decide_eq_false ha3), strAt_ok ha2, (decide_eq_true ha1), trivial⟩⟩
            · replace h := ite_f h ha7
              replace h := Option.some.inj h
              subst h
              exact ⟨⟨100, 9, [.br true, .el (.v (.int .u8 ta2)), .br false, .no, .el (.v (.int .u8 ta2)), .br false, .el (.v (.int .u8 ta2)), .br false, .no, .el (.v (.int .u8 ta2)), .no, .br false, .br true], [], [2], [], round_of (ob := [(!(ta2 == 95)) = true, (sa == 0) = false, pureRun cx.P (Instr.index 9 (.string a0) (.int .i64 sa)) = some (.int .u8 ta2), (decide (ta2 ≥ 48)) = false, pureRun cx.P (Instr.index 9 (.string a0) (.int .i64 sa)) = some (.int .u8 ta2), (decide (ta2 ≥ 65)) = false, pureRun cx.P (Instr.index 9 (.string a0) (.int .i64 sa)) = some (.int .u8 ta2), (decide (ta2 ≥ 97)) = false, pureRun cx.P (Instr.index 9 (.string a0) (.int .i64 sa)) = some (.int .u8 ta2), (decide (sa < (a0.size : Int))) = true]) (by kernel_rfl) ⟨(nott (eqf ha7)), (eqf ha6), strAt_ok ha2, (decide_eq_false ha5), strAt_ok ha2, (decide_eq_false ha4), strAt_ok ha2, (decide_eq_false ha3), strAt_ok ha2, (decide_eq_true ha1), trivial⟩⟩, nofun⟩
  · replace h := ite_f h ha1
    replace h := Option.some.inj h
    subst h
    exact ⟨⟨100, 9, [.br false], [], [], [], round_of (ob := [(decide (sa < (a0.size : Int))) = false]) (by kernel_rfl) ⟨(decide_eq_false ha1), trivial⟩⟩, nofun⟩
def F_ref01_IsName (n : Nat) (a0 : ByteArray) : Option (Bool) :=
 if (a0.toList == (⟨#[]⟩ : ByteArray).toList) = true then
  some false
 else
 if (a0.size : Int) > 24 then
  some false
 else
 (loopF (F_ref01_IsName_L1 n a0) n 0).bind fun t3 => match t3 with
  | (.inl t3) => (
  some false)
  | (.inr t3) => (
  some true)
theorem c_ref01_IsName {n : Nat} {a0 : ByteArray} {r : Bool} (h : F_ref01_IsName n a0 = some r) : Computes cx 124 [.v (.string a0)] (B r) := by
  unfold F_ref01_IsName at h
  by_cases h1 : (a0.toList == (⟨#[]⟩ : ByteArray).toList) = true
  · replace h := ite_t h h1
    replace h := Option.some.inj h
    subst h
    exact run (n := 100) (f := 124) (args := [.v (.string a0)]) (orc := [.br true, .no]) (r := B false) (ob := [(a0.toList == (⟨#[]⟩ : ByteArray).toList) = true]) (by kernel_rfl) ⟨h1, trivial⟩
  · replace h := ite_f h h1
    by_cases h2 : (a0.size : Int) > 24
    · replace h := ite_t h h2
      replace h := Option.some.inj h
      subst h
      exact run (n := 100) (f := 124) (args := [.v (.string a0)]) (orc := [.br false, .br true]) (r := B false) (ob := [(decide ((a0.size : Int) > 24)) = true, (a0.toList == (⟨#[]⟩ : ByteArray).toList) = false]) (by kernel_rfl) ⟨(decide_eq_true h2), (bfalse h1), trivial⟩
    · replace h := ite_f h h2
      obtain ⟨t3, h3, h⟩ := bnd_of h
      rcases t3 with t3 | t3
      · replace h := Option.some.inj h
        subst h
        exact run (n := 100) (f := 124) (args := [.v (.string a0)]) (orc := [.br false, .br false, .lp [] [0, 3] [] .ret [(2, .d (B false))] [] 77]) (r := B false) (ob := [LoopN cx (loopAt cx.P 124 0) 67 0 false [(0, .d (.v (.string a0))), (3, .d (I 0))] [] .ret [(2, .d (B false))] [], (decide ((a0.size : Int) > 24)) = false, (a0.toList == (⟨#[]⟩ : ByteArray).toList) = false]) (by kernel_rfl) ⟨(loopF_to R_ref01_IsName_L1 h3), (decide_eq_false h2), (bfalse h1), trivial⟩
      · replace h := Option.some.inj h
        subst h
        exact run (n := 100) (f := 124) (args := [.v (.string a0)]) (orc := [.br false, .br false, .lp [] [0, 3] [] (.exit 0) [] [] 77]) (r := B true) (ob := [LoopN cx (loopAt cx.P 124 0) 67 0 false [(0, .d (.v (.string a0))), (3, .d (I 0))] [] (.exit 0) [] [], (decide ((a0.size : Int) > 24)) = false, (a0.toList == (⟨#[]⟩ : ByteArray).toList) = false]) (by kernel_rfl) ⟨(loopF_to R_ref01_IsName_L1 h3), (decide_eq_false h2), (bfalse h1), trivial⟩
def F_ref01_When (n : Nat) (a0 : Bool) (a1 : Int) : Option (Int) :=
 if a0 = true then
  some a1
 else
 some 0
theorem c_ref01_When {n : Nat} {a0 : Bool} {a1 : Int} {r : Int} (h : F_ref01_When n a0 a1 = some r) : Computes cx 16 [B a0, I a1] (I r) := by
  unfold F_ref01_When at h
  by_cases h1 : a0 = true
  · replace h := ite_t h h1
    replace h := Option.some.inj h
    subst h
    exact run (n := 100) (f := 16) (args := [B a0, I a1]) (orc := [.br true]) (r := I a1) (ob := [a0 = true]) (by kernel_rfl) ⟨h1, trivial⟩
  · replace h := ite_f h h1
    replace h := Option.some.inj h
    subst h
    exact run (n := 100) (f := 16) (args := [B a0, I a1]) (orc := [.br false]) (r := I 0) (ob := [a0 = false]) (by kernel_rfl) ⟨(bfalse h1), trivial⟩
def F_ref01_CheckName (n : Nat) (a0 : ByteArray) : Option (Int) :=
 (F_ref01_IsName n a0).bind fun t1 =>
 (F_ref01_When n (!t1) 8).bind fun t2 =>
 some t2
theorem c_ref01_CheckName {n : Nat} {a0 : ByteArray} {r : Int} (h : F_ref01_CheckName n a0 = some r) : Computes cx 72 [.v (.string a0)] (I r) := by
  unfold F_ref01_CheckName at h
  obtain ⟨t1, h1, h⟩ := bnd_of h
  obtain ⟨t2, h2, h⟩ := bnd_of h
  replace h := Option.some.inj h
  subst h
  exact run (n := 100) (f := 72) (args := [.v (.string a0)]) (orc := [.ret (B t1), .ret (I t2)]) (r := I t2) (ob := [Computes cx 16 [B (!t1), I 8] (I t2), Computes cx 124 [.v (.string a0)] (B t1)]) (by kernel_rfl) ⟨(c_ref01_When h2), (c_ref01_IsName h1), trivial⟩
def F_ref01_When_2 (n : Nat)  : Option (Int) :=
 some 3
theorem c_ref01_When_2 {n : Nat}  {r : Int} (h : F_ref01_When_2 n  = some r) : Computes cx 16 [B true, I 3] (I r) := by
  unfold F_ref01_When_2 at h
  replace h := Option.some.inj h
  subst h
  exact run (n := 100) (f := 16) (args := [B true, I 3]) (orc := [.no]) (r := I 3) (ob := []) (by kernel_rfl) trivial
def F_ref01_CheckRange (n : Nat) (a0 : Int) (a1 : Int) (a2 : Int) : Option (Int) :=
 if a0 < a1 then
  (F_ref01_When_2 n).bind fun t2 =>
  some t2
 else
 (F_ref01_When n (decide (a0 > a2)) 3).bind fun t2 =>
 some t2
theorem c_ref01_CheckRange {n : Nat} {a0 : Int} {a1 : Int} {a2 : Int} {r : Int} (h : F_ref01_CheckRange n a0 a1 a2 = some r) : Computes cx 32 [I a0, I a1, I a2] (I r) := by
  unfold F_ref01_CheckRange at h
  by_cases h1 : a0 < a1
  · replace h := ite_t h h1
    obtain ⟨t2, h2, h⟩ := bnd_of h
    replace h := Option.some.inj h
    subst h
    exact run (n := 100) (f := 32) (args := [I a0, I a1, I a2]) (orc := [.br true, .ret (I t2)]) (r := I t2) (ob := [Computes cx 16 [B true, I 3] (I t2), (decide (a0 < a1)) = true]) (by kernel_rfl) ⟨(c_ref01_When_2 h2), (decide_eq_true h1), trivial⟩
  · replace h := ite_f h h1
    obtain ⟨t2, h2, h⟩ := bnd_of h
    replace h := Option.some.inj h
    subst h
    exact run (n := 100) (f := 32) (args := [I a0, I a1, I a2]) (orc := [.br false, .ret (I t2)]) (r := I t2) (ob := [Computes cx 16 [B (decide (a0 > a2)), I 3] (I t2), (decide (a0 < a1)) = false]) (by kernel_rfl) ⟨(c_ref01_When h2), (decide_eq_false h1), trivial⟩
def F_ref01_First_L1 (n : Nat) (a0 : List D) (sa : (Int)) : Option (((Int)) ⊕ ((Int) ⊕ (Unit))) :=
 if sa < ((a0).length : Int) then
  (el un_i a0 sa).bind fun ta2 =>
  if ta2 = 0 then
  if inI64 (sa + 1) then
  some (.inl (sa + 1))
  else none
  else
  some (.inr (.inl ta2))
 else
 some (.inr (.inr ()))
noncomputable def T_ref01_First_L1 (a0 : List D) (sa : (Int)) : List (Nat × AV) := [(0, .d (.lst false 1 a0)), (3, .d (I sa))]
noncomputable def H_ref01_First_L1 (a0 : List D) (sa : (Int)) : List (Nat × Blk) := []
noncomputable def X_ref01_First_L1 (a0 : List D) (e : (Int) ⊕ (Unit)) : Ex := match e with
  | (.inl e) => .ret
  | (.inr e) => (.exit 0)
noncomputable def XT_ref01_First_L1 (a0 : List D) (e : (Int) ⊕ (Unit)) : List (Nat × AV) := match e with
  | (.inl e) => [(2, .d (I e))]
  | (.inr e) => []
noncomputable def XH_ref01_First_L1 (a0 : List D) (e : (Int) ⊕ (Unit)) : List (Nat × Blk) := match e with
  | (.inl e) => []
  | (.inr e) => []
theorem R_ref01_First_L1 {n : Nat} {a0 : List D} (sa : (Int)) (r) (h : F_ref01_First_L1 n a0 sa = some r) : Rd cx (loopAt cx.P 13 0) 19 0 false (T_ref01_First_L1 a0) (H_ref01_First_L1 a0) (X_ref01_First_L1 a0) (XT_ref01_First_L1 a0) (XH_ref01_First_L1 a0) sa r := by
  unfold F_ref01_First_L1 at h
  by_cases ha1 : sa < ((a0).length : Int)
  · replace h := ite_t h ha1
    obtain ⟨ta2, ha2, h⟩ := bnd_of h
    by_cases ha3 : ta2 = 0
    · replace h := ite_t h ha3
      obtain ⟨ha4, h⟩ := grd_of h
      replace h := Option.some.inj h
      subst h
      exact ⟨100, 2, [.br true, .el (I ta2), .br false], [], [0, 3], [], round_of (ob := [inI64 (sa + 1), (ta2 != 0) = false, (0 : Int) ≤ sa, nth (a0) (Int.toNat sa) = some (I ta2), (decide (sa < ((a0).length : Int))) = true]) (by kernel_rfl) ⟨ha4, (nef ha3), (el_ok un_i_ok ha2).1, (el_ok un_i_ok ha2).2, (decide_eq_true ha1), trivial⟩⟩
    · replace h := ite_f h ha3
      replace h := Option.some.inj h
      subst h
      exact ⟨⟨100, 2, [.br true, .el (I ta2), .br true, .el (I ta2)], [], [2], [], round_of (ob := [(0 : Int) ≤ sa, nth (a0) (Int.toNat sa) = some (I ta2), (ta2 != 0) = true, (0 : Int) ≤ sa, nth (a0) (Int.toNat sa) = some (I ta2), (decide (sa < ((a0).length : Int))) = true]) (by kernel_rfl) ⟨(el_ok un_i_ok ha2).1, (el_ok un_i_ok ha2).2, (net ha3), (el_ok un_i_ok ha2).1, (el_ok un_i_ok ha2).2, (decide_eq_true ha1), trivial⟩⟩, nofun⟩
  · replace h := ite_f h ha1
    replace h := Option.some.inj h
    subst h
    exact ⟨⟨100, 2, [.br false], [], [], [], round_of (ob := [(decide (sa < ((a0).length : Int))) = false]) (by kernel_rfl) ⟨(decide_eq_false ha1), trivial⟩⟩, nofun⟩
def F_ref01_First (n : Nat) (a0 : List D) : Option (Int) :=
 (loopF (F_ref01_First_L1 n a0) n 0).bind fun t1 => match t1 with
  | (.inl t1) => (
  some t1)
  | (.inr t1) => (
  some 0)
theorem c_ref01_First {n : Nat} {a0 : List D} {r : Int} (h : F_ref01_First n a0 = some r) : Computes cx 13 [.lst false 1 a0] (I r) := by
  unfold F_ref01_First at h
  obtain ⟨t1, h1, h⟩ := bnd_of h
  rcases t1 with t1 | t1
  · replace h := Option.some.inj h
    subst h
    exact run (n := 100) (f := 13) (args := [.lst false 1 a0]) (orc := [.lp [] [0, 3] [] .ret [(2, .d (I t1))] [] 27]) (r := I t1) (ob := [LoopN cx (loopAt cx.P 13 0) 19 0 false [(0, .d (.lst false 1 a0)), (3, .d (I 0))] [] .ret [(2, .d (I t1))] []]) (by kernel_rfl) ⟨(loopF_to R_ref01_First_L1 h1), trivial⟩
  · replace h := Option.some.inj h
    subst h
    exact run (n := 100) (f := 13) (args := [.lst false 1 a0]) (orc := [.lp [] [0, 3] [] (.exit 0) [] [] 27]) (r := I 0) (ob := [LoopN cx (loopAt cx.P 13 0) 19 0 false [(0, .d (.lst false 1 a0)), (3, .d (I 0))] [] (.exit 0) [] []]) (by kernel_rfl) ⟨(loopF_to R_ref01_First_L1 h1), trivial⟩
def F_ref04_checkParts (n : Nat) (a0 : Int) (a1 : Int) (a2 : Int) (a3 : Int) : Option (Int) :=
 if inI64 (0 - a3) then
 (F_ref01_CheckRange n a0 (0 - a3) a3).bind fun t2 =>
 (F_ref01_CheckRange n a1 (0 - a3) a3).bind fun t3 =>
 (F_ref01_CheckRange n a2 (0 - a3) a3).bind fun t4 =>
 (F_ref01_First n ([I t2, I t3, I t4])).bind fun t5 =>
 some t5
 else none
theorem c_ref04_checkParts {n : Nat} {a0 : Int} {a1 : Int} {a2 : Int} {a3 : Int} {r : Int} (h : F_ref04_checkParts n a0 a1 a2 a3 = some r) : Computes cx 73 [.agg [I a0, I a1, I a2], I a3] (I r) := by
  unfold F_ref04_checkParts at h
  obtain ⟨h1, h⟩ := grd_of h
  obtain ⟨t2, h2, h⟩ := bnd_of h
  obtain ⟨t3, h3, h⟩ := bnd_of h
  obtain ⟨t4, h4, h⟩ := bnd_of h
  obtain ⟨t5, h5, h⟩ := bnd_of h
  replace h := Option.some.inj h
  subst h
  exact run (n := 100) (f := 73) (args := [.agg [I a0, I a1, I a2], I a3]) (orc := [.ret (I t2), .ret (I t3), .ret (I t4), .ret (I t5)]) (r := I t5) (ob := [Computes cx 13 [.lst true 1 [I t2, I t3, I t4]] (I t5), Computes cx 32 [I a2, I (0 - a3), I a3] (I t4), inI64 (0 - a3), Computes cx 32 [I a1, I (0 - a3), I a3] (I t3), inI64 (0 - a3), Computes cx 32 [I a0, I (0 - a3), I a3] (I t2), inI64 (0 - a3)]) (by kernel_rfl) ⟨((c_ref01_First h5).le (.cons (.full _ _ _) (.nil)) (.refl _)), (c_ref01_CheckRange h4), h1, (c_ref01_CheckRange h3), h1, (c_ref01_CheckRange h2), h1, trivial⟩
def F_ref04_Cross (n : Nat) (a0 : Int) (a1 : Int) (a2 : Int) (a3 : Int) (a4 : Int) (a5 : Int) : Option (Int × Int × Int) :=
 if inI64 (a1 * a5) then
 if inI64 (a2 * a4) then
 if inI64 ((a1 * a5) - (a2 * a4)) then
 if inI64 (a2 * a3) then
 if inI64 (a0 * a5) then
 if inI64 ((a2 * a3) - (a0 * a5)) then
 if inI64 (a0 * a4) then
 if inI64 (a1 * a3) then
 if inI64 ((a0 * a4) - (a1 * a3)) then
 some (((a1 * a5) - (a2 * a4)), ((a2 * a3) - (a0 * a5)), ((a0 * a4) - (a1 * a3)))
 else none
 else none
 else none
 else none
 else none
 else none
 else none
 else none
 else none
theorem c_ref04_Cross {n : Nat} {a0 : Int} {a1 : Int} {a2 : Int} {a3 : Int} {a4 : Int} {a5 : Int} {r : Int × Int × Int} (h : F_ref04_Cross n a0 a1 a2 a3 a4 a5 = some r) : Computes cx 74 [.agg [I a0, I a1, I a2], .agg [I a3, I a4, I a5]] (.agg [I r.1, I r.2.1, I r.2.2]) := by
  unfold F_ref04_Cross at h
  obtain ⟨h1, h⟩ := grd_of h
  obtain ⟨h2, h⟩ := grd_of h
  obtain ⟨h3, h⟩ := grd_of h
  obtain ⟨h4, h⟩ := grd_of h
  obtain ⟨h5, h⟩ := grd_of h
  obtain ⟨h6, h⟩ := grd_of h
  obtain ⟨h7, h⟩ := grd_of h
  obtain ⟨h8, h⟩ := grd_of h
  obtain ⟨h9, h⟩ := grd_of h
  replace h := Option.some.inj h
  subst h
  exact run (n := 100) (f := 74) (args := [.agg [I a0, I a1, I a2], .agg [I a3, I a4, I a5]]) (orc := []) (r := .agg [I ((a1 * a5) - (a2 * a4)), I ((a2 * a3) - (a0 * a5)), I ((a0 * a4) - (a1 * a3))]) (ob := [inI64 ((a0 * a4) - (a1 * a3)), inI64 (a1 * a3), inI64 (a0 * a4), inI64 ((a2 * a3) - (a0 * a5)), inI64 (a0 * a5), inI64 (a2 * a3), inI64 ((a1 * a5) - (a2 * a4)), inI64 (a2 * a4), inI64 (a1 * a5)]) (by kernel_rfl) ⟨h9, h8, h7, h6, h5, h4, h3, h2, h1, trivial⟩
def F_ref04_CheckMirror (n : Nat) (a0 : ByteArray) (a1 : Int) (a2 : Int) (a3 : Int) (a4 : Int) (a5 : Int) (a6 : Int) (a7 : Int) (a8 : Int) (a9 : Int) : Option (Int) :=
 (F_ref01_CheckName n a0).bind fun t1 =>
 (F_ref04_checkParts n a1 a2 a3 4096).bind fun t2 =>
 (F_ref04_checkParts n a4 a5 a6 64).bind fun t3 =>
 (F_ref04_checkParts n a7 a8 a9 64).bind fun t4 =>
 (F_ref01_First n ([I t1, I t2, I t3, I t4])).bind fun t5 =>
 if t5 = 0 then
  (F_ref04_Cross n a4 a5 a6 a7 a8 a9).bind fun t7 =>
  (F_ref01_When n ((t7.1 == 0) && ((t7.2.1 == 0) && ((t7.2.2 == 0) && true))) 17).bind fun t8 =>
  some t8
 else
 some t5
theorem c_ref04_CheckMirror {n : Nat} {a0 : ByteArray} {a1 : Int} {a2 : Int} {a3 : Int} {a4 : Int} {a5 : Int} {a6 : Int} {a7 : Int} {a8 : Int} {a9 : Int} {r : Int} (h : F_ref04_CheckMirror n a0 a1 a2 a3 a4 a5 a6 a7 a8 a9 = some r) : Computes cx 14 [.agg [.v (.string a0), I a1, I a2, I a3, I a4, I a5, I a6, I a7, I a8, I a9]] (I r) := by
  unfold F_ref04_CheckMirror at h
  obtain ⟨t1, h1, h⟩ := bnd_of h
  obtain ⟨t2, h2, h⟩ := bnd_of h
  obtain ⟨t3, h3, h⟩ := bnd_of h
  obtain ⟨t4, h4, h⟩ := bnd_of h
  obtain ⟨t5, h5, h⟩ := bnd_of h
  by_cases h6 : t5 = 0
  · replace h := ite_t h h6
    obtain ⟨t7, h7, h⟩ := bnd_of h
    obtain ⟨t8, h8, h⟩ := bnd_of h
    replace h := Option.some.inj h
    subst h
    exact run (n := 100) (f := 14) (args := [.agg [.v (.string a0), I a1, I a2, I a3, I a4, I a5, I a6, I a7, I a8, I a9]]) (orc := [.ret (I t1), .ret (I t2), .ret (I t3), .ret (I t4), .ret (I t5), .br false, .ret (.agg [I t7.1, I t7.2.1, I t7.2.2]), .ret (I t8)]) (r := I t8) (ob := [Computes cx 16 [B ((t7.1 == 0) && ((t7.2.1 == 0) && ((t7.2.2 == 0) && true))), I 17] (I t8), Computes cx 74 [.agg [I a4, I a5, I a6], .agg [I a7, I a8, I a9]] (.agg [I t7.1, I t7.2.1, I t7.2.2]), (t5 != 0) = false, Computes cx 13 [.lst true 1 [I t1, I t2, I t3, I t4]] (I t5), Computes cx 73 [.agg [I a7, I a8, I a9], I 64] (I t4), Computes cx 73 [.agg [I a4, I a5, I a6], I 64] (I t3), Computes cx 73 [.agg [I a1, I a2, I a3], I 4096] (I t2), Computes cx 72 [.v (.string a0)] (I t1)]) (by kernel_rfl) ⟨(c_ref01_When h8), (c_ref04_Cross h7), (nef h6), ((c_ref01_First h5).le (.cons (.full _ _ _) (.nil)) (.refl _)), (c_ref04_checkParts h4), (c_ref04_checkParts h3), (c_ref04_checkParts h2), (c_ref01_CheckName h1), trivial⟩
  · replace h := ite_f h h6
    replace h := Option.some.inj h
    subst h
    exact run (n := 100) (f := 14) (args := [.agg [.v (.string a0), I a1, I a2, I a3, I a4, I a5, I a6, I a7, I a8, I a9]]) (orc := [.ret (I t1), .ret (I t2), .ret (I t3), .ret (I t4), .ret (I t5), .br true]) (r := I t5) (ob := [(t5 != 0) = true, Computes cx 13 [.lst true 1 [I t1, I t2, I t3, I t4]] (I t5), Computes cx 73 [.agg [I a7, I a8, I a9], I 64] (I t4), Computes cx 73 [.agg [I a4, I a5, I a6], I 64] (I t3), Computes cx 73 [.agg [I a1, I a2, I a3], I 4096] (I t2), Computes cx 72 [.v (.string a0)] (I t1)]) (by kernel_rfl) ⟨(net h6), ((c_ref01_First h5).le (.cons (.full _ _ _) (.nil)) (.refl _)), (c_ref04_checkParts h4), (c_ref04_checkParts h3), (c_ref04_checkParts h2), (c_ref01_CheckName h1), trivial⟩
def F_ref04_CheckMirrors_L1 (n : Nat) (a0 : List D) (sa : Int) (sb : (Int)) : Option (((Int)) ⊕ ((Unit) ⊕ (Unit))) :=
 if sb < sa then
  (el un_Asi9Z a0 sb).bind fun tb2 =>
  (el un_Asi9Z a0 sa).bind fun tb3 =>
  if (tb2.1.toList == tb3.1.toList) = true then
  some (.inr (.inl ()))
  else
  if inI64 (sb + 1) then
  some (.inl (sb + 1))
  else none
 else
 some (.inr (.inr ()))
noncomputable def T_ref04_CheckMirrors_L1 (a0 : List D) (sa : Int) (sb : (Int)) : List (Nat × AV) := [(0, .d (.lst false 10 a0)), (3, .d (I sa)), (5, .d (I sb))]
noncomputable def H_ref04_CheckMirrors_L1 (a0 : List D) (sa : Int) (sb : (Int)) : List (Nat × Blk) := []
noncomputable def X_ref04_CheckMirrors_L1 (a0 : List D) (sa : Int) (e : (Unit) ⊕ (Unit)) : Ex := match e with
  | (.inl e) => .ret
  | (.inr e) => (.exit 2)
noncomputable def XT_ref04_CheckMirrors_L1 (a0 : List D) (sa : Int) (e : (Unit) ⊕ (Unit)) : List (Nat × AV) := match e with
  | (.inl e) => [(2, .d (I 9))]
  | (.inr e) => [(0, .d (.lst false 10 a0)), (3, .d (I sa))]
noncomputable def XH_ref04_CheckMirrors_L1 (a0 : List D) (sa : Int) (e : (Unit) ⊕ (Unit)) : List (Nat × Blk) := match e with
  | (.inl e) => []
  | (.inr e) => []
theorem R_ref04_CheckMirrors_L1 {n : Nat} {a0 : List D} {sa : Int} (sb : (Int)) (r) (h : F_ref04_CheckMirrors_L1 n a0 sa sb = some r) : Rd cx (loopAt cx.P 27 1) 39 0 false (T_ref04_CheckMirrors_L1 a0 sa) (H_ref04_CheckMirrors_L1 a0 sa) (X_ref04_CheckMirrors_L1 a0 sa) (XT_ref04_CheckMirrors_L1 a0 sa) (XH_ref04_CheckMirrors_L1 a0 sa) sb r := by
  unfold F_ref04_CheckMirrors_L1 at h
  by_cases hb1 : sb < sa
  · replace h := ite_t h hb1
    obtain ⟨tb2, hb2, h⟩ := bnd_of h
    obtain ⟨tb3, hb3, h⟩ := bnd_of h
    by_cases hb4 : (tb2.1.toList == tb3.1.toList) = true
    · replace h := ite_t h hb4
      replace h := Option.some.inj h
      subst h
      exact ⟨⟨100, 18, [.br true, .el (.agg [.v (.string tb2.1), I tb2.2.1, I tb2.2.2.1, I tb2.2.2.2.1, I tb2.2.2.2.2.1, I tb2.2.2.2.2.2.1, I tb2.2.2.2.2.2.2.1, I tb2.2.2.2.2.2.2.2.1, I tb2.2.2.2.2.2.2.2.2.1, I tb2.2.2.2.2.2.2.2.2.2]), .el (.agg [.v (.string tb3.1), I tb3.2.1, I tb3.2.2.1, I tb3.2.2.2.1, I tb3.2.2.2.2.1, I tb3.2.2.2.2.2.1, I tb3.2.2.2.2.2.2.1, I tb3.2.2.2.2.2.2.2.1, I tb3.2.2.2.2.2.2.2.2.1, I tb3.2.2.2.2.2.2.2.2.2]), .br true], [], [2], [], round_of (ob := [(tb2.1.toList == tb3.1.toList) = true, (0 : Int) ≤ sa, nth (a0) (Int.toNat sa) = some (.agg [.v (.string tb3.1), I tb3.2.1, I tb3.2.2.1, I tb3.2.2.2.1, I tb3.2.2.2.2.1, I tb3.2.2.2.2.2.1, I tb3.2.2.2.2.2.2.1, I tb3.2.2.2.2.2.2.2.1, I tb3.2.2.2.2.2.2.2.2.1, I tb3.2.2.2.2.2.2.2.2.2]), (0 : Int) ≤ sb, nth (a0) (Int.toNat sb) = some (.agg [.v (.string tb2.1), I tb2.2.1, I tb2.2.2.1, I tb2.2.2.2.1, I tb2.2.2.2.2.1, I tb2.2.2.2.2.2.1, I tb2.2.2.2.2.2.2.1, I tb2.2.2.2.2.2.2.2.1, I tb2.2.2.2.2.2.2.2.2.1, I tb2.2.2.2.2.2.2.2.2.2]), (decide (sb < sa)) = true]) (by kernel_rfl) ⟨hb4, (el_ok un_Asi9Z_ok hb3).1, (el_ok un_Asi9Z_ok hb3).2, (el_ok un_Asi9Z_ok hb2).1, (el_ok un_Asi9Z_ok hb2).2, (decide_eq_true hb1), trivial⟩⟩, nofun⟩
    · replace h := ite_f h hb4
      obtain ⟨hb5, h⟩ := grd_of h
      replace h := Option.some.inj h
      subst h
      exact ⟨100, 18, [.br true, .el (.agg [.v (.string tb2.1), I tb2.2.1, I tb2.2.2.1, I tb2.2.2.2.1, I tb2.2.2.2.2.1, I tb2.2.2.2.2.2.1, I tb2.2.2.2.2.2.2.1, I tb2.2.2.2.2.2.2.2.1, I tb2.2.2.2.2.2.2.2.2.1, I tb2.2.2.2.2.2.2.2.2.2]), .el (.agg [.v (.string tb3.1), I tb3.2.1, I tb3.2.2.1, I tb3.2.2.2.1, I tb3.2.2.2.2.1, I tb3.2.2.2.2.2.1, I tb3.2.2.2.2.2.2.1, I tb3.2.2.2.2.2.2.2.1, I tb3.2.2.2.2.2.2.2.2.1, I tb3.2.2.2.2.2.2.2.2.2]), .br false], [], [0, 3, 5], [], round_of (ob := [inI64 (sb + 1), (tb2.1.toList == tb3.1.toList) = false, (0 : Int) ≤ sa, nth (a0) (Int.toNat sa) = some (.agg [.v (.string tb3.1), I tb3.2.1, I tb3.2.2.1, I tb3.2.2.2.1, I tb3.2.2.2.2.1, I tb3.2.2.2.2.2.1, I tb3.2.2.2.2.2.2.1, I tb3.2.2.2.2.2.2.2.1, I tb3.2.2.2.2.2.2.2.2.1, I tb3.2.2.2.2.2.2.2.2.2]), (0 : Int) ≤ sb, nth (a0) (Int.toNat sb) = some (.agg [.v (.string tb2.1), I tb2.2.1, I tb2.2.2.1, I tb2.2.2.2.1, I tb2.2.2.2.2.1, I tb2.2.2.2.2.2.1, I tb2.2.2.2.2.2.2.1, I tb2.2.2.2.2.2.2.2.1, I tb2.2.2.2.2.2.2.2.2.1, I tb2.2.2.2.2.2.2.2.2.2]), (decide (sb < sa)) = true]) (by kernel_rfl) ⟨hb5, (bfalse hb4), (el_ok un_Asi9Z_ok hb3).1, (el_ok un_Asi9Z_ok hb3).2, (el_ok un_Asi9Z_ok hb2).1, (el_ok un_Asi9Z_ok hb2).2, (decide_eq_true hb1), trivial⟩⟩
  · replace h := ite_f h hb1
    replace h := Option.some.inj h
    subst h
    exact ⟨⟨100, 18, [.br false], [], [0, 3], [], round_of (ob := [(decide (sb < sa)) = false]) (by kernel_rfl) ⟨(decide_eq_false hb1), trivial⟩⟩, nofun⟩
def F_ref04_CheckMirrors_L2 (n : Nat) (a0 : List D) (sa : (Int)) : Option (((Int)) ⊕ ((Int) ⊕ (Unit))) :=
 if sa < ((a0).length : Int) then
  (el un_Asi9Z a0 sa).bind fun ta2 =>
  (F_ref04_CheckMirror n ta2.1 ta2.2.1 ta2.2.2.1 ta2.2.2.2.1 ta2.2.2.2.2.1 ta2.2.2.2.2.2.1 ta2.2.2.2.2.2.2.1 ta2.2.2.2.2.2.2.2.1 ta2.2.2.2.2.2.2.2.2.1 ta2.2.2.2.2.2.2.2.2.2).bind fun ta3 =>
  if ta3 = 0 then
  (loopF (F_ref04_CheckMirrors_L1 n a0 sa) n 0).bind fun ta5 => match ta5 with
   | (.inl ta5) => (
   some (.inr (.inl 9)))
   | (.inr ta5) => (
   if inI64 (sa + 1) then
   some (.inl (sa + 1))
   else none)
  else
  some (.inr (.inl ta3))
 else
 some (.inr (.inr ()))
noncomputable def T_ref04_CheckMirrors_L2 (a0 : List D) (sa : (Int)) : List (Nat × AV) := [(0, .d (.lst false 10 a0)), (3, .d (I sa))]
noncomputable def H_ref04_CheckMirrors_L2 (a0 : List D) (sa : (Int)) : List (Nat × Blk) := []
noncomputable def X_ref04_CheckMirrors_L2 (a0 : List D) (e : (Int) ⊕ (Unit)) : Ex := match e with
  | (.inl e) => .ret
  | (.inr e) => (.exit 0)
noncomputable def XT_ref04_CheckMirrors_L2 (a0 : List D) (e : (Int) ⊕ (Unit)) : List (Nat × AV) := match e with
  | (.inl e) => [(2, .d (I e))]
  | (.inr e) => []
noncomputable def XH_ref04_CheckMirrors_L2 (a0 : List D) (e : (Int) ⊕ (Unit)) : List (Nat × Blk) := match e with
  | (.inl e) => []
  | (.inr e) => []
theorem R_ref04_CheckMirrors_L2 {n : Nat} {a0 : List D} (sa : (Int)) (r) (h : F_ref04_CheckMirrors_L2 n a0 sa = some r) : Rd cx (loopAt cx.P 27 0) 39 0 false (T_ref04_CheckMirrors_L2 a0) (H_ref04_CheckMirrors_L2 a0) (X_ref04_CheckMirrors_L2 a0) (XT_ref04_CheckMirrors_L2 a0) (XH_ref04_CheckMirrors_L2 a0) sa r := by
  unfold F_ref04_CheckMirrors_L2 at h
  by_cases ha1 : sa < ((a0).length : Int)
  · replace h := ite_t h ha1
    obtain ⟨ta2, ha2, h⟩ := bnd_of h
    obtain ⟨ta3, ha3, h⟩ := bnd_of h
    by_cases ha4 : ta3 = 0
    · replace h := ite_t h ha4
      obtain ⟨ta5, ha5, h⟩ := bnd_of h
      rcases ta5 with ta5 | ta5
      · replace h := Option.some.inj h
        subst h
        exact ⟨⟨100, 5, [.br true, .el (.agg [.v (.string ta2.1), I ta2.2.1, I ta2.2.2.1, I ta2.2.2.2.1, I ta2.2.2.2.2.1, I ta2.2.2.2.2.2.1, I ta2.2.2.2.2.2.2.1, I ta2.2.2.2.2.2.2.2.1, I ta2.2.2.2.2.2.2.2.2.1, I ta2.2.2.2.2.2.2.2.2.2]), .ret (I ta3), .br false, .lp [] [0, 3, 5] [] .ret [(2, .d (I 9))] [] 46], [], [2], [], round_of (ob := [LoopN cx (loopAt cx.P 27 1) 39 0 false [(0, .d (.lst false 10 a0)), (3, .d (I sa)), (5, .d (I 0))] [] .ret [(2, .d (I 9))] [], (ta3 != 0) = false, Computes cx 14 [.agg [.v (.string ta2.1), I ta2.2.1, I ta2.2.2.1, I ta2.2.2.2.1, I ta2.2.2.2.2.1, I ta2.2.2.2.2.2.1, I ta2.2.2.2.2.2.2.1, I ta2.2.2.2.2.2.2.2.1, I ta2.2.2.2.2.2.2.2.2.1, I ta2.2.2.2.2.2.2.2.2.2]] (I ta3), (0 : Int) ≤ sa, nth (a0) (Int.toNat sa) = some (.agg [.v (.string ta2.1), I ta2.2.1, I ta2.2.2.1, I ta2.2.2.2.1, I ta2.2.2.2.2.1, I ta2.2.2.2.2.2.1, I ta2.2.2.2.2.2.2.1, I ta2.2.2.2.2.2.2.2.1, I ta2.2.2.2.2.2.2.2.2.1, I ta2.2.2.2.2.2.2.2.2.2]), (decide (sa < ((a0).length : Int))) = true]) (by kernel_rfl) ⟨(loopF_to R_ref04_CheckMirrors_L1 ha5), (nef ha4), (c_ref04_CheckMirror ha3), (el_ok un_Asi9Z_ok ha2).1, (el_ok un_Asi9Z_ok ha2).2, (decide_eq_true ha1), trivial⟩⟩, nofun⟩
      · obtain ⟨ha6, h⟩ := grd_of h
        replace h := Option.some.inj h
        subst h
        exact ⟨100, 5, [.br true, .el (.agg [.v (.string ta2.1), I ta2.2.1, I ta2.2.2.1, I ta2.2.2.2.1, I ta2.2.2.2.2.1, I ta2.2.2.2.2.2.1, I ta2.2.2.2.2.2.2.1, I ta2.2.2.2.2.2.2.2.1, I ta2.2.2.2.2.2.2.2.2.1, I ta2.2.2.2.2.2.2.2.2.2]), .ret (I ta3), .br false, .lp [] [0, 3, 5] [] (.exit 2) [(0, .d (.lst false 10 a0)), (3, .d (I sa))] [] 46], [], [0, 3], [], round_of (ob := [inI64 (sa + 1), LoopN cx (loopAt cx.P 27 1) 39 0 false [(0, .d (.lst false 10 a0)), (3, .d (I sa)), (5, .d (I 0))] [] (.exit 2) [(0, .d (.lst false 10 a0)), (3, .d (I sa))] [], (ta3 != 0) = false, Computes cx 14 [.agg [.v (.string ta2.1), I ta2.2.1, I ta2.2.2.1, I ta2.2.2.2.1, I ta2.2.2.2.2.1, I ta2.2.2.2.2.2.1, I ta2.2.2.2.2.2.2.1, I ta2.2.2.2.2.2.2.2.1, I ta2.2.2.2.2.2.2.2.2.1, I ta2.2.2.2.2.2.2.2.2.2]] (I ta3), (0 : Int) ≤ sa, nth (a0) (Int.toNat sa) = some (.agg [.v (.string ta2.1), I ta2.2.1, I ta2.2.2.1, I ta2.2.2.2.1, I ta2.2.2.2.2.1, I ta2.2.2.2.2.2.1, I ta2.2.2.2.2.2.2.1, I ta2.2.2.2.2.2.2.2.1, I ta2.2.2.2.2.2.2.2.2.1, I ta2.2.2.2.2.2.2.2.2.2]), (decide (sa < ((a0).length : Int))) = true]) (by kernel_rfl) ⟨ha6, (loopF_to R_ref04_CheckMirrors_L1 ha5), (nef ha4), (c_ref04_CheckMirror ha3), (el_ok un_Asi9Z_ok ha2).1, (el_ok un_Asi9Z_ok ha2).2, (decide_eq_true ha1), trivial⟩⟩
    · replace h := ite_f h ha4
      replace h := Option.some.inj h
      subst h
      exact ⟨⟨100, 5, [.br true, .el (.agg [.v (.string ta2.1), I ta2.2.1, I ta2.2.2.1, I ta2.2.2.2.1, I ta2.2.2.2.2.1, I ta2.2.2.2.2.2.1, I ta2.2.2.2.2.2.2.1, I ta2.2.2.2.2.2.2.2.1, I ta2.2.2.2.2.2.2.2.2.1, I ta2.2.2.2.2.2.2.2.2.2]), .ret (I ta3), .br true], [], [2], [], round_of (ob := [(ta3 != 0) = true, Computes cx 14 [.agg [.v (.string ta2.1), I ta2.2.1, I ta2.2.2.1, I ta2.2.2.2.1, I ta2.2.2.2.2.1, I ta2.2.2.2.2.2.1, I ta2.2.2.2.2.2.2.1, I ta2.2.2.2.2.2.2.2.1, I ta2.2.2.2.2.2.2.2.2.1, I ta2.2.2.2.2.2.2.2.2.2]] (I ta3), (0 : Int) ≤ sa, nth (a0) (Int.toNat sa) = some (.agg [.v (.string ta2.1), I ta2.2.1, I ta2.2.2.1, I ta2.2.2.2.1, I ta2.2.2.2.2.1, I ta2.2.2.2.2.2.1, I ta2.2.2.2.2.2.2.1, I ta2.2.2.2.2.2.2.2.1, I ta2.2.2.2.2.2.2.2.2.1, I ta2.2.2.2.2.2.2.2.2.2]), (decide (sa < ((a0).length : Int))) = true]) (by kernel_rfl) ⟨(net ha4), (c_ref04_CheckMirror ha3), (el_ok un_Asi9Z_ok ha2).1, (el_ok un_Asi9Z_ok ha2).2, (decide_eq_true ha1), trivial⟩⟩, nofun⟩
  · replace h := ite_f h ha1
    replace h := Option.some.inj h
    subst h
    exact ⟨⟨100, 5, [.br false], [], [], [], round_of (ob := [(decide (sa < ((a0).length : Int))) = false]) (by kernel_rfl) ⟨(decide_eq_false ha1), trivial⟩⟩, nofun⟩
def F_ref04_CheckMirrors (n : Nat) (a0 : List D) : Option (Int) :=
 if ((a0).length : Int) > 64 then
  some 5
 else
 (loopF (F_ref04_CheckMirrors_L2 n a0) n 0).bind fun t2 => match t2 with
  | (.inl t2) => (
  some t2)
  | (.inr t2) => (
  some 0)
theorem c_ref04_CheckMirrors {n : Nat} {a0 : List D} {r : Int} (h : F_ref04_CheckMirrors n a0 = some r) : Computes cx 27 [.lst false 10 a0] (I r) := by
  unfold F_ref04_CheckMirrors at h
  by_cases h1 : ((a0).length : Int) > 64
  · replace h := ite_t h h1
    replace h := Option.some.inj h
    subst h
    exact run (n := 100) (f := 27) (args := [.lst false 10 a0]) (orc := [.br true]) (r := I 5) (ob := [(decide (((a0).length : Int) > 64)) = true]) (by kernel_rfl) ⟨(decide_eq_true h1), trivial⟩
  · replace h := ite_f h h1
    obtain ⟨t2, h2, h⟩ := bnd_of h
    rcases t2 with t2 | t2
    · replace h := Option.some.inj h
      subst h
      exact run (n := 100) (f := 27) (args := [.lst false 10 a0]) (orc := [.br false, .lp [] [0, 3] [] .ret [(2, .d (I t2))] [] 60]) (r := I t2) (ob := [LoopN cx (loopAt cx.P 27 0) 39 0 false [(0, .d (.lst false 10 a0)), (3, .d (I 0))] [] .ret [(2, .d (I t2))] [], (decide (((a0).length : Int) > 64)) = false]) (by kernel_rfl) ⟨(loopF_to R_ref04_CheckMirrors_L2 h2), (decide_eq_false h1), trivial⟩
    · replace h := Option.some.inj h
      subst h
      exact run (n := 100) (f := 27) (args := [.lst false 10 a0]) (orc := [.br false, .lp [] [0, 3] [] (.exit 0) [] [] 60]) (r := I 0) (ob := [LoopN cx (loopAt cx.P 27 0) 39 0 false [(0, .d (.lst false 10 a0)), (3, .d (I 0))] [] (.exit 0) [] [], (decide (((a0).length : Int) > 64)) = false]) (by kernel_rfl) ⟨(loopF_to R_ref04_CheckMirrors_L2 h2), (decide_eq_false h1), trivial⟩
def F_ref04_CheckDirection (n : Nat) (a0 : Int) (a1 : Int) (a2 : Int) : Option (Int) :=
 (F_ref04_checkParts n a0 a1 a2 1024).bind fun t1 =>
 (F_ref01_When n ((a0 == 0) && ((a1 == 0) && ((a2 == 0) && true))) 6).bind fun t2 =>
 (F_ref01_First n ([I t1, I t2])).bind fun t3 =>
 some t3
theorem c_ref04_CheckDirection {n : Nat} {a0 : Int} {a1 : Int} {a2 : Int} {r : Int} (h : F_ref04_CheckDirection n a0 a1 a2 = some r) : Computes cx 15 [.agg [I a0, I a1, I a2]] (I r) := by
  unfold F_ref04_CheckDirection at h
  obtain ⟨t1, h1, h⟩ := bnd_of h
  obtain ⟨t2, h2, h⟩ := bnd_of h
  obtain ⟨t3, h3, h⟩ := bnd_of h
  replace h := Option.some.inj h
  subst h
  exact run (n := 100) (f := 15) (args := [.agg [I a0, I a1, I a2]]) (orc := [.ret (I t1), .ret (I t2), .ret (I t3)]) (r := I t3) (ob := [Computes cx 13 [.lst true 1 [I t1, I t2]] (I t3), Computes cx 16 [B ((a0 == 0) && ((a1 == 0) && ((a2 == 0) && true))), I 6] (I t2), Computes cx 73 [.agg [I a0, I a1, I a2], I 1024] (I t1)]) (by kernel_rfl) ⟨((c_ref01_First h3).le (.cons (.full _ _ _) (.nil)) (.refl _)), (c_ref01_When h2), (c_ref04_checkParts h1), trivial⟩
def F_ref04_CheckTarget (n : Nat) (a0 : Int) (a1 : Int) (a2 : Int) : Option (Int) :=
 (F_ref04_checkParts n a0 a1 a2 4096).bind fun t1 =>
 some t1
theorem c_ref04_CheckTarget {n : Nat} {a0 : Int} {a1 : Int} {a2 : Int} {r : Int} (h : F_ref04_CheckTarget n a0 a1 a2 = some r) : Computes cx 24 [.agg [I a0, I a1, I a2]] (I r) := by
  unfold F_ref04_CheckTarget at h
  obtain ⟨t1, h1, h⟩ := bnd_of h
  replace h := Option.some.inj h
  subst h
  exact run (n := 100) (f := 24) (args := [.agg [I a0, I a1, I a2]]) (orc := [.ret (I t1)]) (r := I t1) (ob := [Computes cx 73 [.agg [I a0, I a1, I a2], I 4096] (I t1)]) (by kernel_rfl) ⟨(c_ref04_checkParts h1), trivial⟩
def F_field_checkK (n : Nat) (a0 : Int) : Option (Int) :=
 (F_field_within n a0 1 8).bind fun t1 =>
 some t1
theorem c_field_checkK {n : Nat} {a0 : Int} {r : Int} (h : F_field_checkK n a0 = some r) : Computes cx 82 [I a0] (I r) := by
  unfold F_field_checkK at h
  obtain ⟨t1, h1, h⟩ := bnd_of h
  replace h := Option.some.inj h
  subst h
  exact run (n := 100) (f := 82) (args := [I a0]) (orc := [.ret (I t1)]) (r := I t1) (ob := [Computes cx 88 [I a0, I 1, I 8] (I t1)]) (by kernel_rfl) ⟨(c_field_within h1), trivial⟩
def enc_Ai4Z (x : Int × Int × Int × Int) : D := .agg [I x.1, I x.2.1, I x.2.2.1, I x.2.2.2]
def un_Ai4Z : D → Option (Int × Int × Int × Int)
  | .agg [c0, c1, c2, c3] => (un_int .i64 c0).bind fun y0 => (un_int .i64 c1).bind fun y1 => (un_int .i64 c2).bind fun y2 => (un_int .i64 c3).bind fun y3 => some (y0, y1, y2, y3)
  | _ => none
theorem un_Ai4Z_ok {d : D} {x : Int × Int × Int × Int} (h : un_Ai4Z d = some x) : d = enc_Ai4Z x := by
  unfold un_Ai4Z at h
  split at h
  case h_2 => cases h
  obtain ⟨y0, h0, h⟩ := bnd_of h
  obtain ⟨y1, h1, h⟩ := bnd_of h
  obtain ⟨y2, h2, h⟩ := bnd_of h
  obtain ⟨y3, h3, h⟩ := bnd_of h
  cases h
  have e0 := un_int_ok h0
  have e1 := un_int_ok h1
  have e2 := un_int_ok h2
  have e3 := un_int_ok h3
  rw [e0, e1, e2, e3]; rfl
def F_field_Facets_c1 (n : Nat) (a0 : Int) (a1 : Int) (a2 : Int) (a3 : Int) : Option (Int × Int × Int) :=
 some (a1, a2, a3)
theorem c_field_Facets_c1 {n : Nat} {a0 : Int} {a1 : Int} {a2 : Int} {a3 : Int} {r : Int × Int × Int} (h : F_field_Facets_c1 n a0 a1 a2 a3 = some r) : Computes cx 96 [.agg [I a0, I a1, I a2, I a3]] (.agg [I r.1, I r.2.1, I r.2.2]) := by
  unfold F_field_Facets_c1 at h
  replace h := Option.some.inj h
  subst h
  exact run (n := 100) (f := 96) (args := [.agg [I a0, I a1, I a2, I a3]]) (orc := []) (r := .agg [I a1, I a2, I a3]) (ob := []) (by kernel_rfl) trivial
def F_field_Facets_L2 (n : Nat) (a0 : ByteArray) (a1 : Int) (a2 : Int) (a3 : Int) (a4 : Int) (a5 : Int) (a6 : Int) (a7 : Int) (a8 : Int) (a9 : Int) (a10 : Int) (sa : Int) (sb : (Unit) ⊕ (Int × List D)) : Option (((Unit) ⊕ (Int × List D)) ⊕ ((Unit) ⊕ (List D))) := match sb with
 | (.inl sb) => (
  if 0 < a10 then
  (F_field_times n a10 a1 a2 a3).bind fun tb2 =>
  if inI64 (1 - a10) then
  (F_field_times n (1 - a10) a4 a5 a6).bind fun tb4 =>
  if inI64 (2 * sa) then
  if inI64 ((2 * sa) + 1) then
  if inI64 (((2 * sa) + 1) - a10) then
  (F_field_times n (((2 * sa) + 1) - a10) a7 a8 a9).bind fun tb8 =>
  (F_field_plus n tb4.1 tb4.2.1 tb4.2.2 tb8.1 tb8.2.1 tb8.2.2).bind fun tb9 =>
  (F_field_plus n tb2.1 tb2.2.1 tb2.2.2 tb9.1 tb9.2.1 tb9.2.2).bind fun tb10 =>
  if inI64 (sa * a10) then
  if inI64 ((sa * a10) + 0) then
  some (.inl (.inr (1, [.agg [I ((sa * a10) + 0), I tb10.1, I tb10.2.1, I tb10.2.2]])))
  else none
  else none
  else none
  else none
  else none
  else none
  else
  some (.inr (.inl ())))
 | (.inr sb) => (
  if sb.1 < a10 then
  (F_field_times n a10 a1 a2 a3).bind fun tb2 =>
  if inI64 (2 * sb.1) then
  if inI64 ((2 * sb.1) + 1) then
  if inI64 (((2 * sb.1) + 1) - a10) then
  (F_field_times n (((2 * sb.1) + 1) - a10) a4 a5 a6).bind fun tb6 =>
  if inI64 (2 * sa) then
  if inI64 ((2 * sa) + 1) then
  if inI64 (((2 * sa) + 1) - a10) then
  (F_field_times n (((2 * sa) + 1) - a10) a7 a8 a9).bind fun tb10 =>
  (F_field_plus n tb6.1 tb6.2.1 tb6.2.2 tb10.1 tb10.2.1 tb10.2.2).bind fun tb11 =>
  (F_field_plus n tb2.1 tb2.2.1 tb2.2.2 tb11.1 tb11.2.1 tb11.2.2).bind fun tb12 =>
  if inI64 (sa * a10) then
  if inI64 ((sa * a10) + sb.1) then
  if roomP 32 ((sb.2).length + 1) then
  if inI64 (sb.1 + 1) then
  some (.inl (.inr ((sb.1 + 1), (sb.2 ++ ([.agg [I ((sa * a10) + sb.1), I tb12.1, I tb12.2.1, I tb12.2.2]] : List D)))))
  else none
  else none
  else none
  else none
  else none
  else none
  else none
  else none
  else none
  else none
  else
  some (.inr (.inr sb.2)))
noncomputable def T_field_Facets_L2 (a0 : ByteArray) (a1 : Int) (a2 : Int) (a3 : Int) (a4 : Int) (a5 : Int) (a6 : Int) (a7 : Int) (a8 : Int) (a9 : Int) (a10 : Int) (sa : Int) (sb : (Unit) ⊕ (Int × List D)) : List (Nat × AV) := match sb with
  | (.inl sb) => [(0, .own 31 0), (1, .ptr 20 0 0 0 0), (2, .ptr 19 0 0 0 0), (4, .d (I sa)), (7, .d (I a10)), (8, .d (I sa)), (11, .d (I a10)), (12, .d (I 0))]
  | (.inr sb) => [(0, .own 31 0), (1, .ptr 20 0 0 0 0), (2, .ptr 19 0 0 0 0), (4, .d (I sa)), (7, .d (I a10)), (8, .d (I sa)), (11, .d (I a10)), (12, .d (I sb.1))]
noncomputable def H_field_Facets_L2 (a0 : ByteArray) (a1 : Int) (a2 : Int) (a3 : Int) (a4 : Int) (a5 : Int) (a6 : Int) (a7 : Int) (a8 : Int) (a9 : Int) (a10 : Int) (sa : Int) (sb : (Unit) ⊕ (Int × List D)) : List (Nat × Blk) := match sb with
  | (.inl sb) => [(0, .box (.d (.agg [.v (.string a0), I a1, I a2, I a3, I a4, I a5, I a6, I a7, I a8, I a9]))), (19, .box (.d (.agg [.v (.string a0), I a1, I a2, I a3, I a4, I a5, I a6, I a7, I a8, I a9]))), (20, .box (.d (I a10))), (28, .box (.d (.lst true 0 []))), (31, .loop true [(6, .fn (.func 137) [] [.ptr 20 0 0 0 0, .ptr 19 0 0 0 0]), (4, .d (.lst true 0 [])), (2, .ptr 28 0 0 0 0), (1, .fn (.func 137) [] [.ptr 20 0 0 0 0, .ptr 19 0 0 0 0]), (0, .d (.lst true 0 []))] [7] (rangeAt cx.P 136 0).1 (rangeAt cx.P 136 0).2 13)]
  | (.inr sb) => [(0, .box (.d (.agg [.v (.string a0), I a1, I a2, I a3, I a4, I a5, I a6, I a7, I a8, I a9]))), (19, .box (.d (.agg [.v (.string a0), I a1, I a2, I a3, I a4, I a5, I a6, I a7, I a8, I a9]))), (20, .box (.d (I a10))), (28, .box (.own 81 0)), (31, .loop true [(6, .fn (.func 137) [] [.ptr 20 0 0 0 0, .ptr 19 0 0 0 0]), (4, .d (.lst true 0 [])), (2, .ptr 28 0 0 0 0), (1, .fn (.func 137) [] [.ptr 20 0 0 0 0, .ptr 19 0 0 0 0]), (0, .d (.lst true 0 []))] [7] (rangeAt cx.P 136 0).1 (rangeAt cx.P 136 0).2 13), (81, .row 0 4 sb.2)]
noncomputable def X_field_Facets_L2 (a0 : ByteArray) (a1 : Int) (a2 : Int) (a3 : Int) (a4 : Int) (a5 : Int) (a6 : Int) (a7 : Int) (a8 : Int) (a9 : Int) (a10 : Int) (sa : Int) (e : (Unit) ⊕ (List D)) : Ex := match e with
  | (.inl e) => (.exit 2)
  | (.inr e) => (.exit 2)
noncomputable def XT_field_Facets_L2 (a0 : ByteArray) (a1 : Int) (a2 : Int) (a3 : Int) (a4 : Int) (a5 : Int) (a6 : Int) (a7 : Int) (a8 : Int) (a9 : Int) (a10 : Int) (sa : Int) (e : (Unit) ⊕ (List D)) : List (Nat × AV) := match e with
  | (.inl e) => [(0, .own 31 0), (1, .ptr 20 0 0 0 0), (2, .ptr 19 0 0 0 0), (7, .d (I a10)), (8, .d (I sa))]
  | (.inr e) => [(0, .own 31 0), (1, .ptr 20 0 0 0 0), (2, .ptr 19 0 0 0 0), (7, .d (I a10)), (8, .d (I sa))]
noncomputable def XH_field_Facets_L2 (a0 : ByteArray) (a1 : Int) (a2 : Int) (a3 : Int) (a4 : Int) (a5 : Int) (a6 : Int) (a7 : Int) (a8 : Int) (a9 : Int) (a10 : Int) (sa : Int) (e : (Unit) ⊕ (List D)) : List (Nat × Blk) := match e with
  | (.inl e) => [(0, .box (.d (.agg [.v (.string a0), I a1, I a2, I a3, I a4, I a5, I a6, I a7, I a8, I a9]))), (19, .box (.d (.agg [.v (.string a0), I a1, I a2, I a3, I a4, I a5, I a6, I a7, I a8, I a9]))), (20, .box (.d (I a10))), (28, .box (.d (.lst true 0 []))), (31, .loop true [(6, .fn (.func 137) [] [.ptr 20 0 0 0 0, .ptr 19 0 0 0 0]), (4, .d (.lst true 0 [])), (2, .ptr 28 0 0 0 0), (1, .fn (.func 137) [] [.ptr 20 0 0 0 0, .ptr 19 0 0 0 0]), (0, .d (.lst true 0 []))] [7] (rangeAt cx.P 136 0).1 (rangeAt cx.P 136 0).2 13)]
  | (.inr e) => [(0, .box (.d (.agg [.v (.string a0), I a1, I a2, I a3, I a4, I a5, I a6, I a7, I a8, I a9]))), (19, .box (.d (.agg [.v (.string a0), I a1, I a2, I a3, I a4, I a5, I a6, I a7, I a8, I a9]))), (20, .box (.d (I a10))), (28, .box (.own 81 0)), (31, .loop true [(6, .fn (.func 137) [] [.ptr 20 0 0 0 0, .ptr 19 0 0 0 0]), (4, .d (.lst true 0 [])), (2, .ptr 28 0 0 0 0), (1, .fn (.func 137) [] [.ptr 20 0 0 0 0, .ptr 19 0 0 0 0]), (0, .d (.lst true 0 []))] [7] (rangeAt cx.P 136 0).1 (rangeAt cx.P 136 0).2 13), (81, .row 0 4 e)]
theorem R_field_Facets_L2 {n : Nat} {a0 : ByteArray} {a1 : Int} {a2 : Int} {a3 : Int} {a4 : Int} {a5 : Int} {a6 : Int} {a7 : Int} {a8 : Int} {a9 : Int} {a10 : Int} {sa : Int} (sb : (Unit) ⊕ (Int × List D)) (r) (h : F_field_Facets_L2 n a0 a1 a2 a3 a4 a5 a6 a7 a8 a9 a10 sa sb = some r) : Rd cx (loopAt cx.P 137 1) 49 32 false (T_field_Facets_L2 a0 a1 a2 a3 a4 a5 a6 a7 a8 a9 a10 sa) (H_field_Facets_L2 a0 a1 a2 a3 a4 a5 a6 a7 a8 a9 a10 sa) (X_field_Facets_L2 a0 a1 a2 a3 a4 a5 a6 a7 a8 a9 a10 sa) (XT_field_Facets_L2 a0 a1 a2 a3 a4 a5 a6 a7 a8 a9 a10 sa) (XH_field_Facets_L2 a0 a1 a2 a3 a4 a5 a6 a7 a8 a9 a10 sa) sb r := by
  unfold F_field_Facets_L2 at h
  rcases sb with sb | sb
  · by_cases hb1 : 0 < a10
    · replace h := ite_t h hb1
      obtain ⟨tb2, hb2, h⟩ := bnd_of h
      obtain ⟨hb3, h⟩ := grd_of h
      obtain ⟨tb4, hb4, h⟩ := bnd_of h
      obtain ⟨hb5, h⟩ := grd_of h
      obtain ⟨hb6, h⟩ := grd_of h
      obtain ⟨hb7, h⟩ := grd_of h
      obtain ⟨tb8, hb8, h⟩ := bnd_of h
      obtain ⟨tb9, hb9, h⟩ := bnd_of h
      obtain ⟨tb10, hb10, h⟩ := bnd_of h
      obtain ⟨hb11, h⟩ := grd_of h
      obtain ⟨hb12, h⟩ := grd_of h
      replace h := Option.some.inj h
      subst h
      exact ⟨100, 39, [.br true, .ret (.agg [I tb2.1, I tb2.2.1, I tb2.2.2]), .ret (.agg [I tb4.1, I tb4.2.1, I tb4.2.2]), .ret (.agg [I tb8.1, I tb8.2.1, I tb8.2.2]), .ret (.agg [I tb9.1, I tb9.2.1, I tb9.2.2]), .ret (.agg [I tb10.1, I tb10.2.1, I tb10.2.2]), .no, .no, .no], [], [0, 1, 2, 4, 7, 8, 11, 12], [0, 19, 20, 28, 31, 81], round_of (ob := [inI64 1, inI64 ((sa * a10) + 0), inI64 (sa * a10), Computes cx 89 [.agg [I tb2.1, I tb2.2.1, I tb2.2.2], .agg [I tb9.1, I tb9.2.1, I tb9.2.2]] (.agg [I tb10.1, I tb10.2.1, I tb10.2.2]), Computes cx 89 [.agg [I tb4.1, I tb4.2.1, I tb4.2.2], .agg [I tb8.1, I tb8.2.1, I tb8.2.2]] (.agg [I tb9.1, I tb9.2.1, I tb9.2.2]), Computes cx 90 [I (((2 * sa) + 1) - a10), .agg [I a7, I a8, I a9]] (.agg [I tb8.1, I tb8.2.1, I tb8.2.2]), inI64 (((2 * sa) + 1) - a10), inI64 ((2 * sa) + 1), inI64 (2 * sa), Computes cx 90 [I (1 - a10), .agg [I a4, I a5, I a6]] (.agg [I tb4.1, I tb4.2.1, I tb4.2.2]), inI64 (1 - a10), inI64 1, inI64 0, Computes cx 90 [I a10, .agg [I a1, I a2, I a3]] (.agg [I tb2.1, I tb2.2.1, I tb2.2.2]), (decide (0 < a10)) = true]) (by kernel_rfl) ⟨(by unfold inI64; omega), hb12, hb11, (c_field_plus hb10), (c_field_plus hb9), (c_field_times hb8), hb7, hb6, hb5, (c_field_times hb4), hb3, (by unfold inI64; omega), (by unfold inI64; omega), (c_field_times hb2), (decide_eq_true hb1), trivial⟩⟩
    · replace h := ite_f h hb1
      replace h := Option.some.inj h
      subst h
      exact ⟨⟨100, 39, [.br false], [], [0, 1, 2, 7, 8], [0, 19, 20, 28, 31], round_of (ob := [(decide (0 < a10)) = false]) (by kernel_rfl) ⟨(decide_eq_false hb1), trivial⟩⟩, nofun⟩
  · by_cases hb1 : sb.1 < a10
    · replace h := ite_t h hb1
      obtain ⟨tb2, hb2, h⟩ := bnd_of h
      obtain ⟨hb3, h⟩ := grd_of h
      obtain ⟨hb4, h⟩ := grd_of h
      obtain ⟨hb5, h⟩ := grd_of h
      obtain ⟨tb6, hb6, h⟩ := bnd_of h
      obtain ⟨hb7, h⟩ := grd_of h
      obtain ⟨hb8, h⟩ := grd_of h
      obtain ⟨hb9, h⟩ := grd_of h
      obtain ⟨tb10, hb10, h⟩ := bnd_of h
      obtain ⟨tb11, hb11, h⟩ := bnd_of h
      obtain ⟨tb12, hb12, h⟩ := bnd_of h
      obtain ⟨hb13, h⟩ := grd_of h
      obtain ⟨hb14, h⟩ := grd_of h
      obtain ⟨hb15, h⟩ := grd_of h
      obtain ⟨hb16, h⟩ := grd_of h
      replace h := Option.some.inj h
      subst h
      exact ⟨100, 82, [.br true, .ret (.agg [I tb2.1, I tb2.2.1, I tb2.2.2]), .ret (.agg [I tb6.1, I tb6.2.1, I tb6.2.2]), .ret (.agg [I tb10.1, I tb10.2.1, I tb10.2.2]), .ret (.agg [I tb11.1, I tb11.2.1, I tb11.2.2]), .ret (.agg [I tb12.1, I tb12.2.1, I tb12.2.2]), .br true, .no], [], [0, 1, 2, 4, 7, 8, 11, 12], [0, 19, 20, 28, 31, 81], round_of (ob := [inI64 (sb.1 + 1), room cx 152 ((sb.2).length + 1), inI64 ((sa * a10) + sb.1), inI64 (sa * a10), Computes cx 89 [.agg [I tb2.1, I tb2.2.1, I tb2.2.2], .agg [I tb11.1, I tb11.2.1, I tb11.2.2]] (.agg [I tb12.1, I tb12.2.1, I tb12.2.2]), Computes cx 89 [.agg [I tb6.1, I tb6.2.1, I tb6.2.2], .agg [I tb10.1, I tb10.2.1, I tb10.2.2]] (.agg [I tb11.1, I tb11.2.1, I tb11.2.2]), Computes cx 90 [I (((2 * sa) + 1) - a10), .agg [I a7, I a8, I a9]] (.agg [I tb10.1, I tb10.2.1, I tb10.2.2]), inI64 (((2 * sa) + 1) - a10), inI64 ((2 * sa) + 1), inI64 (2 * sa), Computes cx 90 [I (((2 * sb.1) + 1) - a10), .agg [I a4, I a5, I a6]] (.agg [I tb6.1, I tb6.2.1, I tb6.2.2]), inI64 (((2 * sb.1) + 1) - a10), inI64 ((2 * sb.1) + 1), inI64 (2 * sb.1), Computes cx 90 [I a10, .agg [I a1, I a2, I a3]] (.agg [I tb2.1, I tb2.2.1, I tb2.2.2]), (decide (sb.1 < a10)) = true]) (by kernel_rfl) ⟨hb16, (room_of (b := 32) (by kernel_rfl) (by decide) hb15), hb14, hb13, (c_field_plus hb12), (c_field_plus hb11), (c_field_times hb10), hb9, hb8, hb7, (c_field_times hb6), hb5, hb4, hb3, (c_field_times hb2), (decide_eq_true hb1), trivial⟩⟩
    · replace h := ite_f h hb1
      replace h := Option.some.inj h
      subst h
      exact ⟨⟨100, 82, [.br false], [], [0, 1, 2, 7, 8], [0, 19, 20, 28, 31, 81], round_of (ob := [(decide (sb.1 < a10)) = false]) (by kernel_rfl) ⟨(decide_eq_false hb1), trivial⟩⟩, nofun⟩
end Go.Proofs.YtojmcpnpojdnmaaGreatDoor
