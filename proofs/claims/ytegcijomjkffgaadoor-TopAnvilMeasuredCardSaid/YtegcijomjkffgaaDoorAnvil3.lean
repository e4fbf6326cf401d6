/-
  Printed by gsx.py: functions of the program as Lean functions, and that the code computes them.
-/
import Derived.Test.YtegcijomjkffgaaDoorAnvil2
set_option linter.unusedVariables false
set_option linter.unusedSimpArgs false
set_option linter.unnecessarySimpa false
set_option maxRecDepth 10000
namespace Go.Proofs.YtegcijomjkffgaaDoor
open Go.SX
/- spillage/spillagetop.TopAnvilMeasured: .agg [.v (.int .i16 a0), .v (.int .i16 a1)], .lst false 3 a2, .agg [I a3, I a4, I a5, I a6, I a7, I a8, .v (.int .u8 a9), .v (.int .u16 a10), .v (.int .u16 a11)] -/
def F_top_TopAnvilMeasured (n : Nat) (a0 : Int) (a1 : Int) (a2 : List D) (a3 : Int) (a4 : Int) (a5 : Int) (a6 : Int) (a7 : Int) (a8 : Int) (a9 : Int) (a10 : Int) (a11 : Int) : Option (Bool) :=
  if ((a2).length : Int) < 2 then
    (F_top_anvilPair n).bind fun t2 =>
    some t2
  else
  if ((a2).length : Int) > 6 then
    (F_top_anvilPair n).bind fun t3 =>
    some t3
  else
  (F_ref03_CheckState n a3 a4 a5 a6 a7 a8).bind fun t3 =>
  if t3 = 0 then
    if inI64 (100 + (IntKind.wrap .i64 a9)) then
    (loopF (F_top_TopAnvilMeasured_L1 n a0 a1 a2 a3 a4 a5 a6 a7 a8 a9 a10 a11) n (0, [])).bind fun t6 => match t6 with
      | (.inl t6) => (
        none /- false -/)
      | (.inr t6) => (
        if inI64 ((Int.tmod (IntKind.wrap .i64 a0) 21) - 10) then
        if inI64 ((Int.tmod (IntKind.wrap .i64 a0) 21) + 10) then
        if inI64 (((t6).length : Int) - 1) then
        if (0 : Int) ≤ 0 ∧ 0 ≤ (((t6).length : Int) - 1) ∧ (((t6).length : Int) - 1) ≤ ((t6).length : Int) ∧ (t6 = [] ∨ 3 = 3) then
        if roomP 24 (0 + (((t6.take (Int.toNat (((t6).length : Int) - 1))).drop (Int.toNat 0)) : List D).length) then
        if isNilL ((t6.take (Int.toNat (((t6).length : Int) - 1))).drop (Int.toNat 0)) = false then
        (F_drive_Fitted n ((t6.take (Int.toNat (((t6).length : Int) - 1))).drop (Int.toNat 0)) ((Int.tmod (IntKind.wrap .i64 a0) 21) - 10) ((Int.tmod (IntKind.wrap .i64 a0) 21) + 10)).bind fun t13 =>
        if t13.2 = 0 then
          if roomP 24 (0 + (t13.1).length) then
          if isNilL t13.1 = false then
          (F_drive_Has n t13.1 (Int.tmod (IntKind.wrap .i64 a0) 21) (Int.tmod (IntKind.wrap .i64 a1) 1001)).bind fun t17 =>
          (el un_Ai3Z t6 (((t6).length : Int) - 1)).bind fun t18 =>
          (F_drive_Refined n t13.1 t18.1 t18.2.1 t18.2.2).bind fun t19 =>
          if t17.2 = 0 then
            if t19.2 = 0 then
              if t17.1 = true then
                if roomP 24 (0 + (t19.1).length) then
                if isNilL t19.1 = false then
                (F_drive_Has n t19.1 (Int.tmod (IntKind.wrap .i64 a0) 21) (Int.tmod (IntKind.wrap .i64 a1) 1001)).bind fun t25 =>
                if t25.2 = 0 then
                  if t25.1 = true then
                    if inI64 (a4 - a3) then
                    if inI64 ((a4 - a3) + 1) then
                    if ((a4 - a3) + 1) ≠ 0 then
                    if inI64 (a3 + (Int.tmod (IntKind.wrap .i64 a10) ((a4 - a3) + 1))) then
                    if inI64 ((Int.tmod (IntKind.wrap .i64 a0) 21) * (a3 + (Int.tmod (IntKind.wrap .i64 a10) ((a4 - a3) + 1)))) then
                    if inI64 ((Int.tmod (IntKind.wrap .i64 a1) 1001) + ((Int.tmod (IntKind.wrap .i64 a0) 21) * (a3 + (Int.tmod (IntKind.wrap .i64 a10) ((a4 - a3) + 1))))) then
                    if inI64 (((Int.tmod (IntKind.wrap .i64 a1) 1001) + ((Int.tmod (IntKind.wrap .i64 a0) 21) * (a3 + (Int.tmod (IntKind.wrap .i64 a10) ((a4 - a3) + 1))))) - (IntKind.wrap .i64 a11)) then
                    if inI64 (((Int.tmod (IntKind.wrap .i64 a1) 1001) + ((Int.tmod (IntKind.wrap .i64 a0) 21) * (a3 + (Int.tmod (IntKind.wrap .i64 a10) ((a4 - a3) + 1))))) + (IntKind.wrap .i64 a11)) then
                    (F_drive_Inverted n a3 a4 a5 a6 a7 a8 t13.1 (((Int.tmod (IntKind.wrap .i64 a1) 1001) + ((Int.tmod (IntKind.wrap .i64 a0) 21) * (a3 + (Int.tmod (IntKind.wrap .i64 a10) ((a4 - a3) + 1))))) - (IntKind.wrap .i64 a11)) (((Int.tmod (IntKind.wrap .i64 a1) 1001) + ((Int.tmod (IntKind.wrap .i64 a0) 21) * (a3 + (Int.tmod (IntKind.wrap .i64 a10) ((a4 - a3) + 1))))) + (IntKind.wrap .i64 a11))).bind fun t36 =>
                    if t36.2 = 18 then
                      (F_top_anvilPair n).bind fun t38 =>
                      some t38
                    else
                    if t36.2 = 0 then
                      if t36.1 < a3 then
                        none /- false -/
                      else
                      if t36.1 > a4 then
                        none /- false -/
                      else
                      (F_drive_CheckInverted n a3 a4 a5 a6 a7 a8 t19.1 (((Int.tmod (IntKind.wrap .i64 a1) 1001) + ((Int.tmod (IntKind.wrap .i64 a0) 21) * (a3 + (Int.tmod (IntKind.wrap .i64 a10) ((a4 - a3) + 1))))) - (IntKind.wrap .i64 a11)) (((Int.tmod (IntKind.wrap .i64 a1) 1001) + ((Int.tmod (IntKind.wrap .i64 a0) 21) * (a3 + (Int.tmod (IntKind.wrap .i64 a10) ((a4 - a3) + 1))))) + (IntKind.wrap .i64 a11)) t36.1).bind fun t41 =>
                      if inI64 (t36.1 - a6) then
                      (F_drive_Moved n a3 a4 a5 a6 a7 a8 ([I (t36.1 - a6)])).bind fun t43 =>
                      if t41.2.2 = 0 then
                        if t43.2.2.2 = 0 then
                          if t41.1 < (((Int.tmod (IntKind.wrap .i64 a1) 1001) + ((Int.tmod (IntKind.wrap .i64 a0) 21) * (a3 + (Int.tmod (IntKind.wrap .i64 a10) ((a4 - a3) + 1))))) - (IntKind.wrap .i64 a11)) then
                            none /- false -/
                          else
                          if t41.2.1 > (((Int.tmod (IntKind.wrap .i64 a1) 1001) + ((Int.tmod (IntKind.wrap .i64 a0) 21) * (a3 + (Int.tmod (IntKind.wrap .i64 a10) ((a4 - a3) + 1))))) + (IntKind.wrap .i64 a11)) then
                            none /- false -/
                          else
                          if inI64 ((Int.tmod (IntKind.wrap .i64 a0) 21) * t43.2.1) then
                          if inI64 ((Int.tmod (IntKind.wrap .i64 a1) 1001) + ((Int.tmod (IntKind.wrap .i64 a0) 21) * t43.2.1)) then
                          if ((Int.tmod (IntKind.wrap .i64 a1) 1001) + ((Int.tmod (IntKind.wrap .i64 a0) 21) * t43.2.1)) < (((Int.tmod (IntKind.wrap .i64 a1) 1001) + ((Int.tmod (IntKind.wrap .i64 a0) 21) * (a3 + (Int.tmod (IntKind.wrap .i64 a10) ((a4 - a3) + 1))))) - (IntKind.wrap .i64 a11)) then
                            none /- false -/
                          else
                          if ((Int.tmod (IntKind.wrap .i64 a1) 1001) + ((Int.tmod (IntKind.wrap .i64 a0) 21) * t43.2.1)) > (((Int.tmod (IntKind.wrap .i64 a1) 1001) + ((Int.tmod (IntKind.wrap .i64 a0) 21) * (a3 + (Int.tmod (IntKind.wrap .i64 a10) ((a4 - a3) + 1))))) + (IntKind.wrap .i64 a11)) then
                            none /- false -/
                          else
                          if inI64 ((Int.tmod (IntKind.wrap .i64 a0) 21) * t43.2.2.1) then
                          if inI64 ((Int.tmod (IntKind.wrap .i64 a1) 1001) + ((Int.tmod (IntKind.wrap .i64 a0) 21) * t43.2.2.1)) then
                          if ((Int.tmod (IntKind.wrap .i64 a1) 1001) + ((Int.tmod (IntKind.wrap .i64 a0) 21) * t43.2.2.1)) < (((Int.tmod (IntKind.wrap .i64 a1) 1001) + ((Int.tmod (IntKind.wrap .i64 a0) 21) * (a3 + (Int.tmod (IntKind.wrap .i64 a10) ((a4 - a3) + 1))))) - (IntKind.wrap .i64 a11)) then
                            none /- false -/
                          else
                          if ((Int.tmod (IntKind.wrap .i64 a1) 1001) + ((Int.tmod (IntKind.wrap .i64 a0) 21) * t43.2.2.1)) > (((Int.tmod (IntKind.wrap .i64 a1) 1001) + ((Int.tmod (IntKind.wrap .i64 a0) 21) * (a3 + (Int.tmod (IntKind.wrap .i64 a10) ((a4 - a3) + 1))))) + (IntKind.wrap .i64 a11)) then
                            none /- false -/
                          else
                          (F_top_anvilPair n).bind fun t56 =>
                          some t56
                          else none
                          else none
                          else none
                          else none
                        else
                        none /- false -/
                      else
                      none /- false -/
                      else none
                    else
                    none /- false -/
                    else none
                    else none
                    else none
                    else none
                    else none
                    else none
                    else none
                    else none
                  else
                  none /- false -/
                else
                none /- false -/
                else none
                else none
              else
              none /- false -/
            else
            none /- false -/
          else
          none /- false -/
          else none
          else none
        else
        none /- false -/
        else none
        else none
        else none
        else none
        else none
        else none)
    else none
  else
  (F_top_anvilPair n).bind fun t5 =>
  some t5
theorem c_top_TopAnvilMeasured {n : Nat} {a0 : Int} {a1 : Int} {a2 : List D} {a3 : Int} {a4 : Int} {a5 : Int} {a6 : Int} {a7 : Int} {a8 : Int} {a9 : Int} {a10 : Int} {a11 : Int} {r : Bool} (h : F_top_TopAnvilMeasured n a0 a1 a2 a3 a4 a5 a6 a7 a8 a9 a10 a11 = some r) : Computes cx 3 [.agg [.v (.int .i16 a0), .v (.int .i16 a1)], .lst false 3 a2, .agg [I a3, I a4, I a5, I a6, I a7, I a8, .v (.int .u8 a9), .v (.int .u16 a10), .v (.int .u16 a11)]] (B r) := by
  unfold F_top_TopAnvilMeasured at h
  by_cases h1 : ((a2).length : Int) < 2
  · replace h := ite_t h h1
    obtain ⟨t2, h2, h⟩ := bnd_of h
    replace h := Option.some.inj h
    subst h
    exact run (n := 100) (f := 3) (args := [.agg [.v (.int .i16 a0), .v (.int .i16 a1)], .lst false 3 a2, .agg [I a3, I a4, I a5, I a6, I a7, I a8, .v (.int .u8 a9), .v (.int .u16 a10), .v (.int .u16 a11)]]) (orc := [.br true, .no, .no, .ret (B t2)]) (r := B t2) (ob := [Computes cx 5 [] (B t2), (decide (((a2).length : Int) < 2)) = true]) (by kernel_rfl) ⟨(c_top_anvilPair h2), (decide_eq_true h1), trivial⟩
  · replace h := ite_f h h1
    by_cases h2 : ((a2).length : Int) > 6
    · replace h := ite_t h h2
      obtain ⟨t3, h3, h⟩ := bnd_of h
      replace h := Option.some.inj h
      subst h
      exact run (n := 100) (f := 3) (args := [.agg [.v (.int .i16 a0), .v (.int .i16 a1)], .lst false 3 a2, .agg [I a3, I a4, I a5, I a6, I a7, I a8, .v (.int .u8 a9), .v (.int .u16 a10), .v (.int .u16 a11)]]) (orc := [.br false, .br true, .no, .ret (B t3)]) (r := B t3) (ob := [Computes cx 5 [] (B t3), (decide (((a2).length : Int) > 6)) = true, (decide (((a2).length : Int) < 2)) = false]) (by kernel_rfl) ⟨(c_top_anvilPair h3), (decide_eq_true h2), (decide_eq_false h1), trivial⟩
    · replace h := ite_f h h2
      obtain ⟨t3, h3, h⟩ := bnd_of h
      by_cases h4 : t3 = 0
      · replace h := ite_t h h4
        obtain ⟨h5, h⟩ := grd_of h
        obtain ⟨t6, h6, h⟩ := bnd_of h
        rcases t6 with t6 | t6
        · cases h
        · obtain ⟨h7, h⟩ := grd_of h
          obtain ⟨h8, h⟩ := grd_of h
          obtain ⟨h9, h⟩ := grd_of h
          obtain ⟨h10, h⟩ := grd_of h
          obtain ⟨h11, h⟩ := grd_of h
          obtain ⟨h12, h⟩ := grd_of h
          obtain ⟨t13, h13, h⟩ := bnd_of h
          by_cases h14 : t13.2 = 0
          · replace h := ite_t h h14
            obtain ⟨h15, h⟩ := grd_of h
            obtain ⟨h16, h⟩ := grd_of h
            obtain ⟨t17, h17, h⟩ := bnd_of h
            obtain ⟨t18, h18, h⟩ := bnd_of h
            obtain ⟨t19, h19, h⟩ := bnd_of h
            by_cases h20 : t17.2 = 0
            · replace h := ite_t h h20
              by_cases h21 : t19.2 = 0
              · replace h := ite_t h h21
                by_cases h22 : t17.1 = true
                · replace h := ite_t h h22
                  obtain ⟨h23, h⟩ := grd_of h
                  obtain ⟨h24, h⟩ := grd_of h
                  obtain ⟨t25, h25, h⟩ := bnd_of h
                  by_cases h26 : t25.2 = 0
                  · replace h := ite_t h h26
                    by_cases h27 : t25.1 = true
                    · replace h := ite_t h h27
                      obtain ⟨h28, h⟩ := grd_of h
                      obtain ⟨h29, h⟩ := grd_of h
                      obtain ⟨h30, h⟩ := grd_of h
                      obtain ⟨h31, h⟩ := grd_of h
                      obtain ⟨h32, h⟩ := grd_of h
                      obtain ⟨h33, h⟩ := grd_of h
                      obtain ⟨h34, h⟩ := grd_of h
                      obtain ⟨h35, h⟩ := grd_of h
                      obtain ⟨t36, h36, h⟩ := bnd_of h
                      by_cases h37 : t36.2 = 18
                      · replace h := ite_t h h37
                        obtain ⟨t38, h38, h⟩ := bnd_of h
                        replace h := Option.some.inj h
                        subst h
                        exact run (n := 100) (f := 3) (args := [.agg [.v (.int .i16 a0), .v (.int .i16 a1)], .lst false 3 a2, .agg [I a3, I a4, I a5, I a6, I a7, I a8, .v (.int .u8 a9), .v (.int .u16 a10), .v (.int .u16 a11)]]) (orc := [.br false, .br false, .ret (I t3), .br false, .lp [] [] [] .ret [] [] 0, .lp [10, 3] [5, 7, 8, 9, 10, 67, 68, 69] [1, 38] (.exit 0) [(5, .ptr 1 0 0 0 0), (7, .d (I (Int.tmod (IntKind.wrap .i64 a0) 21))), (8, .d (I (Int.tmod (IntKind.wrap .i64 a1) 1001))), (10, .own 38 0)] [(1, .box (.d (.agg [I a3, I a4, I a5, I a6, I a7, I a8, .v (.int .u8 a9), .v (.int .u16 a10), .v (.int .u16 a11)]))), (38, .row 0 3 t6)] 161, .lp [] [] [38] .ret [] [] 0, .br true, .br true, .br false, .ix 0, .ret (.tup [.lst false 3 t13.1, I t13.2]), .br false, .br true, .br false, .ret (.tup [B t17.1, I t17.2]), .br true, .br false, .ix 0, .el (.agg [I t18.1, I t18.2.1, I t18.2.2]), .ret (.tup [.lst false 3 t19.1, I t19.2]), .br false, .br false, .br false, .br true, .br false, .ret (.tup [B t25.1, I t25.2]), .br false, .br false, .br true, .br false, .ix 0, .ret (.tup [I t36.1, I t36.2]), .br true, .ret (B t38)]) (r := B t38) (ob := [Computes cx 5 [] (B t38), (t36.2 == 18) = true, Computes cx 12 [.agg [I a3, I a4, I a5], .agg [I a6, I a7, I a8], .lst false 3 t13.1, .agg [I (((Int.tmod (IntKind.wrap .i64 a1) 1001) + ((Int.tmod (IntKind.wrap .i64 a0) 21) * (a3 + (Int.tmod (IntKind.wrap .i64 a10) ((a4 - a3) + 1))))) - (IntKind.wrap .i64 a11)), I (((Int.tmod (IntKind.wrap .i64 a1) 1001) + ((Int.tmod (IntKind.wrap .i64 a0) 21) * (a3 + (Int.tmod (IntKind.wrap .i64 a10) ((a4 - a3) + 1))))) + (IntKind.wrap .i64 a11))]] (.tup [I t36.1, I t36.2]), isNilL t13.1 = false, room cx 75 (0 + (t13.1).length), inI64 (((Int.tmod (IntKind.wrap .i64 a1) 1001) + ((Int.tmod (IntKind.wrap .i64 a0) 21) * (a3 + (Int.tmod (IntKind.wrap .i64 a10) ((a4 - a3) + 1))))) + (IntKind.wrap .i64 a11)), inI64 (((Int.tmod (IntKind.wrap .i64 a1) 1001) + ((Int.tmod (IntKind.wrap .i64 a0) 21) * (a3 + (Int.tmod (IntKind.wrap .i64 a10) ((a4 - a3) + 1))))) - (IntKind.wrap .i64 a11)), inI64 ((Int.tmod (IntKind.wrap .i64 a1) 1001) + ((Int.tmod (IntKind.wrap .i64 a0) 21) * (a3 + (Int.tmod (IntKind.wrap .i64 a10) ((a4 - a3) + 1))))), inI64 ((Int.tmod (IntKind.wrap .i64 a0) 21) * (a3 + (Int.tmod (IntKind.wrap .i64 a10) ((a4 - a3) + 1)))), inI64 (a3 + (Int.tmod (IntKind.wrap .i64 a10) ((a4 - a3) + 1))), ((a4 - a3) + 1) ≠ 0, inI64 ((a4 - a3) + 1), inI64 (a4 - a3), (!t25.1) = false, (t25.2 != 0) = false, Computes cx 10 [.lst false 3 t19.1, I (Int.tmod (IntKind.wrap .i64 a0) 21), I (Int.tmod (IntKind.wrap .i64 a1) 1001)] (.tup [B t25.1, I t25.2]), isNilL t19.1 = false, room cx 75 (0 + (t19.1).length), (!t17.1) = false, (t19.2 != 0) = false, (t17.2 != 0) = false, Computes cx 11 [.lst false 3 t13.1, .agg [I t18.1, I t18.2.1, I t18.2.2]] (.tup [.lst false 3 t19.1, I t19.2]), (0 : Int) ≤ (((t6).length : Int) - 1), nth (t6) (Int.toNat (((t6).length : Int) - 1)) = some (.agg [I t18.1, I t18.2.1, I t18.2.2]), inI64 (((t6).length : Int) - 1), isNilL t13.1 = false, room cx 75 (0 + (t13.1).length), Computes cx 10 [.lst false 3 t13.1, I (Int.tmod (IntKind.wrap .i64 a0) 21), I (Int.tmod (IntKind.wrap .i64 a1) 1001)] (.tup [B t17.1, I t17.2]), isNilL t13.1 = false, room cx 75 (0 + (t13.1).length), (t13.2 != 0) = false, Computes cx 9 [.lst false 3 ((t6.take (Int.toNat (((t6).length : Int) - 1))).drop (Int.toNat 0)), .agg [I ((Int.tmod (IntKind.wrap .i64 a0) 21) - 10), I ((Int.tmod (IntKind.wrap .i64 a0) 21) + 10)]] (.tup [.lst false 3 t13.1, I t13.2]), isNilL ((t6.take (Int.toNat (((t6).length : Int) - 1))).drop (Int.toNat 0)) = false, room cx 51 (0 + (((t6.take (Int.toNat (((t6).length : Int) - 1))).drop (Int.toNat 0)) : List D).length), (0 : Int) ≤ 0 ∧ 0 ≤ (((t6).length : Int) - 1) ∧ (((t6).length : Int) - 1) ≤ ((t6).length : Int) ∧ (t6 = [] ∨ 3 = 3), inI64 (((t6).length : Int) - 1), inI64 ((Int.tmod (IntKind.wrap .i64 a0) 21) + 10), inI64 ((Int.tmod (IntKind.wrap .i64 a0) 21) - 10), LoopN cx (loopAt cx.P 3 0) 372 0 false [(5, .ptr 1 0 0 0 0), (7, .d (I (Int.tmod (IntKind.wrap .i64 a0) 21))), (8, .d (I (Int.tmod (IntKind.wrap .i64 a1) 1001))), (9, .d (I (100 + (IntKind.wrap .i64 a9)))), (10, .own 38 0), (67, .d (.lst false 3 a2)), (68, .d (I ((a2).length : Int))), (69, .d (I 0))] [(1, .box (.d (.agg [I a3, I a4, I a5, I a6, I a7, I a8, .v (.int .u8 a9), .v (.int .u16 a10), .v (.int .u16 a11)]))), (38, .row 0 3 [])] (.exit 0) [(5, .ptr 1 0 0 0 0), (7, .d (I (Int.tmod (IntKind.wrap .i64 a0) 21))), (8, .d (I (Int.tmod (IntKind.wrap .i64 a1) 1001))), (10, .own 38 0)] [(1, .box (.d (.agg [I a3, I a4, I a5, I a6, I a7, I a8, .v (.int .u8 a9), .v (.int .u16 a10), .v (.int .u16 a11)]))), (38, .row 0 3 t6)], inI64 (100 + (IntKind.wrap .i64 a9)), (1001 : Int) ≠ 0, (21 : Int) ≠ 0, (t3 != 0) = false, Computes cx 4 [.agg [I a3, I a4, I a5], .agg [I a6, I a7, I a8]] (I t3), (decide (((a2).length : Int) > 6)) = false, (decide (((a2).length : Int) < 2)) = false]) (by kernel_rfl) ⟨(c_top_anvilPair h38), (eqt h37), (c_drive_Inverted h36), h16, (room_of (b := 24) (by kernel_rfl) (by decide) h15), h35, h34, h33, h32, h31, h30, h29, h28, (notf h27), (nef h26), (c_drive_Has h25), h24, (room_of (b := 24) (by kernel_rfl) (by decide) h23), (notf h22), (nef h21), (nef h20), (c_drive_Refined h19), (el_ok un_Ai3Z_ok h18).1, (el_ok un_Ai3Z_ok h18).2, h9, h16, (room_of (b := 24) (by kernel_rfl) (by decide) h15), (c_drive_Has h17), h16, (room_of (b := 24) (by kernel_rfl) (by decide) h15), (nef h14), (c_drive_Fitted h13), h12, (room_of (b := 24) (by kernel_rfl) (by decide) h11), h10, h9, h8, h7, (loopF_to R_top_TopAnvilMeasured_L1 h6), h5, (by decide), (by decide), (nef h4), (c_ref03_CheckState h3), (decide_eq_false h2), (decide_eq_false h1), trivial⟩
                      · replace h := ite_f h h37
                        by_cases h38 : t36.2 = 0
                        · replace h := ite_t h h38
                          by_cases h39 : t36.1 < a3
                          · replace h := ite_t h h39
                            cases h
                          · replace h := ite_f h h39
                            by_cases h40 : t36.1 > a4
                            · replace h := ite_t h h40
                              cases h
                            · replace h := ite_f h h40
                              obtain ⟨t41, h41, h⟩ := bnd_of h
                              obtain ⟨h42, h⟩ := grd_of h
                              obtain ⟨t43, h43, h⟩ := bnd_of h
                              by_cases h44 : t41.2.2 = 0
                              · replace h := ite_t h h44
                                by_cases h45 : t43.2.2.2 = 0
                                · replace h := ite_t h h45
                                  by_cases h46 : t41.1 < (((Int.tmod (IntKind.wrap .i64 a1) 1001) + ((Int.tmod (IntKind.wrap .i64 a0) 21) * (a3 + (Int.tmod (IntKind.wrap .i64 a10) ((a4 - a3) + 1))))) - (IntKind.wrap .i64 a11))
                                  · replace h := ite_t h h46
                                    cases h
                                  · replace h := ite_f h h46
                                    by_cases h47 : t41.2.1 > (((Int.tmod (IntKind.wrap .i64 a1) 1001) + ((Int.tmod (IntKind.wrap .i64 a0) 21) * (a3 + (Int.tmod (IntKind.wrap .i64 a10) ((a4 - a3) + 1))))) + (IntKind.wrap .i64 a11))
                                    · replace h := ite_t h h47
                                      cases h
                                    · replace h := ite_f h h47
                                      obtain ⟨h48, h⟩ := grd_of h
                                      obtain ⟨h49, h⟩ := grd_of h
                                      by_cases h50 : ((Int.tmod (IntKind.wrap .i64 a1) 1001) + ((Int.tmod (IntKind.wrap .i64 a0) 21) * t43.2.1)) < (((Int.tmod (IntKind.wrap .i64 a1) 1001) + ((Int.tmod (IntKind.wrap .i64 a0) 21) * (a3 + (Int.tmod (IntKind.wrap .i64 a10) ((a4 - a3) + 1))))) - (IntKind.wrap .i64 a11))
                                      · replace h := ite_t h h50
                                        cases h
                                      · replace h := ite_f h h50
                                        by_cases h51 : ((Int.tmod (IntKind.wrap .i64 a1) 1001) + ((Int.tmod (IntKind.wrap .i64 a0) 21) * t43.2.1)) > (((Int.tmod (IntKind.wrap .i64 a1) 1001) + ((Int.tmod (IntKind.wrap .i64 a0) 21) * (a3 + (Int.tmod (IntKind.wrap .i64 a10) ((a4 - a3) + 1))))) + (IntKind.wrap .i64 a11))
                                        · replace h := ite_t h h51
                                          cases h
                                        · replace h := ite_f h h51
                                          obtain ⟨h52, h⟩ := grd_of h
                                          obtain ⟨h53, h⟩ := grd_of h
                                          by_cases h54 : ((Int.tmod (IntKind.wrap .i64 a1) 1001) + ((Int.tmod (IntKind.wrap .i64 a0) 21) * t43.2.2.1)) < (((Int.tmod (IntKind.wrap .i64 a1) 1001) + ((Int.tmod (IntKind.wrap .i64 a0) 21) * (a3 + (Int.tmod (IntKind.wrap .i64 a10) ((a4 - a3) + 1))))) - (IntKind.wrap .i64 a11))
                                          · replace h := ite_t h h54
                                            cases h
                                          · replace h := ite_f h h54
                                            by_cases h55 : ((Int.tmod (IntKind.wrap .i64 a1) 1001) + ((Int.tmod (IntKind.wrap .i64 a0) 21) * t43.2.2.1)) > (((Int.tmod (IntKind.wrap .i64 a1) 1001) + ((Int.tmod (IntKind.wrap .i64 a0) 21) * (a3 + (Int.tmod (IntKind.wrap .i64 a10) ((a4 - a3) + 1))))) + (IntKind.wrap .i64 a11))
                                            · replace h := ite_t h h55
                                              cases h
                                            · replace h := ite_f h h55
                                              obtain ⟨t56, h56, h⟩ := bnd_of h
                                              replace h := Option.some.inj h
                                              subst h
                                              exact run (n := 100) (f := 3) (args := [.agg [.v (.int .i16 a0), .v (.int .i16 a1)], .lst false 3 a2, .agg [I a3, I a4, I a5, I a6, I a7, I a8, .v (.int .u8 a9), .v (.int .u16 a10), .v (.int .u16 a11)]]) (orc := [.br false, .br false, .ret (I t3), .br false, .lp [] [] [] .ret [] [] 0, .lp [10, 3] [5, 7, 8, 9, 10, 67, 68, 69] [1, 38] (.exit 0) [(5, .ptr 1 0 0 0 0), (7, .d (I (Int.tmod (IntKind.wrap .i64 a0) 21))), (8, .d (I (Int.tmod (IntKind.wrap .i64 a1) 1001))), (10, .own 38 0)] [(1, .box (.d (.agg [I a3, I a4, I a5, I a6, I a7, I a8, .v (.int .u8 a9), .v (.int .u16 a10), .v (.int .u16 a11)]))), (38, .row 0 3 t6)] 161, .lp [] [] [38] .ret [] [] 0, .br true, .br true, .br false, .ix 0, .ret (.tup [.lst false 3 t13.1, I t13.2]), .br false, .br true, .br false, .ret (.tup [B t17.1, I t17.2]), .br true, .br false, .ix 0, .el (.agg [I t18.1, I t18.2.1, I t18.2.2]), .ret (.tup [.lst false 3 t19.1, I t19.2]), .br false, .br false, .br false, .br true, .br false, .ret (.tup [B t25.1, I t25.2]), .br false, .br false, .br true, .br false, .ix 0, .ret (.tup [I t36.1, I t36.2]), .br false, .br false, .br false, .br false, .br true, .br false, .ix 0, .ret (.tup [.agg [I t41.1, I t41.2.1], I t41.2.2]), .ret (.tup [.agg [I t43.1, I t43.2.1, I t43.2.2.1], I t43.2.2.2]), .br false, .br false, .br false, .br false, .no, .no, .br false, .br false, .no, .no, .br false, .br false, .no, .no, .ret (B t56)]) (r := B t56) (ob := [Computes cx 5 [] (B t56), inI64 2, (decide (((Int.tmod (IntKind.wrap .i64 a1) 1001) + ((Int.tmod (IntKind.wrap .i64 a0) 21) * t43.2.2.1)) > (((Int.tmod (IntKind.wrap .i64 a1) 1001) + ((Int.tmod (IntKind.wrap .i64 a0) 21) * (a3 + (Int.tmod (IntKind.wrap .i64 a10) ((a4 - a3) + 1))))) + (IntKind.wrap .i64 a11)))) = false, (decide (((Int.tmod (IntKind.wrap .i64 a1) 1001) + ((Int.tmod (IntKind.wrap .i64 a0) 21) * t43.2.2.1)) < (((Int.tmod (IntKind.wrap .i64 a1) 1001) + ((Int.tmod (IntKind.wrap .i64 a0) 21) * (a3 + (Int.tmod (IntKind.wrap .i64 a10) ((a4 - a3) + 1))))) - (IntKind.wrap .i64 a11)))) = false, inI64 ((Int.tmod (IntKind.wrap .i64 a1) 1001) + ((Int.tmod (IntKind.wrap .i64 a0) 21) * t43.2.2.1)), inI64 ((Int.tmod (IntKind.wrap .i64 a0) 21) * t43.2.2.1), inI64 1, (decide (((Int.tmod (IntKind.wrap .i64 a1) 1001) + ((Int.tmod (IntKind.wrap .i64 a0) 21) * t43.2.1)) > (((Int.tmod (IntKind.wrap .i64 a1) 1001) + ((Int.tmod (IntKind.wrap .i64 a0) 21) * (a3 + (Int.tmod (IntKind.wrap .i64 a10) ((a4 - a3) + 1))))) + (IntKind.wrap .i64 a11)))) = false, (decide (((Int.tmod (IntKind.wrap .i64 a1) 1001) + ((Int.tmod (IntKind.wrap .i64 a0) 21) * t43.2.1)) < (((Int.tmod (IntKind.wrap .i64 a1) 1001) + ((Int.tmod (IntKind.wrap .i64 a0) 21) * (a3 + (Int.tmod (IntKind.wrap .i64 a10) ((a4 - a3) + 1))))) - (IntKind.wrap .i64 a11)))) = false, inI64 ((Int.tmod (IntKind.wrap .i64 a1) 1001) + ((Int.tmod (IntKind.wrap .i64 a0) 21) * t43.2.1)), inI64 ((Int.tmod (IntKind.wrap .i64 a0) 21) * t43.2.1), (decide (t41.2.1 > (((Int.tmod (IntKind.wrap .i64 a1) 1001) + ((Int.tmod (IntKind.wrap .i64 a0) 21) * (a3 + (Int.tmod (IntKind.wrap .i64 a10) ((a4 - a3) + 1))))) + (IntKind.wrap .i64 a11)))) = false, (decide (t41.1 < (((Int.tmod (IntKind.wrap .i64 a1) 1001) + ((Int.tmod (IntKind.wrap .i64 a0) 21) * (a3 + (Int.tmod (IntKind.wrap .i64 a10) ((a4 - a3) + 1))))) - (IntKind.wrap .i64 a11)))) = false, (t43.2.2.2 != 0) = false, (t41.2.2 != 0) = false, Computes cx 14 [.agg [I a3, I a4, I a5], .agg [I a6, I a7, I a8], .lst true 1 [I (t36.1 - a6)]] (.tup [.agg [I t43.1, I t43.2.1, I t43.2.2.1], I t43.2.2.2]), inI64 (t36.1 - a6), Computes cx 13 [.agg [I a3, I a4, I a5], .agg [I a6, I a7, I a8], .lst false 3 t19.1, .agg [I (((Int.tmod (IntKind.wrap .i64 a1) 1001) + ((Int.tmod (IntKind.wrap .i64 a0) 21) * (a3 + (Int.tmod (IntKind.wrap .i64 a10) ((a4 - a3) + 1))))) - (IntKind.wrap .i64 a11)), I (((Int.tmod (IntKind.wrap .i64 a1) 1001) + ((Int.tmod (IntKind.wrap .i64 a0) 21) * (a3 + (Int.tmod (IntKind.wrap .i64 a10) ((a4 - a3) + 1))))) + (IntKind.wrap .i64 a11))], I t36.1] (.tup [.agg [I t41.1, I t41.2.1], I t41.2.2]), isNilL t19.1 = false, room cx 75 (0 + (t19.1).length), (decide (t36.1 > a4)) = false, (decide (t36.1 < a3)) = false, (t36.2 != 0) = false, (t36.2 == 18) = false, Computes cx 12 [.agg [I a3, I a4, I a5], .agg [I a6, I a7, I a8], .lst false 3 t13.1, .agg [I (((Int.tmod (IntKind.wrap .i64 a1) 1001) + ((Int.tmod (IntKind.wrap .i64 a0) 21) * (a3 + (Int.tmod (IntKind.wrap .i64 a10) ((a4 - a3) + 1))))) - (IntKind.wrap .i64 a11)), I (((Int.tmod (IntKind.wrap .i64 a1) 1001) + ((Int.tmod (IntKind.wrap .i64 a0) 21) * (a3 + (Int.tmod (IntKind.wrap .i64 a10) ((a4 - a3) + 1))))) + (IntKind.wrap .i64 a11))]] (.tup [I t36.1, I t36.2]), isNilL t13.1 = false, room cx 75 (0 + (t13.1).length), inI64 (((Int.tmod (IntKind.wrap .i64 a1) 1001) + ((Int.tmod (IntKind.wrap .i64 a0) 21) * (a3 + (Int.tmod (IntKind.wrap .i64 a10) ((a4 - a3) + 1))))) + (IntKind.wrap .i64 a11)), inI64 (((Int.tmod (IntKind.wrap .i64 a1) 1001) + ((Int.tmod (IntKind.wrap .i64 a0) 21) * (a3 + (Int.tmod (IntKind.wrap .i64 a10) ((a4 - a3) + 1))))) - (IntKind.wrap .i64 a11)), inI64 ((Int.tmod (IntKind.wrap .i64 a1) 1001) + ((Int.tmod (IntKind.wrap .i64 a0) 21) * (a3 + (Int.tmod (IntKind.wrap .i64 a10) ((a4 - a3) + 1))))), inI64 ((Int.tmod (IntKind.wrap .i64 a0) 21) * (a3 + (Int.tmod (IntKind.wrap .i64 a10) ((a4 - a3) + 1)))), inI64 (a3 + (Int.tmod (IntKind.wrap .i64 a10) ((a4 - a3) + 1))), ((a4 - a3) + 1) ≠ 0, inI64 ((a4 - a3) + 1), inI64 (a4 - a3), (!t25.1) = false, (t25.2 != 0) = false, Computes cx 10 [.lst false 3 t19.1, I (Int.tmod (IntKind.wrap .i64 a0) 21), I (Int.tmod (IntKind.wrap .i64 a1) 1001)] (.tup [B t25.1, I t25.2]), isNilL t19.1 = false, room cx 75 (0 + (t19.1).length), (!t17.1) = false, (t19.2 != 0) = false, (t17.2 != 0) = false, Computes cx 11 [.lst false 3 t13.1, .agg [I t18.1, I t18.2.1, I t18.2.2]] (.tup [.lst false 3 t19.1, I t19.2]), (0 : Int) ≤ (((t6).length : Int) - 1), nth (t6) (Int.toNat (((t6).length : Int) - 1)) = some (.agg [I t18.1, I t18.2.1, I t18.2.2]), inI64 (((t6).length : Int) - 1), isNilL t13.1 = false, room cx 75 (0 + (t13.1).length), Computes cx 10 [.lst false 3 t13.1, I (Int.tmod (IntKind.wrap .i64 a0) 21), I (Int.tmod (IntKind.wrap .i64 a1) 1001)] (.tup [B t17.1, I t17.2]), isNilL t13.1 = false, room cx 75 (0 + (t13.1).length), (t13.2 != 0) = false, Computes cx 9 [.lst false 3 ((t6.take (Int.toNat (((t6).length : Int) - 1))).drop (Int.toNat 0)), .agg [I ((Int.tmod (IntKind.wrap .i64 a0) 21) - 10), I ((Int.tmod (IntKind.wrap .i64 a0) 21) + 10)]] (.tup [.lst false 3 t13.1, I t13.2]), isNilL ((t6.take (Int.toNat (((t6).length : Int) - 1))).drop (Int.toNat 0)) = false, room cx 51 (0 + (((t6.take (Int.toNat (((t6).length : Int) - 1))).drop (Int.toNat 0)) : List D).length), (0 : Int) ≤ 0 ∧ 0 ≤ (((t6).length : Int) - 1) ∧ (((t6).length : Int) - 1) ≤ ((t6).length : Int) ∧ (t6 = [] ∨ 3 = 3), inI64 (((t6).length : Int) - 1), inI64 ((Int.tmod (IntKind.wrap .i64 a0) 21) + 10), inI64 ((Int.tmod (IntKind.wrap .i64 a0) 21) - 10), LoopN cx (loopAt cx.P 3 0) 372 0 false [(5, .ptr 1 0 0 0 0), (7, .d (I (Int.tmod (IntKind.wrap .i64 a0) 21))), (8, .d (I (Int.tmod (IntKind.wrap .i64 a1) 1001))), (9, .d (I (100 + (IntKind.wrap .i64 a9)))), (10, .own 38 0), (67, .d (.lst false 3 a2)), (68, .d (I ((a2).length : Int))), (69, .d (I 0))] [(1, .box (.d (.agg [I a3, I a4, I a5, I a6, I a7, I a8, .v (.int .u8 a9), .v (.int .u16 a10), .v (.int .u16 a11)]))), (38, .row 0 3 [])] (.exit 0) [(5, .ptr 1 0 0 0 0), (7, .d (I (Int.tmod (IntKind.wrap .i64 a0) 21))), (8, .d (I (Int.tmod (IntKind.wrap .i64 a1) 1001))), (10, .own 38 0)] [(1, .box (.d (.agg [I a3, I a4, I a5, I a6, I a7, I a8, .v (.int .u8 a9), .v (.int .u16 a10), .v (.int .u16 a11)]))), (38, .row 0 3 t6)], inI64 (100 + (IntKind.wrap .i64 a9)), (1001 : Int) ≠ 0, (21 : Int) ≠ 0, (t3 != 0) = false, Computes cx 4 [.agg [I a3, I a4, I a5], .agg [I a6, I a7, I a8]] (I t3), (decide (((a2).length : Int) > 6)) = false, (decide (((a2).length : Int) < 2)) = false]) (by kernel_rfl) ⟨(c_top_anvilPair h56), (by unfold inI64; omega), (decide_eq_false h55), (decide_eq_false h54), h53, h52, (by unfold inI64; omega), (decide_eq_false h51), (decide_eq_false h50), h49, h48, (decide_eq_false h47), (decide_eq_false h46), (nef h45), (nef h44), ((c_drive_Moved h43).le (.cons (.refl _) (.cons (.refl _) (.cons (.full _ _ _) (.nil)))) (.refl _)), h42, (c_drive_CheckInverted h41), h24, (room_of (b := 24) (by kernel_rfl) (by decide) h23), (decide_eq_false h40), (decide_eq_false h39), (nef h38), (eqf h37), (c_drive_Inverted h36), h16, (room_of (b := 24) (by kernel_rfl) (by decide) h15), h35, h34, h33, h32, h31, h30, h29, h28, (notf h27), (nef h26), (c_drive_Has h25), h24, (room_of (b := 24) (by kernel_rfl) (by decide) h23), (notf h22), (nef h21), (nef h20), (c_drive_Refined h19), (el_ok un_Ai3Z_ok h18).1, (el_ok un_Ai3Z_ok h18).2, h9, h16, (room_of (b := 24) (by kernel_rfl) (by decide) h15), (c_drive_Has h17), h16, (room_of (b := 24) (by kernel_rfl) (by decide) h15), (nef h14), (c_drive_Fitted h13), h12, (room_of (b := 24) (by kernel_rfl) (by decide) h11), h10, h9, h8, h7, (loopF_to R_top_TopAnvilMeasured_L1 h6), h5, (by decide), (by decide), (nef h4), (c_ref03_CheckState h3), (decide_eq_false h2), (decide_eq_false h1), trivial⟩
                                · replace h := ite_f h h45
                                  cases h
                              · replace h := ite_f h h44
                                cases h
                        · replace h := ite_f h h38
                          cases h
                    · replace h := ite_f h h27
                      cases h
                  · replace h := ite_f h h26
                    cases h
                · replace h := ite_f h h22
                  cases h
              · replace h := ite_f h h21
                cases h
            · replace h := ite_f h h20
              cases h
          · replace h := ite_f h h14
            cases h
      · replace h := ite_f h h4
        obtain ⟨t5, h5, h⟩ := bnd_of h
        replace h := Option.some.inj h
        subst h
        exact run (n := 100) (f := 3) (args := [.agg [.v (.int .i16 a0), .v (.int .i16 a1)], .lst false 3 a2, .agg [I a3, I a4, I a5, I a6, I a7, I a8, .v (.int .u8 a9), .v (.int .u16 a10), .v (.int .u16 a11)]]) (orc := [.br false, .br false, .ret (I t3), .br true, .ret (B t5)]) (r := B t5) (ob := [Computes cx 5 [] (B t5), (t3 != 0) = true, Computes cx 4 [.agg [I a3, I a4, I a5], .agg [I a6, I a7, I a8]] (I t3), (decide (((a2).length : Int) > 6)) = false, (decide (((a2).length : Int) < 2)) = false]) (by kernel_rfl) ⟨(c_top_anvilPair h5), (net h4), (c_ref03_CheckState h3), (decide_eq_false h2), (decide_eq_false h1), trivial⟩
end Go.Proofs.YtegcijomjkffgaaDoor
