/-
  Printed by gsx.py: functions of the program as Lean functions, and that the code computes them.
-/
import Derived.Test.YtmgbmngmmpeaaaaGreatDoorHits3
set_option linter.unusedVariables false
set_option linter.unusedSimpArgs false
set_option linter.unnecessarySimpa false
set_option maxRecDepth 10000
namespace Go.Proofs.YtmgbmngmmpeaaaaGreatDoor
open Go.SX
def F_law03_DriveHits_L43 (n : Nat) (a0 : Int) (a1 : Int) (a2 : Int) (a3 : Int) (a4 : Int) (a5 : Int) (a6 : Int) (a7 : Int) (a8 : List D) (t6 : Int × Int) (sa : (Int)) : Option (((Int)) ⊕ ((Unit) ⊕ (Unit))) :=
  if inI64 (a3 + (maxI (t6.1 - a3) (a3 - t6.1))) then
  if sa ≤ (minI a1 (a3 + (maxI (t6.1 - a3) (a3 - t6.1)))) then
    if inI64 (sa - a3) then
    if inI64 (a3 - sa) then
    if (maxI (sa - a3) (a3 - sa)) < (maxI (t6.1 - a3) (a3 - t6.1)) then
      (loopF (F_law03_DriveHits_L42 n a0 a1 a2 a3 a4 a5 a6 a7 a8 sa) n a4).bind fun ta6 => match ta6 with
        | (.inl ta6) => (
          if inI64 (sa + 1) then
          some (.inl (sa + 1))
          else none)
        | (.inr ta6) => (
          some (.inr (.inl ())))
    else
    if sa < t6.1 then
      (loopF (F_law03_DriveHits_L42 n a0 a1 a2 a3 a4 a5 a6 a7 a8 sa) n a4).bind fun ta7 => match ta7 with
        | (.inl ta7) => (
          if inI64 (sa + 1) then
          some (.inl (sa + 1))
          else none)
        | (.inr ta7) => (
          some (.inr (.inl ())))
    else
    if inI64 (sa + 1) then
    some (.inl (sa + 1))
    else none
    else none
    else none
  else
  some (.inr (.inr ()))
  else none
noncomputable def T_law03_DriveHits_L43 (a0 : Int) (a1 : Int) (a2 : Int) (a3 : Int) (a4 : Int) (a5 : Int) (a6 : Int) (a7 : Int) (a8 : List D) (t6 : Int × Int) (sa : (Int)) : List (Nat × AV) := [(2, .ptr 0 0 0 0 0), (3, .ptr 1 0 0 0 0), (5, .d (I t6.1)), (7, .fn (.func 71) [] [.ptr 0 0 0 0 0, .ptr 1 0 0 0 0]), (10, .d (I (maxI (t6.1 - a3) (a3 - t6.1)))), (11, .d (I sa))]
noncomputable def H_law03_DriveHits_L43 (a0 : Int) (a1 : Int) (a2 : Int) (a3 : Int) (a4 : Int) (a5 : Int) (a6 : Int) (a7 : Int) (a8 : List D) (t6 : Int × Int) (sa : (Int)) : List (Nat × Blk) := [(0, .box (.d (.agg [I a0, I a1, I a2, I a3, I a4, I a5, I a6, I a7]))), (1, .box (.d (.lst false 3 a8)))]
noncomputable def X_law03_DriveHits_L43 (a0 : Int) (a1 : Int) (a2 : Int) (a3 : Int) (a4 : Int) (a5 : Int) (a6 : Int) (a7 : Int) (a8 : List D) (t6 : Int × Int) (e : (Unit) ⊕ (Unit)) : Ex := match e with
  | (.inl e) => .ret
  | (.inr e) => (.exit 2)
noncomputable def XT_law03_DriveHits_L43 (a0 : Int) (a1 : Int) (a2 : Int) (a3 : Int) (a4 : Int) (a5 : Int) (a6 : Int) (a7 : Int) (a8 : List D) (t6 : Int × Int) (e : (Unit) ⊕ (Unit)) : List (Nat × AV) := match e with
  | (.inl e) => [(4, .d (B false))]
  | (.inr e) => [(2, .ptr 0 0 0 0 0), (3, .ptr 1 0 0 0 0), (5, .d (I t6.1))]
noncomputable def XH_law03_DriveHits_L43 (a0 : Int) (a1 : Int) (a2 : Int) (a3 : Int) (a4 : Int) (a5 : Int) (a6 : Int) (a7 : Int) (a8 : List D) (t6 : Int × Int) (e : (Unit) ⊕ (Unit)) : List (Nat × Blk) := match e with
  | (.inl e) => []
  | (.inr e) => [(0, .box (.d (.agg [I a0, I a1, I a2, I a3, I a4, I a5, I a6, I a7]))), (1, .box (.d (.lst false 3 a8)))]
theorem R_law03_DriveHits_L43 {n : Nat} {a0 : Int} {a1 : Int} {a2 : Int} {a3 : Int} {a4 : Int} {a5 : Int} {a6 : Int} {a7 : Int} {a8 : List D} {t6 : Int × Int} (sa : (Int)) (r) (h : F_law03_DriveHits_L43 n a0 a1 a2 a3 a4 a5 a6 a7 a8 t6 sa = some r) : Rd cx (loopAt cx.P 11 1) 185 0 false (T_law03_DriveHits_L43 a0 a1 a2 a3 a4 a5 a6 a7 a8 t6) (H_law03_DriveHits_L43 a0 a1 a2 a3 a4 a5 a6 a7 a8 t6) (X_law03_DriveHits_L43 a0 a1 a2 a3 a4 a5 a6 a7 a8 t6) (XT_law03_DriveHits_L43 a0 a1 a2 a3 a4 a5 a6 a7 a8 t6) (XH_law03_DriveHits_L43 a0 a1 a2 a3 a4 a5 a6 a7 a8 t6) sa r := by
  unfold F_law03_DriveHits_L43 at h
  obtain ⟨ha1, h⟩ := grd_of h
  by_cases ha2 : sa ≤ (minI a1 (a3 + (maxI (t6.1 - a3) (a3 - t6.1))))
  · replace h := ite_t h ha2
    obtain ⟨ha3, h⟩ := grd_of h
    obtain ⟨ha4, h⟩ := grd_of h
    by_cases ha5 : (maxI (sa - a3) (a3 - sa)) < (maxI (t6.1 - a3) (a3 - t6.1))
    · replace h := ite_t h ha5
      obtain ⟨ta6, ha6, h⟩ := bnd_of h
      rcases ta6 with ta6 | ta6
      · obtain ⟨ha7, h⟩ := grd_of h
        replace h := Option.some.inj h
        subst h
        exact ⟨100, 175, [.br true, .br true, .no, .br true, .lp [] [0, 1, 2, 5] [0, 1] .ret [(4, .d (B false))] [(0, .box (.d (.agg [I a0, I a1, I a2, I a3, I a4, I a5, I a6, I a7]))), (1, .box (.d (.lst false 3 a8)))] 304, .no], [], [2, 3, 5, 7, 10, 11], [0, 1], round_of (ob := [inI64 (sa + 1), LoopN cx (loopAt cx.P 71 0) 71 211 false [(0, .d (I sa)), (1, .ptr 0 0 0 0 0), (2, .ptr 1 0 0 0 0), (5, .d (I a4))] [(0, .box (.d (.agg [I a0, I a1, I a2, I a3, I a4, I a5, I a6, I a7]))), (1, .box (.d (.lst false 3 a8)))] .ret [(4, .d (B false))] [(0, .box (.d (.agg [I a0, I a1, I a2, I a3, I a4, I a5, I a6, I a7]))), (1, .box (.d (.lst false 3 a8)))], (decide ((maxI (sa - a3) (a3 - sa)) < (maxI (t6.1 - a3) (a3 - t6.1)))) = true, inI64 (a3 - sa), inI64 (sa - a3), (decide (sa ≤ (minI a1 (a3 + (maxI (t6.1 - a3) (a3 - t6.1)))))) = true, inI64 (a3 + (maxI (t6.1 - a3) (a3 - t6.1)))]) (by kernel_rfl) ⟨ha7, (loopF_to R_law03_DriveHits_L42 ha6), (decide_eq_true ha5), ha4, ha3, (decide_eq_true ha2), ha1, trivial⟩⟩
      · replace h := Option.some.inj h
        subst h
        exact ⟨⟨100, 175, [.br true, .br true, .no, .br true, .lp [] [0, 1, 2, 5] [0, 1] (.exit 0) [] [(0, .box (.d (.agg [I a0, I a1, I a2, I a3, I a4, I a5, I a6, I a7]))), (1, .box (.d (.lst false 3 a8)))] 304, .no], [], [4], [], round_of (ob := [LoopN cx (loopAt cx.P 71 0) 71 211 false [(0, .d (I sa)), (1, .ptr 0 0 0 0 0), (2, .ptr 1 0 0 0 0), (5, .d (I a4))] [(0, .box (.d (.agg [I a0, I a1, I a2, I a3, I a4, I a5, I a6, I a7]))), (1, .box (.d (.lst false 3 a8)))] (.exit 0) [] [(0, .box (.d (.agg [I a0, I a1, I a2, I a3, I a4, I a5, I a6, I a7]))), (1, .box (.d (.lst false 3 a8)))], (decide ((maxI (sa - a3) (a3 - sa)) < (maxI (t6.1 - a3) (a3 - t6.1)))) = true, inI64 (a3 - sa), inI64 (sa - a3), (decide (sa ≤ (minI a1 (a3 + (maxI (t6.1 - a3) (a3 - t6.1)))))) = true, inI64 (a3 + (maxI (t6.1 - a3) (a3 - t6.1)))]) (by kernel_rfl) ⟨(loopF_to R_law03_DriveHits_L42 ha6), (decide_eq_true ha5), ha4, ha3, (decide_eq_true ha2), ha1, trivial⟩⟩, nofun⟩
    · replace h := ite_f h ha5
      by_cases ha6 : sa < t6.1
      · replace h := ite_t h ha6
        obtain ⟨ta7, ha7, h⟩ := bnd_of h
        rcases ta7 with ta7 | ta7
        · obtain ⟨ha8, h⟩ := grd_of h
          replace h := Option.some.inj h
          subst h
          exact ⟨100, 175, [.br true, .br false, .br true, .br true, .lp [] [0, 1, 2, 5] [0, 1] .ret [(4, .d (B false))] [(0, .box (.d (.agg [I a0, I a1, I a2, I a3, I a4, I a5, I a6, I a7]))), (1, .box (.d (.lst false 3 a8)))] 304, .no], [], [2, 3, 5, 7, 10, 11], [0, 1], round_of (ob := [inI64 (sa + 1), LoopN cx (loopAt cx.P 71 0) 71 211 false [(0, .d (I sa)), (1, .ptr 0 0 0 0 0), (2, .ptr 1 0 0 0 0), (5, .d (I a4))] [(0, .box (.d (.agg [I a0, I a1, I a2, I a3, I a4, I a5, I a6, I a7]))), (1, .box (.d (.lst false 3 a8)))] .ret [(4, .d (B false))] [(0, .box (.d (.agg [I a0, I a1, I a2, I a3, I a4, I a5, I a6, I a7]))), (1, .box (.d (.lst false 3 a8)))], (decide (sa < t6.1)) = true, (decide ((maxI (sa - a3) (a3 - sa)) < (maxI (t6.1 - a3) (a3 - t6.1)))) = false, inI64 (a3 - sa), inI64 (sa - a3), (decide (sa ≤ (minI a1 (a3 + (maxI (t6.1 - a3) (a3 - t6.1)))))) = true, inI64 (a3 + (maxI (t6.1 - a3) (a3 - t6.1)))]) (by kernel_rfl) ⟨ha8, (loopF_to R_law03_DriveHits_L42 ha7), (decide_eq_true ha6), (decide_eq_false ha5), ha4, ha3, (decide_eq_true ha2), ha1, trivial⟩⟩
        · replace h := Option.some.inj h
          subst h
          exact ⟨⟨100, 175, [.br true, .br false, .br true, .br true, .lp [] [0, 1, 2, 5] [0, 1] (.exit 0) [] [(0, .box (.d (.agg [I a0, I a1, I a2, I a3, I a4, I a5, I a6, I a7]))), (1, .box (.d (.lst false 3 a8)))] 304, .no], [], [4], [], round_of (ob := [LoopN cx (loopAt cx.P 71 0) 71 211 false [(0, .d (I sa)), (1, .ptr 0 0 0 0 0), (2, .ptr 1 0 0 0 0), (5, .d (I a4))] [(0, .box (.d (.agg [I a0, I a1, I a2, I a3, I a4, I a5, I a6, I a7]))), (1, .box (.d (.lst false 3 a8)))] (.exit 0) [] [(0, .box (.d (.agg [I a0, I a1, I a2, I a3, I a4, I a5, I a6, I a7]))), (1, .box (.d (.lst false 3 a8)))], (decide (sa < t6.1)) = true, (decide ((maxI (sa - a3) (a3 - sa)) < (maxI (t6.1 - a3) (a3 - t6.1)))) = false, inI64 (a3 - sa), inI64 (sa - a3), (decide (sa ≤ (minI a1 (a3 + (maxI (t6.1 - a3) (a3 - t6.1)))))) = true, inI64 (a3 + (maxI (t6.1 - a3) (a3 - t6.1)))]) (by kernel_rfl) ⟨(loopF_to R_law03_DriveHits_L42 ha7), (decide_eq_true ha6), (decide_eq_false ha5), ha4, ha3, (decide_eq_true ha2), ha1, trivial⟩⟩, nofun⟩
      · replace h := ite_f h ha6
        obtain ⟨ha7, h⟩ := grd_of h
        replace h := Option.some.inj h
        subst h
        exact ⟨100, 175, [.br true, .br false, .br false, .no], [], [2, 3, 5, 7, 10, 11], [0, 1], round_of (ob := [inI64 (sa + 1), (decide (sa < t6.1)) = false, (decide ((maxI (sa - a3) (a3 - sa)) < (maxI (t6.1 - a3) (a3 - t6.1)))) = false, inI64 (a3 - sa), inI64 (sa - a3), (decide (sa ≤ (minI a1 (a3 + (maxI (t6.1 - a3) (a3 - t6.1)))))) = true, inI64 (a3 + (maxI (t6.1 - a3) (a3 - t6.1)))]) (by kernel_rfl) ⟨ha7, (decide_eq_false ha6), (decide_eq_false ha5), ha4, ha3, (decide_eq_true ha2), ha1, trivial⟩⟩
  · replace h := ite_f h ha2
    replace h := Option.some.inj h
    subst h
    exact ⟨⟨100, 175, [.br false], [], [2, 3, 5], [0, 1], round_of (ob := [(decide (sa ≤ (minI a1 (a3 + (maxI (t6.1 - a3) (a3 - t6.1)))))) = false, inI64 (a3 + (maxI (t6.1 - a3) (a3 - t6.1)))]) (by kernel_rfl) ⟨(decide_eq_false ha2), ha1, trivial⟩⟩, nofun⟩
/- spillage/spillagelaw03.DriveHits: .agg [I a0, I a1, I a2, I a3, I a4, I a5, I a6, I a7], .lst false 3 a8 -/
def F_law03_DriveHits (n : Nat) (a0 : Int) (a1 : Int) (a2 : Int) (a3 : Int) (a4 : Int) (a5 : Int) (a6 : Int) (a7 : Int) (a8 : List D) : Option (Bool) :=
  (F_ref03_ShortModel n a8).bind fun t1 =>
  if t1 = true then
    (F_ref03_CheckAll n a0 a1 a2 a3 a4 a5 a8 a6 a7).bind fun t3 =>
    if t3 = 0 then
      (F_law03_given n a8).bind fun t5 =>
      (F_drive_Inverted n a0 a1 a2 a3 a4 a5 t5 a6 a7).bind fun t6 =>
      if t6.2 = 0 then
        if t6.2 = 18 then
          (loopF (F_law03_DriveHits_L7 n a0 a1 a2 a3 a4 a5 a6 a7 a8) n a4).bind fun t9 => match t9 with
            | (.inl t9) => (
              (loopF (F_law03_DriveHits_L14 n a0 a1 a2 a3 a4 a5 a6 a7 a8) n a4).bind fun t10 => match t10 with
                | (.inl t10) => (
                  (loopF (F_law03_DriveHits_L21 n a0 a1 a2 a3 a4 a5 a6 a7 a8) n a4).bind fun t11 => match t11 with
                    | (.inl t11) => (
                      (F_law03_awake n).bind fun t12 =>
                      some t12)
                    | (.inr t11) => (
                      none /- false -/))
                | (.inr t10) => (
                  none /- false -/))
            | (.inr t9) => (
              none /- false -/)
        else
        if t6.1 < a0 then
          none /- false -/
        else
        if t6.1 > a1 then
          none /- false -/
        else
        (loopF (F_law03_DriveHits_L28 n a0 a1 a2 a3 a4 a5 a6 a7 a8 t6) n a4).bind fun t11 => match t11 with
          | (.inl t11) => (
            none /- false -/)
          | (.inr t11) => (
            if inI64 (t6.1 - a3) then
            if inI64 (a3 - t6.1) then
            if inI64 (a3 - (maxI (t6.1 - a3) (a3 - t6.1))) then
            (loopF (F_law03_DriveHits_L43 n a0 a1 a2 a3 a4 a5 a6 a7 a8 t6) n (maxI a0 (a3 - (maxI (t6.1 - a3) (a3 - t6.1))))).bind fun t15 => match t15 with
              | (.inl t15) => (
                none /- false -/)
              | (.inr t15) => (
                (F_drive_CheckInverted n a0 a1 a2 a3 a4 a5 t5 a6 a7 t6.1).bind fun t16 =>
                if t16.2.2 = 0 then
                  if t16.1 ≤ t16.2.1 then
                    if t16.1 ≥ a6 then
                      if t16.2.1 ≤ a7 then
                        (F_law03_awake n).bind fun t21 =>
                        some t21
                      else
                      none /- false -/
                    else
                    none /- false -/
                  else
                  none /- false -/
                else
                none /- false -/)
            else none
            else none
            else none)
      else
      if t6.2 = 18 then
        (loopF (F_law03_DriveHits_L7 n a0 a1 a2 a3 a4 a5 a6 a7 a8) n a4).bind fun t9 => match t9 with
          | (.inl t9) => (
            (loopF (F_law03_DriveHits_L14 n a0 a1 a2 a3 a4 a5 a6 a7 a8) n a4).bind fun t10 => match t10 with
              | (.inl t10) => (
                (loopF (F_law03_DriveHits_L21 n a0 a1 a2 a3 a4 a5 a6 a7 a8) n a4).bind fun t11 => match t11 with
                  | (.inl t11) => (
                    (F_law03_awake n).bind fun t12 =>
                    some t12)
                  | (.inr t11) => (
                    none /- false -/))
              | (.inr t10) => (
                none /- false -/))
          | (.inr t9) => (
            none /- false -/)
      else
      none /- false -/
    else
    (F_law03_awake n).bind fun t5 =>
    some t5
  else
  (F_law03_awake n).bind fun t3 =>
  some t3
theorem c_law03_DriveHits {n : Nat} {a0 : Int} {a1 : Int} {a2 : Int} {a3 : Int} {a4 : Int} {a5 : Int} {a6 : Int} {a7 : Int} {a8 : List D} {r : Bool} (h : F_law03_DriveHits n a0 a1 a2 a3 a4 a5 a6 a7 a8 = some r) : Computes cx 11 [.agg [I a0, I a1, I a2, I a3, I a4, I a5, I a6, I a7], .lst false 3 a8] (B r) := by
  unfold F_law03_DriveHits at h
  obtain ⟨t1, h1, h⟩ := bnd_of h
  by_cases h2 : t1 = true
  · replace h := ite_t h h2
    obtain ⟨t3, h3, h⟩ := bnd_of h
    by_cases h4 : t3 = 0
    · replace h := ite_t h h4
      obtain ⟨t5, h5, h⟩ := bnd_of h
      obtain ⟨t6, h6, h⟩ := bnd_of h
      by_cases h7 : t6.2 = 0
      · replace h := ite_t h h7
        by_cases h8 : t6.2 = 18
        · replace h := ite_t h h8
          obtain ⟨t9, h9, h⟩ := bnd_of h
          rcases t9 with t9 | t9
          · obtain ⟨t10, h10, h⟩ := bnd_of h
            rcases t10 with t10 | t10
            · obtain ⟨t11, h11, h⟩ := bnd_of h
              rcases t11 with t11 | t11
              · obtain ⟨t12, h12, h⟩ := bnd_of h
                replace h := Option.some.inj h
                subst h
                exact run (n := 100) (f := 11) (args := [.agg [I a0, I a1, I a2, I a3, I a4, I a5, I a6, I a7], .lst false 3 a8]) (orc := [.ret (B t1), .br false, .ret (I t3), .br false, .ret (.lst false 3 t5), .ret (.tup [I t6.1, I t6.2]), .br false, .no, .br true, .no, .no, .br true, .lp [] [0, 1, 2, 5] [0, 1] .ret [(4, .d (B false))] [(0, .box (.d (.agg [I a0, I a1, I a2, I a3, I a4, I a5, I a6, I a7]))), (1, .box (.d (.lst false 3 a8)))] 151, .no, .no, .no, .br true, .lp [] [0, 1, 2, 5] [0, 1] .ret [(4, .d (B false))] [(0, .box (.d (.agg [I a0, I a1, I a2, I a3, I a4, I a5, I a6, I a7]))), (1, .box (.d (.lst false 3 a8)))] 252, .no, .no, .no, .br true, .lp [] [0, 1, 2, 5] [0, 1] .ret [(4, .d (B false))] [(0, .box (.d (.agg [I a0, I a1, I a2, I a3, I a4, I a5, I a6, I a7]))), (1, .box (.d (.lst false 3 a8)))] 353, .no, .no, .no, .ret (B t12)]) (r := B t12) (ob := [Computes cx 19 [] (B t12), inI64 3, LoopN cx (loopAt cx.P 71 0) 71 260 false [(0, .d (I a1)), (1, .ptr 0 0 0 0 0), (2, .ptr 1 0 0 0 0), (5, .d (I a4))] [(0, .box (.d (.agg [I a0, I a1, I a2, I a3, I a4, I a5, I a6, I a7]))), (1, .box (.d (.lst false 3 a8)))] .ret [(4, .d (B false))] [(0, .box (.d (.agg [I a0, I a1, I a2, I a3, I a4, I a5, I a6, I a7]))), (1, .box (.d (.lst false 3 a8)))], inI64 2, LoopN cx (loopAt cx.P 71 0) 71 159 false [(0, .d (I a3)), (1, .ptr 0 0 0 0 0), (2, .ptr 1 0 0 0 0), (5, .d (I a4))] [(0, .box (.d (.agg [I a0, I a1, I a2, I a3, I a4, I a5, I a6, I a7]))), (1, .box (.d (.lst false 3 a8)))] .ret [(4, .d (B false))] [(0, .box (.d (.agg [I a0, I a1, I a2, I a3, I a4, I a5, I a6, I a7]))), (1, .box (.d (.lst false 3 a8)))], inI64 1, LoopN cx (loopAt cx.P 71 0) 71 58 false [(0, .d (I a0)), (1, .ptr 0 0 0 0 0), (2, .ptr 1 0 0 0 0), (5, .d (I a4))] [(0, .box (.d (.agg [I a0, I a1, I a2, I a3, I a4, I a5, I a6, I a7]))), (1, .box (.d (.lst false 3 a8)))] .ret [(4, .d (B false))] [(0, .box (.d (.agg [I a0, I a1, I a2, I a3, I a4, I a5, I a6, I a7]))), (1, .box (.d (.lst false 3 a8)))], (t6.2 == 18) = true, (t6.2 != 0) = false, Computes cx 56 [.agg [I a0, I a1, I a2], .agg [I a3, I a4, I a5], .lst false 3 t5, .agg [I a6, I a7]] (.tup [I t6.1, I t6.2]), Computes cx 47 [.lst false 3 a8] (.lst false 3 t5), (t3 != 0) = false, Computes cx 57 [.agg [I a0, I a1, I a2], .agg [I a3, I a4, I a5], .lst false 3 a8, .agg [I a6, I a7]] (I t3), (!t1) = false, Computes cx 45 [.lst false 3 a8] (B t1)]) (by kernel_rfl) ⟨(c_law03_awake h12), (by unfold inI64; omega), (loopF_to R_law03_DriveHits_L21 h11), (by unfold inI64; omega), (loopF_to R_law03_DriveHits_L14 h10), (by unfold inI64; omega), (loopF_to R_law03_DriveHits_L7 h9), (eqt h8), (nef h7), (c_drive_Inverted h6), (c_law03_given h5), (nef h4), (c_ref03_CheckAll h3), (notf h2), (c_ref03_ShortModel h1), trivial⟩
              · cases h
            · cases h
          · cases h
        · replace h := ite_f h h8
          by_cases h9 : t6.1 < a0
          · replace h := ite_t h h9
            cases h
          · replace h := ite_f h h9
            by_cases h10 : t6.1 > a1
            · replace h := ite_t h h10
              cases h
            · replace h := ite_f h h10
              obtain ⟨t11, h11, h⟩ := bnd_of h
              rcases t11 with t11 | t11
              · cases h
              · obtain ⟨h12, h⟩ := grd_of h
                obtain ⟨h13, h⟩ := grd_of h
                obtain ⟨h14, h⟩ := grd_of h
                obtain ⟨t15, h15, h⟩ := bnd_of h
                rcases t15 with t15 | t15
                · cases h
                · obtain ⟨t16, h16, h⟩ := bnd_of h
                  by_cases h17 : t16.2.2 = 0
                  · replace h := ite_t h h17
                    by_cases h18 : t16.1 ≤ t16.2.1
                    · replace h := ite_t h h18
                      by_cases h19 : t16.1 ≥ a6
                      · replace h := ite_t h h19
                        by_cases h20 : t16.2.1 ≤ a7
                        · replace h := ite_t h h20
                          obtain ⟨t21, h21, h⟩ := bnd_of h
                          replace h := Option.some.inj h
                          subst h
                          exact run (n := 100) (f := 11) (args := [.agg [I a0, I a1, I a2, I a3, I a4, I a5, I a6, I a7], .lst false 3 a8]) (orc := [.ret (B t1), .br false, .ret (I t3), .br false, .ret (.lst false 3 t5), .ret (.tup [I t6.1, I t6.2]), .br false, .no, .br false, .br false, .br false, .br true, .lp [] [0, 1, 2, 5] [0, 1] (.exit 0) [] [(0, .box (.d (.agg [I a0, I a1, I a2, I a3, I a4, I a5, I a6, I a7]))), (1, .box (.d (.lst false 3 a8)))] 152, .no, .lp [] [2, 3, 5, 7, 10, 11] [0, 1] (.exit 2) [(2, .ptr 0 0 0 0 0), (3, .ptr 1 0 0 0 0), (5, .d (I t6.1))] [(0, .box (.d (.agg [I a0, I a1, I a2, I a3, I a4, I a5, I a6, I a7]))), (1, .box (.d (.lst false 3 a8)))] 318, .ret (.lst false 3 t5), .ret (.tup [.agg [I t16.1, I t16.2.1], I t16.2.2]), .br true, .br true, .br true, .br true, .ret (B t21)]) (r := B t21) (ob := [Computes cx 19 [] (B t21), (decide (t16.2.1 ≤ a7)) = true, (decide (t16.1 ≥ a6)) = true, (decide (t16.1 ≤ t16.2.1)) = true, (t16.2.2 == 0) = true, Computes cx 55 [.agg [I a0, I a1, I a2], .agg [I a3, I a4, I a5], .lst false 3 t5, .agg [I a6, I a7], I t6.1] (.tup [.agg [I t16.1, I t16.2.1], I t16.2.2]), Computes cx 47 [.lst false 3 a8] (.lst false 3 t5), LoopN cx (loopAt cx.P 11 1) 185 0 false [(2, .ptr 0 0 0 0 0), (3, .ptr 1 0 0 0 0), (5, .d (I t6.1)), (7, .fn (.func 71) [] [.ptr 0 0 0 0 0, .ptr 1 0 0 0 0]), (10, .d (I (maxI (t6.1 - a3) (a3 - t6.1)))), (11, .d (I (maxI a0 (a3 - (maxI (t6.1 - a3) (a3 - t6.1))))))] [(0, .box (.d (.agg [I a0, I a1, I a2, I a3, I a4, I a5, I a6, I a7]))), (1, .box (.d (.lst false 3 a8)))] (.exit 2) [(2, .ptr 0 0 0 0 0), (3, .ptr 1 0 0 0 0), (5, .d (I t6.1))] [(0, .box (.d (.agg [I a0, I a1, I a2, I a3, I a4, I a5, I a6, I a7]))), (1, .box (.d (.lst false 3 a8)))], inI64 (a3 - (maxI (t6.1 - a3) (a3 - t6.1))), inI64 (a3 - t6.1), inI64 (t6.1 - a3), LoopN cx (loopAt cx.P 71 0) 71 59 false [(0, .d (I t6.1)), (1, .ptr 0 0 0 0 0), (2, .ptr 1 0 0 0 0), (5, .d (I a4))] [(0, .box (.d (.agg [I a0, I a1, I a2, I a3, I a4, I a5, I a6, I a7]))), (1, .box (.d (.lst false 3 a8)))] (.exit 0) [] [(0, .box (.d (.agg [I a0, I a1, I a2, I a3, I a4, I a5, I a6, I a7]))), (1, .box (.d (.lst false 3 a8)))], (decide (t6.1 > a1)) = false, (decide (t6.1 < a0)) = false, (t6.2 == 18) = false, (t6.2 != 0) = false, Computes cx 56 [.agg [I a0, I a1, I a2], .agg [I a3, I a4, I a5], .lst false 3 t5, .agg [I a6, I a7]] (.tup [I t6.1, I t6.2]), Computes cx 47 [.lst false 3 a8] (.lst false 3 t5), (t3 != 0) = false, Computes cx 57 [.agg [I a0, I a1, I a2], .agg [I a3, I a4, I a5], .lst false 3 a8, .agg [I a6, I a7]] (I t3), (!t1) = false, Computes cx 45 [.lst false 3 a8] (B t1)]) (by kernel_rfl) ⟨(c_law03_awake h21), (decide_eq_true h20), (decide_eq_true h19), (decide_eq_true h18), (eqt h17), (c_drive_CheckInverted h16), (c_law03_given h5), (loopF_to R_law03_DriveHits_L43 h15), h14, h13, h12, (loopF_to R_law03_DriveHits_L28 h11), (decide_eq_false h10), (decide_eq_false h9), (eqf h8), (nef h7), (c_drive_Inverted h6), (c_law03_given h5), (nef h4), (c_ref03_CheckAll h3), (notf h2), (c_ref03_ShortModel h1), trivial⟩
                        · replace h := ite_f h h20
                          cases h
                      · replace h := ite_f h h19
                        cases h
                    · replace h := ite_f h h18
                      cases h
                  · replace h := ite_f h h17
                    cases h
      · replace h := ite_f h h7
        by_cases h8 : t6.2 = 18
        · replace h := ite_t h h8
          obtain ⟨t9, h9, h⟩ := bnd_of h
          rcases t9 with t9 | t9
          · obtain ⟨t10, h10, h⟩ := bnd_of h
            rcases t10 with t10 | t10
            · obtain ⟨t11, h11, h⟩ := bnd_of h
              rcases t11 with t11 | t11
              · obtain ⟨t12, h12, h⟩ := bnd_of h
                replace h := Option.some.inj h
                subst h
                exact run (n := 100) (f := 11) (args := [.agg [I a0, I a1, I a2, I a3, I a4, I a5, I a6, I a7], .lst false 3 a8]) (orc := [.ret (B t1), .br false, .ret (I t3), .br false, .ret (.lst false 3 t5), .ret (.tup [I t6.1, I t6.2]), .br true, .br false, .br true, .no, .no, .br true, .lp [] [0, 1, 2, 5] [0, 1] .ret [(4, .d (B false))] [(0, .box (.d (.agg [I a0, I a1, I a2, I a3, I a4, I a5, I a6, I a7]))), (1, .box (.d (.lst false 3 a8)))] 151, .no, .no, .no, .br true, .lp [] [0, 1, 2, 5] [0, 1] .ret [(4, .d (B false))] [(0, .box (.d (.agg [I a0, I a1, I a2, I a3, I a4, I a5, I a6, I a7]))), (1, .box (.d (.lst false 3 a8)))] 252, .no, .no, .no, .br true, .lp [] [0, 1, 2, 5] [0, 1] .ret [(4, .d (B false))] [(0, .box (.d (.agg [I a0, I a1, I a2, I a3, I a4, I a5, I a6, I a7]))), (1, .box (.d (.lst false 3 a8)))] 353, .no, .no, .no, .ret (B t12)]) (r := B t12) (ob := [Computes cx 19 [] (B t12), inI64 3, LoopN cx (loopAt cx.P 71 0) 71 260 false [(0, .d (I a1)), (1, .ptr 0 0 0 0 0), (2, .ptr 1 0 0 0 0), (5, .d (I a4))] [(0, .box (.d (.agg [I a0, I a1, I a2, I a3, I a4, I a5, I a6, I a7]))), (1, .box (.d (.lst false 3 a8)))] .ret [(4, .d (B false))] [(0, .box (.d (.agg [I a0, I a1, I a2, I a3, I a4, I a5, I a6, I a7]))), (1, .box (.d (.lst false 3 a8)))], inI64 2, LoopN cx (loopAt cx.P 71 0) 71 159 false [(0, .d (I a3)), (1, .ptr 0 0 0 0 0), (2, .ptr 1 0 0 0 0), (5, .d (I a4))] [(0, .box (.d (.agg [I a0, I a1, I a2, I a3, I a4, I a5, I a6, I a7]))), (1, .box (.d (.lst false 3 a8)))] .ret [(4, .d (B false))] [(0, .box (.d (.agg [I a0, I a1, I a2, I a3, I a4, I a5, I a6, I a7]))), (1, .box (.d (.lst false 3 a8)))], inI64 1, LoopN cx (loopAt cx.P 71 0) 71 58 false [(0, .d (I a0)), (1, .ptr 0 0 0 0 0), (2, .ptr 1 0 0 0 0), (5, .d (I a4))] [(0, .box (.d (.agg [I a0, I a1, I a2, I a3, I a4, I a5, I a6, I a7]))), (1, .box (.d (.lst false 3 a8)))] .ret [(4, .d (B false))] [(0, .box (.d (.agg [I a0, I a1, I a2, I a3, I a4, I a5, I a6, I a7]))), (1, .box (.d (.lst false 3 a8)))], (t6.2 == 18) = true, (t6.2 != 18) = false, (t6.2 != 0) = true, Computes cx 56 [.agg [I a0, I a1, I a2], .agg [I a3, I a4, I a5], .lst false 3 t5, .agg [I a6, I a7]] (.tup [I t6.1, I t6.2]), Computes cx 47 [.lst false 3 a8] (.lst false 3 t5), (t3 != 0) = false, Computes cx 57 [.agg [I a0, I a1, I a2], .agg [I a3, I a4, I a5], .lst false 3 a8, .agg [I a6, I a7]] (I t3), (!t1) = false, Computes cx 45 [.lst false 3 a8] (B t1)]) (by kernel_rfl) ⟨(c_law03_awake h12), (by unfold inI64; omega), (loopF_to R_law03_DriveHits_L21 h11), (by unfold inI64; omega), (loopF_to R_law03_DriveHits_L14 h10), (by unfold inI64; omega), (loopF_to R_law03_DriveHits_L7 h9), (eqt h8), (nef h8), (net h7), (c_drive_Inverted h6), (c_law03_given h5), (nef h4), (c_ref03_CheckAll h3), (notf h2), (c_ref03_ShortModel h1), trivial⟩
              · cases h
            · cases h
          · cases h
        · replace h := ite_f h h8
          cases h
    · replace h := ite_f h h4
      obtain ⟨t5, h5, h⟩ := bnd_of h
      replace h := Option.some.inj h
      subst h
      exact run (n := 100) (f := 11) (args := [.agg [I a0, I a1, I a2, I a3, I a4, I a5, I a6, I a7], .lst false 3 a8]) (orc := [.ret (B t1), .br false, .ret (I t3), .br true, .ret (B t5)]) (r := B t5) (ob := [Computes cx 19 [] (B t5), (t3 != 0) = true, Computes cx 57 [.agg [I a0, I a1, I a2], .agg [I a3, I a4, I a5], .lst false 3 a8, .agg [I a6, I a7]] (I t3), (!t1) = false, Computes cx 45 [.lst false 3 a8] (B t1)]) (by kernel_rfl) ⟨(c_law03_awake h5), (net h4), (c_ref03_CheckAll h3), (notf h2), (c_ref03_ShortModel h1), trivial⟩
  · replace h := ite_f h h2
    obtain ⟨t3, h3, h⟩ := bnd_of h
    replace h := Option.some.inj h
    subst h
    exact run (n := 100) (f := 11) (args := [.agg [I a0, I a1, I a2, I a3, I a4, I a5, I a6, I a7], .lst false 3 a8]) (orc := [.ret (B t1), .br true, .no, .ret (B t3)]) (r := B t3) (ob := [Computes cx 19 [] (B t3), (!t1) = true, Computes cx 45 [.lst false 3 a8] (B t1)]) (by kernel_rfl) ⟨(c_law03_awake h3), (nott (bfalse h2)), (c_ref03_ShortModel h1), trivial⟩
end Go.Proofs.YtmgbmngmmpeaaaaGreatDoor
