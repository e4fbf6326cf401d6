/-
  Printed by gsx.py: functions of the program as Lean functions, and that the code computes them.
-/
import Derived.Test.YtmgbmngmmpeaaaaGreatDoorGen8
set_option linter.unusedVariables false
set_option linter.unusedSimpArgs false
set_option linter.unnecessarySimpa false
set_option maxRecDepth 10000
namespace Go.Proofs.YtmgbmngmmpeaaaaGreatDoor
open Go.SX
def F_ref03_Pairs_L1 (n : Nat) (a0 : List D) (sa : (Int × Int)) : Option (((Int × Int)) ⊕ ((Int))) :=
  if sa.2 < ((a0).length : Int) then
    (el un_Ai3Z a0 sa.2).bind fun ta2 =>
    if inI64 (sa.1 + ta2.2.2) then
    if inI64 ((sa.1 + ta2.2.2) - ta2.2.1) then
    if inI64 (((sa.1 + ta2.2.2) - ta2.2.1) + 1) then
    if inI64 (sa.2 + 1) then
    some (.inl ((((sa.1 + ta2.2.2) - ta2.2.1) + 1), (sa.2 + 1)))
    else none
    else none
    else none
    else none
  else
  some (.inr sa.1)
noncomputable def T_ref03_Pairs_L1 (a0 : List D) (sa : (Int × Int)) : List (Nat × AV) := [(0, .d (.lst false 3 a0)), (3, .d (I sa.1)), (4, .d (I sa.2))]
noncomputable def H_ref03_Pairs_L1 (a0 : List D) (sa : (Int × Int)) : List (Nat × Blk) := []
noncomputable def X_ref03_Pairs_L1 (a0 : List D) (e : (Int)) : Ex := (.exit 0)
noncomputable def XT_ref03_Pairs_L1 (a0 : List D) (e : (Int)) : List (Nat × AV) := [(3, .d (I e))]
noncomputable def XH_ref03_Pairs_L1 (a0 : List D) (e : (Int)) : List (Nat × Blk) := []
theorem R_ref03_Pairs_L1 {n : Nat} {a0 : List D} (sa : (Int × Int)) (r) (h : F_ref03_Pairs_L1 n a0 sa = some r) : Rd cx (loopAt cx.P 74 0) 28 0 false (T_ref03_Pairs_L1 a0) (H_ref03_Pairs_L1 a0) (X_ref03_Pairs_L1 a0) (XT_ref03_Pairs_L1 a0) (XH_ref03_Pairs_L1 a0) sa r := by
  unfold F_ref03_Pairs_L1 at h
  by_cases ha1 : sa.2 < ((a0).length : Int)
  · replace h := ite_t h ha1
    obtain ⟨ta2, ha2, h⟩ := bnd_of h
    obtain ⟨ha3, h⟩ := grd_of h
    obtain ⟨ha4, h⟩ := grd_of h
    obtain ⟨ha5, h⟩ := grd_of h
    obtain ⟨ha6, h⟩ := grd_of h
    replace h := Option.some.inj h
    subst h
    exact ⟨100, 3, [.br true, .el (.agg [I ta2.1, I ta2.2.1, I ta2.2.2]), .el (.agg [I ta2.1, I ta2.2.1, I ta2.2.2])], [], [0, 3, 4], [], round_of (ob := [inI64 (sa.2 + 1), inI64 (((sa.1 + ta2.2.2) - ta2.2.1) + 1), inI64 ((sa.1 + ta2.2.2) - ta2.2.1), (0 : Int) ≤ sa.2, nth (a0) (Int.toNat sa.2) = some (.agg [I ta2.1, I ta2.2.1, I ta2.2.2]), inI64 (sa.1 + ta2.2.2), (0 : Int) ≤ sa.2, nth (a0) (Int.toNat sa.2) = some (.agg [I ta2.1, I ta2.2.1, I ta2.2.2]), (decide (sa.2 < ((a0).length : Int))) = true]) (by kernel_rfl) ⟨ha6, ha5, ha4, (el_ok un_Ai3Z_ok ha2).1, (el_ok un_Ai3Z_ok ha2).2, ha3, (el_ok un_Ai3Z_ok ha2).1, (el_ok un_Ai3Z_ok ha2).2, (decide_eq_true ha1), trivial⟩⟩
  · replace h := ite_f h ha1
    replace h := Option.some.inj h
    subst h
    exact ⟨⟨100, 3, [.br false], [], [3], [], round_of (ob := [(decide (sa.2 < ((a0).length : Int))) = false]) (by kernel_rfl) ⟨(decide_eq_false ha1), trivial⟩⟩, nofun⟩
/- spillage/spillageref03.Pairs: .lst false 3 a0 -/
def F_ref03_Pairs (n : Nat) (a0 : List D) : Option (Int) :=
  (loopF (F_ref03_Pairs_L1 n a0) n (0, 0)).bind fun t1 =>
  some t1
theorem c_ref03_Pairs {n : Nat} {a0 : List D} {r : Int} (h : F_ref03_Pairs n a0 = some r) : Computes cx 74 [.lst false 3 a0] (I r) := by
  unfold F_ref03_Pairs at h
  obtain ⟨t1, h1, h⟩ := bnd_of h
  replace h := Option.some.inj h
  subst h
  exact run (n := 100) (f := 74) (args := [.lst false 3 a0]) (orc := [.lp [] [0, 3, 4] [] (.exit 0) [(3, .d (I t1))] [] 38]) (r := I t1) (ob := [LoopN cx (loopAt cx.P 74 0) 28 0 false [(0, .d (.lst false 3 a0)), (3, .d (I 0)), (4, .d (I 0))] [] (.exit 0) [(3, .d (I t1))] []]) (by kernel_rfl) ⟨(loopF_to R_ref03_Pairs_L1 h1), trivial⟩
def F_ref03_Has_L1 (n : Nat) (a0 : List D) (a1 : Int) (a2 : Int) (sa : (Int)) : Option (((Int)) ⊕ ((Unit) ⊕ (Unit))) :=
  if sa < ((a0).length : Int) then
    (el un_Ai3Z a0 sa).bind fun ta2 =>
    if ta2.1 = a1 then
      if ta2.2.1 ≤ a2 then
        if a2 ≤ ta2.2.2 then
          some (.inr (.inl ()))
        else
        if inI64 (sa + 1) then
        some (.inl (sa + 1))
        else none
      else
      if inI64 (sa + 1) then
      some (.inl (sa + 1))
      else none
    else
    if inI64 (sa + 1) then
    some (.inl (sa + 1))
    else none
  else
  some (.inr (.inr ()))
noncomputable def T_ref03_Has_L1 (a0 : List D) (a1 : Int) (a2 : Int) (sa : (Int)) : List (Nat × AV) := [(0, .d (.lst false 3 a0)), (1, .d (I a1)), (2, .d (I a2)), (7, .d (I sa))]
noncomputable def H_ref03_Has_L1 (a0 : List D) (a1 : Int) (a2 : Int) (sa : (Int)) : List (Nat × Blk) := []
noncomputable def X_ref03_Has_L1 (a0 : List D) (a1 : Int) (a2 : Int) (e : (Unit) ⊕ (Unit)) : Ex := match e with
  | (.inl e) => .ret
  | (.inr e) => (.exit 0)
noncomputable def XT_ref03_Has_L1 (a0 : List D) (a1 : Int) (a2 : Int) (e : (Unit) ⊕ (Unit)) : List (Nat × AV) := match e with
  | (.inl e) => [(6, .d (B true))]
  | (.inr e) => []
noncomputable def XH_ref03_Has_L1 (a0 : List D) (a1 : Int) (a2 : Int) (e : (Unit) ⊕ (Unit)) : List (Nat × Blk) := match e with
  | (.inl e) => []
  | (.inr e) => []
theorem R_ref03_Has_L1 {n : Nat} {a0 : List D} {a1 : Int} {a2 : Int} (sa : (Int)) (r) (h : F_ref03_Has_L1 n a0 a1 a2 sa = some r) : Rd cx (loopAt cx.P 75 0) 41 0 false (T_ref03_Has_L1 a0 a1 a2) (H_ref03_Has_L1 a0 a1 a2) (X_ref03_Has_L1 a0 a1 a2) (XT_ref03_Has_L1 a0 a1 a2) (XH_ref03_Has_L1 a0 a1 a2) sa r := by
  unfold F_ref03_Has_L1 at h
  by_cases ha1 : sa < ((a0).length : Int)
  · replace h := ite_t h ha1
    obtain ⟨ta2, ha2, h⟩ := bnd_of h
    by_cases ha3 : ta2.1 = a1
    · replace h := ite_t h ha3
      by_cases ha4 : ta2.2.1 ≤ a2
      · replace h := ite_t h ha4
        by_cases ha5 : a2 ≤ ta2.2.2
        · replace h := ite_t h ha5
          replace h := Option.some.inj h
          subst h
          exact ⟨⟨100, 2, [.br true, .el (.agg [I ta2.1, I ta2.2.1, I ta2.2.2]), .br true, .el (.agg [I ta2.1, I ta2.2.1, I ta2.2.2]), .br true, .el (.agg [I ta2.1, I ta2.2.1, I ta2.2.2]), .br true], [], [6], [], round_of (ob := [(decide (a2 ≤ ta2.2.2)) = true, (0 : Int) ≤ sa, nth (a0) (Int.toNat sa) = some (.agg [I ta2.1, I ta2.2.1, I ta2.2.2]), (decide (ta2.2.1 ≤ a2)) = true, (0 : Int) ≤ sa, nth (a0) (Int.toNat sa) = some (.agg [I ta2.1, I ta2.2.1, I ta2.2.2]), (ta2.1 == a1) = true, (0 : Int) ≤ sa, nth (a0) (Int.toNat sa) = some (.agg [I ta2.1, I ta2.2.1, I ta2.2.2]), (decide (sa < ((a0).length : Int))) = true]) (by kernel_rfl) ⟨(decide_eq_true ha5), (el_ok un_Ai3Z_ok ha2).1, (el_ok un_Ai3Z_ok ha2).2, (decide_eq_true ha4), (el_ok un_Ai3Z_ok ha2).1, (el_ok un_Ai3Z_ok ha2).2, (eqt ha3), (el_ok un_Ai3Z_ok ha2).1, (el_ok un_Ai3Z_ok ha2).2, (decide_eq_true ha1), trivial⟩⟩, nofun⟩
        · replace h := ite_f h ha5
          obtain ⟨ha6, h⟩ := grd_of h
          replace h := Option.some.inj h
          subst h
          exact ⟨100, 2, [.br true, .el (.agg [I ta2.1, I ta2.2.1, I ta2.2.2]), .br true, .el (.agg [I ta2.1, I ta2.2.1, I ta2.2.2]), .br true, .el (.agg [I ta2.1, I ta2.2.1, I ta2.2.2]), .br false], [], [0, 1, 2, 7], [], round_of (ob := [inI64 (sa + 1), (decide (a2 ≤ ta2.2.2)) = false, (0 : Int) ≤ sa, nth (a0) (Int.toNat sa) = some (.agg [I ta2.1, I ta2.2.1, I ta2.2.2]), (decide (ta2.2.1 ≤ a2)) = true, (0 : Int) ≤ sa, nth (a0) (Int.toNat sa) = some (.agg [I ta2.1, I ta2.2.1, I ta2.2.2]), (ta2.1 == a1) = true, (0 : Int) ≤ sa, nth (a0) (Int.toNat sa) = some (.agg [I ta2.1, I ta2.2.1, I ta2.2.2]), (decide (sa < ((a0).length : Int))) = true]) (by kernel_rfl) ⟨ha6, (decide_eq_false ha5), (el_ok un_Ai3Z_ok ha2).1, (el_ok un_Ai3Z_ok ha2).2, (decide_eq_true ha4), (el_ok un_Ai3Z_ok ha2).1, (el_ok un_Ai3Z_ok ha2).2, (eqt ha3), (el_ok un_Ai3Z_ok ha2).1, (el_ok un_Ai3Z_ok ha2).2, (decide_eq_true ha1), trivial⟩⟩
      · replace h := ite_f h ha4
        obtain ⟨ha5, h⟩ := grd_of h
        replace h := Option.some.inj h
        subst h
        exact ⟨100, 2, [.br true, .el (.agg [I ta2.1, I ta2.2.1, I ta2.2.2]), .br true, .el (.agg [I ta2.1, I ta2.2.1, I ta2.2.2]), .br false, .no], [], [0, 1, 2, 7], [], round_of (ob := [inI64 (sa + 1), (decide (ta2.2.1 ≤ a2)) = false, (0 : Int) ≤ sa, nth (a0) (Int.toNat sa) = some (.agg [I ta2.1, I ta2.2.1, I ta2.2.2]), (ta2.1 == a1) = true, (0 : Int) ≤ sa, nth (a0) (Int.toNat sa) = some (.agg [I ta2.1, I ta2.2.1, I ta2.2.2]), (decide (sa < ((a0).length : Int))) = true]) (by kernel_rfl) ⟨ha5, (decide_eq_false ha4), (el_ok un_Ai3Z_ok ha2).1, (el_ok un_Ai3Z_ok ha2).2, (eqt ha3), (el_ok un_Ai3Z_ok ha2).1, (el_ok un_Ai3Z_ok ha2).2, (decide_eq_true ha1), trivial⟩⟩
    · replace h := ite_f h ha3
      obtain ⟨ha4, h⟩ := grd_of h
      replace h := Option.some.inj h
      subst h
      exact ⟨100, 2, [.br true, .el (.agg [I ta2.1, I ta2.2.1, I ta2.2.2]), .br false, .no, .no], [], [0, 1, 2, 7], [], round_of (ob := [inI64 (sa + 1), (ta2.1 == a1) = false, (0 : Int) ≤ sa, nth (a0) (Int.toNat sa) = some (.agg [I ta2.1, I ta2.2.1, I ta2.2.2]), (decide (sa < ((a0).length : Int))) = true]) (by kernel_rfl) ⟨ha4, (eqf ha3), (el_ok un_Ai3Z_ok ha2).1, (el_ok un_Ai3Z_ok ha2).2, (decide_eq_true ha1), trivial⟩⟩
  · replace h := ite_f h ha1
    replace h := Option.some.inj h
    subst h
    exact ⟨⟨100, 2, [.br false], [], [], [], round_of (ob := [(decide (sa < ((a0).length : Int))) = false]) (by kernel_rfl) ⟨(decide_eq_false ha1), trivial⟩⟩, nofun⟩
/- spillage/spillageref03.Has: .lst false 3 a0, I a1, I a2 -/
def F_ref03_Has (n : Nat) (a0 : List D) (a1 : Int) (a2 : Int) : Option (Bool) :=
  (loopF (F_ref03_Has_L1 n a0 a1 a2) n 0).bind fun t1 => match t1 with
    | (.inl t1) => (
      some true)
    | (.inr t1) => (
      some false)
theorem c_ref03_Has {n : Nat} {a0 : List D} {a1 : Int} {a2 : Int} {r : Bool} (h : F_ref03_Has n a0 a1 a2 = some r) : Computes cx 75 [.lst false 3 a0, I a1, I a2] (B r) := by
  unfold F_ref03_Has at h
  obtain ⟨t1, h1, h⟩ := bnd_of h
  rcases t1 with t1 | t1
  · replace h := Option.some.inj h
    subst h
    exact run (n := 100) (f := 75) (args := [.lst false 3 a0, I a1, I a2]) (orc := [.lp [] [0, 1, 2, 7] [] .ret [(6, .d (B true))] [] 47]) (r := B true) (ob := [LoopN cx (loopAt cx.P 75 0) 41 0 false [(0, .d (.lst false 3 a0)), (1, .d (I a1)), (2, .d (I a2)), (7, .d (I 0))] [] .ret [(6, .d (B true))] []]) (by kernel_rfl) ⟨(loopF_to R_ref03_Has_L1 h1), trivial⟩
  · replace h := Option.some.inj h
    subst h
    exact run (n := 100) (f := 75) (args := [.lst false 3 a0, I a1, I a2]) (orc := [.lp [] [0, 1, 2, 7] [] (.exit 0) [] [] 47]) (r := B false) (ob := [LoopN cx (loopAt cx.P 75 0) 41 0 false [(0, .d (.lst false 3 a0)), (1, .d (I a1)), (2, .d (I a2)), (7, .d (I 0))] [] (.exit 0) [] []]) (by kernel_rfl) ⟨(loopF_to R_ref03_Has_L1 h1), trivial⟩
/- spillage/spillagelaw03.DrivePairs: .lst false 3 a0, .agg [I a1, I a2] -/
def F_law03_DrivePairs (n : Nat) (a0 : List D) (a1 : Int) (a2 : Int) : Option (Bool) :=
  (F_ref03_ShortModel n a0).bind fun t1 =>
  if t1 = true then
    (F_law03_given n a0).bind fun t3 =>
    (F_drive_Pairs n t3).bind fun t4 =>
    (F_drive_Has n t3 a1 a2).bind fun t5 =>
    (F_ref03_CheckModel n a0).bind fun t6 =>
    (F_ref01_CheckRange n a1 (-1000) 1000).bind fun t7 =>
    (F_ref01_CheckRange n a2 (-2000000) 2000000).bind fun t8 =>
    (F_ref01_First n ([I t6, I t7, I t8])).bind fun t9 =>
    if t6 = 0 then
      (F_ref03_Pairs n a0).bind fun t11 =>
      if t9 = 0 then
        (F_ref03_Has n a0 a1 a2).bind fun t13 =>
        if t4.1 = t11 then
          if t4.2 = t6 then
            if (t5.1 == t13) = true then
              if t5.2 = t9 then
                (F_law03_awake n).bind fun t18 =>
                some t18
              else
              none /- false -/
            else
            none /- false -/
          else
          none /- false -/
        else
        none /- false -/
      else
      if t4.1 = t11 then
        if t4.2 = t6 then
          if (t5.1 == false) = true then
            if t5.2 = t9 then
              (F_law03_awake n).bind fun t17 =>
              some t17
            else
            none /- false -/
          else
          none /- false -/
        else
        none /- false -/
      else
      none /- false -/
    else
    if t9 = 0 then
      (F_ref03_Has n a0 a1 a2).bind fun t12 =>
      if t4.1 = 0 then
        if t4.2 = t6 then
          if (t5.1 == t12) = true then
            if t5.2 = t9 then
              (F_law03_awake n).bind fun t17 =>
              some t17
            else
            none /- false -/
          else
          none /- false -/
        else
        none /- false -/
      else
      none /- false -/
    else
    if t4.1 = 0 then
      if t4.2 = t6 then
        if (t5.1 == false) = true then
          if t5.2 = t9 then
            (F_law03_awake n).bind fun t16 =>
            some t16
          else
          none /- false -/
        else
        none /- false -/
      else
      none /- false -/
    else
    none /- false -/
  else
  (F_law03_awake n).bind fun t3 =>
  some t3
theorem c_law03_DrivePairs {n : Nat} {a0 : List D} {a1 : Int} {a2 : Int} {r : Bool} (h : F_law03_DrivePairs n a0 a1 a2 = some r) : Computes cx 13 [.lst false 3 a0, .agg [I a1, I a2]] (B r) := by
  unfold F_law03_DrivePairs at h
  obtain ⟨t1, h1, h⟩ := bnd_of h
  by_cases h2 : t1 = true
  · replace h := ite_t h h2
    obtain ⟨t3, h3, h⟩ := bnd_of h
    obtain ⟨t4, h4, h⟩ := bnd_of h
    obtain ⟨t5, h5, h⟩ := bnd_of h
    obtain ⟨t6, h6, h⟩ := bnd_of h
    obtain ⟨t7, h7, h⟩ := bnd_of h
    obtain ⟨t8, h8, h⟩ := bnd_of h
    obtain ⟨t9, h9, h⟩ := bnd_of h
    by_cases h10 : t6 = 0
    · replace h := ite_t h h10
      obtain ⟨t11, h11, h⟩ := bnd_of h
      by_cases h12 : t9 = 0
      · replace h := ite_t h h12
        obtain ⟨t13, h13, h⟩ := bnd_of h
        by_cases h14 : t4.1 = t11
        · replace h := ite_t h h14
          by_cases h15 : t4.2 = t6
          · replace h := ite_t h h15
            by_cases h16 : (t5.1 == t13) = true
            · replace h := ite_t h h16
              by_cases h17 : t5.2 = t9
              · replace h := ite_t h h17
                obtain ⟨t18, h18, h⟩ := bnd_of h
                replace h := Option.some.inj h
                subst h
                exact run (n := 100) (f := 13) (args := [.lst false 3 a0, .agg [I a1, I a2]]) (orc := [.ret (B t1), .br false, .ret (.lst false 3 t3), .ret (.tup [I t4.1, I t4.2]), .ret (.lst false 3 t3), .ret (.tup [B t5.1, I t5.2]), .ret (I t6), .ret (I t7), .ret (I t8), .ret (I t9), .br true, .ret (I t11), .br true, .ret (B t13), .br true, .br true, .br true, .br true, .ret (B t18)]) (r := B t18) (ob := [Computes cx 19 [] (B t18), (t5.2 == t9) = true, (t5.1 == t13) = true, (t4.2 == t6) = true, (t4.1 == t11) = true, Computes cx 75 [.lst false 3 a0, I a1, I a2] (B t13), (t9 == 0) = true, Computes cx 74 [.lst false 3 a0] (I t11), (t6 == 0) = true, Computes cx 24 [.lst true 1 [I t6, I t7, I t8]] (I t9), Computes cx 59 [I a2, I (-2000000), I 2000000] (I t8), Computes cx 59 [I a1, I (-1000), I 1000] (I t7), Computes cx 49 [.lst false 3 a0] (I t6), Computes cx 73 [.lst false 3 t3, I a1, I a2] (.tup [B t5.1, I t5.2]), Computes cx 47 [.lst false 3 a0] (.lst false 3 t3), Computes cx 72 [.lst false 3 t3] (.tup [I t4.1, I t4.2]), Computes cx 47 [.lst false 3 a0] (.lst false 3 t3), (!t1) = false, Computes cx 45 [.lst false 3 a0] (B t1)]) (by kernel_rfl) ⟨(c_law03_awake h18), (eqt h17), h16, (eqt h15), (eqt h14), (c_ref03_Has h13), (eqt h12), (c_ref03_Pairs h11), (eqt h10), ((c_ref01_First h9).le (.cons (.full _ _ _) (.nil)) (.refl _)), (c_ref01_CheckRange h8), (c_ref01_CheckRange h7), (c_ref03_CheckModel h6), (c_drive_Has h5), (c_law03_given h3), (c_drive_Pairs h4), (c_law03_given h3), (notf h2), (c_ref03_ShortModel h1), trivial⟩
              · replace h := ite_f h h17
                cases h
            · replace h := ite_f h h16
              cases h
          · replace h := ite_f h h15
            cases h
        · replace h := ite_f h h14
          cases h
      · replace h := ite_f h h12
        by_cases h13 : t4.1 = t11
        · replace h := ite_t h h13
          by_cases h14 : t4.2 = t6
          · replace h := ite_t h h14
            by_cases h15 : (t5.1 == false) = true
            · replace h := ite_t h h15
              by_cases h16 : t5.2 = t9
              · replace h := ite_t h h16
                obtain ⟨t17, h17, h⟩ := bnd_of h
                replace h := Option.some.inj h
                subst h
                exact run (n := 100) (f := 13) (args := [.lst false 3 a0, .agg [I a1, I a2]]) (orc := [.ret (B t1), .br false, .ret (.lst false 3 t3), .ret (.tup [I t4.1, I t4.2]), .ret (.lst false 3 t3), .ret (.tup [B t5.1, I t5.2]), .ret (I t6), .ret (I t7), .ret (I t8), .ret (I t9), .br true, .ret (I t11), .br false, .br true, .br true, .br true, .br true, .ret (B t17)]) (r := B t17) (ob := [Computes cx 19 [] (B t17), (t5.2 == t9) = true, (t5.1 == false) = true, (t4.2 == t6) = true, (t4.1 == t11) = true, (t9 == 0) = false, Computes cx 74 [.lst false 3 a0] (I t11), (t6 == 0) = true, Computes cx 24 [.lst true 1 [I t6, I t7, I t8]] (I t9), Computes cx 59 [I a2, I (-2000000), I 2000000] (I t8), Computes cx 59 [I a1, I (-1000), I 1000] (I t7), Computes cx 49 [.lst false 3 a0] (I t6), Computes cx 73 [.lst false 3 t3, I a1, I a2] (.tup [B t5.1, I t5.2]), Computes cx 47 [.lst false 3 a0] (.lst false 3 t3), Computes cx 72 [.lst false 3 t3] (.tup [I t4.1, I t4.2]), Computes cx 47 [.lst false 3 a0] (.lst false 3 t3), (!t1) = false, Computes cx 45 [.lst false 3 a0] (B t1)]) (by kernel_rfl) ⟨(c_law03_awake h17), (eqt h16), h15, (eqt h14), (eqt h13), (eqf h12), (c_ref03_Pairs h11), (eqt h10), ((c_ref01_First h9).le (.cons (.full _ _ _) (.nil)) (.refl _)), (c_ref01_CheckRange h8), (c_ref01_CheckRange h7), (c_ref03_CheckModel h6), (c_drive_Has h5), (c_law03_given h3), (c_drive_Pairs h4), (c_law03_given h3), (notf h2), (c_ref03_ShortModel h1), trivial⟩
              · replace h := ite_f h h16
                cases h
            · replace h := ite_f h h15
              cases h
          · replace h := ite_f h h14
            cases h
        · replace h := ite_f h h13
          cases h
    · replace h := ite_f h h10
      by_cases h11 : t9 = 0
      · replace h := ite_t h h11
        obtain ⟨t12, h12, h⟩ := bnd_of h
        by_cases h13 : t4.1 = 0
        · replace h := ite_t h h13
          by_cases h14 : t4.2 = t6
          · replace h := ite_t h h14
            by_cases h15 : (t5.1 == t12) = true
            · replace h := ite_t h h15
              by_cases h16 : t5.2 = t9
              · replace h := ite_t h h16
                obtain ⟨t17, h17, h⟩ := bnd_of h
                replace h := Option.some.inj h
                subst h
                exact run (n := 100) (f := 13) (args := [.lst false 3 a0, .agg [I a1, I a2]]) (orc := [.ret (B t1), .br false, .ret (.lst false 3 t3), .ret (.tup [I t4.1, I t4.2]), .ret (.lst false 3 t3), .ret (.tup [B t5.1, I t5.2]), .ret (I t6), .ret (I t7), .ret (I t8), .ret (I t9), .br false, .br true, .ret (B t12), .br true, .br true, .br true, .br true, .ret (B t17)]) (r := B t17) (ob := [Computes cx 19 [] (B t17), (t5.2 == t9) = true, (t5.1 == t12) = true, (t4.2 == t6) = true, (t4.1 == 0) = true, Computes cx 75 [.lst false 3 a0, I a1, I a2] (B t12), (t9 == 0) = true, (t6 == 0) = false, Computes cx 24 [.lst true 1 [I t6, I t7, I t8]] (I t9), Computes cx 59 [I a2, I (-2000000), I 2000000] (I t8), Computes cx 59 [I a1, I (-1000), I 1000] (I t7), Computes cx 49 [.lst false 3 a0] (I t6), Computes cx 73 [.lst false 3 t3, I a1, I a2] (.tup [B t5.1, I t5.2]), Computes cx 47 [.lst false 3 a0] (.lst false 3 t3), Computes cx 72 [.lst false 3 t3] (.tup [I t4.1, I t4.2]), Computes cx 47 [.lst false 3 a0] (.lst false 3 t3), (!t1) = false, Computes cx 45 [.lst false 3 a0] (B t1)]) (by kernel_rfl) ⟨(c_law03_awake h17), (eqt h16), h15, (eqt h14), (eqt h13), (c_ref03_Has h12), (eqt h11), (eqf h10), ((c_ref01_First h9).le (.cons (.full _ _ _) (.nil)) (.refl _)), (c_ref01_CheckRange h8), (c_ref01_CheckRange h7), (c_ref03_CheckModel h6), (c_drive_Has h5), (c_law03_given h3), (c_drive_Pairs h4), (c_law03_given h3), (notf h2), (c_ref03_ShortModel h1), trivial⟩
              · replace h := ite_f h h16
                cases h
            · replace h := ite_f h h15
              cases h
          · replace h := ite_f h h14
            cases h
        · replace h := ite_f h h13
          cases h
      · replace h := ite_f h h11
        by_cases h12 : t4.1 = 0
        · replace h := ite_t h h12
          by_cases h13 : t4.2 = t6
          · replace h := ite_t h h13
            by_cases h14 : (t5.1 == false) = true
            · replace h := ite_t h h14
              by_cases h15 : t5.2 = t9
              · replace h := ite_t h h15
                obtain ⟨t16, h16, h⟩ := bnd_of h
                replace h := Option.some.inj h
                subst h
                exact run (n := 100) (f := 13) (args := [.lst false 3 a0, .agg [I a1, I a2]]) (orc := [.ret (B t1), .br false, .ret (.lst false 3 t3), .ret (.tup [I t4.1, I t4.2]), .ret (.lst false 3 t3), .ret (.tup [B t5.1, I t5.2]), .ret (I t6), .ret (I t7), .ret (I t8), .ret (I t9), .br false, .br false, .br true, .br true, .br true, .br true, .ret (B t16)]) (r := B t16) (ob := [Computes cx 19 [] (B t16), (t5.2 == t9) = true, (t5.1 == false) = true, (t4.2 == t6) = true, (t4.1 == 0) = true, (t9 == 0) = false, (t6 == 0) = false, Computes cx 24 [.lst true 1 [I t6, I t7, I t8]] (I t9), Computes cx 59 [I a2, I (-2000000), I 2000000] (I t8), Computes cx 59 [I a1, I (-1000), I 1000] (I t7), Computes cx 49 [.lst false 3 a0] (I t6), Computes cx 73 [.lst false 3 t3, I a1, I a2] (.tup [B t5.1, I t5.2]), Computes cx 47 [.lst false 3 a0] (.lst false 3 t3), Computes cx 72 [.lst false 3 t3] (.tup [I t4.1, I t4.2]), Computes cx 47 [.lst false 3 a0] (.lst false 3 t3), (!t1) = false, Computes cx 45 [.lst false 3 a0] (B t1)]) (by kernel_rfl) ⟨(c_law03_awake h16), (eqt h15), h14, (eqt h13), (eqt h12), (eqf h11), (eqf h10), ((c_ref01_First h9).le (.cons (.full _ _ _) (.nil)) (.refl _)), (c_ref01_CheckRange h8), (c_ref01_CheckRange h7), (c_ref03_CheckModel h6), (c_drive_Has h5), (c_law03_given h3), (c_drive_Pairs h4), (c_law03_given h3), (notf h2), (c_ref03_ShortModel h1), trivial⟩
              · replace h := ite_f h h15
                cases h
            · replace h := ite_f h h14
              cases h
          · replace h := ite_f h h13
            cases h
        · replace h := ite_f h h12
          cases h
  · replace h := ite_f h h2
    obtain ⟨t3, h3, h⟩ := bnd_of h
    replace h := Option.some.inj h
    subst h
    exact run (n := 100) (f := 13) (args := [.lst false 3 a0, .agg [I a1, I a2]]) (orc := [.ret (B t1), .br true, .ret (B t3)]) (r := B t3) (ob := [Computes cx 19 [] (B t3), (!t1) = true, Computes cx 45 [.lst false 3 a0] (B t1)]) (by kernel_rfl) ⟨(c_law03_awake h3), (nott (bfalse h2)), (c_ref03_ShortModel h1), trivial⟩
end Go.Proofs.YtmgbmngmmpeaaaaGreatDoor
