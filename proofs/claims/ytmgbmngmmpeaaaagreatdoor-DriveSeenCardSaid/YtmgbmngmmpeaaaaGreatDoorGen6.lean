/-
  Printed by gsx.py: functions of the program as Lean functions, and that the code computes them.
-/
import Derived.Test.YtmgbmngmmpeaaaaGreatDoorGen5
set_option linter.unusedVariables false
set_option linter.unusedSimpArgs false
set_option linter.unnecessarySimpa false
set_option maxRecDepth 10000
namespace Go.Proofs.YtmgbmngmmpeaaaaGreatDoor
open Go.SX
/- math.IsNaN: .v (.float .f64 a0) -/
def F_math_IsNaN (n : Nat) (a0 : Nat) : Option (Bool) :=
  some ((FloatKind.format .f64).order a0 a0 != some .eq)
theorem c_math_IsNaN {n : Nat} {a0 : Nat} {r : Bool} (h : F_math_IsNaN n a0 = some r) : Computes cx 160 [.v (.float .f64 a0)] (B r) := by
  unfold F_math_IsNaN at h
  replace h := Option.some.inj h
  subst h
  exact run (n := 100) (f := 160) (args := [.v (.float .f64 a0)]) (orc := []) (r := B ((FloatKind.format .f64).order a0 a0 != some .eq)) (ob := []) (by kernel_rfl) trivial
/- math.IsInf: .v (.float .f64 a0), I a1 -/
def F_math_IsInf (n : Nat) (a0 : Nat) (a1 : Int) : Option (Bool) :=
  if a1 = 0 then
    (F_math_Abs n a0).bind fun t2 =>
    some ((FloatKind.format .f64).order t2 9218868437227405311 == some .gt)
  else
  if a1 < 0 then
    some ((FloatKind.format .f64).order (Op.negFloat .f64 a0) 9218868437227405311 == some .gt)
  else
  some ((FloatKind.format .f64).order a0 9218868437227405311 == some .gt)
theorem c_math_IsInf {n : Nat} {a0 : Nat} {a1 : Int} {r : Bool} (h : F_math_IsInf n a0 a1 = some r) : Computes cx 161 [.v (.float .f64 a0), I a1] (B r) := by
  unfold F_math_IsInf at h
  by_cases h1 : a1 = 0
  · replace h := ite_t h h1
    obtain ⟨t2, h2, h⟩ := bnd_of h
    replace h := Option.some.inj h
    subst h
    exact run (n := 100) (f := 161) (args := [.v (.float .f64 a0), I a1]) (orc := [.br true, .ret (.v (.float .f64 t2))]) (r := B ((FloatKind.format .f64).order t2 9218868437227405311 == some .gt)) (ob := [Computes cx 177 [.v (.float .f64 a0)] (.v (.float .f64 t2)), (a1 == 0) = true]) (by kernel_rfl) ⟨(c_math_Abs h2), (eqt h1), trivial⟩
  · replace h := ite_f h h1
    by_cases h2 : a1 < 0
    · replace h := ite_t h h2
      replace h := Option.some.inj h
      subst h
      exact run (n := 100) (f := 161) (args := [.v (.float .f64 a0), I a1]) (orc := [.br false, .br true]) (r := B ((FloatKind.format .f64).order (Op.negFloat .f64 a0) 9218868437227405311 == some .gt)) (ob := [(decide (a1 < 0)) = true, (a1 == 0) = false]) (by kernel_rfl) ⟨(decide_eq_true h2), (eqf h1), trivial⟩
    · replace h := ite_f h h2
      replace h := Option.some.inj h
      subst h
      exact run (n := 100) (f := 161) (args := [.v (.float .f64 a0), I a1]) (orc := [.br false, .br false]) (r := B ((FloatKind.format .f64).order a0 9218868437227405311 == some .gt)) (ob := [(decide (a1 < 0)) = false, (a1 == 0) = false]) (by kernel_rfl) ⟨(decide_eq_false h2), (eqf h1), trivial⟩
/- spillage/light.infinite: .v (.float .f32 a0) -/
def F_light_infinite_2 (n : Nat) (a0 : Nat) : Option (Bool) :=
  if (f2f .f32 a0 .f64).isSome = true then
  (F_math_IsNaN n ((f2f .f32 a0 .f64).getD 0)).bind fun t2 =>
  if t2 = true then
    some true
  else
  (F_math_IsInf n ((f2f .f32 a0 .f64).getD 0) 0).bind fun t4 =>
  some t4
  else none
theorem c_light_infinite_2 {n : Nat} {a0 : Nat} {r : Bool} (h : F_light_infinite_2 n a0 = some r) : Computes cx 132 [.v (.float .f32 a0)] (B r) := by
  unfold F_light_infinite_2 at h
  obtain ⟨h1, h⟩ := grd_of h
  obtain ⟨t2, h2, h⟩ := bnd_of h
  by_cases h3 : t2 = true
  · replace h := ite_t h h3
    replace h := Option.some.inj h
    subst h
    exact run (n := 100) (f := 132) (args := [.v (.float .f32 a0)]) (orc := [.ret (B t2), .br true]) (r := B true) (ob := [t2 = true, Computes cx 160 [.v (.float .f64 ((f2f .f32 a0 .f64).getD 0))] (B t2), (f2f .f32 a0 .f64).isSome = true]) (by kernel_rfl) ⟨h3, (c_math_IsNaN h2), h1, trivial⟩
  · replace h := ite_f h h3
    obtain ⟨t4, h4, h⟩ := bnd_of h
    replace h := Option.some.inj h
    subst h
    exact run (n := 100) (f := 132) (args := [.v (.float .f32 a0)]) (orc := [.ret (B t2), .br false, .ret (B t4)]) (r := B t4) (ob := [Computes cx 161 [.v (.float .f64 ((f2f .f32 a0 .f64).getD 0)), I 0] (B t4), (f2f .f32 a0 .f64).isSome = true, t2 = false, Computes cx 160 [.v (.float .f64 ((f2f .f32 a0 .f64).getD 0))] (B t2), (f2f .f32 a0 .f64).isSome = true]) (by kernel_rfl) ⟨(c_math_IsInf h4), h1, (bfalse h3), (c_math_IsNaN h2), h1, trivial⟩
/- spillage/light.when: B a0, I a1 -/
def F_light_when (n : Nat) (a0 : Bool) (a1 : Int) : Option (Int) :=
  if a0 = true then
    some a1
  else
  some 0
theorem c_light_when {n : Nat} {a0 : Bool} {a1 : Int} {r : Int} (h : F_light_when n a0 a1 = some r) : Computes cx 131 [B a0, I a1] (I r) := by
  unfold F_light_when at h
  by_cases h1 : a0 = true
  · replace h := ite_t h h1
    replace h := Option.some.inj h
    subst h
    exact run (n := 100) (f := 131) (args := [B a0, I a1]) (orc := [.br true]) (r := I a1) (ob := [a0 = true]) (by kernel_rfl) ⟨h1, trivial⟩
  · replace h := ite_f h h1
    replace h := Option.some.inj h
    subst h
    exact run (n := 100) (f := 131) (args := [B a0, I a1]) (orc := [.br false]) (r := I 0) (ob := [a0 = false]) (by kernel_rfl) ⟨(bfalse h1), trivial⟩
/- spillage/light.when: B true, I 3 -/
def F_light_when_2 (n : Nat)  : Option (Int) :=
  some 3
theorem c_light_when_2 {n : Nat}  {r : Int} (h : F_light_when_2 n  = some r) : Computes cx 131 [B true, I 3] (I r) := by
  unfold F_light_when_2 at h
  replace h := Option.some.inj h
  subst h
  exact run (n := 100) (f := 131) (args := [B true, I 3]) (orc := [.no]) (r := I 3) (ob := []) (by kernel_rfl) trivial
/- spillage/light.onGrid: .v (.float .f32 a0), .v (.float .f32 a1) -/
def F_light_onGrid_2 (n : Nat) (a0 : Nat) (a1 : Nat) : Option (Int) :=
  if ((FloatKind.format .f32).order a0 (Op.negFloat .f32 a1) == some .lt) = true then
    (F_light_when_2 n).bind fun t2 =>
    some t2
  else
  if ((FloatKind.format .f32).order a0 a1 == some .gt) = true then
    (F_light_when_2 n).bind fun t3 =>
    some t3
  else
  if (fop .mul .f32 1098907648 a0).isSome = true then
  if (f2f .f32 ((fop .mul .f32 1098907648 a0).getD 0) .f64).isSome = true then
  (F_math_Floor n ((f2f .f32 ((fop .mul .f32 1098907648 a0).getD 0) .f64).getD 0)).bind fun t5 =>
  if (f2f .f64 t5 .f32).isSome = true then
  (F_light_when n ((FloatKind.format .f32).order ((f2f .f64 t5 .f32).getD 0) ((fop .mul .f32 1098907648 a0).getD 0) != some .eq) 3).bind fun t7 =>
  some t7
  else none
  else none
  else none
theorem c_light_onGrid_2 {n : Nat} {a0 : Nat} {a1 : Nat} {r : Int} (h : F_light_onGrid_2 n a0 a1 = some r) : Computes cx 133 [.v (.float .f32 a0), .v (.float .f32 a1)] (I r) := by
  unfold F_light_onGrid_2 at h
  by_cases h1 : ((FloatKind.format .f32).order a0 (Op.negFloat .f32 a1) == some .lt) = true
  · replace h := ite_t h h1
    obtain ⟨t2, h2, h⟩ := bnd_of h
    replace h := Option.some.inj h
    subst h
    exact run (n := 100) (f := 133) (args := [.v (.float .f32 a0), .v (.float .f32 a1)]) (orc := [.br true, .no, .ret (I t2)]) (r := I t2) (ob := [Computes cx 131 [B true, I 3] (I t2), ((FloatKind.format .f32).order a0 (Op.negFloat .f32 a1) == some .lt) = true]) (by kernel_rfl) ⟨(c_light_when_2 h2), h1, trivial⟩
  · replace h := ite_f h h1
    by_cases h2 : ((FloatKind.format .f32).order a0 a1 == some .gt) = true
    · replace h := ite_t h h2
      obtain ⟨t3, h3, h⟩ := bnd_of h
      replace h := Option.some.inj h
      subst h
      exact run (n := 100) (f := 133) (args := [.v (.float .f32 a0), .v (.float .f32 a1)]) (orc := [.br false, .br true, .ret (I t3)]) (r := I t3) (ob := [Computes cx 131 [B true, I 3] (I t3), ((FloatKind.format .f32).order a0 a1 == some .gt) = true, ((FloatKind.format .f32).order a0 (Op.negFloat .f32 a1) == some .lt) = false]) (by kernel_rfl) ⟨(c_light_when_2 h3), h2, (bfalse h1), trivial⟩
    · replace h := ite_f h h2
      obtain ⟨h3, h⟩ := grd_of h
      obtain ⟨h4, h⟩ := grd_of h
      obtain ⟨t5, h5, h⟩ := bnd_of h
      obtain ⟨h6, h⟩ := grd_of h
      obtain ⟨t7, h7, h⟩ := bnd_of h
      replace h := Option.some.inj h
      subst h
      exact run (n := 100) (f := 133) (args := [.v (.float .f32 a0), .v (.float .f32 a1)]) (orc := [.br false, .br false, .ret (.v (.float .f64 t5)), .ret (I t7)]) (r := I t7) (ob := [Computes cx 131 [B ((FloatKind.format .f32).order ((f2f .f64 t5 .f32).getD 0) ((fop .mul .f32 1098907648 a0).getD 0) != some .eq), I 3] (I t7), (fop .mul .f32 1098907648 a0).isSome = true, (f2f .f64 t5 .f32).isSome = true, Computes cx 162 [.v (.float .f64 ((f2f .f32 ((fop .mul .f32 1098907648 a0).getD 0) .f64).getD 0))] (.v (.float .f64 t5)), (f2f .f32 ((fop .mul .f32 1098907648 a0).getD 0) .f64).isSome = true, (fop .mul .f32 1098907648 a0).isSome = true, ((FloatKind.format .f32).order a0 a1 == some .gt) = false, ((FloatKind.format .f32).order a0 (Op.negFloat .f32 a1) == some .lt) = false]) (by kernel_rfl) ⟨(c_light_when h7), h3, h6, (c_math_Floor h5), h4, h3, (bfalse h2), (bfalse h1), trivial⟩
def F_light_first_L1 (n : Nat) (a0 : List D) (sa : (Int)) : Option (((Int)) ⊕ ((Int) ⊕ (Unit))) :=
  if sa < ((a0).length : Int) then
    (el un_i a0 sa).bind fun ta2 =>
    if ta2 = 0 then
      if inI64 (sa + 1) then
      some (.inl (sa + 1))
      else none
    else
    some (.inr (.inl ta2))
  else
  some (.inr (.inr ()))
noncomputable def T_light_first_L1 (a0 : List D) (sa : (Int)) : List (Nat × AV) := [(5, .d (.lst false 1 a0)), (6, .d (I ((a0).length : Int))), (7, .d (I sa))]
noncomputable def H_light_first_L1 (a0 : List D) (sa : (Int)) : List (Nat × Blk) := []
noncomputable def X_light_first_L1 (a0 : List D) (e : (Int) ⊕ (Unit)) : Ex := match e with
  | (.inl e) => .ret
  | (.inr e) => (.exit 0)
noncomputable def XT_light_first_L1 (a0 : List D) (e : (Int) ⊕ (Unit)) : List (Nat × AV) := match e with
  | (.inl e) => [(2, .d (I e))]
  | (.inr e) => []
noncomputable def XH_light_first_L1 (a0 : List D) (e : (Int) ⊕ (Unit)) : List (Nat × Blk) := match e with
  | (.inl e) => []
  | (.inr e) => []
theorem R_light_first_L1 {n : Nat} {a0 : List D} (sa : (Int)) (r) (h : F_light_first_L1 n a0 sa = some r) : Rd cx (loopAt cx.P 130 0) 15 0 false (T_light_first_L1 a0) (H_light_first_L1 a0) (X_light_first_L1 a0) (XT_light_first_L1 a0) (XH_light_first_L1 a0) sa r := by
  unfold F_light_first_L1 at h
  by_cases ha1 : sa < ((a0).length : Int)
  · replace h := ite_t h ha1
    obtain ⟨ta2, ha2, h⟩ := bnd_of h
    by_cases ha3 : ta2 = 0
    · replace h := ite_t h ha3
      obtain ⟨ha4, h⟩ := grd_of h
      replace h := Option.some.inj h
      subst h
      exact ⟨100, 4, [.br true, .el (I ta2), .br false], [], [5, 6, 7], [], round_of (ob := [inI64 (sa + 1), (ta2 != 0) = false, (0 : Int) ≤ sa, nth (a0) (Int.toNat sa) = some (I ta2), (decide (sa < ((a0).length : Int))) = true]) (by kernel_rfl) ⟨ha4, (nef ha3), (el_ok un_i_ok ha2).1, (el_ok un_i_ok ha2).2, (decide_eq_true ha1), trivial⟩⟩
    · replace h := ite_f h ha3
      replace h := Option.some.inj h
      subst h
      exact ⟨⟨100, 4, [.br true, .el (I ta2), .br true], [], [2], [], round_of (ob := [(ta2 != 0) = true, (0 : Int) ≤ sa, nth (a0) (Int.toNat sa) = some (I ta2), (decide (sa < ((a0).length : Int))) = true]) (by kernel_rfl) ⟨(net ha3), (el_ok un_i_ok ha2).1, (el_ok un_i_ok ha2).2, (decide_eq_true ha1), trivial⟩⟩, nofun⟩
  · replace h := ite_f h ha1
    replace h := Option.some.inj h
    subst h
    exact ⟨⟨100, 4, [.br false], [], [], [], round_of (ob := [(decide (sa < ((a0).length : Int))) = false]) (by kernel_rfl) ⟨(decide_eq_false ha1), trivial⟩⟩, nofun⟩
/- spillage/light.first: .lst false 1 a0 -/
def F_light_first (n : Nat) (a0 : List D) : Option (Int) :=
  (loopF (F_light_first_L1 n a0) n 0).bind fun t1 => match t1 with
    | (.inl t1) => (
      some t1)
    | (.inr t1) => (
      some 0)
theorem c_light_first {n : Nat} {a0 : List D} {r : Int} (h : F_light_first n a0 = some r) : Computes cx 130 [.lst false 1 a0] (I r) := by
  unfold F_light_first at h
  obtain ⟨t1, h1, h⟩ := bnd_of h
  rcases t1 with t1 | t1
  · replace h := Option.some.inj h
    subst h
    exact run (n := 100) (f := 130) (args := [.lst false 1 a0]) (orc := [.lp [] [5, 6, 7] [] .ret [(2, .d (I t1))] [] 23]) (r := I t1) (ob := [LoopN cx (loopAt cx.P 130 0) 15 0 false [(5, .d (.lst false 1 a0)), (6, .d (I ((a0).length : Int))), (7, .d (I 0))] [] .ret [(2, .d (I t1))] []]) (by kernel_rfl) ⟨(loopF_to R_light_first_L1 h1), trivial⟩
  · replace h := Option.some.inj h
    subst h
    exact run (n := 100) (f := 130) (args := [.lst false 1 a0]) (orc := [.lp [] [5, 6, 7] [] (.exit 0) [] [] 23]) (r := I 0) (ob := [LoopN cx (loopAt cx.P 130 0) 15 0 false [(5, .d (.lst false 1 a0)), (6, .d (I ((a0).length : Int))), (7, .d (I 0))] [] (.exit 0) [] []]) (by kernel_rfl) ⟨(loopF_to R_light_first_L1 h1), trivial⟩
def enc_ff32 (x : Nat) : D := .v (.float .f32 x)
def un_ff32 (d : D) : Option (Nat) := un_flt .f32 d
theorem un_ff32_ok {d : D} {x : Nat} (h : un_ff32 d = some x) : d = enc_ff32 x := un_flt_ok h
/- spillage/light.CheckSample: .v (.float .f32 a0) -/
def F_light_CheckSample_7 (n : Nat) (a0 : Nat) : Option (Int) :=
  (F_light_infinite_2 n a0).bind fun t1 =>
  (F_light_when n t1 1).bind fun t2 =>
  (F_light_onGrid_2 n a0 1149239296).bind fun t3 =>
  (F_light_first n ([I t2, I t3])).bind fun t4 =>
  some t4
theorem c_light_CheckSample_7 {n : Nat} {a0 : Nat} {r : Int} (h : F_light_CheckSample_7 n a0 = some r) : Computes cx 105 [.v (.float .f32 a0)] (I r) := by
  unfold F_light_CheckSample_7 at h
  obtain ⟨t1, h1, h⟩ := bnd_of h
  obtain ⟨t2, h2, h⟩ := bnd_of h
  obtain ⟨t3, h3, h⟩ := bnd_of h
  obtain ⟨t4, h4, h⟩ := bnd_of h
  replace h := Option.some.inj h
  subst h
  exact run (n := 100) (f := 105) (args := [.v (.float .f32 a0)]) (orc := [.ret (B t1), .ret (I t2), .ret (I t3), .ret (I t4)]) (r := I t4) (ob := [Computes cx 130 [.lst true 1 [I t2, I t3]] (I t4), Computes cx 133 [.v (.float .f32 a0), .v (.float .f32 1149239296)] (I t3), Computes cx 131 [B t1, I 1] (I t2), Computes cx 132 [.v (.float .f32 a0)] (B t1)]) (by kernel_rfl) ⟨((c_light_first h4).le (.cons (.full _ _ _) (.nil)) (.refl _)), (c_light_onGrid_2 h3), (c_light_when h2), (c_light_infinite_2 h1), trivial⟩
def F_drive_mapped_g_4_L1 (n : Nat) (a0 : List D) (sa : (Int × List D)) : Option (((Int × List D)) ⊕ ((List D))) :=
  if sa.1 < ((a0).length : Int) then
    (el un_ff32 a0 sa.1).bind fun ta2 =>
    (F_light_CheckSample_7 n ta2).bind fun ta3 =>
    if roomP 8 ((sa.2).length + 1) then
    if inI64 (sa.1 + 1) then
    some (.inl ((sa.1 + 1), (sa.2 ++ ([I ta3] : List D))))
    else none
    else none
  else
  some (.inr sa.2)
noncomputable def T_drive_mapped_g_4_L1 (a0 : List D) (sa : (Int × List D)) : List (Nat × AV) := [(1, .d (.fn (.func 105) [] [])), (5, .own 5 0), (8, .d (.lst false 1 a0)), (9, .d (I ((a0).length : Int))), (10, .d (I sa.1))]
noncomputable def H_drive_mapped_g_4_L1 (a0 : List D) (sa : (Int × List D)) : List (Nat × Blk) := [(5, .row 0 1 sa.2)]
noncomputable def X_drive_mapped_g_4_L1 (a0 : List D) (e : (List D)) : Ex := (.exit 0)
noncomputable def XT_drive_mapped_g_4_L1 (a0 : List D) (e : (List D)) : List (Nat × AV) := [(5, .own 5 0)]
noncomputable def XH_drive_mapped_g_4_L1 (a0 : List D) (e : (List D)) : List (Nat × Blk) := [(5, .row 0 1 e)]
theorem R_drive_mapped_g_4_L1 {n : Nat} {a0 : List D} (sa : (Int × List D)) (r) (h : F_drive_mapped_g_4_L1 n a0 sa = some r) : Rd cx (loopAt cx.P 104 0) 22 0 false (T_drive_mapped_g_4_L1 a0) (H_drive_mapped_g_4_L1 a0) (X_drive_mapped_g_4_L1 a0) (XT_drive_mapped_g_4_L1 a0) (XH_drive_mapped_g_4_L1 a0) sa r := by
  unfold F_drive_mapped_g_4_L1 at h
  by_cases ha1 : sa.1 < ((a0).length : Int)
  · replace h := ite_t h ha1
    obtain ⟨ta2, ha2, h⟩ := bnd_of h
    obtain ⟨ta3, ha3, h⟩ := bnd_of h
    obtain ⟨ha4, h⟩ := grd_of h
    obtain ⟨ha5, h⟩ := grd_of h
    replace h := Option.some.inj h
    subst h
    exact ⟨100, 6, [.br true, .el (.v (.float .f32 ta2)), .ret (I ta3), .br true], [], [1, 5, 8, 9, 10], [5], round_of (ob := [inI64 (sa.1 + 1), room cx 32 ((sa.2).length + 1), Computes cx 105 [.v (.float .f32 ta2)] (I ta3), (0 : Int) ≤ sa.1, nth (a0) (Int.toNat sa.1) = some (.v (.float .f32 ta2)), (decide (sa.1 < ((a0).length : Int))) = true]) (by kernel_rfl) ⟨ha5, (room_of (b := 8) (by kernel_rfl) (by decide) ha4), (c_light_CheckSample_7 ha3), (el_ok un_ff32_ok ha2).1, (el_ok un_ff32_ok ha2).2, (decide_eq_true ha1), trivial⟩⟩
  · replace h := ite_f h ha1
    replace h := Option.some.inj h
    subst h
    exact ⟨⟨100, 6, [.br false], [], [5], [5], round_of (ob := [(decide (sa.1 < ((a0).length : Int))) = false]) (by kernel_rfl) ⟨(decide_eq_false ha1), trivial⟩⟩, nofun⟩
/- spillage/drive.mapped[float32,spillage/api.Errno]: .lst false 1 a0, .fn (.func 105) [] [] -/
def F_drive_mapped_g_4 (n : Nat) (a0 : List D) : Option (List D) :=
  (loopF (F_drive_mapped_g_4_L1 n a0) n (0, [])).bind fun t1 =>
  some t1
theorem c_drive_mapped_g_4 {n : Nat} {a0 : List D} {r : List D} (h : F_drive_mapped_g_4 n a0 = some r) : Computes cx 104 [.lst false 1 a0, .fn (.func 105) [] []] (.lst false 1 r) := by
  unfold F_drive_mapped_g_4 at h
  obtain ⟨t1, h1, h⟩ := bnd_of h
  replace h := Option.some.inj h
  subst h
  exact run (n := 100) (f := 104) (args := [.lst false 1 a0, .fn (.func 105) [] []]) (orc := [.lp [5, 1] [1, 5, 8, 9, 10] [5] (.exit 0) [(5, .own 5 0)] [(5, .row 0 1 t1)] 30]) (r := .lst false 1 t1) (ob := [LoopN cx (loopAt cx.P 104 0) 22 0 false [(1, .d (.fn (.func 105) [] [])), (5, .own 5 0), (8, .d (.lst false 1 a0)), (9, .d (I ((a0).length : Int))), (10, .d (I 0))] [(5, .row 0 1 [])] (.exit 0) [(5, .own 5 0)] [(5, .row 0 1 t1)]]) (by kernel_rfl) ⟨(loopF_to R_drive_mapped_g_4_L1 h1), trivial⟩
def F_drive_Overloads_2_L1 (n : Nat) (a0 : List D) (a1 : Nat) (a2 : Int) (sa : (Int × Int × List D)) : Option (((Int × Int × List D)) ⊕ ((List D))) :=
  if sa.2.1 < (((a0 ++ ([.v (.float .f32 a1)] : List D)) : List D).length : Int) then
    if 0 ≤ sa.2.1 ∧ sa.2.1 < (((a0 ++ ([.v (.float .f32 a1)] : List D)) : List D).length : Int) then
    ((nth ((a0 ++ ([.v (.float .f32 a1)] : List D)) : List D) (Int.toNat sa.2.1)).bind un_ff32).bind fun ta3 =>
    if ((FloatKind.format .f32).order ta3 a1 == some .gt) = true then
      if inI64 (sa.2.1 + 1) then
      some (.inl (sa.1, (sa.2.1 + 1), sa.2.2))
      else none
    else
    if inI64 (sa.2.1 - sa.1) then
    if (sa.2.1 - sa.1) ≥ a2 then
      if roomP 16 ((sa.2.2).length + 1) then
      if inI64 (sa.2.1 + 1) then
      some (.inl ((sa.2.1 + 1), (sa.2.1 + 1), (sa.2.2 ++ ([.agg [I sa.1, I sa.2.1]] : List D))))
      else none
      else none
    else
    if inI64 (sa.2.1 + 1) then
    some (.inl ((sa.2.1 + 1), (sa.2.1 + 1), sa.2.2))
    else none
    else none
    else none
  else
  some (.inr sa.2.2)
noncomputable def T_drive_Overloads_2_L1 (a0 : List D) (a1 : Nat) (a2 : Int) (sa : (Int × Int × List D)) : List (Nat × AV) := [(1, .d (.v (.float .f32 a1))), (2, .d (I a2)), (9, .own 33 0), (10, .d (I sa.1)), (32, .own 31 0), (33, .d (I (((a0 ++ ([.v (.float .f32 a1)] : List D)) : List D).length : Int))), (34, .d (I sa.2.1))]
noncomputable def H_drive_Overloads_2_L1 (a0 : List D) (a1 : Nat) (a2 : Int) (sa : (Int × Int × List D)) : List (Nat × Blk) := [(31, .row 0 1 (a0 ++ ([.v (.float .f32 a1)] : List D))), (33, .row 0 2 sa.2.2)]
noncomputable def X_drive_Overloads_2_L1 (a0 : List D) (a1 : Nat) (a2 : Int) (e : (List D)) : Ex := (.exit 0)
noncomputable def XT_drive_Overloads_2_L1 (a0 : List D) (a1 : Nat) (a2 : Int) (e : (List D)) : List (Nat × AV) := [(9, .own 33 0)]
noncomputable def XH_drive_Overloads_2_L1 (a0 : List D) (a1 : Nat) (a2 : Int) (e : (List D)) : List (Nat × Blk) := [(33, .row 0 2 e)]
theorem R_drive_Overloads_2_L1 {n : Nat} {a0 : List D} {a1 : Nat} {a2 : Int} (sa : (Int × Int × List D)) (r) (h : F_drive_Overloads_2_L1 n a0 a1 a2 sa = some r) : Rd cx (loopAt cx.P 66 0) 57 0 false (T_drive_Overloads_2_L1 a0 a1 a2) (H_drive_Overloads_2_L1 a0 a1 a2) (X_drive_Overloads_2_L1 a0 a1 a2) (XT_drive_Overloads_2_L1 a0 a1 a2) (XH_drive_Overloads_2_L1 a0 a1 a2) sa r := by
  unfold F_drive_Overloads_2_L1 at h
  by_cases ha1 : sa.2.1 < (((a0 ++ ([.v (.float .f32 a1)] : List D)) : List D).length : Int)
  · replace h := ite_t h ha1
    obtain ⟨ha2, h⟩ := grd_of h
    obtain ⟨ta3, ha3, h⟩ := bnd_of h
    by_cases ha4 : ((FloatKind.format .f32).order ta3 a1 == some .gt) = true
    · replace h := ite_t h ha4
      obtain ⟨ha5, h⟩ := grd_of h
      replace h := Option.some.inj h
      subst h
      exact ⟨100, 34, [.br true, .br true, .el (.v (.float .f32 ta3)), .br true], [], [1, 2, 9, 10, 32, 33, 34], [31, 33], round_of (ob := [inI64 (sa.2.1 + 1), ((FloatKind.format .f32).order ta3 a1 == some .gt) = true, nth ((a0 ++ ([.v (.float .f32 a1)] : List D)) : List D) (Int.toNat sa.2.1) = some (.v (.float .f32 ta3)), 0 ≤ sa.2.1 ∧ sa.2.1 < (((a0 ++ ([.v (.float .f32 a1)] : List D)) : List D).length : Int), (decide (sa.2.1 < (((a0 ++ ([.v (.float .f32 a1)] : List D)) : List D).length : Int))) = true]) (by kernel_rfl) ⟨ha5, ha4, nel_ok un_ff32_ok ha3, ha2, (decide_eq_true ha1), trivial⟩⟩
    · replace h := ite_f h ha4
      obtain ⟨ha5, h⟩ := grd_of h
      by_cases ha6 : (sa.2.1 - sa.1) ≥ a2
      · replace h := ite_t h ha6
        obtain ⟨ha7, h⟩ := grd_of h
        obtain ⟨ha8, h⟩ := grd_of h
        replace h := Option.some.inj h
        subst h
        exact ⟨100, 34, [.br true, .br true, .el (.v (.float .f32 ta3)), .br false, .br true, .br true], [], [1, 2, 9, 10, 32, 33, 34], [31, 33], round_of (ob := [inI64 (sa.2.1 + 1), inI64 (sa.2.1 + 1), room cx 166 ((sa.2.2).length + 1), (decide ((sa.2.1 - sa.1) ≥ a2)) = true, inI64 (sa.2.1 - sa.1), ((FloatKind.format .f32).order ta3 a1 == some .gt) = false, nth ((a0 ++ ([.v (.float .f32 a1)] : List D)) : List D) (Int.toNat sa.2.1) = some (.v (.float .f32 ta3)), 0 ≤ sa.2.1 ∧ sa.2.1 < (((a0 ++ ([.v (.float .f32 a1)] : List D)) : List D).length : Int), (decide (sa.2.1 < (((a0 ++ ([.v (.float .f32 a1)] : List D)) : List D).length : Int))) = true]) (by kernel_rfl) ⟨ha8, ha8, (room_of (b := 16) (by kernel_rfl) (by decide) ha7), (decide_eq_true ha6), ha5, (bfalse ha4), nel_ok un_ff32_ok ha3, ha2, (decide_eq_true ha1), trivial⟩⟩
      · replace h := ite_f h ha6
        obtain ⟨ha7, h⟩ := grd_of h
        replace h := Option.some.inj h
        subst h
        exact ⟨100, 34, [.br true, .br true, .el (.v (.float .f32 ta3)), .br false, .br false], [], [1, 2, 9, 10, 32, 33, 34], [31, 33], round_of (ob := [inI64 (sa.2.1 + 1), inI64 (sa.2.1 + 1), (decide ((sa.2.1 - sa.1) ≥ a2)) = false, inI64 (sa.2.1 - sa.1), ((FloatKind.format .f32).order ta3 a1 == some .gt) = false, nth ((a0 ++ ([.v (.float .f32 a1)] : List D)) : List D) (Int.toNat sa.2.1) = some (.v (.float .f32 ta3)), 0 ≤ sa.2.1 ∧ sa.2.1 < (((a0 ++ ([.v (.float .f32 a1)] : List D)) : List D).length : Int), (decide (sa.2.1 < (((a0 ++ ([.v (.float .f32 a1)] : List D)) : List D).length : Int))) = true]) (by kernel_rfl) ⟨ha7, ha7, (decide_eq_false ha6), ha5, (bfalse ha4), nel_ok un_ff32_ok ha3, ha2, (decide_eq_true ha1), trivial⟩⟩
  · replace h := ite_f h ha1
    replace h := Option.some.inj h
    subst h
    exact ⟨⟨100, 34, [.br false], [], [9], [33], round_of (ob := [(decide (sa.2.1 < (((a0 ++ ([.v (.float .f32 a1)] : List D)) : List D).length : Int))) = false]) (by kernel_rfl) ⟨(decide_eq_false ha1), trivial⟩⟩, nofun⟩
/- spillage/drive.Overloads: .lst false 1 a0, .v (.float .f32 a1), I a2 -/
def F_drive_Overloads_2 (n : Nat) (a0 : List D) (a1 : Nat) (a2 : Int) : Option (List D × Int) :=
  if ((a0).length : Int) > 4096 then
    some ([], 5)
  else
  (F_drive_mapped_g_4 n a0).bind fun t2 =>
  (F_drive_first n t2).bind fun t3 =>
  (F_light_CheckSample_7 n a1).bind fun t4 =>
  (F_drive_within n a2 1 4096).bind fun t5 =>
  (F_drive_first n ([I t3, I t4, I t5])).bind fun t6 =>
  if t6 = 0 then
    if isNilL a0 = true then
      none /- whether an empty list is nil -/
    else
    if roomP 4 (0 + (a0).length) then
    if roomP 4 ((a0).length + 1) then
    (loopF (F_drive_Overloads_2_L1 n a0 a1 a2) n (0, 0, [])).bind fun t11 =>
    some (t11, 0)
    else none
    else none
  else
  some ([], t6)
theorem c_drive_Overloads_2 {n : Nat} {a0 : List D} {a1 : Nat} {a2 : Int} {r : List D × Int} (h : F_drive_Overloads_2 n a0 a1 a2 = some r) : Computes cx 66 [.lst false 1 a0, .v (.float .f32 a1), I a2] (.tup [.lst false 2 r.1, I r.2]) := by
  unfold F_drive_Overloads_2 at h
  by_cases h1 : ((a0).length : Int) > 4096
  · replace h := ite_t h h1
    replace h := Option.some.inj h
    subst h
    exact (run (n := 100) (f := 66) (args := [.lst false 1 a0, .v (.float .f32 a1), I a2]) (orc := [.br true]) (r := .tup [.lst true 0 [], I 5]) (ob := [(decide (((a0).length : Int) > 4096)) = true]) (by kernel_rfl) ⟨(decide_eq_true h1), trivial⟩).le (LEs.refl _) (.tups (.cons (.lst _ _ _ _ _ nofun (.inl rfl)) (.cons (.refl _) (.nil))))
  · replace h := ite_f h h1
    obtain ⟨t2, h2, h⟩ := bnd_of h
    obtain ⟨t3, h3, h⟩ := bnd_of h
    obtain ⟨t4, h4, h⟩ := bnd_of h
    obtain ⟨t5, h5, h⟩ := bnd_of h
    obtain ⟨t6, h6, h⟩ := bnd_of h
    by_cases h7 : t6 = 0
    · replace h := ite_t h h7
      by_cases h8 : isNilL a0 = true
      · replace h := ite_t h h8
        cases h
      · replace h := ite_f h h8
        obtain ⟨h9, h⟩ := grd_of h
        obtain ⟨h10, h⟩ := grd_of h
        obtain ⟨t11, h11, h⟩ := bnd_of h
        replace h := Option.some.inj h
        subst h
        exact run (n := 100) (f := 66) (args := [.lst false 1 a0, .v (.float .f32 a1), I a2]) (orc := [.br false, .ret (.lst false 1 t2), .ret (I t3), .ret (I t4), .ret (I t5), .ret (I t6), .br false, .br true, .no, .br true, .br false, .br true, .lp [9, 2] [1, 2, 9, 10, 32, 33, 34] [31, 33] (.exit 0) [(9, .own 33 0)] [(33, .row 0 2 t11)] 71]) (r := .tup [.lst false 2 t11, I 0]) (ob := [LoopN cx (loopAt cx.P 66 0) 57 0 false [(1, .d (.v (.float .f32 a1))), (2, .d (I a2)), (9, .own 33 0), (10, .d (I 0)), (32, .own 31 0), (33, .d (I (((a0 ++ ([.v (.float .f32 a1)] : List D)) : List D).length : Int))), (34, .d (I 0))] [(31, .row 0 1 (a0 ++ ([.v (.float .f32 a1)] : List D))), (33, .row 0 2 [])] (.exit 0) [(9, .own 33 0)] [(33, .row 0 2 t11)], room cx 112 ((a0).length + 1), isNilL a0 = false, room cx 112 (0 + (a0).length), a0 ≠ [], (t6 != 0) = false, Computes cx 84 [.lst true 1 [I t3, I t4, I t5]] (I t6), Computes cx 89 [I a2, I 1, I 4096] (I t5), Computes cx 105 [.v (.float .f32 a1)] (I t4), Computes cx 84 [.lst false 1 t2] (I t3), Computes cx 104 [.lst false 1 a0, .fn (.func 105) [] []] (.lst false 1 t2), (decide (((a0).length : Int) > 4096)) = false]) (by kernel_rfl) ⟨(loopF_to R_drive_Overloads_2_L1 h11), (room_of (b := 4) (by kernel_rfl) (by decide) h10), (bfalse h8), (room_of (b := 4) (by kernel_rfl) (by decide) h9), (by intro e; rw [e] at h8; exact h8 rfl), (nef h7), ((c_drive_first h6).le (.cons (.full _ _ _) (.nil)) (.refl _)), (c_drive_within h5), (c_light_CheckSample_7 h4), (c_drive_first h3), (c_drive_mapped_g_4 h2), (decide_eq_false h1), trivial⟩
    · replace h := ite_f h h7
      replace h := Option.some.inj h
      subst h
      exact (run (n := 100) (f := 66) (args := [.lst false 1 a0, .v (.float .f32 a1), I a2]) (orc := [.br false, .ret (.lst false 1 t2), .ret (I t3), .ret (I t4), .ret (I t5), .ret (I t6), .br true]) (r := .tup [.lst true 0 [], I t6]) (ob := [(t6 != 0) = true, Computes cx 84 [.lst true 1 [I t3, I t4, I t5]] (I t6), Computes cx 89 [I a2, I 1, I 4096] (I t5), Computes cx 105 [.v (.float .f32 a1)] (I t4), Computes cx 84 [.lst false 1 t2] (I t3), Computes cx 104 [.lst false 1 a0, .fn (.func 105) [] []] (.lst false 1 t2), (decide (((a0).length : Int) > 4096)) = false]) (by kernel_rfl) ⟨(net h7), ((c_drive_first h6).le (.cons (.full _ _ _) (.nil)) (.refl _)), (c_drive_within h5), (c_light_CheckSample_7 h4), (c_drive_first h3), (c_drive_mapped_g_4 h2), (decide_eq_false h1), trivial⟩).le (LEs.refl _) (.tups (.cons (.lst _ _ _ _ _ nofun (.inl rfl)) (.cons (.refl _) (.nil))))
def F_drive_mapped_g_6_L1 (n : Nat) (a0 : List D) (sa : (Int × List D)) : Option (((Int × List D)) ⊕ ((List D))) :=
  if sa.1 < ((a0).length : Int) then
    (el un_i a0 sa.1).bind fun ta2 =>
    (F_strconv_Itoa n ta2).bind fun ta3 =>
    if roomP 16 ((sa.2).length + 1) then
    if inI64 (sa.1 + 1) then
    some (.inl ((sa.1 + 1), (sa.2 ++ ([.v (.string ta3)] : List D))))
    else none
    else none
  else
  some (.inr sa.2)
noncomputable def T_drive_mapped_g_6_L1 (a0 : List D) (sa : (Int × List D)) : List (Nat × AV) := [(1, .d (.fn (.func 139) [] [])), (5, .own 5 0), (8, .d (.lst false 1 a0)), (9, .d (I ((a0).length : Int))), (10, .d (I sa.1))]
noncomputable def H_drive_mapped_g_6_L1 (a0 : List D) (sa : (Int × List D)) : List (Nat × Blk) := [(5, .row 0 1 sa.2)]
noncomputable def X_drive_mapped_g_6_L1 (a0 : List D) (e : (List D)) : Ex := (.exit 0)
noncomputable def XT_drive_mapped_g_6_L1 (a0 : List D) (e : (List D)) : List (Nat × AV) := [(5, .own 5 0)]
noncomputable def XH_drive_mapped_g_6_L1 (a0 : List D) (e : (List D)) : List (Nat × Blk) := [(5, .row 0 1 e)]
theorem R_drive_mapped_g_6_L1 {n : Nat} {a0 : List D} (sa : (Int × List D)) (r) (h : F_drive_mapped_g_6_L1 n a0 sa = some r) : Rd cx (loopAt cx.P 138 0) 22 0 false (T_drive_mapped_g_6_L1 a0) (H_drive_mapped_g_6_L1 a0) (X_drive_mapped_g_6_L1 a0) (XT_drive_mapped_g_6_L1 a0) (XH_drive_mapped_g_6_L1 a0) sa r := by
  unfold F_drive_mapped_g_6_L1 at h
  by_cases ha1 : sa.1 < ((a0).length : Int)
  · replace h := ite_t h ha1
    obtain ⟨ta2, ha2, h⟩ := bnd_of h
    obtain ⟨ta3, ha3, h⟩ := bnd_of h
    obtain ⟨ha4, h⟩ := grd_of h
    obtain ⟨ha5, h⟩ := grd_of h
    replace h := Option.some.inj h
    subst h
    exact ⟨100, 6, [.br true, .el (I ta2), .ret (.v (.string ta3)), .br true], [], [1, 5, 8, 9, 10], [5], round_of (ob := [inI64 (sa.1 + 1), room cx 9 ((sa.2).length + 1), Computes cx 139 [I ta2] (.v (.string ta3)), (0 : Int) ≤ sa.1, nth (a0) (Int.toNat sa.1) = some (I ta2), (decide (sa.1 < ((a0).length : Int))) = true]) (by kernel_rfl) ⟨ha5, (room_of (b := 16) (by kernel_rfl) (by decide) ha4), (c_strconv_Itoa ha3), (el_ok un_i_ok ha2).1, (el_ok un_i_ok ha2).2, (decide_eq_true ha1), trivial⟩⟩
  · replace h := ite_f h ha1
    replace h := Option.some.inj h
    subst h
    exact ⟨⟨100, 6, [.br false], [], [5], [5], round_of (ob := [(decide (sa.1 < ((a0).length : Int))) = false]) (by kernel_rfl) ⟨(decide_eq_false ha1), trivial⟩⟩, nofun⟩
/- spillage/drive.mapped[int,string]: .lst false 1 a0, .fn (.func 139) [] [] -/
def F_drive_mapped_g_6 (n : Nat) (a0 : List D) : Option (List D) :=
  (loopF (F_drive_mapped_g_6_L1 n a0) n (0, [])).bind fun t1 =>
  some t1
theorem c_drive_mapped_g_6 {n : Nat} {a0 : List D} {r : List D} (h : F_drive_mapped_g_6 n a0 = some r) : Computes cx 138 [.lst false 1 a0, .fn (.func 139) [] []] (.lst false 1 r) := by
  unfold F_drive_mapped_g_6 at h
  obtain ⟨t1, h1, h⟩ := bnd_of h
  replace h := Option.some.inj h
  subst h
  exact run (n := 100) (f := 138) (args := [.lst false 1 a0, .fn (.func 139) [] []]) (orc := [.lp [5, 1] [1, 5, 8, 9, 10] [5] (.exit 0) [(5, .own 5 0)] [(5, .row 0 1 t1)] 30]) (r := .lst false 1 t1) (ob := [LoopN cx (loopAt cx.P 138 0) 22 0 false [(1, .d (.fn (.func 139) [] [])), (5, .own 5 0), (8, .d (.lst false 1 a0)), (9, .d (I ((a0).length : Int))), (10, .d (I 0))] [(5, .row 0 1 [])] (.exit 0) [(5, .own 5 0)] [(5, .row 0 1 t1)]]) (by kernel_rfl) ⟨(loopF_to R_drive_mapped_g_6_L1 h1), trivial⟩
/- (spillage/drive.Band).line: .agg [I a0, I a1, I a2] -/
def F_drive_Band_line (n : Nat) (a0 : Int) (a1 : Int) (a2 : Int) : Option (ByteArray) :=
  (F_drive_mapped_g_6 n ([I a0, I a1, I a2])).bind fun t1 =>
  if roomP 16 (1 + (t1).length) then
  if isNilL t1 = true then
    (F_strings_Join n ([.v (.string ⟨#[98, 97, 110, 100]⟩)]) (⟨#[32]⟩)).bind fun t4 =>
    if t4.size + (⟨#[10]⟩ : ByteArray).size ≤ 9223372036854775807 then
    some (t4 ++ (⟨#[10]⟩ : ByteArray))
    else none
  else
  (F_strings_Join n (.v (.string ⟨#[98, 97, 110, 100]⟩) :: t1) (⟨#[32]⟩)).bind fun t4 =>
  if t4.size + (⟨#[10]⟩ : ByteArray).size ≤ 9223372036854775807 then
  some (t4 ++ (⟨#[10]⟩ : ByteArray))
  else none
  else none
theorem c_drive_Band_line {n : Nat} {a0 : Int} {a1 : Int} {a2 : Int} {r : ByteArray} (h : F_drive_Band_line n a0 a1 a2 = some r) : Computes cx 111 [.agg [I a0, I a1, I a2]] (.v (.string r)) := by
  unfold F_drive_Band_line at h
  obtain ⟨t1, h1, h⟩ := bnd_of h
  obtain ⟨h2, h⟩ := grd_of h
  by_cases h3 : isNilL t1 = true
  · replace h := ite_t h h3
    obtain ⟨t4, h4, h⟩ := bnd_of h
    obtain ⟨h5, h⟩ := grd_of h
    replace h := Option.some.inj h
    subst h
    exact run (n := 100) (f := 111) (args := [.agg [I a0, I a1, I a2]]) (orc := [.ret (.lst false 1 t1), .br true, .br true, .ret (.v (.string t4))]) (r := .v (.string (t4 ++ (⟨#[10]⟩ : ByteArray)))) (ob := [t4.size + (⟨#[10]⟩ : ByteArray).size ≤ 9223372036854775807, Computes cx 109 [.lst false 1 [.v (.string ⟨#[98, 97, 110, 100]⟩)], .v (.string ⟨#[32]⟩)] (.v (.string t4)), isNilL t1 = true, room cx 9 (1 + (t1).length), Computes cx 138 [.lst true 1 [I a0, I a1, I a2], .fn (.func 139) [] []] (.lst false 1 t1)]) (by kernel_rfl) ⟨h5, (c_strings_Join h4), h3, (room_of (b := 16) (by kernel_rfl) (by decide) h2), ((c_drive_mapped_g_6 h1).le (.cons (.full _ _ _) (.cons (.refl _) (.nil))) (.refl _)), trivial⟩
  · replace h := ite_f h h3
    obtain ⟨t4, h4, h⟩ := bnd_of h
    obtain ⟨h5, h⟩ := grd_of h
    replace h := Option.some.inj h
    subst h
    exact run (n := 100) (f := 111) (args := [.agg [I a0, I a1, I a2]]) (orc := [.ret (.lst false 1 t1), .br true, .br false, .ret (.v (.string t4))]) (r := .v (.string (t4 ++ (⟨#[10]⟩ : ByteArray)))) (ob := [t4.size + (⟨#[10]⟩ : ByteArray).size ≤ 9223372036854775807, Computes cx 109 [.lst false 1 (.v (.string ⟨#[98, 97, 110, 100]⟩) :: t1), .v (.string ⟨#[32]⟩)] (.v (.string t4)), isNilL t1 = false, room cx 9 (1 + (t1).length), Computes cx 138 [.lst true 1 [I a0, I a1, I a2], .fn (.func 139) [] []] (.lst false 1 t1)]) (by kernel_rfl) ⟨h5, (c_strings_Join h4), (bfalse h3), (room_of (b := 16) (by kernel_rfl) (by decide) h2), ((c_drive_mapped_g_6 h1).le (.cons (.full _ _ _) (.cons (.refl _) (.nil))) (.refl _)), trivial⟩
def F_drive_mapped_g_5_L1 (n : Nat) (a0 : List D) (sa : (Int × List D)) : Option (((Int × List D)) ⊕ ((List D))) :=
  if sa.1 < ((a0).length : Int) then
    (el un_Ai3Z a0 sa.1).bind fun ta2 =>
    (F_drive_Band_line n ta2.1 ta2.2.1 ta2.2.2).bind fun ta3 =>
    if roomP 16 ((sa.2).length + 1) then
    if inI64 (sa.1 + 1) then
    some (.inl ((sa.1 + 1), (sa.2 ++ ([.v (.string ta3)] : List D))))
    else none
    else none
  else
  some (.inr sa.2)
noncomputable def T_drive_mapped_g_5_L1 (a0 : List D) (sa : (Int × List D)) : List (Nat × AV) := [(1, .d (.fn (.func 111) [] [])), (5, .own 5 0), (8, .d (.lst false 3 a0)), (9, .d (I ((a0).length : Int))), (10, .d (I sa.1))]
noncomputable def H_drive_mapped_g_5_L1 (a0 : List D) (sa : (Int × List D)) : List (Nat × Blk) := [(5, .row 0 1 sa.2)]
noncomputable def X_drive_mapped_g_5_L1 (a0 : List D) (e : (List D)) : Ex := (.exit 0)
noncomputable def XT_drive_mapped_g_5_L1 (a0 : List D) (e : (List D)) : List (Nat × AV) := [(5, .own 5 0)]
noncomputable def XH_drive_mapped_g_5_L1 (a0 : List D) (e : (List D)) : List (Nat × Blk) := [(5, .row 0 1 e)]
theorem R_drive_mapped_g_5_L1 {n : Nat} {a0 : List D} (sa : (Int × List D)) (r) (h : F_drive_mapped_g_5_L1 n a0 sa = some r) : Rd cx (loopAt cx.P 110 0) 22 0 false (T_drive_mapped_g_5_L1 a0) (H_drive_mapped_g_5_L1 a0) (X_drive_mapped_g_5_L1 a0) (XT_drive_mapped_g_5_L1 a0) (XH_drive_mapped_g_5_L1 a0) sa r := by
  unfold F_drive_mapped_g_5_L1 at h
  by_cases ha1 : sa.1 < ((a0).length : Int)
  · replace h := ite_t h ha1
    obtain ⟨ta2, ha2, h⟩ := bnd_of h
    obtain ⟨ta3, ha3, h⟩ := bnd_of h
    obtain ⟨ha4, h⟩ := grd_of h
    obtain ⟨ha5, h⟩ := grd_of h
    replace h := Option.some.inj h
    subst h
    exact ⟨100, 6, [.br true, .el (.agg [I ta2.1, I ta2.2.1, I ta2.2.2]), .ret (.v (.string ta3)), .br true], [], [1, 5, 8, 9, 10], [5], round_of (ob := [inI64 (sa.1 + 1), room cx 9 ((sa.2).length + 1), Computes cx 111 [.agg [I ta2.1, I ta2.2.1, I ta2.2.2]] (.v (.string ta3)), (0 : Int) ≤ sa.1, nth (a0) (Int.toNat sa.1) = some (.agg [I ta2.1, I ta2.2.1, I ta2.2.2]), (decide (sa.1 < ((a0).length : Int))) = true]) (by kernel_rfl) ⟨ha5, (room_of (b := 16) (by kernel_rfl) (by decide) ha4), (c_drive_Band_line ha3), (el_ok un_Ai3Z_ok ha2).1, (el_ok un_Ai3Z_ok ha2).2, (decide_eq_true ha1), trivial⟩⟩
  · replace h := ite_f h ha1
    replace h := Option.some.inj h
    subst h
    exact ⟨⟨100, 6, [.br false], [], [5], [5], round_of (ob := [(decide (sa.1 < ((a0).length : Int))) = false]) (by kernel_rfl) ⟨(decide_eq_false ha1), trivial⟩⟩, nofun⟩
/- spillage/drive.mapped[spillage/drive.Band,string]: .lst false 3 a0, .fn (.func 111) [] [] -/
def F_drive_mapped_g_5 (n : Nat) (a0 : List D) : Option (List D) :=
  (loopF (F_drive_mapped_g_5_L1 n a0) n (0, [])).bind fun t1 =>
  some t1
theorem c_drive_mapped_g_5 {n : Nat} {a0 : List D} {r : List D} (h : F_drive_mapped_g_5 n a0 = some r) : Computes cx 110 [.lst false 3 a0, .fn (.func 111) [] []] (.lst false 1 r) := by
  unfold F_drive_mapped_g_5 at h
  obtain ⟨t1, h1, h⟩ := bnd_of h
  replace h := Option.some.inj h
  subst h
  exact run (n := 100) (f := 110) (args := [.lst false 3 a0, .fn (.func 111) [] []]) (orc := [.lp [5, 1] [1, 5, 8, 9, 10] [5] (.exit 0) [(5, .own 5 0)] [(5, .row 0 1 t1)] 31]) (r := .lst false 1 t1) (ob := [LoopN cx (loopAt cx.P 110 0) 22 0 false [(1, .d (.fn (.func 111) [] [])), (5, .own 5 0), (8, .d (.lst false 3 a0)), (9, .d (I ((a0).length : Int))), (10, .d (I 0))] [(5, .row 0 1 [])] (.exit 0) [(5, .own 5 0)] [(5, .row 0 1 t1)]]) (by kernel_rfl) ⟨(loopF_to R_drive_mapped_g_5_L1 h1), trivial⟩
/- spillage/drive.Print: .lst false 3 a0 -/
def F_drive_Print (n : Nat) (a0 : List D) : Option (ByteArray × Int) :=
  (F_drive_CheckModel n a0).bind fun t1 =>
  if t1 = 0 then
    (F_drive_mapped_g_5 n a0).bind fun t3 =>
    (F_strings_Join n t3 (⟨#[]⟩)).bind fun t4 =>
    some (t4, 0)
  else
  some (⟨#[]⟩, t1)
theorem c_drive_Print {n : Nat} {a0 : List D} {r : ByteArray × Int} (h : F_drive_Print n a0 = some r) : Computes cx 77 [.lst false 3 a0] (.tup [.v (.string r.1), I r.2]) := by
  unfold F_drive_Print at h
  obtain ⟨t1, h1, h⟩ := bnd_of h
  by_cases h2 : t1 = 0
  · replace h := ite_t h h2
    obtain ⟨t3, h3, h⟩ := bnd_of h
    obtain ⟨t4, h4, h⟩ := bnd_of h
    replace h := Option.some.inj h
    subst h
    exact run (n := 100) (f := 77) (args := [.lst false 3 a0]) (orc := [.ret (I t1), .br false, .ret (.lst false 1 t3), .ret (.v (.string t4))]) (r := .tup [.v (.string t4), I 0]) (ob := [Computes cx 109 [.lst false 1 t3, .v (.string ⟨#[]⟩)] (.v (.string t4)), Computes cx 110 [.lst false 3 a0, .fn (.func 111) [] []] (.lst false 1 t3), (t1 != 0) = false, Computes cx 53 [.lst false 3 a0] (I t1)]) (by kernel_rfl) ⟨(c_strings_Join h4), (c_drive_mapped_g_5 h3), (nef h2), (c_drive_CheckModel h1), trivial⟩
  · replace h := ite_f h h2
    replace h := Option.some.inj h
    subst h
    exact run (n := 100) (f := 77) (args := [.lst false 3 a0]) (orc := [.ret (I t1), .br true]) (r := .tup [.v (.string ⟨#[]⟩), I t1]) (ob := [(t1 != 0) = true, Computes cx 53 [.lst false 3 a0] (I t1)]) (by kernel_rfl) ⟨(net h2), (c_drive_CheckModel h1), trivial⟩
def enc_Ai2Z (x : Int × Int) : D := .agg [I x.1, I x.2]
def un_Ai2Z : D → Option (Int × Int)
  | .agg [c0, c1] => (un_int .i64 c0).bind fun y0 => (un_int .i64 c1).bind fun y1 => some (y0, y1)
  | _ => none
theorem un_Ai2Z_ok {d : D} {x : Int × Int} (h : un_Ai2Z d = some x) : d = enc_Ai2Z x := by
  unfold un_Ai2Z at h
  split at h
  case h_2 => cases h
  obtain ⟨y0, h0, h⟩ := bnd_of h
  obtain ⟨y1, h1, h⟩ := bnd_of h
  cases h
  have e0 := un_int_ok h0
  have e1 := un_int_ok h1
  rw [e0, e1]; rfl
def F_ref03_SamePoses_L1 (n : Nat) (a0 : List D) (a1 : List D) (sa : (Int)) : Option (((Int)) ⊕ ((Unit) ⊕ (Unit))) :=
  if sa < ((a0).length : Int) then
    (el un_Ai2Z a0 sa).bind fun ta2 =>
    (el un_Ai2Z a1 sa).bind fun ta3 =>
    if ((ta2.1 == ta3.1) && ((ta2.2 == ta3.2) && true)) = true then
      if inI64 (sa + 1) then
      some (.inl (sa + 1))
      else none
    else
    some (.inr (.inl ()))
  else
  some (.inr (.inr ()))
noncomputable def T_ref03_SamePoses_L1 (a0 : List D) (a1 : List D) (sa : (Int)) : List (Nat × AV) := [(0, .d (.lst false 2 a0)), (1, .d (.lst false 2 a1)), (5, .d (I sa))]
noncomputable def H_ref03_SamePoses_L1 (a0 : List D) (a1 : List D) (sa : (Int)) : List (Nat × Blk) := []
noncomputable def X_ref03_SamePoses_L1 (a0 : List D) (a1 : List D) (e : (Unit) ⊕ (Unit)) : Ex := match e with
  | (.inl e) => .ret
  | (.inr e) => (.exit 0)
noncomputable def XT_ref03_SamePoses_L1 (a0 : List D) (a1 : List D) (e : (Unit) ⊕ (Unit)) : List (Nat × AV) := match e with
  | (.inl e) => [(4, .d (B false))]
  | (.inr e) => []
noncomputable def XH_ref03_SamePoses_L1 (a0 : List D) (a1 : List D) (e : (Unit) ⊕ (Unit)) : List (Nat × Blk) := match e with
  | (.inl e) => []
  | (.inr e) => []
theorem R_ref03_SamePoses_L1 {n : Nat} {a0 : List D} {a1 : List D} (sa : (Int)) (r) (h : F_ref03_SamePoses_L1 n a0 a1 sa = some r) : Rd cx (loopAt cx.P 35 0) 26 0 false (T_ref03_SamePoses_L1 a0 a1) (H_ref03_SamePoses_L1 a0 a1) (X_ref03_SamePoses_L1 a0 a1) (XT_ref03_SamePoses_L1 a0 a1) (XH_ref03_SamePoses_L1 a0 a1) sa r := by
  unfold F_ref03_SamePoses_L1 at h
  by_cases ha1 : sa < ((a0).length : Int)
  · replace h := ite_t h ha1
    obtain ⟨ta2, ha2, h⟩ := bnd_of h
    obtain ⟨ta3, ha3, h⟩ := bnd_of h
    by_cases ha4 : ((ta2.1 == ta3.1) && ((ta2.2 == ta3.2) && true)) = true
    · replace h := ite_t h ha4
      obtain ⟨ha5, h⟩ := grd_of h
      replace h := Option.some.inj h
      subst h
      exact ⟨100, 7, [.br true, .el (.agg [I ta2.1, I ta2.2]), .el (.agg [I ta3.1, I ta3.2]), .br false], [], [0, 1, 5], [], round_of (ob := [inI64 (sa + 1), (!((ta2.1 == ta3.1) && ((ta2.2 == ta3.2) && true))) = false, (0 : Int) ≤ sa, nth (a1) (Int.toNat sa) = some (.agg [I ta3.1, I ta3.2]), (0 : Int) ≤ sa, nth (a0) (Int.toNat sa) = some (.agg [I ta2.1, I ta2.2]), (decide (sa < ((a0).length : Int))) = true]) (by kernel_rfl) ⟨ha5, (notf ha4), (el_ok un_Ai2Z_ok ha3).1, (el_ok un_Ai2Z_ok ha3).2, (el_ok un_Ai2Z_ok ha2).1, (el_ok un_Ai2Z_ok ha2).2, (decide_eq_true ha1), trivial⟩⟩
    · replace h := ite_f h ha4
      replace h := Option.some.inj h
      subst h
      exact ⟨⟨100, 7, [.br true, .el (.agg [I ta2.1, I ta2.2]), .el (.agg [I ta3.1, I ta3.2]), .br true], [], [4], [], round_of (ob := [(!((ta2.1 == ta3.1) && ((ta2.2 == ta3.2) && true))) = true, (0 : Int) ≤ sa, nth (a1) (Int.toNat sa) = some (.agg [I ta3.1, I ta3.2]), (0 : Int) ≤ sa, nth (a0) (Int.toNat sa) = some (.agg [I ta2.1, I ta2.2]), (decide (sa < ((a0).length : Int))) = true]) (by kernel_rfl) ⟨(nott (bfalse ha4)), (el_ok un_Ai2Z_ok ha3).1, (el_ok un_Ai2Z_ok ha3).2, (el_ok un_Ai2Z_ok ha2).1, (el_ok un_Ai2Z_ok ha2).2, (decide_eq_true ha1), trivial⟩⟩, nofun⟩
  · replace h := ite_f h ha1
    replace h := Option.some.inj h
    subst h
    exact ⟨⟨100, 7, [.br false], [], [], [], round_of (ob := [(decide (sa < ((a0).length : Int))) = false]) (by kernel_rfl) ⟨(decide_eq_false ha1), trivial⟩⟩, nofun⟩
/- spillage/spillageref03.SamePoses: .lst false 2 a0, .lst false 2 a1 -/
def F_ref03_SamePoses (n : Nat) (a0 : List D) (a1 : List D) : Option (Bool) :=
  if ((a0).length : Int) = ((a1).length : Int) then
    (loopF (F_ref03_SamePoses_L1 n a0 a1) n 0).bind fun t2 => match t2 with
      | (.inl t2) => (
        some false)
      | (.inr t2) => (
        some true)
  else
  some false
theorem c_ref03_SamePoses {n : Nat} {a0 : List D} {a1 : List D} {r : Bool} (h : F_ref03_SamePoses n a0 a1 = some r) : Computes cx 35 [.lst false 2 a0, .lst false 2 a1] (B r) := by
  unfold F_ref03_SamePoses at h
  by_cases h1 : ((a0).length : Int) = ((a1).length : Int)
  · replace h := ite_t h h1
    obtain ⟨t2, h2, h⟩ := bnd_of h
    rcases t2 with t2 | t2
    · replace h := Option.some.inj h
      subst h
      exact run (n := 100) (f := 35) (args := [.lst false 2 a0, .lst false 2 a1]) (orc := [.br false, .lp [] [0, 1, 5] [] .ret [(4, .d (B false))] [] 34]) (r := B false) (ob := [LoopN cx (loopAt cx.P 35 0) 26 0 false [(0, .d (.lst false 2 a0)), (1, .d (.lst false 2 a1)), (5, .d (I 0))] [] .ret [(4, .d (B false))] [], (((a0).length : Int) != ((a1).length : Int)) = false]) (by kernel_rfl) ⟨(loopF_to R_ref03_SamePoses_L1 h2), (nef h1), trivial⟩
    · replace h := Option.some.inj h
      subst h
      exact run (n := 100) (f := 35) (args := [.lst false 2 a0, .lst false 2 a1]) (orc := [.br false, .lp [] [0, 1, 5] [] (.exit 0) [] [] 34]) (r := B true) (ob := [LoopN cx (loopAt cx.P 35 0) 26 0 false [(0, .d (.lst false 2 a0)), (1, .d (.lst false 2 a1)), (5, .d (I 0))] [] (.exit 0) [] [], (((a0).length : Int) != ((a1).length : Int)) = false]) (by kernel_rfl) ⟨(loopF_to R_ref03_SamePoses_L1 h2), (nef h1), trivial⟩
  · replace h := ite_f h h1
    replace h := Option.some.inj h
    subst h
    exact run (n := 100) (f := 35) (args := [.lst false 2 a0, .lst false 2 a1]) (orc := [.br true]) (r := B false) (ob := [(((a0).length : Int) != ((a1).length : Int)) = true]) (by kernel_rfl) ⟨(net h1), trivial⟩
def F_ref01_SameSpans_L1 (n : Nat) (a0 : List D) (a1 : List D) (sa : (Int)) : Option (((Int)) ⊕ ((Unit) ⊕ (Unit))) :=
  if sa < ((a0).length : Int) then
    (el un_Ai2Z a0 sa).bind fun ta2 =>
    (el un_Ai2Z a1 sa).bind fun ta3 =>
    if ((ta2.1 == ta3.1) && ((ta2.2 == ta3.2) && true)) = true then
      if inI64 (sa + 1) then
      some (.inl (sa + 1))
      else none
    else
    some (.inr (.inl ()))
  else
  some (.inr (.inr ()))
noncomputable def T_ref01_SameSpans_L1 (a0 : List D) (a1 : List D) (sa : (Int)) : List (Nat × AV) := [(0, .d (.lst false 2 a0)), (1, .d (.lst false 2 a1)), (5, .d (I sa))]
noncomputable def H_ref01_SameSpans_L1 (a0 : List D) (a1 : List D) (sa : (Int)) : List (Nat × Blk) := []
noncomputable def X_ref01_SameSpans_L1 (a0 : List D) (a1 : List D) (e : (Unit) ⊕ (Unit)) : Ex := match e with
  | (.inl e) => .ret
  | (.inr e) => (.exit 0)
noncomputable def XT_ref01_SameSpans_L1 (a0 : List D) (a1 : List D) (e : (Unit) ⊕ (Unit)) : List (Nat × AV) := match e with
  | (.inl e) => [(4, .d (B false))]
  | (.inr e) => []
noncomputable def XH_ref01_SameSpans_L1 (a0 : List D) (a1 : List D) (e : (Unit) ⊕ (Unit)) : List (Nat × Blk) := match e with
  | (.inl e) => []
  | (.inr e) => []
theorem R_ref01_SameSpans_L1 {n : Nat} {a0 : List D} {a1 : List D} (sa : (Int)) (r) (h : F_ref01_SameSpans_L1 n a0 a1 sa = some r) : Rd cx (loopAt cx.P 70 0) 26 0 false (T_ref01_SameSpans_L1 a0 a1) (H_ref01_SameSpans_L1 a0 a1) (X_ref01_SameSpans_L1 a0 a1) (XT_ref01_SameSpans_L1 a0 a1) (XH_ref01_SameSpans_L1 a0 a1) sa r := by
  unfold F_ref01_SameSpans_L1 at h
  by_cases ha1 : sa < ((a0).length : Int)
  · replace h := ite_t h ha1
    obtain ⟨ta2, ha2, h⟩ := bnd_of h
    obtain ⟨ta3, ha3, h⟩ := bnd_of h
    by_cases ha4 : ((ta2.1 == ta3.1) && ((ta2.2 == ta3.2) && true)) = true
    · replace h := ite_t h ha4
      obtain ⟨ha5, h⟩ := grd_of h
      replace h := Option.some.inj h
      subst h
      exact ⟨100, 7, [.br true, .el (.agg [I ta2.1, I ta2.2]), .el (.agg [I ta3.1, I ta3.2]), .br false], [], [0, 1, 5], [], round_of (ob := [inI64 (sa + 1), (!((ta2.1 == ta3.1) && ((ta2.2 == ta3.2) && true))) = false, (0 : Int) ≤ sa, nth (a1) (Int.toNat sa) = some (.agg [I ta3.1, I ta3.2]), (0 : Int) ≤ sa, nth (a0) (Int.toNat sa) = some (.agg [I ta2.1, I ta2.2]), (decide (sa < ((a0).length : Int))) = true]) (by kernel_rfl) ⟨ha5, (notf ha4), (el_ok un_Ai2Z_ok ha3).1, (el_ok un_Ai2Z_ok ha3).2, (el_ok un_Ai2Z_ok ha2).1, (el_ok un_Ai2Z_ok ha2).2, (decide_eq_true ha1), trivial⟩⟩
    · replace h := ite_f h ha4
      replace h := Option.some.inj h
      subst h
      exact ⟨⟨100, 7, [.br true, .el (.agg [I ta2.1, I ta2.2]), .el (.agg [I ta3.1, I ta3.2]), .br true], [], [4], [], round_of (ob := [(!((ta2.1 == ta3.1) && ((ta2.2 == ta3.2) && true))) = true, (0 : Int) ≤ sa, nth (a1) (Int.toNat sa) = some (.agg [I ta3.1, I ta3.2]), (0 : Int) ≤ sa, nth (a0) (Int.toNat sa) = some (.agg [I ta2.1, I ta2.2]), (decide (sa < ((a0).length : Int))) = true]) (by kernel_rfl) ⟨(nott (bfalse ha4)), (el_ok un_Ai2Z_ok ha3).1, (el_ok un_Ai2Z_ok ha3).2, (el_ok un_Ai2Z_ok ha2).1, (el_ok un_Ai2Z_ok ha2).2, (decide_eq_true ha1), trivial⟩⟩, nofun⟩
  · replace h := ite_f h ha1
    replace h := Option.some.inj h
    subst h
    exact ⟨⟨100, 7, [.br false], [], [], [], round_of (ob := [(decide (sa < ((a0).length : Int))) = false]) (by kernel_rfl) ⟨(decide_eq_false ha1), trivial⟩⟩, nofun⟩
/- spillage/spillageref01.SameSpans: .lst false 2 a0, .lst false 2 a1 -/
def F_ref01_SameSpans (n : Nat) (a0 : List D) (a1 : List D) : Option (Bool) :=
  if ((a0).length : Int) = ((a1).length : Int) then
    (loopF (F_ref01_SameSpans_L1 n a0 a1) n 0).bind fun t2 => match t2 with
      | (.inl t2) => (
        some false)
      | (.inr t2) => (
        some true)
  else
  some false
theorem c_ref01_SameSpans {n : Nat} {a0 : List D} {a1 : List D} {r : Bool} (h : F_ref01_SameSpans n a0 a1 = some r) : Computes cx 70 [.lst false 2 a0, .lst false 2 a1] (B r) := by
  unfold F_ref01_SameSpans at h
  by_cases h1 : ((a0).length : Int) = ((a1).length : Int)
  · replace h := ite_t h h1
    obtain ⟨t2, h2, h⟩ := bnd_of h
    rcases t2 with t2 | t2
    · replace h := Option.some.inj h
      subst h
      exact run (n := 100) (f := 70) (args := [.lst false 2 a0, .lst false 2 a1]) (orc := [.br false, .lp [] [0, 1, 5] [] .ret [(4, .d (B false))] [] 34]) (r := B false) (ob := [LoopN cx (loopAt cx.P 70 0) 26 0 false [(0, .d (.lst false 2 a0)), (1, .d (.lst false 2 a1)), (5, .d (I 0))] [] .ret [(4, .d (B false))] [], (((a0).length : Int) != ((a1).length : Int)) = false]) (by kernel_rfl) ⟨(loopF_to R_ref01_SameSpans_L1 h2), (nef h1), trivial⟩
    · replace h := Option.some.inj h
      subst h
      exact run (n := 100) (f := 70) (args := [.lst false 2 a0, .lst false 2 a1]) (orc := [.br false, .lp [] [0, 1, 5] [] (.exit 0) [] [] 34]) (r := B true) (ob := [LoopN cx (loopAt cx.P 70 0) 26 0 false [(0, .d (.lst false 2 a0)), (1, .d (.lst false 2 a1)), (5, .d (I 0))] [] (.exit 0) [] [], (((a0).length : Int) != ((a1).length : Int)) = false]) (by kernel_rfl) ⟨(loopF_to R_ref01_SameSpans_L1 h2), (nef h1), trivial⟩
  · replace h := ite_f h h1
    replace h := Option.some.inj h
    subst h
    exact run (n := 100) (f := 70) (args := [.lst false 2 a0, .lst false 2 a1]) (orc := [.br true]) (r := B false) (ob := [(((a0).length : Int) != ((a1).length : Int)) = true]) (by kernel_rfl) ⟨(net h1), trivial⟩
end Go.Proofs.YtmgbmngmmpeaaaaGreatDoor
