/-
  Printed by gsx.py: functions of the program as Lean functions, and that the code computes them.
-/
import Derived.Test.YtmgbmngmmpeaaaaGreatDoorGen8
set_option linter.unusedVariables false
set_option linter.unusedSimpArgs false
set_option linter.unnecessarySimpa false
set_option maxRecDepth 10000
namespace Go.Proofs.YtmgbmngmmpeaaaaGreatDoor
open Go.SX
/- spillage/spillageref03.nearer: I a0, I a1, I a2 -/
def F_ref03_nearer (n : Nat) (a0 : Int) (a1 : Int) (a2 : Int) : Option (Int) :=
  if a0 < a1 then
    if inI64 (a0 + a2) then
    some (minI a1 (a0 + a2))
    else none
  else
  if inI64 (a0 - a2) then
  some (maxI a1 (a0 - a2))
  else none
theorem c_ref03_nearer {n : Nat} {a0 : Int} {a1 : Int} {a2 : Int} {r : Int} (h : F_ref03_nearer n a0 a1 a2 = some r) : Computes cx 92 [I a0, I a1, I a2] (I r) := by
  unfold F_ref03_nearer at h
  by_cases h1 : a0 < a1
  · replace h := ite_t h h1
    obtain ⟨h2, h⟩ := grd_of h
    replace h := Option.some.inj h
    subst h
    exact run (n := 100) (f := 92) (args := [I a0, I a1, I a2]) (orc := [.br true]) (r := I (minI a1 (a0 + a2))) (ob := [inI64 (a0 + a2), (decide (a0 < a1)) = true]) (by kernel_rfl) ⟨h2, (decide_eq_true h1), trivial⟩
  · replace h := ite_f h h1
    obtain ⟨h2, h⟩ := grd_of h
    replace h := Option.some.inj h
    subst h
    exact run (n := 100) (f := 92) (args := [I a0, I a1, I a2]) (orc := [.br false]) (r := I (maxI a1 (a0 - a2))) (ob := [inI64 (a0 - a2), (decide (a0 < a1)) = false]) (by kernel_rfl) ⟨h2, (decide_eq_false h1), trivial⟩
def F_ref03_Track_L1 (n : Nat) (a0 : Int) (a1 : Int) (a2 : Int) (a3 : Int) (a4 : Int) (a5 : Int) (sa : (Unit) ⊕ (List D)) : Option (((Unit) ⊕ (List D)) ⊕ ((Unit) ⊕ (List D))) := match sa with
  | (.inl sa) => (
    if ((a0 == a2) && ((a1 == a3) && true)) = true then
      some (.inr (.inl ()))
    else
    (F_ref03_nearer n a0 a2 a4).bind fun ta2 =>
    (F_ref03_nearer n a1 a3 a5).bind fun ta3 =>
    some (.inl (.inr [.agg [I a0, I a1], .agg [I ta2, I ta3]])))
  | (.inr sa) => (
    if inI64 (((sa).length : Int) - 1) then
    if 0 ≤ (((sa).length : Int) - 1) ∧ (((sa).length : Int) - 1) < ((sa).length : Int) then
    ((nth (sa) (Int.toNat (((sa).length : Int) - 1))).bind un_Ai2Z).bind fun ta3 =>
    if ((ta3.1 == a2) && ((ta3.2 == a3) && true)) = true then
      some (.inr (.inr sa))
    else
    (F_ref03_nearer n ta3.1 a2 a4).bind fun ta5 =>
    (F_ref03_nearer n ta3.2 a3 a5).bind fun ta6 =>
    if roomP 16 ((sa).length + 1) then
    some (.inl (.inr (sa ++ ([.agg [I ta5, I ta6]] : List D))))
    else none
    else none
    else none)
noncomputable def T_ref03_Track_L1 (a0 : Int) (a1 : Int) (a2 : Int) (a3 : Int) (a4 : Int) (a5 : Int) (sa : (Unit) ⊕ (List D)) : List (Nat × AV) := match sa with
  | (.inl sa) => [(4, .ptr 1 0 0 0 0), (5, .ptr 2 0 0 0 0), (7, .own 7 0)]
  | (.inr sa) => [(4, .ptr 1 0 0 0 0), (5, .ptr 2 0 0 0 0), (7, .own 7 0)]
noncomputable def H_ref03_Track_L1 (a0 : Int) (a1 : Int) (a2 : Int) (a3 : Int) (a4 : Int) (a5 : Int) (sa : (Unit) ⊕ (List D)) : List (Nat × Blk) := match sa with
  | (.inl sa) => [(1, .box (.d (.agg [I a2, I a3]))), (2, .box (.d (.agg [I a4, I a5]))), (7, .virt 0 2 [.agg [I a0, I a1]])]
  | (.inr sa) => [(1, .box (.d (.agg [I a2, I a3]))), (2, .box (.d (.agg [I a4, I a5]))), (7, .row 0 2 sa)]
noncomputable def X_ref03_Track_L1 (a0 : Int) (a1 : Int) (a2 : Int) (a3 : Int) (a4 : Int) (a5 : Int) (e : (Unit) ⊕ (List D)) : Ex := match e with
  | (.inl e) => (.exit 0)
  | (.inr e) => (.exit 0)
noncomputable def XT_ref03_Track_L1 (a0 : Int) (a1 : Int) (a2 : Int) (a3 : Int) (a4 : Int) (a5 : Int) (e : (Unit) ⊕ (List D)) : List (Nat × AV) := match e with
  | (.inl e) => [(7, .own 7 0)]
  | (.inr e) => [(7, .own 7 0)]
noncomputable def XH_ref03_Track_L1 (a0 : Int) (a1 : Int) (a2 : Int) (a3 : Int) (a4 : Int) (a5 : Int) (e : (Unit) ⊕ (List D)) : List (Nat × Blk) := match e with
  | (.inl e) => [(7, .virt 0 2 [.agg [I a0, I a1]])]
  | (.inr e) => [(7, .row 0 2 e)]
theorem R_ref03_Track_L1 {n : Nat} {a0 : Int} {a1 : Int} {a2 : Int} {a3 : Int} {a4 : Int} {a5 : Int} (sa : (Unit) ⊕ (List D)) (r) (h : F_ref03_Track_L1 n a0 a1 a2 a3 a4 a5 sa = some r) : Rd cx (loopAt cx.P 34 0) 44 0 false (T_ref03_Track_L1 a0 a1 a2 a3 a4 a5) (H_ref03_Track_L1 a0 a1 a2 a3 a4 a5) (X_ref03_Track_L1 a0 a1 a2 a3 a4 a5) (XT_ref03_Track_L1 a0 a1 a2 a3 a4 a5) (XH_ref03_Track_L1 a0 a1 a2 a3 a4 a5) sa r := by
  unfold F_ref03_Track_L1 at h
  rcases sa with sa | sa
  · by_cases ha1 : ((a0 == a2) && ((a1 == a3) && true)) = true
    · replace h := ite_t h ha1
      replace h := Option.some.inj h
      subst h
      exact ⟨⟨100, 8, [.no, .br false], [], [7], [7], round_of (ob := [(!((a0 == a2) && ((a1 == a3) && true))) = false, inI64 0]) (by kernel_rfl) ⟨(notf ha1), (by unfold inI64; omega), trivial⟩⟩, nofun⟩
    · replace h := ite_f h ha1
      obtain ⟨ta2, ha2, h⟩ := bnd_of h
      obtain ⟨ta3, ha3, h⟩ := bnd_of h
      replace h := Option.some.inj h
      subst h
      exact ⟨100, 8, [.no, .br true, .no, .ret (I ta2), .ret (I ta3), .no, .no], [], [4, 5, 7], [1, 2, 7], round_of (ob := [Computes cx 92 [I a1, I a3, I a5] (I ta3), Computes cx 92 [I a0, I a2, I a4] (I ta2), inI64 0, (!((a0 == a2) && ((a1 == a3) && true))) = true, inI64 0]) (by kernel_rfl) ⟨(c_ref03_nearer ha3), (c_ref03_nearer ha2), (by unfold inI64; omega), (nott (bfalse ha1)), (by unfold inI64; omega), trivial⟩⟩
  · obtain ⟨ha1, h⟩ := grd_of h
    obtain ⟨ha2, h⟩ := grd_of h
    obtain ⟨ta3, ha3, h⟩ := bnd_of h
    by_cases ha4 : ((ta3.1 == a2) && ((ta3.2 == a3) && true)) = true
    · replace h := ite_t h ha4
      replace h := Option.some.inj h
      subst h
      exact ⟨⟨100, 8, [.br true, .el (.agg [I ta3.1, I ta3.2]), .br false], [], [7], [7], round_of (ob := [(!((ta3.1 == a2) && ((ta3.2 == a3) && true))) = false, nth (sa) (Int.toNat (((sa).length : Int) - 1)) = some (.agg [I ta3.1, I ta3.2]), 0 ≤ (((sa).length : Int) - 1) ∧ (((sa).length : Int) - 1) < ((sa).length : Int), inI64 (((sa).length : Int) - 1)]) (by kernel_rfl) ⟨(notf ha4), nel_ok un_Ai2Z_ok ha3, ha2, ha1, trivial⟩⟩, nofun⟩
    · replace h := ite_f h ha4
      obtain ⟨ta5, ha5, h⟩ := bnd_of h
      obtain ⟨ta6, ha6, h⟩ := bnd_of h
      obtain ⟨ha7, h⟩ := grd_of h
      replace h := Option.some.inj h
      subst h
      exact ⟨100, 8, [.br true, .el (.agg [I ta3.1, I ta3.2]), .br true, .br true, .el (.agg [I ta3.1, I ta3.2]), .ret (I ta5), .ret (I ta6), .br true], [], [4, 5, 7], [1, 2, 7], round_of (ob := [room cx 51 ((sa).length + 1), Computes cx 92 [I ta3.2, I a3, I a5] (I ta6), Computes cx 92 [I ta3.1, I a2, I a4] (I ta5), nth (sa) (Int.toNat (((sa).length : Int) - 1)) = some (.agg [I ta3.1, I ta3.2]), 0 ≤ (((sa).length : Int) - 1) ∧ (((sa).length : Int) - 1) < ((sa).length : Int), inI64 (((sa).length : Int) - 1), (!((ta3.1 == a2) && ((ta3.2 == a3) && true))) = true, nth (sa) (Int.toNat (((sa).length : Int) - 1)) = some (.agg [I ta3.1, I ta3.2]), 0 ≤ (((sa).length : Int) - 1) ∧ (((sa).length : Int) - 1) < ((sa).length : Int), inI64 (((sa).length : Int) - 1)]) (by kernel_rfl) ⟨(room_of (b := 16) (by kernel_rfl) (by decide) ha7), (c_ref03_nearer ha6), (c_ref03_nearer ha5), nel_ok un_Ai2Z_ok ha3, ha2, ha1, (nott (bfalse ha4)), nel_ok un_Ai2Z_ok ha3, ha2, ha1, trivial⟩⟩
/- spillage/spillageref03.Track: .agg [I a0, I a1], .agg [I a2, I a3], .agg [I a4, I a5] -/
def F_ref03_Track (n : Nat) (a0 : Int) (a1 : Int) (a2 : Int) (a3 : Int) (a4 : Int) (a5 : Int) : Option (List D) :=
  (loopF (F_ref03_Track_L1 n a0 a1 a2 a3 a4 a5) n (.inl ())).bind fun t1 => match t1 with
    | (.inl t1) => (
      some [.agg [I a0, I a1]])
    | (.inr t1) => (
      some t1)
theorem c_ref03_Track {n : Nat} {a0 : Int} {a1 : Int} {a2 : Int} {a3 : Int} {a4 : Int} {a5 : Int} {r : List D} (h : F_ref03_Track n a0 a1 a2 a3 a4 a5 = some r) : Computes cx 34 [.agg [I a0, I a1], .agg [I a2, I a3], .agg [I a4, I a5]] (.lst false 2 r) := by
  unfold F_ref03_Track at h
  obtain ⟨t1, h1, h⟩ := bnd_of h
  rcases t1 with t1 | t1
  · replace h := Option.some.inj h
    subst h
    exact (run (n := 100) (f := 34) (args := [.agg [I a0, I a1], .agg [I a2, I a3], .agg [I a4, I a5]]) (orc := [.lp [7, 0] [4, 5, 7] [1, 2, 7] (.exit 0) [(7, .own 7 0)] [(7, .virt 0 2 [.agg [I a0, I a1]])] 54]) (r := .lst true 2 [.agg [I a0, I a1]]) (ob := [LoopN cx (loopAt cx.P 34 0) 44 0 false [(4, .ptr 1 0 0 0 0), (5, .ptr 2 0 0 0 0), (7, .own 7 0)] [(1, .box (.d (.agg [I a2, I a3]))), (2, .box (.d (.agg [I a4, I a5]))), (7, .virt 0 2 [.agg [I a0, I a1]])] (.exit 0) [(7, .own 7 0)] [(7, .virt 0 2 [.agg [I a0, I a1]])]]) (by kernel_rfl) ⟨(loopF_to R_ref03_Track_L1 h1), trivial⟩).le (LEs.refl _) (.full _ _ _)
  · replace h := Option.some.inj h
    subst h
    exact run (n := 100) (f := 34) (args := [.agg [I a0, I a1], .agg [I a2, I a3], .agg [I a4, I a5]]) (orc := [.lp [7, 0] [4, 5, 7] [1, 2, 7] (.exit 0) [(7, .own 7 0)] [(7, .row 0 2 t1)] 54]) (r := .lst false 2 t1) (ob := [LoopN cx (loopAt cx.P 34 0) 44 0 false [(4, .ptr 1 0 0 0 0), (5, .ptr 2 0 0 0 0), (7, .own 7 0)] [(1, .box (.d (.agg [I a2, I a3]))), (2, .box (.d (.agg [I a4, I a5]))), (7, .virt 0 2 [.agg [I a0, I a1]])] (.exit 0) [(7, .own 7 0)] [(7, .row 0 2 t1)]]) (by kernel_rfl) ⟨(loopF_to R_ref03_Track_L1 h1), trivial⟩
/- spillage/spillagelaw03.DriveTracks: .agg [I a0, I a1], .agg [I a2, I a3], .agg [I a4, I a5] -/
def F_law03_DriveTracks (n : Nat) (a0 : Int) (a1 : Int) (a2 : Int) (a3 : Int) (a4 : Int) (a5 : Int) : Option (Bool) :=
  (F_drive_Track_2 n a0 a1 a2 a3 a4 a5).bind fun t1 =>
  (F_ref03_CheckTrack n a0 a1 a2 a3 a4 a5).bind fun t2 =>
  if t2 = 0 then
    (F_ref03_Track n a0 a1 a2 a3 a4 a5).bind fun t4 =>
    (F_ref03_SamePoses n t1.1 t4).bind fun t5 =>
    if t5 = true then
      if t1.2 = t2 then
        (F_law03_awake n).bind fun t8 =>
        some t8
      else
      none /- false -/
    else
    none /- false -/
  else
  (F_ref03_SamePoses n t1.1 ([])).bind fun t4 =>
  if t4 = true then
    if t1.2 = t2 then
      (F_law03_awake n).bind fun t7 =>
      some t7
    else
    none /- false -/
  else
  none /- false -/
theorem c_law03_DriveTracks {n : Nat} {a0 : Int} {a1 : Int} {a2 : Int} {a3 : Int} {a4 : Int} {a5 : Int} {r : Bool} (h : F_law03_DriveTracks n a0 a1 a2 a3 a4 a5 = some r) : Computes cx 4 [.agg [I a0, I a1], .agg [I a2, I a3], .agg [I a4, I a5]] (B r) := by
  unfold F_law03_DriveTracks at h
  obtain ⟨t1, h1, h⟩ := bnd_of h
  obtain ⟨t2, h2, h⟩ := bnd_of h
  by_cases h3 : t2 = 0
  · replace h := ite_t h h3
    obtain ⟨t4, h4, h⟩ := bnd_of h
    obtain ⟨t5, h5, h⟩ := bnd_of h
    by_cases h6 : t5 = true
    · replace h := ite_t h h6
      by_cases h7 : t1.2 = t2
      · replace h := ite_t h h7
        obtain ⟨t8, h8, h⟩ := bnd_of h
        replace h := Option.some.inj h
        subst h
        exact run (n := 100) (f := 4) (args := [.agg [I a0, I a1], .agg [I a2, I a3], .agg [I a4, I a5]]) (orc := [.ret (.tup [.lst false 2 t1.1, I t1.2]), .ret (I t2), .br true, .ret (.lst false 2 t4), .ret (B t5), .br true, .br true, .ret (B t8)]) (r := B t8) (ob := [Computes cx 19 [] (B t8), (t1.2 == t2) = true, t5 = true, Computes cx 35 [.lst false 2 t1.1, .lst false 2 t4] (B t5), Computes cx 34 [.agg [I a0, I a1], .agg [I a2, I a3], .agg [I a4, I a5]] (.lst false 2 t4), (t2 == 0) = true, Computes cx 33 [.agg [I a0, I a1], .agg [I a2, I a3], .agg [I a4, I a5]] (I t2), Computes cx 32 [.agg [I a0, I a1], .agg [I a2, I a3], .agg [I a4, I a5]] (.tup [.lst false 2 t1.1, I t1.2])]) (by kernel_rfl) ⟨(c_law03_awake h8), (eqt h7), h6, (c_ref03_SamePoses h5), (c_ref03_Track h4), (eqt h3), (c_ref03_CheckTrack h2), (c_drive_Track_2 h1), trivial⟩
      · replace h := ite_f h h7
        cases h
    · replace h := ite_f h h6
      cases h
  · replace h := ite_f h h3
    obtain ⟨t4, h4, h⟩ := bnd_of h
    by_cases h5 : t4 = true
    · replace h := ite_t h h5
      by_cases h6 : t1.2 = t2
      · replace h := ite_t h h6
        obtain ⟨t7, h7, h⟩ := bnd_of h
        replace h := Option.some.inj h
        subst h
        exact run (n := 100) (f := 4) (args := [.agg [I a0, I a1], .agg [I a2, I a3], .agg [I a4, I a5]]) (orc := [.ret (.tup [.lst false 2 t1.1, I t1.2]), .ret (I t2), .br false, .ret (B t4), .br true, .br true, .ret (B t7)]) (r := B t7) (ob := [Computes cx 19 [] (B t7), (t1.2 == t2) = true, t4 = true, Computes cx 35 [.lst false 2 t1.1, .lst true 0 []] (B t4), (t2 == 0) = false, Computes cx 33 [.agg [I a0, I a1], .agg [I a2, I a3], .agg [I a4, I a5]] (I t2), Computes cx 32 [.agg [I a0, I a1], .agg [I a2, I a3], .agg [I a4, I a5]] (.tup [.lst false 2 t1.1, I t1.2])]) (by kernel_rfl) ⟨(c_law03_awake h7), (eqt h6), h5, ((c_ref03_SamePoses h4).le (.cons (.refl _) (.cons (.lst _ _ _ _ _ nofun (.inl rfl)) (.nil))) (.refl _)), (eqf h3), (c_ref03_CheckTrack h2), (c_drive_Track_2 h1), trivial⟩
      · replace h := ite_f h h6
        cases h
    · replace h := ite_f h h5
      cases h
end Go.Proofs.YtmgbmngmmpeaaaaGreatDoor
