/-
  Printed by gsx.py: functions of the program as Lean functions, and that the code computes them.
-/
import Derived.Test.YtmgbmngmmpeaaaaGreatDoorGen8
set_option linter.unusedVariables false
set_option linter.unusedSimpArgs false
set_option linter.unnecessarySimpa false
set_option maxRecDepth 10000
namespace Go.Proofs.YtmgbmngmmpeaaaaGreatDoor
open Go.SX
/- spillage/drive.Pointed: .agg [I a0, I a1, I a2, I a3, I a4, I a5], .agg [I a6, I a7, I a8, I a9, I a10, I a11], .agg [.lst false 3 a12, .lst false 3 a13], .agg [I a14, I a15, I a16, I a17] -/
def F_drive_Pointed (n : Nat) (a0 : Int) (a1 : Int) (a2 : Int) (a3 : Int) (a4 : Int) (a5 : Int) (a6 : Int) (a7 : Int) (a8 : Int) (a9 : Int) (a10 : Int) (a11 : Int) (a12 : List D) (a13 : List D) (a14 : Int) (a15 : Int) (a16 : Int) (a17 : Int) : Option (Int × Int × Int) :=
  (F_drive_aimed_check n a0 a1 a2 a6 a7 a8 a12 a14 a15).bind fun t1 =>
  (F_drive_aimed_check n a3 a4 a5 a9 a10 a11 a13 a16 a17).bind fun t2 =>
  (F_drive_first n ([I t1, I t2])).bind fun t3 =>
  if t3 = 0 then
    (F_drive_aimed_nearest n a0 a1 a2 a6 a7 a8 a12 a14 a15).bind fun t5 =>
    if t5.2 = 0 then
      (F_drive_aimed_nearest n a3 a4 a5 a9 a10 a11 a13 a16 a17).bind fun t7 =>
      if t7.2 = 0 then
        some (t5.1, t7.1, 0)
      else
      some (0, 0, t7.2)
    else
    some (0, 0, t5.2)
  else
  some (0, 0, t3)
theorem c_drive_Pointed {n : Nat} {a0 : Int} {a1 : Int} {a2 : Int} {a3 : Int} {a4 : Int} {a5 : Int} {a6 : Int} {a7 : Int} {a8 : Int} {a9 : Int} {a10 : Int} {a11 : Int} {a12 : List D} {a13 : List D} {a14 : Int} {a15 : Int} {a16 : Int} {a17 : Int} {r : Int × Int × Int} (h : F_drive_Pointed n a0 a1 a2 a3 a4 a5 a6 a7 a8 a9 a10 a11 a12 a13 a14 a15 a16 a17 = some r) : Computes cx 76 [.agg [I a0, I a1, I a2, I a3, I a4, I a5], .agg [I a6, I a7, I a8, I a9, I a10, I a11], .agg [.lst false 3 a12, .lst false 3 a13], .agg [I a14, I a15, I a16, I a17]] (.tup [.agg [I r.1, I r.2.1], I r.2.2]) := by
  unfold F_drive_Pointed at h
  obtain ⟨t1, h1, h⟩ := bnd_of h
  obtain ⟨t2, h2, h⟩ := bnd_of h
  obtain ⟨t3, h3, h⟩ := bnd_of h
  by_cases h4 : t3 = 0
  · replace h := ite_t h h4
    obtain ⟨t5, h5, h⟩ := bnd_of h
    by_cases h6 : t5.2 = 0
    · replace h := ite_t h h6
      obtain ⟨t7, h7, h⟩ := bnd_of h
      by_cases h8 : t7.2 = 0
      · replace h := ite_t h h8
        replace h := Option.some.inj h
        subst h
        exact run (n := 100) (f := 76) (args := [.agg [I a0, I a1, I a2, I a3, I a4, I a5], .agg [I a6, I a7, I a8, I a9, I a10, I a11], .agg [.lst false 3 a12, .lst false 3 a13], .agg [I a14, I a15, I a16, I a17]]) (orc := [.no, .no, .no, .no, .no, .no, .ret (I t1), .ret (I t2), .ret (I t3), .br false, .no, .no, .ret (.tup [I t5.1, I t5.2]), .br false, .no, .no, .ret (.tup [I t7.1, I t7.2]), .br false, .no, .no]) (r := .tup [.agg [I t5.1, I t7.1], I 0]) (ob := [inI64 2, (t7.2 != 0) = false, Computes cx 100 [.agg [I a3, I a4, I a5, I a9, I a10, I a11, .lst false 3 a13, I a16, I a17]] (.tup [I t7.1, I t7.2]), inI64 1, (t5.2 != 0) = false, Computes cx 100 [.agg [I a0, I a1, I a2, I a6, I a7, I a8, .lst false 3 a12, I a14, I a15]] (.tup [I t5.1, I t5.2]), (t3 != 0) = false, Computes cx 84 [.lst true 1 [I t1, I t2]] (I t3), Computes cx 98 [.agg [I a3, I a4, I a5, I a9, I a10, I a11, .lst false 3 a13, I a16, I a17]] (I t2), Computes cx 98 [.agg [I a0, I a1, I a2, I a6, I a7, I a8, .lst false 3 a12, I a14, I a15]] (I t1), inI64 2, inI64 1]) (by kernel_rfl) ⟨(by unfold inI64; omega), (nef h8), (c_drive_aimed_nearest h7), (by unfold inI64; omega), (nef h6), (c_drive_aimed_nearest h5), (nef h4), ((c_drive_first h3).le (.cons (.full _ _ _) (.nil)) (.refl _)), (c_drive_aimed_check h2), (c_drive_aimed_check h1), (by unfold inI64; omega), (by unfold inI64; omega), trivial⟩
      · replace h := ite_f h h8
        replace h := Option.some.inj h
        subst h
        exact run (n := 100) (f := 76) (args := [.agg [I a0, I a1, I a2, I a3, I a4, I a5], .agg [I a6, I a7, I a8, I a9, I a10, I a11], .agg [.lst false 3 a12, .lst false 3 a13], .agg [I a14, I a15, I a16, I a17]]) (orc := [.no, .no, .no, .no, .no, .no, .ret (I t1), .ret (I t2), .ret (I t3), .br false, .no, .no, .ret (.tup [I t5.1, I t5.2]), .br false, .no, .no, .ret (.tup [I t7.1, I t7.2]), .br true]) (r := .tup [.agg [I 0, I 0], I t7.2]) (ob := [(t7.2 != 0) = true, Computes cx 100 [.agg [I a3, I a4, I a5, I a9, I a10, I a11, .lst false 3 a13, I a16, I a17]] (.tup [I t7.1, I t7.2]), inI64 1, (t5.2 != 0) = false, Computes cx 100 [.agg [I a0, I a1, I a2, I a6, I a7, I a8, .lst false 3 a12, I a14, I a15]] (.tup [I t5.1, I t5.2]), (t3 != 0) = false, Computes cx 84 [.lst true 1 [I t1, I t2]] (I t3), Computes cx 98 [.agg [I a3, I a4, I a5, I a9, I a10, I a11, .lst false 3 a13, I a16, I a17]] (I t2), Computes cx 98 [.agg [I a0, I a1, I a2, I a6, I a7, I a8, .lst false 3 a12, I a14, I a15]] (I t1), inI64 2, inI64 1]) (by kernel_rfl) ⟨(net h8), (c_drive_aimed_nearest h7), (by unfold inI64; omega), (nef h6), (c_drive_aimed_nearest h5), (nef h4), ((c_drive_first h3).le (.cons (.full _ _ _) (.nil)) (.refl _)), (c_drive_aimed_check h2), (c_drive_aimed_check h1), (by unfold inI64; omega), (by unfold inI64; omega), trivial⟩
    · replace h := ite_f h h6
      replace h := Option.some.inj h
      subst h
      exact run (n := 100) (f := 76) (args := [.agg [I a0, I a1, I a2, I a3, I a4, I a5], .agg [I a6, I a7, I a8, I a9, I a10, I a11], .agg [.lst false 3 a12, .lst false 3 a13], .agg [I a14, I a15, I a16, I a17]]) (orc := [.no, .no, .no, .no, .no, .no, .ret (I t1), .ret (I t2), .ret (I t3), .br false, .no, .no, .ret (.tup [I t5.1, I t5.2]), .br true]) (r := .tup [.agg [I 0, I 0], I t5.2]) (ob := [(t5.2 != 0) = true, Computes cx 100 [.agg [I a0, I a1, I a2, I a6, I a7, I a8, .lst false 3 a12, I a14, I a15]] (.tup [I t5.1, I t5.2]), (t3 != 0) = false, Computes cx 84 [.lst true 1 [I t1, I t2]] (I t3), Computes cx 98 [.agg [I a3, I a4, I a5, I a9, I a10, I a11, .lst false 3 a13, I a16, I a17]] (I t2), Computes cx 98 [.agg [I a0, I a1, I a2, I a6, I a7, I a8, .lst false 3 a12, I a14, I a15]] (I t1), inI64 2, inI64 1]) (by kernel_rfl) ⟨(net h6), (c_drive_aimed_nearest h5), (nef h4), ((c_drive_first h3).le (.cons (.full _ _ _) (.nil)) (.refl _)), (c_drive_aimed_check h2), (c_drive_aimed_check h1), (by unfold inI64; omega), (by unfold inI64; omega), trivial⟩
  · replace h := ite_f h h4
    replace h := Option.some.inj h
    subst h
    exact run (n := 100) (f := 76) (args := [.agg [I a0, I a1, I a2, I a3, I a4, I a5], .agg [I a6, I a7, I a8, I a9, I a10, I a11], .agg [.lst false 3 a12, .lst false 3 a13], .agg [I a14, I a15, I a16, I a17]]) (orc := [.no, .no, .no, .no, .no, .no, .ret (I t1), .ret (I t2), .ret (I t3), .br true]) (r := .tup [.agg [I 0, I 0], I t3]) (ob := [(t3 != 0) = true, Computes cx 84 [.lst true 1 [I t1, I t2]] (I t3), Computes cx 98 [.agg [I a3, I a4, I a5, I a9, I a10, I a11, .lst false 3 a13, I a16, I a17]] (I t2), Computes cx 98 [.agg [I a0, I a1, I a2, I a6, I a7, I a8, .lst false 3 a12, I a14, I a15]] (I t1), inI64 2, inI64 1]) (by kernel_rfl) ⟨(net h4), ((c_drive_first h3).le (.cons (.full _ _ _) (.nil)) (.refl _)), (c_drive_aimed_check h2), (c_drive_aimed_check h1), (by unfold inI64; omega), (by unfold inI64; omega), trivial⟩
/- spillage/spillagelaw03.DrivePoints: .agg [I a0, I a1, I a2, I a3, I a4, I a5, I a6, I a7], .agg [I a8, I a9, I a10, I a11, I a12, I a13, I a14, I a15], .agg [.lst false 3 a16, .lst false 3 a17] -/
def F_law03_DrivePoints (n : Nat) (a0 : Int) (a1 : Int) (a2 : Int) (a3 : Int) (a4 : Int) (a5 : Int) (a6 : Int) (a7 : Int) (a8 : Int) (a9 : Int) (a10 : Int) (a11 : Int) (a12 : Int) (a13 : Int) (a14 : Int) (a15 : Int) (a16 : List D) (a17 : List D) : Option (Bool) :=
  (F_ref03_ShortModel n a16).bind fun t1 =>
  if t1 = true then
    (F_ref03_ShortModel n a17).bind fun t3 =>
    if t3 = true then
      (F_law03_given n a16).bind fun t5 =>
      (F_law03_given n a17).bind fun t6 =>
      (F_drive_Pointed n a0 a1 a2 a8 a9 a10 a3 a4 a5 a11 a12 a13 t5 t6 a6 a7 a14 a15).bind fun t7 =>
      (F_ref03_CheckAll n a0 a1 a2 a3 a4 a5 a16 a6 a7).bind fun t8 =>
      (F_ref03_CheckAll n a8 a9 a10 a11 a12 a13 a17 a14 a15).bind fun t9 =>
      (F_ref01_First n ([I t8, I t9])).bind fun t10 =>
      if t10 = 0 then
        (F_ref03_Inverted n a0 a1 a2 a3 a4 a5 a16 a6 a7).bind fun t12 =>
        (F_ref03_Inverted n a8 a9 a10 a11 a12 a13 a17 a14 a15).bind fun t13 =>
        (F_ref01_First n ([I t12.2, I t13.2])).bind fun t14 =>
        if t14 = 0 then
          if ((t7.1 == t12.1) && ((t7.2.1 == t13.1) && true)) = true then
            if t7.2.2 = t14 then
              (F_law03_awake n).bind fun t18 =>
              some t18
            else
            none /- false -/
          else
          none /- false -/
        else
        if ((t7.1 == 0) && ((t7.2.1 == 0) && true)) = true then
          if t7.2.2 = t14 then
            (F_law03_awake n).bind fun t18 =>
            some t18
          else
          none /- false -/
        else
        none /- false -/
      else
      if ((t7.1 == 0) && ((t7.2.1 == 0) && true)) = true then
        if t7.2.2 = t10 then
          (F_law03_awake n).bind fun t14 =>
          some t14
        else
        none /- false -/
      else
      none /- false -/
    else
    (F_law03_awake n).bind fun t5 =>
    some t5
  else
  (F_law03_awake n).bind fun t3 =>
  some t3
theorem c_law03_DrivePoints {n : Nat} {a0 : Int} {a1 : Int} {a2 : Int} {a3 : Int} {a4 : Int} {a5 : Int} {a6 : Int} {a7 : Int} {a8 : Int} {a9 : Int} {a10 : Int} {a11 : Int} {a12 : Int} {a13 : Int} {a14 : Int} {a15 : Int} {a16 : List D} {a17 : List D} {r : Bool} (h : F_law03_DrivePoints n a0 a1 a2 a3 a4 a5 a6 a7 a8 a9 a10 a11 a12 a13 a14 a15 a16 a17 = some r) : Computes cx 15 [.agg [I a0, I a1, I a2, I a3, I a4, I a5, I a6, I a7], .agg [I a8, I a9, I a10, I a11, I a12, I a13, I a14, I a15], .agg [.lst false 3 a16, .lst false 3 a17]] (B r) := by
  unfold F_law03_DrivePoints at h
  obtain ⟨t1, h1, h⟩ := bnd_of h
  by_cases h2 : t1 = true
  · replace h := ite_t h h2
    obtain ⟨t3, h3, h⟩ := bnd_of h
    by_cases h4 : t3 = true
    · replace h := ite_t h h4
      obtain ⟨t5, h5, h⟩ := bnd_of h
      obtain ⟨t6, h6, h⟩ := bnd_of h
      obtain ⟨t7, h7, h⟩ := bnd_of h
      obtain ⟨t8, h8, h⟩ := bnd_of h
      obtain ⟨t9, h9, h⟩ := bnd_of h
      obtain ⟨t10, h10, h⟩ := bnd_of h
      by_cases h11 : t10 = 0
      · replace h := ite_t h h11
        obtain ⟨t12, h12, h⟩ := bnd_of h
        obtain ⟨t13, h13, h⟩ := bnd_of h
        obtain ⟨t14, h14, h⟩ := bnd_of h
        by_cases h15 : t14 = 0
        · replace h := ite_t h h15
          by_cases h16 : ((t7.1 == t12.1) && ((t7.2.1 == t13.1) && true)) = true
          · replace h := ite_t h h16
            by_cases h17 : t7.2.2 = t14
            · replace h := ite_t h h17
              obtain ⟨t18, h18, h⟩ := bnd_of h
              replace h := Option.some.inj h
              subst h
              exact run (n := 100) (f := 15) (args := [.agg [I a0, I a1, I a2, I a3, I a4, I a5, I a6, I a7], .agg [I a8, I a9, I a10, I a11, I a12, I a13, I a14, I a15], .agg [.lst false 3 a16, .lst false 3 a17]]) (orc := [.ret (B t1), .br false, .ret (B t3), .br false, .ret (.lst false 3 t5), .ret (.lst false 3 t6), .ret (.tup [.agg [I t7.1, I t7.2.1], I t7.2.2]), .ret (I t8), .ret (I t9), .ret (I t10), .br true, .ret (.tup [I t12.1, I t12.2]), .ret (.tup [I t13.1, I t13.2]), .ret (I t14), .br true, .br true, .br true, .ret (B t18)]) (r := B t18) (ob := [Computes cx 19 [] (B t18), (t7.2.2 == t14) = true, ((t7.1 == t12.1) && ((t7.2.1 == t13.1) && true)) = true, (t14 == 0) = true, Computes cx 24 [.lst true 1 [I t12.2, I t13.2]] (I t14), Computes cx 62 [.agg [I a8, I a9, I a10], .agg [I a11, I a12, I a13], .lst false 3 a17, .agg [I a14, I a15]] (.tup [I t13.1, I t13.2]), Computes cx 62 [.agg [I a0, I a1, I a2], .agg [I a3, I a4, I a5], .lst false 3 a16, .agg [I a6, I a7]] (.tup [I t12.1, I t12.2]), (t10 == 0) = true, Computes cx 24 [.lst true 1 [I t8, I t9]] (I t10), Computes cx 57 [.agg [I a8, I a9, I a10], .agg [I a11, I a12, I a13], .lst false 3 a17, .agg [I a14, I a15]] (I t9), Computes cx 57 [.agg [I a0, I a1, I a2], .agg [I a3, I a4, I a5], .lst false 3 a16, .agg [I a6, I a7]] (I t8), Computes cx 76 [.agg [I a0, I a1, I a2, I a8, I a9, I a10], .agg [I a3, I a4, I a5, I a11, I a12, I a13], .agg [.lst false 3 t5, .lst false 3 t6], .agg [I a6, I a7, I a14, I a15]] (.tup [.agg [I t7.1, I t7.2.1], I t7.2.2]), Computes cx 47 [.lst false 3 a17] (.lst false 3 t6), Computes cx 47 [.lst false 3 a16] (.lst false 3 t5), (!t3) = false, Computes cx 45 [.lst false 3 a17] (B t3), (!t1) = false, Computes cx 45 [.lst false 3 a16] (B t1)]) (by kernel_rfl) ⟨(c_law03_awake h18), (eqt h17), h16, (eqt h15), ((c_ref01_First h14).le (.cons (.full _ _ _) (.nil)) (.refl _)), (c_ref03_Inverted h13), (c_ref03_Inverted h12), (eqt h11), ((c_ref01_First h10).le (.cons (.full _ _ _) (.nil)) (.refl _)), (c_ref03_CheckAll h9), (c_ref03_CheckAll h8), (c_drive_Pointed h7), (c_law03_given h6), (c_law03_given h5), (notf h4), (c_ref03_ShortModel h3), (notf h2), (c_ref03_ShortModel h1), trivial⟩
            · replace h := ite_f h h17
              cases h
          · replace h := ite_f h h16
            cases h
        · replace h := ite_f h h15
          by_cases h16 : ((t7.1 == 0) && ((t7.2.1 == 0) && true)) = true
          · replace h := ite_t h h16
            by_cases h17 : t7.2.2 = t14
            · replace h := ite_t h h17
              obtain ⟨t18, h18, h⟩ := bnd_of h
              replace h := Option.some.inj h
              subst h
              exact run (n := 100) (f := 15) (args := [.agg [I a0, I a1, I a2, I a3, I a4, I a5, I a6, I a7], .agg [I a8, I a9, I a10, I a11, I a12, I a13, I a14, I a15], .agg [.lst false 3 a16, .lst false 3 a17]]) (orc := [.ret (B t1), .br false, .ret (B t3), .br false, .ret (.lst false 3 t5), .ret (.lst false 3 t6), .ret (.tup [.agg [I t7.1, I t7.2.1], I t7.2.2]), .ret (I t8), .ret (I t9), .ret (I t10), .br true, .ret (.tup [I t12.1, I t12.2]), .ret (.tup [I t13.1, I t13.2]), .ret (I t14), .br false, .br true, .br true, .ret (B t18)]) (r := B t18) (ob := [Computes cx 19 [] (B t18), (t7.2.2 == t14) = true, ((t7.1 == 0) && ((t7.2.1 == 0) && true)) = true, (t14 == 0) = false, Computes cx 24 [.lst true 1 [I t12.2, I t13.2]] (I t14), Computes cx 62 [.agg [I a8, I a9, I a10], .agg [I a11, I a12, I a13], .lst false 3 a17, .agg [I a14, I a15]] (.tup [I t13.1, I t13.2]), Computes cx 62 [.agg [I a0, I a1, I a2], .agg [I a3, I a4, I a5], .lst false 3 a16, .agg [I a6, I a7]] (.tup [I t12.1, I t12.2]), (t10 == 0) = true, Computes cx 24 [.lst true 1 [I t8, I t9]] (I t10), Computes cx 57 [.agg [I a8, I a9, I a10], .agg [I a11, I a12, I a13], .lst false 3 a17, .agg [I a14, I a15]] (I t9), Computes cx 57 [.agg [I a0, I a1, I a2], .agg [I a3, I a4, I a5], .lst false 3 a16, .agg [I a6, I a7]] (I t8), Computes cx 76 [.agg [I a0, I a1, I a2, I a8, I a9, I a10], .agg [I a3, I a4, I a5, I a11, I a12, I a13], .agg [.lst false 3 t5, .lst false 3 t6], .agg [I a6, I a7, I a14, I a15]] (.tup [.agg [I t7.1, I t7.2.1], I t7.2.2]), Computes cx 47 [.lst false 3 a17] (.lst false 3 t6), Computes cx 47 [.lst false 3 a16] (.lst false 3 t5), (!t3) = false, Computes cx 45 [.lst false 3 a17] (B t3), (!t1) = false, Computes cx 45 [.lst false 3 a16] (B t1)]) (by kernel_rfl) ⟨(c_law03_awake h18), (eqt h17), h16, (eqf h15), ((c_ref01_First h14).le (.cons (.full _ _ _) (.nil)) (.refl _)), (c_ref03_Inverted h13), (c_ref03_Inverted h12), (eqt h11), ((c_ref01_First h10).le (.cons (.full _ _ _) (.nil)) (.refl _)), (c_ref03_CheckAll h9), (c_ref03_CheckAll h8), (c_drive_Pointed h7), (c_law03_given h6), (c_law03_given h5), (notf h4), (c_ref03_ShortModel h3), (notf h2), (c_ref03_ShortModel h1), trivial⟩
            · replace h := ite_f h h17
              cases h
          · replace h := ite_f h h16
            cases h
      · replace h := ite_f h h11
        by_cases h12 : ((t7.1 == 0) && ((t7.2.1 == 0) && true)) = true
        · replace h := ite_t h h12
          by_cases h13 : t7.2.2 = t10
          · replace h := ite_t h h13
            obtain ⟨t14, h14, h⟩ := bnd_of h
            replace h := Option.some.inj h
            subst h
            exact run (n := 100) (f := 15) (args := [.agg [I a0, I a1, I a2, I a3, I a4, I a5, I a6, I a7], .agg [I a8, I a9, I a10, I a11, I a12, I a13, I a14, I a15], .agg [.lst false 3 a16, .lst false 3 a17]]) (orc := [.ret (B t1), .br false, .ret (B t3), .br false, .ret (.lst false 3 t5), .ret (.lst false 3 t6), .ret (.tup [.agg [I t7.1, I t7.2.1], I t7.2.2]), .ret (I t8), .ret (I t9), .ret (I t10), .br false, .br true, .br true, .ret (B t14)]) (r := B t14) (ob := [Computes cx 19 [] (B t14), (t7.2.2 == t10) = true, ((t7.1 == 0) && ((t7.2.1 == 0) && true)) = true, (t10 == 0) = false, Computes cx 24 [.lst true 1 [I t8, I t9]] (I t10), Computes cx 57 [.agg [I a8, I a9, I a10], .agg [I a11, I a12, I a13], .lst false 3 a17, .agg [I a14, I a15]] (I t9), Computes cx 57 [.agg [I a0, I a1, I a2], .agg [I a3, I a4, I a5], .lst false 3 a16, .agg [I a6, I a7]] (I t8), Computes cx 76 [.agg [I a0, I a1, I a2, I a8, I a9, I a10], .agg [I a3, I a4, I a5, I a11, I a12, I a13], .agg [.lst false 3 t5, .lst false 3 t6], .agg [I a6, I a7, I a14, I a15]] (.tup [.agg [I t7.1, I t7.2.1], I t7.2.2]), Computes cx 47 [.lst false 3 a17] (.lst false 3 t6), Computes cx 47 [.lst false 3 a16] (.lst false 3 t5), (!t3) = false, Computes cx 45 [.lst false 3 a17] (B t3), (!t1) = false, Computes cx 45 [.lst false 3 a16] (B t1)]) (by kernel_rfl) ⟨(c_law03_awake h14), (eqt h13), h12, (eqf h11), ((c_ref01_First h10).le (.cons (.full _ _ _) (.nil)) (.refl _)), (c_ref03_CheckAll h9), (c_ref03_CheckAll h8), (c_drive_Pointed h7), (c_law03_given h6), (c_law03_given h5), (notf h4), (c_ref03_ShortModel h3), (notf h2), (c_ref03_ShortModel h1), trivial⟩
          · replace h := ite_f h h13
            cases h
        · replace h := ite_f h h12
          cases h
    · replace h := ite_f h h4
      obtain ⟨t5, h5, h⟩ := bnd_of h
      replace h := Option.some.inj h
      subst h
      exact run (n := 100) (f := 15) (args := [.agg [I a0, I a1, I a2, I a3, I a4, I a5, I a6, I a7], .agg [I a8, I a9, I a10, I a11, I a12, I a13, I a14, I a15], .agg [.lst false 3 a16, .lst false 3 a17]]) (orc := [.ret (B t1), .br false, .ret (B t3), .br true, .ret (B t5)]) (r := B t5) (ob := [Computes cx 19 [] (B t5), (!t3) = true, Computes cx 45 [.lst false 3 a17] (B t3), (!t1) = false, Computes cx 45 [.lst false 3 a16] (B t1)]) (by kernel_rfl) ⟨(c_law03_awake h5), (nott (bfalse h4)), (c_ref03_ShortModel h3), (notf h2), (c_ref03_ShortModel h1), trivial⟩
  · replace h := ite_f h h2
    obtain ⟨t3, h3, h⟩ := bnd_of h
    replace h := Option.some.inj h
    subst h
    exact run (n := 100) (f := 15) (args := [.agg [I a0, I a1, I a2, I a3, I a4, I a5, I a6, I a7], .agg [I a8, I a9, I a10, I a11, I a12, I a13, I a14, I a15], .agg [.lst false 3 a16, .lst false 3 a17]]) (orc := [.ret (B t1), .br true, .no, .ret (B t3)]) (r := B t3) (ob := [Computes cx 19 [] (B t3), (!t1) = true, Computes cx 45 [.lst false 3 a16] (B t1)]) (by kernel_rfl) ⟨(c_law03_awake h3), (nott (bfalse h2)), (c_ref03_ShortModel h1), trivial⟩
end Go.Proofs.YtmgbmngmmpeaaaaGreatDoor
