/-
  Printed by gsx.py: functions of the program as Lean functions, and that the code computes them.
-/
import Derived.Test.YtbjibgaknkaifaaGreatDoorWake
set_option linter.unusedVariables false
set_option linter.unusedSimpArgs false
set_option linter.unnecessarySimpa false
set_option maxRecDepth 10000
namespace Go.Proofs.YtbjibgaknkaifaaGreatDoor
open Go.SX
/- spillage/field.Meets: .agg [.v (.string a0), I a1, I a2, I a3, I a4, I a5, I a6, I a7, I a8, I a9], I a10, .agg [I a11, I a12, I a13], .agg [I a14, I a15, I a16], B a17 -/
def F_field_Meets (n : Nat) (a0 : ByteArray) (a1 : Int) (a2 : Int) (a3 : Int) (a4 : Int) (a5 : Int) (a6 : Int) (a7 : Int) (a8 : Int) (a9 : Int) (a10 : Int) (a11 : Int) (a12 : Int) (a13 : Int) (a14 : Int) (a15 : Int) (a16 : Int) (a17 : Bool) : Option (Bool × Int) :=
  (F_field_Mirror_check n a0 a1 a2 a3 a4 a5 a6 a7 a8 a9).bind fun t1 =>
  (F_field_checkK n a10).bind fun t2 =>
  (F_field_checkParts n a11 a12 a13 131072).bind fun t3 =>
  (F_field_checkDirection n a14 a15 a16 131072).bind fun t4 =>
  (F_field_first n ([I t1, I t2, I t3, I t4])).bind fun t5 =>
  if t5 = 0 then
    (F_field_Mirror_meets n a0 a1 a2 a3 a4 a5 a6 a7 a8 a9 a10 a11 a12 a13 a14 a15 a16 a17).bind fun t7 =>
    some (t7, 0)
  else
  some (false, t5)
theorem c_field_Meets {n : Nat} {a0 : ByteArray} {a1 : Int} {a2 : Int} {a3 : Int} {a4 : Int} {a5 : Int} {a6 : Int} {a7 : Int} {a8 : Int} {a9 : Int} {a10 : Int} {a11 : Int} {a12 : Int} {a13 : Int} {a14 : Int} {a15 : Int} {a16 : Int} {a17 : Bool} {r : Bool × Int} (h : F_field_Meets n a0 a1 a2 a3 a4 a5 a6 a7 a8 a9 a10 a11 a12 a13 a14 a15 a16 a17 = some r) : Computes cx 19 [.agg [.v (.string a0), I a1, I a2, I a3, I a4, I a5, I a6, I a7, I a8, I a9], I a10, .agg [I a11, I a12, I a13], .agg [I a14, I a15, I a16], B a17] (.tup [B r.1, I r.2]) := by
  unfold F_field_Meets at h
  obtain ⟨t1, h1, h⟩ := bnd_of h
  obtain ⟨t2, h2, h⟩ := bnd_of h
  obtain ⟨t3, h3, h⟩ := bnd_of h
  obtain ⟨t4, h4, h⟩ := bnd_of h
  obtain ⟨t5, h5, h⟩ := bnd_of h
  by_cases h6 : t5 = 0
  · replace h := ite_t h h6
    obtain ⟨t7, h7, h⟩ := bnd_of h
    replace h := Option.some.inj h
    subst h
    exact run (n := 100) (f := 19) (args := [.agg [.v (.string a0), I a1, I a2, I a3, I a4, I a5, I a6, I a7, I a8, I a9], I a10, .agg [I a11, I a12, I a13], .agg [I a14, I a15, I a16], B a17]) (orc := [.ret (I t1), .ret (I t2), .ret (I t3), .ret (I t4), .ret (I t5), .br false, .ret (B t7)]) (r := .tup [B t7, I 0]) (ob := [Computes cx 83 [.agg [.v (.string a0), I a1, I a2, I a3, I a4, I a5, I a6, I a7, I a8, I a9], I a10, .agg [I a11, I a12, I a13, I a14, I a15, I a16, B a17]] (B t7), (t5 != 0) = false, Computes cx 62 [.lst true 1 [I t1, I t2, I t3, I t4]] (I t5), Computes cx 64 [.agg [I a14, I a15, I a16], I 131072] (I t4), Computes cx 82 [.agg [I a11, I a12, I a13], I 131072] (I t3), Computes cx 81 [I a10] (I t2), Computes cx 63 [.agg [.v (.string a0), I a1, I a2, I a3, I a4, I a5, I a6, I a7, I a8, I a9]] (I t1)]) (by kernel_rfl) ⟨(c_field_Mirror_meets h7), (nef h6), ((c_field_first h5).le (.cons (.full _ _ _) (.nil)) (.refl _)), (c_field_checkDirection h4), (c_field_checkParts h3), (c_field_checkK h2), (c_field_Mirror_check h1), trivial⟩
  · replace h := ite_f h h6
    replace h := Option.some.inj h
    subst h
    exact run (n := 100) (f := 19) (args := [.agg [.v (.string a0), I a1, I a2, I a3, I a4, I a5, I a6, I a7, I a8, I a9], I a10, .agg [I a11, I a12, I a13], .agg [I a14, I a15, I a16], B a17]) (orc := [.ret (I t1), .ret (I t2), .ret (I t3), .ret (I t4), .ret (I t5), .br true]) (r := .tup [B false, I t5]) (ob := [(t5 != 0) = true, Computes cx 62 [.lst true 1 [I t1, I t2, I t3, I t4]] (I t5), Computes cx 64 [.agg [I a14, I a15, I a16], I 131072] (I t4), Computes cx 82 [.agg [I a11, I a12, I a13], I 131072] (I t3), Computes cx 81 [I a10] (I t2), Computes cx 63 [.agg [.v (.string a0), I a1, I a2, I a3, I a4, I a5, I a6, I a7, I a8, I a9]] (I t1)]) (by kernel_rfl) ⟨(net h6), ((c_field_first h5).le (.cons (.full _ _ _) (.nil)) (.refl _)), (c_field_checkDirection h4), (c_field_checkParts h3), (c_field_checkK h2), (c_field_Mirror_check h1), trivial⟩
/- spillage/spillageref04.CheckFrom: .agg [I a0, I a1, I a2] -/
def F_ref04_CheckFrom (n : Nat) (a0 : Int) (a1 : Int) (a2 : Int) : Option (Int) :=
  (F_ref04_checkParts n a0 a1 a2 131072).bind fun t1 =>
  some t1
theorem c_ref04_CheckFrom {n : Nat} {a0 : Int} {a1 : Int} {a2 : Int} {r : Int} (h : F_ref04_CheckFrom n a0 a1 a2 = some r) : Computes cx 21 [.agg [I a0, I a1, I a2]] (I r) := by
  unfold F_ref04_CheckFrom at h
  obtain ⟨t1, h1, h⟩ := bnd_of h
  replace h := Option.some.inj h
  subst h
  exact run (n := 100) (f := 21) (args := [.agg [I a0, I a1, I a2]]) (orc := [.ret (I t1)]) (r := I t1) (ob := [Computes cx 76 [.agg [I a0, I a1, I a2], I 131072] (I t1)]) (by kernel_rfl) ⟨(c_ref04_checkParts h1), trivial⟩
/- spillage/spillageref04.CheckAlong: .agg [I a0, I a1, I a2] -/
def F_ref04_CheckAlong (n : Nat) (a0 : Int) (a1 : Int) (a2 : Int) : Option (Int) :=
  (F_ref04_checkParts n a0 a1 a2 131072).bind fun t1 =>
  (F_ref01_When n ((a0 == 0) && ((a1 == 0) && ((a2 == 0) && true))) 6).bind fun t2 =>
  (F_ref01_First n ([I t1, I t2])).bind fun t3 =>
  some t3
theorem c_ref04_CheckAlong {n : Nat} {a0 : Int} {a1 : Int} {a2 : Int} {r : Int} (h : F_ref04_CheckAlong n a0 a1 a2 = some r) : Computes cx 22 [.agg [I a0, I a1, I a2]] (I r) := by
  unfold F_ref04_CheckAlong at h
  obtain ⟨t1, h1, h⟩ := bnd_of h
  obtain ⟨t2, h2, h⟩ := bnd_of h
  obtain ⟨t3, h3, h⟩ := bnd_of h
  replace h := Option.some.inj h
  subst h
  exact run (n := 100) (f := 22) (args := [.agg [I a0, I a1, I a2]]) (orc := [.ret (I t1), .ret (I t2), .ret (I t3)]) (r := I t3) (ob := [Computes cx 12 [.lst true 1 [I t1, I t2]] (I t3), Computes cx 15 [B ((a0 == 0) && ((a1 == 0) && ((a2 == 0) && true))), I 6] (I t2), Computes cx 76 [.agg [I a0, I a1, I a2], I 131072] (I t1)]) (by kernel_rfl) ⟨((c_ref01_First h3).le (.cons (.full _ _ _) (.nil)) (.refl _)), (c_ref01_When h2), (c_ref04_checkParts h1), trivial⟩
/- spillage/spillagelaw04.FieldRays: .agg [.v (.string a0), I a1, I a2, I a3, I a4, I a5, I a6, I a7, I a8, I a9], .agg [I a10, I a11, I a12, I a13, I a14, I a15, I a16, B a17] -/
def F_law04_FieldRays (n : Nat) (a0 : ByteArray) (a1 : Int) (a2 : Int) (a3 : Int) (a4 : Int) (a5 : Int) (a6 : Int) (a7 : Int) (a8 : Int) (a9 : Int) (a10 : Int) (a11 : Int) (a12 : Int) (a13 : Int) (a14 : Int) (a15 : Int) (a16 : Int) (a17 : Bool) : Option (Bool) :=
  (F_law04_awake n).bind fun t1 =>
  if t1 = true then
    (F_ref04_ShortMirror n a0 a1 a2 a3 a4 a5 a6 a7 a8 a9).bind fun t3 =>
    if t3 = true then
      (F_field_Meets n a0 a1 a2 a3 a4 a5 a6 a7 a8 a9 a10 a11 a12 a13 a14 a15 a16 a17).bind fun t5 =>
      (F_ref04_CheckMirror n a0 a1 a2 a3 a4 a5 a6 a7 a8 a9).bind fun t6 =>
      (F_ref04_CheckFacets n a10).bind fun t7 =>
      (F_ref04_CheckFrom n a11 a12 a13).bind fun t8 =>
      (F_ref04_CheckAlong n a14 a15 a16).bind fun t9 =>
      (F_ref01_First n ([I t6, I t7, I t8, I t9])).bind fun t10 =>
      if t5.2 = t10 then
        if t10 = 0 then
          (F_ref04_Meets n a0 a1 a2 a3 a4 a5 a6 a7 a8 a9 a10 a11 a12 a13 a14 a15 a16 a17).bind fun t13 =>
          some (t5.1 == t13)
        else
        some (t5.1 == false)
      else
      none /- false -/
    else
    some t1
  else
  some t1
theorem c_law04_FieldRays {n : Nat} {a0 : ByteArray} {a1 : Int} {a2 : Int} {a3 : Int} {a4 : Int} {a5 : Int} {a6 : Int} {a7 : Int} {a8 : Int} {a9 : Int} {a10 : Int} {a11 : Int} {a12 : Int} {a13 : Int} {a14 : Int} {a15 : Int} {a16 : Int} {a17 : Bool} {r : Bool} (h : F_law04_FieldRays n a0 a1 a2 a3 a4 a5 a6 a7 a8 a9 a10 a11 a12 a13 a14 a15 a16 a17 = some r) : Computes cx 4 [.agg [.v (.string a0), I a1, I a2, I a3, I a4, I a5, I a6, I a7, I a8, I a9], .agg [I a10, I a11, I a12, I a13, I a14, I a15, I a16, B a17]] (B r) := by
  unfold F_law04_FieldRays at h
  obtain ⟨t1, h1, h⟩ := bnd_of h
  by_cases h2 : t1 = true
  · replace h := ite_t h h2
    obtain ⟨t3, h3, h⟩ := bnd_of h
    by_cases h4 : t3 = true
    · replace h := ite_t h h4
      obtain ⟨t5, h5, h⟩ := bnd_of h
      obtain ⟨t6, h6, h⟩ := bnd_of h
      obtain ⟨t7, h7, h⟩ := bnd_of h
      obtain ⟨t8, h8, h⟩ := bnd_of h
      obtain ⟨t9, h9, h⟩ := bnd_of h
      obtain ⟨t10, h10, h⟩ := bnd_of h
      by_cases h11 : t5.2 = t10
      · replace h := ite_t h h11
        by_cases h12 : t10 = 0
        · replace h := ite_t h h12
          obtain ⟨t13, h13, h⟩ := bnd_of h
          replace h := Option.some.inj h
          subst h
          exact run (n := 100) (f := 4) (args := [.agg [.v (.string a0), I a1, I a2, I a3, I a4, I a5, I a6, I a7, I a8, I a9], .agg [I a10, I a11, I a12, I a13, I a14, I a15, I a16, B a17]]) (orc := [.ret (B t1), .br false, .ret (B t3), .br false, .ret (.tup [B t5.1, I t5.2]), .ret (I t6), .ret (I t7), .ret (I t8), .ret (I t9), .ret (I t10), .br true, .br true, .ret (B t13)]) (r := B (t5.1 == t13)) (ob := [Computes cx 23 [.agg [.v (.string a0), I a1, I a2, I a3, I a4, I a5, I a6, I a7, I a8, I a9], I a10, .agg [I a11, I a12, I a13], .agg [I a14, I a15, I a16], B a17] (B t13), (t10 == 0) = true, (t5.2 == t10) = true, Computes cx 12 [.lst true 1 [I t6, I t7, I t8, I t9]] (I t10), Computes cx 22 [.agg [I a14, I a15, I a16]] (I t9), Computes cx 21 [.agg [I a11, I a12, I a13]] (I t8), Computes cx 20 [I a10] (I t7), Computes cx 13 [.agg [.v (.string a0), I a1, I a2, I a3, I a4, I a5, I a6, I a7, I a8, I a9]] (I t6), Computes cx 19 [.agg [.v (.string a0), I a1, I a2, I a3, I a4, I a5, I a6, I a7, I a8, I a9], I a10, .agg [I a11, I a12, I a13], .agg [I a14, I a15, I a16], B a17] (.tup [B t5.1, I t5.2]), (!t3) = false, Computes cx 9 [.agg [.v (.string a0), I a1, I a2, I a3, I a4, I a5, I a6, I a7, I a8, I a9]] (B t3), (!t1) = false, Computes cx 8 [] (B t1)]) (by kernel_rfl) ⟨(c_ref04_Meets h13), (eqt h12), (eqt h11), ((c_ref01_First h10).le (.cons (.full _ _ _) (.nil)) (.refl _)), (c_ref04_CheckAlong h9), (c_ref04_CheckFrom h8), (c_ref04_CheckFacets h7), (c_ref04_CheckMirror h6), (c_field_Meets h5), (notf h4), (c_ref04_ShortMirror h3), (notf h2), (c_law04_awake h1), trivial⟩
        · replace h := ite_f h h12
          replace h := Option.some.inj h
          subst h
          exact run (n := 100) (f := 4) (args := [.agg [.v (.string a0), I a1, I a2, I a3, I a4, I a5, I a6, I a7, I a8, I a9], .agg [I a10, I a11, I a12, I a13, I a14, I a15, I a16, B a17]]) (orc := [.ret (B t1), .br false, .ret (B t3), .br false, .ret (.tup [B t5.1, I t5.2]), .ret (I t6), .ret (I t7), .ret (I t8), .ret (I t9), .ret (I t10), .br true, .br false]) (r := B (t5.1 == false)) (ob := [(t10 == 0) = false, (t5.2 == t10) = true, Computes cx 12 [.lst true 1 [I t6, I t7, I t8, I t9]] (I t10), Computes cx 22 [.agg [I a14, I a15, I a16]] (I t9), Computes cx 21 [.agg [I a11, I a12, I a13]] (I t8), Computes cx 20 [I a10] (I t7), Computes cx 13 [.agg [.v (.string a0), I a1, I a2, I a3, I a4, I a5, I a6, I a7, I a8, I a9]] (I t6), Computes cx 19 [.agg [.v (.string a0), I a1, I a2, I a3, I a4, I a5, I a6, I a7, I a8, I a9], I a10, .agg [I a11, I a12, I a13], .agg [I a14, I a15, I a16], B a17] (.tup [B t5.1, I t5.2]), (!t3) = false, Computes cx 9 [.agg [.v (.string a0), I a1, I a2, I a3, I a4, I a5, I a6, I a7, I a8, I a9]] (B t3), (!t1) = false, Computes cx 8 [] (B t1)]) (by kernel_rfl) ⟨(eqf h12), (eqt h11), ((c_ref01_First h10).le (.cons (.full _ _ _) (.nil)) (.refl _)), (c_ref04_CheckAlong h9), (c_ref04_CheckFrom h8), (c_ref04_CheckFacets h7), (c_ref04_CheckMirror h6), (c_field_Meets h5), (notf h4), (c_ref04_ShortMirror h3), (notf h2), (c_law04_awake h1), trivial⟩
      · replace h := ite_f h h11
        cases h
    · replace h := ite_f h h4
      replace h := Option.some.inj h
      subst h
      exact run (n := 100) (f := 4) (args := [.agg [.v (.string a0), I a1, I a2, I a3, I a4, I a5, I a6, I a7, I a8, I a9], .agg [I a10, I a11, I a12, I a13, I a14, I a15, I a16, B a17]]) (orc := [.ret (B t1), .br false, .ret (B t3), .br true, .ret (B t1)]) (r := B t1) (ob := [Computes cx 8 [] (B t1), (!t3) = true, Computes cx 9 [.agg [.v (.string a0), I a1, I a2, I a3, I a4, I a5, I a6, I a7, I a8, I a9]] (B t3), (!t1) = false, Computes cx 8 [] (B t1)]) (by kernel_rfl) ⟨(c_law04_awake h1), (nott (bfalse h4)), (c_ref04_ShortMirror h3), (notf h2), (c_law04_awake h1), trivial⟩
  · replace h := ite_f h h2
    replace h := Option.some.inj h
    subst h
    exact run (n := 100) (f := 4) (args := [.agg [.v (.string a0), I a1, I a2, I a3, I a4, I a5, I a6, I a7, I a8, I a9], .agg [I a10, I a11, I a12, I a13, I a14, I a15, I a16, B a17]]) (orc := [.ret (B t1), .br true, .no, .ret (B t1)]) (r := B t1) (ob := [Computes cx 8 [] (B t1), (!t1) = true, Computes cx 8 [] (B t1)]) (by kernel_rfl) ⟨(c_law04_awake h1), (nott (bfalse h2)), (c_law04_awake h1), trivial⟩
end Go.Proofs.YtbjibgaknkaifaaGreatDoor
