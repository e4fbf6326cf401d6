/-
  Printed by gsx.py: functions of the program as Lean functions, and that the code computes them.
-/
import Derived.Test.YtbjnjffckhdhgaaGreatDoorGen4
set_option linter.unusedVariables false
set_option linter.unusedSimpArgs false
set_option linter.unnecessarySimpa false
set_option maxRecDepth 10000
namespace Go.Proofs.YtbjnjffckhdhgaaGreatDoor
open Go.SX
/- spillage/field.Apart: .lst false 2 a0, .lst false 2 a1 -/
def F_field_Apart (n : Nat) (a0 : List D) (a1 : List D) : Option (Int × Int × Int) :=
  (F_field_CheckPolygon n a0).bind fun t1 =>
  (F_field_CheckPolygon n a1).bind fun t2 =>
  (F_field_first n ([I t1, I t2])).bind fun t3 =>
  if t3 = 0 then
    (loopF (F_field_Apart_L2 n a0 a1) n 0).bind fun t5 => match t5 with
      | (.inl t5) => (
        (F_field_when_5 n).bind fun t6 =>
        some (0, t5, t6))
      | (.inr t5) => (
        (loopF (F_field_Apart_L4 n a0 a1) n 0).bind fun t6 => match t6 with
          | (.inl t6) => (
            (F_field_when_5 n).bind fun t7 =>
            some (1, t6, t7))
          | (.inr t6) => (
            (F_field_when_6 n).bind fun t7 =>
            some (0, 0, t7)))
  else
  some (0, 0, t3)
theorem c_field_Apart {n : Nat} {a0 : List D} {a1 : List D} {r : Int × Int × Int} (h : F_field_Apart n a0 a1 = some r) : Computes cx 15 [.lst false 2 a0, .lst false 2 a1] (.tup [.agg [I r.1, I r.2.1], I r.2.2]) := by
  unfold F_field_Apart at h
  obtain ⟨t1, h1, h⟩ := bnd_of h
  obtain ⟨t2, h2, h⟩ := bnd_of h
  obtain ⟨t3, h3, h⟩ := bnd_of h
  by_cases h4 : t3 = 0
  · replace h := ite_t h h4
    obtain ⟨t5, h5, h⟩ := bnd_of h
    rcases t5 with t5 | t5
    · obtain ⟨t6, h6, h⟩ := bnd_of h
      replace h := Option.some.inj h
      subst h
      exact run_fr (n := 100) (orc := [.ret (I t1), .ret (I t2), .ret (I t3), .br false, .no, .no, .lp [] [4, 7, 8, 9, 10, 29, 30, 36, 37] [0, 11, 24] (.exit 0) [(4, .ptr 0 0 0 0 0), (7, .ptr 11 0 0 0 0), (8, .d (B true))] [(0, .box (.d (.agg [I 0, I 0]))), (11, .box (.d (.agg [I 0, I t5])))] 104, .ret (I t6)]) (allC (c_field_when_5 h6) (allC (loopF_to R_field_Apart_L2 h5) (allC (nef h4) (allC (((c_field_first h3).le (.cons (.full _ _ _) (.nil)) (.refl _)) : Computes cx 35 [.lst true 1 [I t1, I t2]] (I t3)) (allC (c_field_CheckPolygon h2) (allC (c_field_CheckPolygon h1) allN)))))) (by kernel_rfl)
    · obtain ⟨t6, h6, h⟩ := bnd_of h
      rcases t6 with t6 | t6
      · obtain ⟨t7, h7, h⟩ := bnd_of h
        replace h := Option.some.inj h
        subst h
        exact run_fr (n := 100) (orc := [.ret (I t1), .ret (I t2), .ret (I t3), .br false, .no, .no, .lp [] [4, 7, 8, 9, 10, 29, 30, 36, 37] [0, 11, 24] (.exit 2) [(4, .ptr 0 0 0 0 0), (7, .ptr 11 0 0 0 0), (8, .d (B false)), (29, .d (.agg [.lst false 2 a0, .lst false 2 a1, .lst false 2 a1, .lst false 2 a0])), (30, .d (I 0))] [(0, .box (.d (.agg [I 0, I 0]))), (11, .box (.d (.agg [I 0, I 0])))] 104, .no, .no, .lp [] [4, 7, 8, 9, 10, 29, 30, 36, 37] [0, 11, 109] (.exit 0) [(4, .ptr 0 0 0 0 0), (7, .ptr 11 0 0 0 0), (8, .d (B true))] [(0, .box (.d (.agg [I 0, I 0]))), (11, .box (.d (.agg [I 1, I t6])))] 189, .ret (I t7)]) (allC (c_field_when_5 h7) (allC (loopF_to R_field_Apart_L4 h6) (allC ((by unfold inI64; omega) : inI64 1) (allC (loopF_to R_field_Apart_L2 h5) (allC (nef h4) (allC (((c_field_first h3).le (.cons (.full _ _ _) (.nil)) (.refl _)) : Computes cx 35 [.lst true 1 [I t1, I t2]] (I t3)) (allC (c_field_CheckPolygon h2) (allC (c_field_CheckPolygon h1) allN)))))))) (by kernel_rfl)
      · obtain ⟨t7, h7, h⟩ := bnd_of h
        replace h := Option.some.inj h
        subst h
        exact run_fr (n := 100) (orc := [.ret (I t1), .ret (I t2), .ret (I t3), .br false, .no, .no, .lp [] [4, 7, 8, 9, 10, 29, 30, 36, 37] [0, 11, 24] (.exit 2) [(4, .ptr 0 0 0 0 0), (7, .ptr 11 0 0 0 0), (8, .d (B false)), (29, .d (.agg [.lst false 2 a0, .lst false 2 a1, .lst false 2 a1, .lst false 2 a0])), (30, .d (I 0))] [(0, .box (.d (.agg [I 0, I 0]))), (11, .box (.d (.agg [I 0, I 0])))] 104, .no, .no, .lp [] [4, 7, 8, 9, 10, 29, 30, 36, 37] [0, 11, 109] (.exit 2) [(4, .ptr 0 0 0 0 0), (7, .ptr 11 0 0 0 0), (8, .d (B false)), (29, .d (.agg [.lst false 2 a0, .lst false 2 a1, .lst false 2 a1, .lst false 2 a0])), (30, .d (I 1))] [(0, .box (.d (.agg [I 0, I 0]))), (11, .box (.d (.agg [I 0, I 0])))] 189, .no, .no, .ret (I t7)]) (allC (c_field_when_6 h7) (allC ((by unfold inI64; omega) : inI64 2) (allC (loopF_to R_field_Apart_L4 h6) (allC ((by unfold inI64; omega) : inI64 1) (allC (loopF_to R_field_Apart_L2 h5) (allC (nef h4) (allC (((c_field_first h3).le (.cons (.full _ _ _) (.nil)) (.refl _)) : Computes cx 35 [.lst true 1 [I t1, I t2]] (I t3)) (allC (c_field_CheckPolygon h2) (allC (c_field_CheckPolygon h1) allN))))))))) (by kernel_rfl)
  · replace h := ite_f h h4
    replace h := Option.some.inj h
    subst h
    exact run_fr (n := 100) (orc := [.ret (I t1), .ret (I t2), .ret (I t3), .br true]) (allC (net h4) (allC (((c_field_first h3).le (.cons (.full _ _ _) (.nil)) (.refl _)) : Computes cx 35 [.lst true 1 [I t1, I t2]] (I t3)) (allC (c_field_CheckPolygon h2) (allC (c_field_CheckPolygon h1) allN)))) (by kernel_rfl)
end Go.Proofs.YtbjnjffckhdhgaaGreatDoor
