/-
  Printed by gsx.py: functions of the program as Lean functions, and that the code computes them.
-/
import Derived.Test.YtojmcpnpojdnmaaGreatDoorShad4
set_option linter.unusedVariables false
set_option maxRecDepth 10000
namespace Go.Proofs.YtojmcpnpojdnmaaGreatDoor
open Go.SX
def F_law04_FieldShadows (n : Nat) (a0 : List D) (a1 : Int) (a2 : Int) (a3 : Int) (a4 : Int) (a5 : Int) (a6 : Int) (a7 : Int) (a8 : Int) : Option (Bool) :=
 (F_law04_awake n).bind fun t1 =>
 if t1 = true then
  (F_ref04_Short n a0).bind fun t3 =>
  if t3 = true then
  (F_ref04_CheckMirrors n a0).bind fun t5 =>
  if t5 = 0 then
   if ((a0).length : Int) > 4 then
   some t1
   else
   if a1 < 0 then
   some t1
   else
   if a1 ≥ ((a0).length : Int) then
   some t1
   else
   (F_ref04_CheckDirection n a2 a3 a4).bind fun t10 =>
   if t10 = 0 then
   if a4 < 1 then
    some t1
   else
   (F_ref04_CheckTarget n a5 a6 a7).bind fun t13 =>
   if t13 = 0 then
    (F_ref01_CheckRange n a8 1 4).bind fun t15 =>
    if t15 = 0 then
    (el un_Asi9Z a0 a1).bind fun t17 =>
    (F_field_Facets n t17.1 t17.2.1 t17.2.2.1 t17.2.2.2.1 t17.2.2.2.2.1 t17.2.2.2.2.2.1 t17.2.2.2.2.2.2.1 t17.2.2.2.2.2.2.2.1 t17.2.2.2.2.2.2.2.2.1 t17.2.2.2.2.2.2.2.2.2 a8).bind fun t18 =>
    (F_law04_own n a0).bind fun t19 =>
    (F_field_Dark n t19 a1 a2 a3 a4 a8).bind fun t20 =>
    (F_field_Lit n t19 a1 a2 a3 a4 a5 a6 a7 a8).bind fun t21 =>
    (F_field_Cosine n t17.1 t17.2.1 t17.2.2.1 t17.2.2.2.1 t17.2.2.2.2.1 t17.2.2.2.2.2.1 t17.2.2.2.2.2.2.1 t17.2.2.2.2.2.2.2.1 t17.2.2.2.2.2.2.2.2.1 t17.2.2.2.2.2.2.2.2.2 a2 a3 a4).bind fun t22 =>
    if t18.2 = 0 then
     if t20.2 = 0 then
     if t21.2.2.2 = 0 then
      if t22.2.2.2 = 0 then
      if inI64 (a8 * a8) then
      if ((t18.1).length : Int) = (a8 * a8) then
       if ((t20.1).length : Int) = ((t18.1).length : Int) then
       if inI64 (t21.1 + t21.2.1) then
       if inI64 ((t21.1 + t21.2.1) + t21.2.2.1) then
       if ((t21.1 + t21.2.1) + t21.2.2.1) = ((t18.1).length : Int) then
        if (minI (minI t21.1 t21.2.1) t21.2.2.1) < 0 then
        none /- false -/
        else
        (loopF (F_law04_FieldShadows_L7 n a0 a1 a2 a3 a4 a5 a6 a7 a8 t17 t18 t20 t21 t22) n 0).bind fun t34 => match t34 with
        | (.inl t34) => (
         none /- false -/)
        | (.inr t34) => (
         if inI64 (((a0).length : Int) - 1) then
         (loopF (F_law04_FieldShadows_L8 n a0 a1 a2 a3 a4 a5 a6 a7 a8 t17 t21) n ((((a0).length : Int) - 1), [])).bind fun t36 =>
         (loopF (F_law04_FieldShadows_L9 n a1 a2 a3 a4 a5 a6 a7 a8 t17 t21 t36) n (0, [])).bind fun t37 =>
         if roomP 88 ((t36).length + 1) then
         (F_law04_own n (t36 ++ ([.agg [.v (.string t17.1), I t17.2.1, I t17.2.2.1, I t17.2.2.2.1, I t17.2.2.2.2.1, I t17.2.2.2.2.2.1, I t17.2.2.2.2.2.2.1, I t17.2.2.2.2.2.2.2.1, I t17.2.2.2.2.2.2.2.2.1, I t17.2.2.2.2.2.2.2.2.2]] : List D))).bind fun t39 =>
         (F_field_Lit n t39 ((t36).length : Int) a2 a3 a4 a5 a6 a7 a8).bind fun t40 =>
         if roomP 88 ((t37).length + 1) then
         (F_law04_own n (t37 ++ ([.agg [.v (.string t17.1), I t17.2.1, I t17.2.2.1, I t17.2.2.2.1, I t17.2.2.2.2.1, I t17.2.2.2.2.2.1, I t17.2.2.2.2.2.2.1, I t17.2.2.2.2.2.2.2.1, I t17.2.2.2.2.2.2.2.2.1, I t17.2.2.2.2.2.2.2.2.2]] : List D))).bind fun t42 =>
         (F_field_Lit n t42 ((t37).length : Int) a2 a3 a4 a5 a6 a7 a8).bind fun t43 =>
         if t40.2.2.2 = 0 then
         if t43.2.2.2 = 0 then
          if ((t40.1 == t21.1) && ((t40.2.1 == t21.2.1) && ((t40.2.2.1 == t21.2.2.1) && true))) = true then
          some (decide (t43.2.2.1 ≥ t21.2.2.1))
          else
          none /- false -/
         else
         none /- false -/
         else
         none /- false -/
         else none
         else none
         else none)
       else
       none /- false -/
       else none
       else none
       else
       none /- false -/
      else
      none /- false -/
      else none
      else
      none /- false -/
     else
     none /- false -/
     else
     none /- false -/
    else
    none /- false -/
    else
    some t1
   else
   some t1
   else
   some t1
  else
  some t1
  else
  some t1
 else
 some t1
theorem c_law04_FieldShadows {n : Nat} {a0 : List D} {a1 : Int} {a2 : Int} {a3 : Int} {a4 : Int} {a5 : Int} {a6 : Int} {a7 : Int} {a8 : Int} {r : Bool} (h : F_law04_FieldShadows n a0 a1 a2 a3 a4 a5 a6 a7 a8 = some r) : Computes cx 6 [.lst false 10 a0, .agg [I a1, I a2, I a3, I a4, I a5, I a6, I a7, I a8]] (B r) := by
  unfold F_law04_FieldShadows at h
  obtain ⟨t1, h1, h⟩ := bnd_of h
  by_cases h2 : t1 = true
  · replace h := ite_t h h2
    obtain ⟨t3, h3, h⟩ := bnd_of h
    by_cases h4 : t3 = true
    · replace h := ite_t h h4
      obtain ⟨t5, h5, h⟩ := bnd_of h
      by_cases h6 : t5 = 0
      · replace h := ite_t h h6
        by_cases h7 : ((a0).length : Int) > 4
        · replace h := ite_t h h7
          replace h := Option.some.inj h
          subst h
          exact run (n := 100) (f := 6) (args := [.lst false 10 a0, .agg [I a1, I a2, I a3, I a4, I a5, I a6, I a7, I a8]]) (orc := [.ret (B t1), .br false, .ret (B t3), .br false, .ret (I t5), .br false, .br true, .no, .no, .no, .no, .no, .no, .ret (B t1)]) (r := B t1) (ob := [Computes cx 9 [] (B t1), (decide (((a0).length : Int) > 4)) = true, (t5 != 0) = false, Computes cx 27 [.lst false 10 a0] (I t5), (!t3) = false, Computes cx 20 [.lst false 10 a0] (B t3), (!t1) = false, Computes cx 9 [] (B t1)]) (e_law04_FieldShadows_0 a0 a1 a2 a3 a4 a5 a6 a7 a8 t1 t3 t5) ⟨(c_law04_awake h1), (decide_eq_true h7), (nef h6), (c_ref04_CheckMirrors h5), (notf h4), (c_ref04_Short h3), (notf h2), (c_law04_awake h1), trivial⟩
        · replace h := ite_f h h7
          by_cases h8 : a1 < 0
          · replace h := ite_t h h8
            replace h := Option.some.inj h
            subst h
            exact run (n := 100) (f := 6) (args := [.lst false 10 a0, .agg [I a1, I a2, I a3, I a4, I a5, I a6, I a7, I a8]]) (orc := [.ret (B t1), .br false, .ret (B t3), .br false, .ret (I t5), .br false, .br false, .br true, .no, .no, .no, .no, .no, .ret (B t1)]) (r := B t1) (ob := [Computes cx 9 [] (B t1), (decide (a1 < 0)) = true, (decide (((a0).length : Int) > 4)) = false, (t5 != 0) = false, Computes cx 27 [.lst false 10 a0] (I t5), (!t3) = false, Computes cx 20 [.lst false 10 a0] (B t3), (!t1) = false, Computes cx 9 [] (B t1)]) (e_law04_FieldShadows_1 a0 a1 a2 a3 a4 a5 a6 a7 a8 t1 t3 t5) ⟨(c_law04_awake h1), (decide_eq_true h8), (decide_eq_false h7), (nef h6), (c_ref04_CheckMirrors h5), (notf h4), (c_ref04_Short h3), (notf h2), (c_law04_awake h1), trivial⟩
          · replace h := ite_f h h8
            by_cases h9 : a1 ≥ ((a0).length : Int)
            · replace h := ite_t h h9
              replace h := Option.some.inj h
              subst h
              exact run (n := 100) (f := 6) (args := [.lst false 10 a0, .agg [I a1, I a2, I a3, I a4, I a5, I a6, I a7, I a8]]) (orc := [.ret (B t1), .br false, .ret (B t3), .br false, .ret (I t5), .br false, .br false, .br false, .br true, .no, .no, .no, .no, .ret (B t1)]) (r := B t1) (ob := [Computes cx 9 [] (B t1), (decide (a1 ≥ ((a0).length : Int))) = true, (decide (a1 < 0)) = false, (decide (((a0).length : Int) > 4)) = false, (t5 != 0) = false, Computes cx 27 [.lst false 10 a0] (I t5), (!t3) = false, Computes cx 20 [.lst false 10 a0] (B t3), (!t1) = false, Computes cx 9 [] (B t1)]) (e_law04_FieldShadows_2 a0 a1 a2 a3 a4 a5 a6 a7 a8 t1 t3 t5) ⟨(c_law04_awake h1), (decide_eq_true h9), (decide_eq_false h8), (decide_eq_false h7), (nef h6), (c_ref04_CheckMirrors h5), (notf h4), (c_ref04_Short h3), (notf h2), (c_law04_awake h1), trivial⟩
            · replace h := ite_f h h9
              obtain ⟨t10, h10, h⟩ := bnd_of h
              by_cases h11 : t10 = 0
              · replace h := ite_t h h11
                by_cases h12 : a4 < 1
                · replace h := ite_t h h12
                  replace h := Option.some.inj h
                  subst h
                  exact run (n := 100) (f := 6) (args := [.lst false 10 a0, .agg [I a1, I a2, I a3, I a4, I a5, I a6, I a7, I a8]]) (orc := [.ret (B t1), .br false, .ret (B t3), .br false, .ret (I t5), .br false, .br false, .br false, .br false, .ret (I t10), .br false, .br true, .no, .no, .ret (B t1)]) (r := B t1) (ob := [Computes cx 9 [] (B t1), (decide (a4 < 1)) = true, (t10 != 0) = false, Computes cx 15 [.agg [I a2, I a3, I a4]] (I t10), (decide (a1 ≥ ((a0).length : Int))) = false, (decide (a1 < 0)) = false, (decide (((a0).length : Int) > 4)) = false, (t5 != 0) = false, Computes cx 27 [.lst false 10 a0] (I t5), (!t3) = false, Computes cx 20 [.lst false 10 a0] (B t3), (!t1) = false, Computes cx 9 [] (B t1)]) (e_law04_FieldShadows_3 a0 a1 a2 a3 a4 a5 a6 a7 a8 t1 t3 t5 t10) ⟨(c_law04_awake h1), (decide_eq_true h12), (nef h11), (c_ref04_CheckDirection h10), (decide_eq_false h9), (decide_eq_false h8), (decide_eq_false h7), (nef h6), (c_ref04_CheckMirrors h5), (notf h4), (c_ref04_Short h3), (notf h2), (c_law04_awake h1), trivial⟩
                · replace h := ite_f h h12
                  obtain ⟨t13, h13, h⟩ := bnd_of h
                  by_cases h14 : t13 = 0
                  · replace h := ite_t h h14
                    obtain ⟨t15, h15, h⟩ := bnd_of h
                    by_cases h16 : t15 = 0
                    · replace h := ite_t h h16
                      obtain ⟨t17, h17, h⟩ := bnd_of h
                      obtain ⟨t18, h18, h⟩ := bnd_of h
                      obtain ⟨t19, h19, h⟩ := bnd_of h
                      obtain ⟨t20, h20, h⟩ := bnd_of h
                      obtain ⟨t21, h21, h⟩ := bnd_of h
                      obtain ⟨t22, h22, h⟩ := bnd_of h
                      by_cases h23 : t18.2 = 0
                      · replace h := ite_t h h23
                        by_cases h24 : t20.2 = 0
                        · replace h := ite_t h h24
                          by_cases h25 : t21.2.2.2 = 0
                          · replace h := ite_t h h25
                            by_cases h26 : t22.2.2.2 = 0
                            · replace h := ite_t h h26
                              obtain ⟨h27, h⟩ := grd_of h
                              by_cases h28 : ((t18.1).length : Int) = (a8 * a8)
                              · replace h := ite_t h h28
                                by_cases h29 : ((t20.1).length : Int) = ((t18.1).length : Int)
                                · replace h := ite_t h h29
                                  obtain ⟨h30, h⟩ := grd_of h
                                  obtain ⟨h31, h⟩ := grd_of h
                                  by_cases h32 : ((t21.1 + t21.2.1) + t21.2.2.1) = ((t18.1).length : Int)
                                  · replace h := ite_t h h32
                                    by_cases h33 : (minI (minI t21.1 t21.2.1) t21.2.2.1) < 0
                                    · replace h := ite_t h h33
                                      cases h
                                    · replace h := ite_f h h33
                                      obtain ⟨t34, h34, h⟩ := bnd_of h
                                      rcases t34 with t34 | t34
                                      · cases h
                                      · obtain ⟨h35, h⟩ := grd_of h
                                        obtain ⟨t36, h36, h⟩ := bnd_of h
                                        obtain ⟨t37, h37, h⟩ := bnd_of h
                                        obtain ⟨h38, h⟩ := grd_of h
                                        obtain ⟨t39, h39, h⟩ := bnd_of h
                                        obtain ⟨t40, h40, h⟩ := bnd_of h
                                        obtain ⟨h41, h⟩ := grd_of h
                                        obtain ⟨t42, h42, h⟩ := bnd_of h
                                        obtain ⟨t43, h43, h⟩ := bnd_of h
                                        by_cases h44 : t40.2.2.2 = 0
                                        · replace h := ite_t h h44
                                          by_cases h45 : t43.2.2.2 = 0
                                          · replace h := ite_t h h45
                                            by_cases h46 : ((t40.1 == t21.1) && ((t40.2.1 == t21.2.1) && ((t40.2.2.1 == t21.2.2.1) && true))) = true
                                            · replace h := ite_t h h46
                                              replace h := Option.some.inj h
                                              subst h
                                              exact run (n := 100) (f := 6) (args := [.lst false 10 a0, .agg [I a1, I a2, I a3, I a4, I a5, I a6, I a7, I a8]]) (orc := [.ret (B t1), .br false, .ret (B t3), .br false, .ret (I t5), .br false, .br false, .br false, .br false, .ret (I t10), .br false, .br false, .ret (I t13), .br false, .ret (I t15), .br false, .el (.agg [.v (.string t17.1), I t17.2.1, I t17.2.2.1, I t17.2.2.2.1, I t17.2.2.2.2.1, I t17.2.2.2.2.2.1, I t17.2.2.2.2.2.2.1, I t17.2.2.2.2.2.2.2.1, I t17.2.2.2.2.2.2.2.2.1, I t17.2.2.2.2.2.2.2.2.2]), .ret (.tup [.lst false 3 t18.1, I t18.2]), .ret (.lst false 10 t19), .ret (.tup [.lst false 1 t20.1, I t20.2]), .ret (.lst false 10 t19), .ret (.tup [.agg [I t21.1, I t21.2.1, I t21.2.2.1], I t21.2.2.2]), .ret (.tup [I t22.1, .agg [I t22.2.1, I t22.2.2.1], I t22.2.2.2]), .br false, .br false, .br false, .br false, .br false, .br false, .br false, .br false, .lp [] [0, 3, 5, 8, 10, 12, 190, 191, 192] [0, 60, 99] (.exit 0) [(0, .d (.lst false 10 a0)), (3, .ptr 0 0 0 0 0), (5, .ptr 60 0 0 0 0), (10, .ptr 99 0 0 0 0)] [(0, .box (.d (.agg [I a1, I a2, I a3, I a4, I a5, I a6, I a7, I a8]))), (60, .box (.d (.agg [.v (.string t17.1), I t17.2.1, I t17.2.2.1, I t17.2.2.2.1, I t17.2.2.2.2.1, I t17.2.2.2.2.2.1, I t17.2.2.2.2.2.2.1, I t17.2.2.2.2.2.2.2.1, I t17.2.2.2.2.2.2.2.2.1, I t17.2.2.2.2.2.2.2.2.2]))), (99, .box (.d (.agg [I t21.1, I t21.2.1, I t21.2.2.1])))] 386, .lp [27, 10] [0, 3, 5, 10, 27, 28, 29] [0, 60, 99, 392] (.exit 6) [(3, .ptr 0 0 0 0 0), (5, .ptr 60 0 0 0 0), (10, .ptr 99 0 0 0 0), (27, .own 392 0), (28, .d (.lst true 0 []))] [(0, .box (.d (.agg [I a1, I a2, I a3, I a4, I a5, I a6, I a7, I a8]))), (60, .box (.d (.agg [.v (.string t17.1), I t17.2.1, I t17.2.2.1, I t17.2.2.2.1, I t17.2.2.2.2.1, I t17.2.2.2.2.2.1, I t17.2.2.2.2.2.2.1, I t17.2.2.2.2.2.2.2.1, I t17.2.2.2.2.2.2.2.2.1, I t17.2.2.2.2.2.2.2.2.2]))), (99, .box (.d (.agg [I t21.1, I t21.2.1, I t21.2.2.1]))), (392, .row 0 10 t36)] 421, .lp [28, 10] [3, 5, 10, 27, 28, 373, 374, 375] [0, 60, 99, 392, 424] (.exit 8) [(3, .ptr 0 0 0 0 0), (5, .ptr 60 0 0 0 0), (10, .ptr 99 0 0 0 0), (27, .own 392 0), (28, .own 424 0)] [(0, .box (.d (.agg [I a1, I a2, I a3, I a4, I a5, I a6, I a7, I a8]))), (60, .box (.d (.agg [.v (.string t17.1), I t17.2.1, I t17.2.2.1, I t17.2.2.2.1, I t17.2.2.2.2.1, I t17.2.2.2.2.2.1, I t17.2.2.2.2.2.2.1, I t17.2.2.2.2.2.2.2.1, I t17.2.2.2.2.2.2.2.2.1, I t17.2.2.2.2.2.2.2.2.2]))), (99, .box (.d (.agg [I t21.1, I t21.2.1, I t21.2.2.1]))), (392, .row 0 10 t36), (424, .row 0 10 t37)] 452, .br true, .ix (-7), .ret (.lst false 10 t39), .ret (.tup [.agg [I t40.1, I t40.2.1, I t40.2.2.1], I t40.2.2.2]), .br true, .ix (-7), .ret (.lst false 10 t42), .ret (.tup [.agg [I t43.1, I t43.2.1, I t43.2.2.1], I t43.2.2.2]), .br true, .br true, .br true]) (r := B (decide (t43.2.2.1 ≥ t21.2.2.1))) (ob := [((t40.1 == t21.1) && ((t40.2.1 == t21.2.1) && ((t40.2.2.1 == t21.2.2.1) && true))) = true, (t43.2.2.2 == 0) = true, (t40.2.2.2 == 0) = true, Computes cx 21 [.lst false 10 t42, I ((t37).length : Int), .agg [I a2, I a3, I a4], .agg [I a5, I a6, I a7], I a8] (.tup [.agg [I t43.1, I t43.2.1, I t43.2.2.1], I t43.2.2.2]), Computes cx 22 [.lst false 10 (t37 ++ ([.agg [.v (.string t17.1), I t17.2.1, I t17.2.2.1, I t17.2.2.2.1, I t17.2.2.2.2.1, I t17.2.2.2.2.2.1, I t17.2.2.2.2.2.2.1, I t17.2.2.2.2.2.2.2.1, I t17.2.2.2.2.2.2.2.2.1, I t17.2.2.2.2.2.2.2.2.2]] : List D))] (.lst false 10 t42), room cx 25 ((t37).length + 1), Computes cx 21 [.lst false 10 t39, I ((t36).length : Int), .agg [I a2, I a3, I a4], .agg [I a5, I a6, I a7], I a8] (.tup [.agg [I t40.1, I t40.2.1, I t40.2.2.1], I t40.2.2.2]), Computes cx 22 [.lst false 10 (t36 ++ ([.agg [.v (.string t17.1), I t17.2.1, I t17.2.2.1, I t17.2.2.2.1, I t17.2.2.2.2.1, I t17.2.2.2.2.2.1, I t17.2.2.2.2.2.2.1, I t17.2.2.2.2.2.2.2.1, I t17.2.2.2.2.2.2.2.2.1, I t17.2.2.2.2.2.2.2.2.2]] : List D))] (.lst false 10 t39), room cx 25 ((t36).length + 1), LoopN cx (loopAt cx.P 6 4) 439 0 false [(3, .ptr 0 0 0 0 0), (5, .ptr 60 0 0 0 0), (10, .ptr 99 0 0 0 0), (27, .own 392 0), (28, .own 424 0), (373, .own 392 0), (374, .d (I ((t36).length : Int))), (375, .d (I 0))] [(0, .box (.d (.agg [I a1, I a2, I a3, I a4, I a5, I a6, I a7, I a8]))), (60, .box (.d (.agg [.v (.string t17.1), I t17.2.1, I t17.2.2.1, I t17.2.2.2.1, I t17.2.2.2.2.1, I t17.2.2.2.2.2.1, I t17.2.2.2.2.2.2.1, I t17.2.2.2.2.2.2.2.1, I t17.2.2.2.2.2.2.2.2.1, I t17.2.2.2.2.2.2.2.2.2]))), (99, .box (.d (.agg [I t21.1, I t21.2.1, I t21.2.2.1]))), (392, .row 0 10 t36), (424, .row 0 10 [])] (.exit 8) [(3, .ptr 0 0 0 0 0), (5, .ptr 60 0 0 0 0), (10, .ptr 99 0 0 0 0), (27, .own 392 0), (28, .own 424 0)] [(0, .box (.d (.agg [I a1, I a2, I a3, I a4, I a5, I a6, I a7, I a8]))), (60, .box (.d (.agg [.v (.string t17.1), I t17.2.1, I t17.2.2.1, I t17.2.2.2.1, I t17.2.2.2.2.1, I t17.2.2.2.2.2.1, I t17.2.2.2.2.2.2.1, I t17.2.2.2.2.2.2.2.1, I t17.2.2.2.2.2.2.2.2.1, I t17.2.2.2.2.2.2.2.2.2]))), (99, .box (.d (.agg [I t21.1, I t21.2.1, I t21.2.2.1]))), (392, .row 0 10 t36), (424, .row 0 10 t37)], LoopN cx (loopAt cx.P 6 3) 439 0 false [(0, .d (.lst false 10 a0)), (3, .ptr 0 0 0 0 0), (5, .ptr 60 0 0 0 0), (10, .ptr 99 0 0 0 0), (27, .own 392 0), (28, .d (.lst true 0 [])), (29, .d (I (((a0).length : Int) - 1)))] [(0, .box (.d (.agg [I a1, I a2, I a3, I a4, I a5, I a6, I a7, I a8]))), (60, .box (.d (.agg [.v (.string t17.1), I t17.2.1, I t17.2.2.1, I t17.2.2.2.1, I t17.2.2.2.2.1, I t17.2.2.2.2.2.1, I t17.2.2.2.2.2.2.1, I t17.2.2.2.2.2.2.2.1, I t17.2.2.2.2.2.2.2.2.1, I t17.2.2.2.2.2.2.2.2.2]))), (99, .box (.d (.agg [I t21.1, I t21.2.1, I t21.2.2.1]))), (392, .row 0 10 [])] (.exit 6) [(3, .ptr 0 0 0 0 0), (5, .ptr 60 0 0 0 0), (10, .ptr 99 0 0 0 0), (27, .own 392 0), (28, .d (.lst true 0 []))] [(0, .box (.d (.agg [I a1, I a2, I a3, I a4, I a5, I a6, I a7, I a8]))), (60, .box (.d (.agg [.v (.string t17.1), I t17.2.1, I t17.2.2.1, I t17.2.2.2.1, I t17.2.2.2.2.1, I t17.2.2.2.2.2.1, I t17.2.2.2.2.2.2.1, I t17.2.2.2.2.2.2.2.1, I t17.2.2.2.2.2.2.2.2.1, I t17.2.2.2.2.2.2.2.2.2]))), (99, .box (.d (.agg [I t21.1, I t21.2.1, I t21.2.2.1]))), (392, .row 0 10 t36)], inI64 (((a0).length : Int) - 1), LoopN cx (loopAt cx.P 6 0) 439 0 false [(0, .d (.lst false 10 a0)), (3, .ptr 0 0 0 0 0), (5, .ptr 60 0 0 0 0), (8, .d (.lst false 1 t20.1)), (10, .ptr 99 0 0 0 0), (12, .d (I t22.1)), (190, .d (.lst false 3 t18.1)), (191, .d (I ((t18.1).length : Int))), (192, .d (I 0))] [(0, .box (.d (.agg [I a1, I a2, I a3, I a4, I a5, I a6, I a7, I a8]))), (60, .box (.d (.agg [.v (.string t17.1), I t17.2.1, I t17.2.2.1, I t17.2.2.2.1, I t17.2.2.2.2.1, I t17.2.2.2.2.2.1, I t17.2.2.2.2.2.2.1, I t17.2.2.2.2.2.2.2.1, I t17.2.2.2.2.2.2.2.2.1, I t17.2.2.2.2.2.2.2.2.2]))), (99, .box (.d (.agg [I t21.1, I t21.2.1, I t21.2.2.1])))] (.exit 0) [(0, .d (.lst false 10 a0)), (3, .ptr 0 0 0 0 0), (5, .ptr 60 0 0 0 0), (10, .ptr 99 0 0 0 0)] [(0, .box (.d (.agg [I a1, I a2, I a3, I a4, I a5, I a6, I a7, I a8]))), (60, .box (.d (.agg [.v (.string t17.1), I t17.2.1, I t17.2.2.1, I t17.2.2.2.1, I t17.2.2.2.2.1, I t17.2.2.2.2.2.1, I t17.2.2.2.2.2.2.1, I t17.2.2.2.2.2.2.2.1, I t17.2.2.2.2.2.2.2.2.1, I t17.2.2.2.2.2.2.2.2.2]))), (99, .box (.d (.agg [I t21.1, I t21.2.1, I t21.2.2.1])))], (decide ((minI (minI t21.1 t21.2.1) t21.2.2.1) < 0)) = false, (((t21.1 + t21.2.1) + t21.2.2.1) != ((t18.1).length : Int)) = false, inI64 ((t21.1 + t21.2.1) + t21.2.2.1), inI64 (t21.1 + t21.2.1), (((t20.1).length : Int) != ((t18.1).length : Int)) = false, (((t18.1).length : Int) != (a8 * a8)) = false, inI64 (a8 * a8), (t22.2.2.2 != 0) = false, (t21.2.2.2 != 0) = false, (t20.2 != 0) = false, (t18.2 != 0) = false, Computes cx 11 [.agg [.v (.string t17.1), I t17.2.1, I t17.2.2.1, I t17.2.2.2.1, I t17.2.2.2.2.1, I t17.2.2.2.2.2.1, I t17.2.2.2.2.2.2.1, I t17.2.2.2.2.2.2.2.1, I t17.2.2.2.2.2.2.2.2.1, I t17.2.2.2.2.2.2.2.2.2], .agg [I a2, I a3, I a4]] (.tup [I t22.1, .agg [I t22.2.1, I t22.2.2.1], I t22.2.2.2]), Computes cx 21 [.lst false 10 t19, I a1, .agg [I a2, I a3, I a4], .agg [I a5, I a6, I a7], I a8] (.tup [.agg [I t21.1, I t21.2.1, I t21.2.2.1], I t21.2.2.2]), Computes cx 22 [.lst false 10 a0] (.lst false 10 t19), Computes cx 35 [.lst false 10 t19, I a1, .agg [I a2, I a3, I a4], I a8] (.tup [.lst false 1 t20.1, I t20.2]), Computes cx 22 [.lst false 10 a0] (.lst false 10 t19), Computes cx 34 [.agg [.v (.string t17.1), I t17.2.1, I t17.2.2.1, I t17.2.2.2.1, I t17.2.2.2.2.1, I t17.2.2.2.2.2.1, I t17.2.2.2.2.2.2.1, I t17.2.2.2.2.2.2.2.1, I t17.2.2.2.2.2.2.2.2.1, I t17.2.2.2.2.2.2.2.2.2], I a8] (.tup [.lst false 3 t18.1, I t18.2]), (0 : Int) ≤ a1, nth (a0) (Int.toNat a1) = some (.agg [.v (.string t17.1), I t17.2.1, I t17.2.2.1, I t17.2.2.2.1, I t17.2.2.2.2.1, I t17.2.2.2.2.2.1, I t17.2.2.2.2.2.2.1, I t17.2.2.2.2.2.2.2.1, I t17.2.2.2.2.2.2.2.2.1, I t17.2.2.2.2.2.2.2.2.2]), (t15 != 0) = false, Computes cx 32 [I a8, I 1, I 4] (I t15), (t13 != 0) = false, Computes cx 24 [.agg [I a5, I a6, I a7]] (I t13), (decide (a4 < 1)) = false, (t10 != 0) = false, Computes cx 15 [.agg [I a2, I a3, I a4]] (I t10), (decide (a1 ≥ ((a0).length : Int))) = false, (decide (a1 < 0)) = false, (decide (((a0).length : Int) > 4)) = false, (t5 != 0) = false, Computes cx 27 [.lst false 10 a0] (I t5), (!t3) = false, Computes cx 20 [.lst false 10 a0] (B t3), (!t1) = false, Computes cx 9 [] (B t1)]) (e_law04_FieldShadows_6 a0 a1 a2 a3 a4 a5 a6 a7 a8 t1 t3 t5 t10 t13 t15 t17 t18 t19 t20 t21 t22 t36 t37 t39 t40 t42 t43) ⟨h46, (eqt h45), (eqt h44), (c_field_Lit h43), (c_law04_own h42), (room_of (b := 88) (by kernel_rfl) (by decide) h41), (c_field_Lit h40), (c_law04_own h39), (room_of (b := 88) (by kernel_rfl) (by decide) h38), (loopF_to R_law04_FieldShadows_L9 h37), (loopF_to R_law04_FieldShadows_L8 h36), h35, (loopF_to R_law04_FieldShadows_L7 h34), (decide_eq_false h33), (nef h32), h31, h30, (nef h29), (nef h28), h27, (nef h26), (nef h25), (nef h24), (nef h23), (c_field_Cosine h22), (c_field_Lit h21), (c_law04_own h19), (c_field_Dark h20), (c_law04_own h19), (c_field_Facets h18), (el_ok un_Asi9Z_ok h17).1, (el_ok un_Asi9Z_ok h17).2, (nef h16), (c_ref01_CheckRange h15), (nef h14), (c_ref04_CheckTarget h13), (decide_eq_false h12), (nef h11), (c_ref04_CheckDirection h10), (decide_eq_false h9), (decide_eq_false h8), (decide_eq_false h7), (nef h6), (c_ref04_CheckMirrors h5), (notf h4), (c_ref04_Short h3), (notf h2), (c_law04_awake h1), trivial⟩
                                            · replace h := ite_f h h46
                                              cases h
                                          · replace h := ite_f h h45
                                            cases h
                                        · replace h := ite_f h h44
                                          cases h
                                  · replace h := ite_f h h32
                                    cases h
                                · replace h := ite_f h h29
                                  cases h
                              · replace h := ite_f h h28
                                cases h
                            · replace h := ite_f h h26
                              cases h
                          · replace h := ite_f h h25
                            cases h
                        · replace h := ite_f h h24
                          cases h
                      · replace h := ite_f h h23
                        cases h
                    · replace h := ite_f h h16
                      replace h := Option.some.inj h
                      subst h
                      exact run (n := 100) (f := 6) (args := [.lst false 10 a0, .agg [I a1, I a2, I a3, I a4, I a5, I a6, I a7, I a8]]) (orc := [.ret (B t1), .br false, .ret (B t3), .br false, .ret (I t5), .br false, .br false, .br false, .br false, .ret (I t10), .br false, .br false, .ret (I t13), .br false, .ret (I t15), .br true, .ret (B t1)]) (r := B t1) (ob := [Computes cx 9 [] (B t1), (t15 != 0) = true, Computes cx 32 [I a8, I 1, I 4] (I t15), (t13 != 0) = false, Computes cx 24 [.agg [I a5, I a6, I a7]] (I t13), (decide (a4 < 1)) = false, (t10 != 0) = false, Computes cx 15 [.agg [I a2, I a3, I a4]] (I t10), (decide (a1 ≥ ((a0).length : Int))) = false, (decide (a1 < 0)) = false, (decide (((a0).length : Int) > 4)) = false, (t5 != 0) = false, Computes cx 27 [.lst false 10 a0] (I t5), (!t3) = false, Computes cx 20 [.lst false 10 a0] (B t3), (!t1) = false, Computes cx 9 [] (B t1)]) (e_law04_FieldShadows_17 a0 a1 a2 a3 a4 a5 a6 a7 a8 t1 t3 t5 t10 t13 t15) ⟨(c_law04_awake h1), (net h16), (c_ref01_CheckRange h15), (nef h14), (c_ref04_CheckTarget h13), (decide_eq_false h12), (nef h11), (c_ref04_CheckDirection h10), (decide_eq_false h9), (decide_eq_false h8), (decide_eq_false h7), (nef h6), (c_ref04_CheckMirrors h5), (notf h4), (c_ref04_Short h3), (notf h2), (c_law04_awake h1), trivial⟩
                  · replace h := ite_f h h14
                    replace h := Option.some.inj h
                    subst h
                    exact run (n := 100) (f := 6) (args := [.lst false 10 a0, .agg [I a1, I a2, I a3, I a4, I a5, I a6, I a7, I a8]]) (orc := [.ret (B t1), .br false, .ret (B t3), .br false, .ret (I t5), .br false, .br false, .br false, .br false, .ret (I t10), .br false, .br false, .ret (I t13), .br true, .no, .ret (B t1)]) (r := B t1) (ob := [Computes cx 9 [] (B t1), (t13 != 0) = true, Computes cx 24 [.agg [I a5, I a6, I a7]] (I t13), (decide (a4 < 1)) = false, (t10 != 0) = false, Computes cx 15 [.agg [I a2, I a3, I a4]] (I t10), (decide (a1 ≥ ((a0).length : Int))) = false, (decide (a1 < 0)) = false, (decide (((a0).length : Int) > 4)) = false, (t5 != 0) = false, Computes cx 27 [.lst false 10 a0] (I t5), (!t3) = false, Computes cx 20 [.lst false 10 a0] (B t3), (!t1) = false, Computes cx 9 [] (B t1)]) (e_law04_FieldShadows_18 a0 a1 a2 a3 a4 a5 a6 a7 a8 t1 t3 t5 t10 t13) ⟨(c_law04_awake h1), (net h14), (c_ref04_CheckTarget h13), (decide_eq_false h12), (nef h11), (c_ref04_CheckDirection h10), (decide_eq_false h9), (decide_eq_false h8), (decide_eq_false h7), (nef h6), (c_ref04_CheckMirrors h5), (notf h4), (c_ref04_Short h3), (notf h2), (c_law04_awake h1), trivial⟩
              · replace h := ite_f h h11
                replace h := Option.some.inj h
                subst h
                exact run (n := 100) (f := 6) (args := [.lst false 10 a0, .agg [I a1, I a2, I a3, I a4, I a5, I a6, I a7, I a8]]) (orc := [.ret (B t1), .br false, .ret (B t3), .br false, .ret (I t5), .br false, .br false, .br false, .br false, .ret (I t10), .br true, .no, .no, .no, .ret (B t1)]) (r := B t1) (ob := [Computes cx 9 [] (B t1), (t10 != 0) = true, Computes cx 15 [.agg [I a2, I a3, I a4]] (I t10), (decide (a1 ≥ ((a0).length : Int))) = false, (decide (a1 < 0)) = false, (decide (((a0).length : Int) > 4)) = false, (t5 != 0) = false, Computes cx 27 [.lst false 10 a0] (I t5), (!t3) = false, Computes cx 20 [.lst false 10 a0] (B t3), (!t1) = false, Computes cx 9 [] (B t1)]) (e_law04_FieldShadows_19 a0 a1 a2 a3 a4 a5 a6 a7 a8 t1 t3 t5 t10) ⟨(c_law04_awake h1), (net h11), (c_ref04_CheckDirection h10), (decide_eq_false h9), (decide_eq_false h8), (decide_eq_false h7), (nef h6), (c_ref04_CheckMirrors h5), (notf h4), (c_ref04_Short h3), (notf h2), (c_law04_awake h1), trivial⟩
      · replace h := ite_f h h6
        replace h := Option.some.inj h
        subst h
        exact run (n := 100) (f := 6) (args := [.lst false 10 a0, .agg [I a1, I a2, I a3, I a4, I a5, I a6, I a7, I a8]]) (orc := [.ret (B t1), .br false, .ret (B t3), .br false, .ret (I t5), .br true, .no, .no, .no, .no, .no, .no, .no, .ret (B t1)]) (r := B t1) (ob := [Computes cx 9 [] (B t1), (t5 != 0) = true, Computes cx 27 [.lst false 10 a0] (I t5), (!t3) = false, Computes cx 20 [.lst false 10 a0] (B t3), (!t1) = false, Computes cx 9 [] (B t1)]) (e_law04_FieldShadows_20 a0 a1 a2 a3 a4 a5 a6 a7 a8 t1 t3 t5) ⟨(c_law04_awake h1), (net h6), (c_ref04_CheckMirrors h5), (notf h4), (c_ref04_Short h3), (notf h2), (c_law04_awake h1), trivial⟩
    · replace h := ite_f h h4
      replace h := Option.some.inj h
      subst h
      exact run (n := 100) (f := 6) (args := [.lst false 10 a0, .agg [I a1, I a2, I a3, I a4, I a5, I a6, I a7, I a8]]) (orc := [.ret (B t1), .br false, .ret (B t3), .br true, .no, .no, .no, .no, .no, .no, .no, .no, .ret (B t1)]) (r := B t1) (ob := [Computes cx 9 [] (B t1), (!t3) = true, Computes cx 20 [.lst false 10 a0] (B t3), (!t1) = false, Computes cx 9 [] (B t1)]) (e_law04_FieldShadows_21 a0 a1 a2 a3 a4 a5 a6 a7 a8 t1 t3) ⟨(c_law04_awake h1), (nott (bfalse h4)), (c_ref04_Short h3), (notf h2), (c_law04_awake h1), trivial⟩
  · replace h := ite_f h h2
    replace h := Option.some.inj h
    subst h
    exact run (n := 100) (f := 6) (args := [.lst false 10 a0, .agg [I a1, I a2, I a3, I a4, I a5, I a6, I a7, I a8]]) (orc := [.ret (B t1), .br true, .no, .no, .no, .no, .no, .no, .no, .no, .no, .ret (B t1)]) (r := B t1) (ob := [Computes cx 9 [] (B t1), (!t1) = true, Computes cx 9 [] (B t1)]) (e_law04_FieldShadows_22 a0 a1 a2 a3 a4 a5 a6 a7 a8 t1) ⟨(c_law04_awake h1), (nott (bfalse h2)), (c_law04_awake h1), trivial⟩
end Go.Proofs.YtojmcpnpojdnmaaGreatDoor
