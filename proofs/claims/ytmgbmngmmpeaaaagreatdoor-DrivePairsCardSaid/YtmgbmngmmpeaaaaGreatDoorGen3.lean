/-
  Printed by gsx.py: functions of the program as Lean functions, and that the code computes them.
-/
import Derived.Test.YtmgbmngmmpeaaaaGreatDoorGen2
set_option linter.unusedVariables false
set_option linter.unusedSimpArgs false
set_option linter.unnecessarySimpa false
set_option maxRecDepth 10000
namespace Go.Proofs.YtmgbmngmmpeaaaaGreatDoor
open Go.SX
/- spillage/spillagelaw03.bands: .lst false 3 a0 -/
def F_law03_bands (n : Nat) (a0 : List D) : Option (List D) :=
  (loopF (F_law03_bands_L1 n a0) n (0, [])).bind fun t1 =>
  some t1
theorem c_law03_bands {n : Nat} {a0 : List D} {r : List D} (h : F_law03_bands n a0 = some r) : Computes cx 44 [.lst false 3 a0] (.lst false 3 r) := by
  unfold F_law03_bands at h
  obtain ⟨t1, h1, h⟩ := bnd_of h
  replace h := Option.some.inj h
  subst h
  exact run (n := 100) (f := 44) (args := [.lst false 3 a0]) (orc := [.lp [3, 3] [3, 6, 7, 8] [5] (.exit 0) [(3, .own 5 0)] [(5, .row 0 3 t1)] 29]) (r := .lst false 3 t1) (ob := [LoopN cx (loopAt cx.P 44 0) 18 0 false [(3, .own 5 0), (6, .d (.lst false 3 a0)), (7, .d (I ((a0).length : Int))), (8, .d (I 0))] [(5, .row 0 3 [])] (.exit 0) [(3, .own 5 0)] [(5, .row 0 3 t1)]]) (by kernel_rfl) ⟨(loopF_to R_law03_bands_L1 h1), trivial⟩
def F_ref03_SameModel_L1 (n : Nat) (a0 : List D) (a1 : List D) (sa : (Int)) : Option (((Int)) ⊕ ((Unit) ⊕ (Unit))) :=
  if sa < ((a0).length : Int) then
    (el un_Ai3Z a0 sa).bind fun ta2 =>
    (el un_Ai3Z a1 sa).bind fun ta3 =>
    if ((ta2.1 == ta3.1) && (((ta2.2.1 == ta3.2.1) && ((ta2.2.2 == ta3.2.2) && true)) && true)) = true then
      if inI64 (sa + 1) then
      some (.inl (sa + 1))
      else none
    else
    some (.inr (.inl ()))
  else
  some (.inr (.inr ()))
noncomputable def T_ref03_SameModel_L1 (a0 : List D) (a1 : List D) (sa : (Int)) : List (Nat × AV) := [(0, .d (.lst false 3 a0)), (1, .d (.lst false 3 a1)), (5, .d (I sa))]
noncomputable def H_ref03_SameModel_L1 (a0 : List D) (a1 : List D) (sa : (Int)) : List (Nat × Blk) := []
noncomputable def X_ref03_SameModel_L1 (a0 : List D) (a1 : List D) (e : (Unit) ⊕ (Unit)) : Ex := match e with
  | (.inl e) => .ret
  | (.inr e) => (.exit 0)
noncomputable def XT_ref03_SameModel_L1 (a0 : List D) (a1 : List D) (e : (Unit) ⊕ (Unit)) : List (Nat × AV) := match e with
  | (.inl e) => [(4, .d (B false))]
  | (.inr e) => []
noncomputable def XH_ref03_SameModel_L1 (a0 : List D) (a1 : List D) (e : (Unit) ⊕ (Unit)) : List (Nat × Blk) := match e with
  | (.inl e) => []
  | (.inr e) => []
theorem R_ref03_SameModel_L1 {n : Nat} {a0 : List D} {a1 : List D} (sa : (Int)) (r) (h : F_ref03_SameModel_L1 n a0 a1 sa = some r) : Rd cx (loopAt cx.P 43 0) 26 0 false (T_ref03_SameModel_L1 a0 a1) (H_ref03_SameModel_L1 a0 a1) (X_ref03_SameModel_L1 a0 a1) (XT_ref03_SameModel_L1 a0 a1) (XH_ref03_SameModel_L1 a0 a1) sa r := by
  unfold F_ref03_SameModel_L1 at h
  by_cases ha1 : sa < ((a0).length : Int)
  · replace h := ite_t h ha1
    obtain ⟨ta2, ha2, h⟩ := bnd_of h
    obtain ⟨ta3, ha3, h⟩ := bnd_of h
    by_cases ha4 : ((ta2.1 == ta3.1) && (((ta2.2.1 == ta3.2.1) && ((ta2.2.2 == ta3.2.2) && true)) && true)) = true
    · replace h := ite_t h ha4
      obtain ⟨ha5, h⟩ := grd_of h
      replace h := Option.some.inj h
      subst h
      exact ⟨100, 7, [.br true, .el (.agg [I ta2.1, I ta2.2.1, I ta2.2.2]), .el (.agg [I ta3.1, I ta3.2.1, I ta3.2.2]), .br false], [], [0, 1, 5], [], round_of (ob := [inI64 (sa + 1), (!((ta2.1 == ta3.1) && (((ta2.2.1 == ta3.2.1) && ((ta2.2.2 == ta3.2.2) && true)) && true))) = false, (0 : Int) ≤ sa, nth (a1) (Int.toNat sa) = some (.agg [I ta3.1, I ta3.2.1, I ta3.2.2]), (0 : Int) ≤ sa, nth (a0) (Int.toNat sa) = some (.agg [I ta2.1, I ta2.2.1, I ta2.2.2]), (decide (sa < ((a0).length : Int))) = true]) (by kernel_rfl) ⟨ha5, (notf ha4), (el_ok un_Ai3Z_ok ha3).1, (el_ok un_Ai3Z_ok ha3).2, (el_ok un_Ai3Z_ok ha2).1, (el_ok un_Ai3Z_ok ha2).2, (decide_eq_true ha1), trivial⟩⟩
    · replace h := ite_f h ha4
      replace h := Option.some.inj h
      subst h
      exact ⟨⟨100, 7, [.br true, .el (.agg [I ta2.1, I ta2.2.1, I ta2.2.2]), .el (.agg [I ta3.1, I ta3.2.1, I ta3.2.2]), .br true], [], [4], [], round_of (ob := [(!((ta2.1 == ta3.1) && (((ta2.2.1 == ta3.2.1) && ((ta2.2.2 == ta3.2.2) && true)) && true))) = true, (0 : Int) ≤ sa, nth (a1) (Int.toNat sa) = some (.agg [I ta3.1, I ta3.2.1, I ta3.2.2]), (0 : Int) ≤ sa, nth (a0) (Int.toNat sa) = some (.agg [I ta2.1, I ta2.2.1, I ta2.2.2]), (decide (sa < ((a0).length : Int))) = true]) (by kernel_rfl) ⟨(nott (bfalse ha4)), (el_ok un_Ai3Z_ok ha3).1, (el_ok un_Ai3Z_ok ha3).2, (el_ok un_Ai3Z_ok ha2).1, (el_ok un_Ai3Z_ok ha2).2, (decide_eq_true ha1), trivial⟩⟩, nofun⟩
  · replace h := ite_f h ha1
    replace h := Option.some.inj h
    subst h
    exact ⟨⟨100, 7, [.br false], [], [], [], round_of (ob := [(decide (sa < ((a0).length : Int))) = false]) (by kernel_rfl) ⟨(decide_eq_false ha1), trivial⟩⟩, nofun⟩
/- spillage/spillageref03.SameModel: .lst false 3 a0, .lst false 3 a1 -/
def F_ref03_SameModel (n : Nat) (a0 : List D) (a1 : List D) : Option (Bool) :=
  if ((a0).length : Int) = ((a1).length : Int) then
    (loopF (F_ref03_SameModel_L1 n a0 a1) n 0).bind fun t2 => match t2 with
      | (.inl t2) => (
        some false)
      | (.inr t2) => (
        some true)
  else
  some false
theorem c_ref03_SameModel {n : Nat} {a0 : List D} {a1 : List D} {r : Bool} (h : F_ref03_SameModel n a0 a1 = some r) : Computes cx 43 [.lst false 3 a0, .lst false 3 a1] (B r) := by
  unfold F_ref03_SameModel at h
  by_cases h1 : ((a0).length : Int) = ((a1).length : Int)
  · replace h := ite_t h h1
    obtain ⟨t2, h2, h⟩ := bnd_of h
    rcases t2 with t2 | t2
    · replace h := Option.some.inj h
      subst h
      exact run (n := 100) (f := 43) (args := [.lst false 3 a0, .lst false 3 a1]) (orc := [.br false, .lp [] [0, 1, 5] [] .ret [(4, .d (B false))] [] 34]) (r := B false) (ob := [LoopN cx (loopAt cx.P 43 0) 26 0 false [(0, .d (.lst false 3 a0)), (1, .d (.lst false 3 a1)), (5, .d (I 0))] [] .ret [(4, .d (B false))] [], (((a0).length : Int) != ((a1).length : Int)) = false]) (by kernel_rfl) ⟨(loopF_to R_ref03_SameModel_L1 h2), (nef h1), trivial⟩
    · replace h := Option.some.inj h
      subst h
      exact run (n := 100) (f := 43) (args := [.lst false 3 a0, .lst false 3 a1]) (orc := [.br false, .lp [] [0, 1, 5] [] (.exit 0) [] [] 34]) (r := B true) (ob := [LoopN cx (loopAt cx.P 43 0) 26 0 false [(0, .d (.lst false 3 a0)), (1, .d (.lst false 3 a1)), (5, .d (I 0))] [] (.exit 0) [] [], (((a0).length : Int) != ((a1).length : Int)) = false]) (by kernel_rfl) ⟨(loopF_to R_ref03_SameModel_L1 h2), (nef h1), trivial⟩
  · replace h := ite_f h h1
    replace h := Option.some.inj h
    subst h
    exact run (n := 100) (f := 43) (args := [.lst false 3 a0, .lst false 3 a1]) (orc := [.br true]) (r := B false) (ob := [(((a0).length : Int) != ((a1).length : Int)) = true]) (by kernel_rfl) ⟨(net h1), trivial⟩
/- (spillage/drive.aimed).check: .agg [I a0, I a1, I a2, I a3, I a4, I a5, .lst false 3 a6, I a7, I a8] -/
def F_drive_aimed_check (n : Nat) (a0 : Int) (a1 : Int) (a2 : Int) (a3 : Int) (a4 : Int) (a5 : Int) (a6 : List D) (a7 : Int) (a8 : Int) : Option (Int) :=
  (F_drive_posed_check n a0 a1 a2 a3 a4 a5).bind fun t1 =>
  (F_drive_CheckModel n a6).bind fun t2 =>
  (F_drive_checkEnds n a7 a8 4294967296).bind fun t3 =>
  (F_drive_first n ([I t1, I t2, I t3])).bind fun t4 =>
  some t4
theorem c_drive_aimed_check {n : Nat} {a0 : Int} {a1 : Int} {a2 : Int} {a3 : Int} {a4 : Int} {a5 : Int} {a6 : List D} {a7 : Int} {a8 : Int} {r : Int} (h : F_drive_aimed_check n a0 a1 a2 a3 a4 a5 a6 a7 a8 = some r) : Computes cx 98 [.agg [I a0, I a1, I a2, I a3, I a4, I a5, .lst false 3 a6, I a7, I a8]] (I r) := by
  unfold F_drive_aimed_check at h
  obtain ⟨t1, h1, h⟩ := bnd_of h
  obtain ⟨t2, h2, h⟩ := bnd_of h
  obtain ⟨t3, h3, h⟩ := bnd_of h
  obtain ⟨t4, h4, h⟩ := bnd_of h
  replace h := Option.some.inj h
  subst h
  exact run (n := 100) (f := 98) (args := [.agg [I a0, I a1, I a2, I a3, I a4, I a5, .lst false 3 a6, I a7, I a8]]) (orc := [.ret (I t1), .ret (I t2), .ret (I t3), .ret (I t4)]) (r := I t4) (ob := [Computes cx 84 [.lst true 1 [I t1, I t2, I t3]] (I t4), Computes cx 88 [.agg [I a7, I a8], I 4294967296] (I t3), Computes cx 53 [.lst false 3 a6] (I t2), Computes cx 90 [.agg [I a0, I a1, I a2, I a3, I a4, I a5]] (I t1)]) (by kernel_rfl) ⟨((c_drive_first h4).le (.cons (.full _ _ _) (.nil)) (.refl _)), (c_drive_checkEnds h3), (c_drive_CheckModel h2), (c_drive_posed_check h1), trivial⟩
/- (spillage/drive.aimed).hit: .agg [I a0, I a1, I a2, I a3, I a4, I a5, .lst false 3 a6, I a7, I a8], I a9 -/
def F_drive_aimed_hit (n : Nat) (a0 : Int) (a1 : Int) (a2 : Int) (a3 : Int) (a4 : Int) (a5 : Int) (a6 : List D) (a7 : Int) (a8 : Int) (a9 : Int) : Option (Int × Int × Bool) :=
  (F_drive_posed_at n a0 a1 a2 a3 a4 a5 a9).bind fun t1 =>
  (F_drive_places n a6 t1.2.2.2.2.1 t1.2.2.2.2.2).bind fun t2 =>
  (F_drive_both_2 n t2.1 t2.2 a7 a8).bind fun t3 =>
  if t3.2.2 = true then
    some (t2.1, t2.2, ((t3.1 == t2.1) && ((t3.2.1 == t2.2) && true)))
  else
  some (t2.1, t2.2, false)
theorem c_drive_aimed_hit {n : Nat} {a0 : Int} {a1 : Int} {a2 : Int} {a3 : Int} {a4 : Int} {a5 : Int} {a6 : List D} {a7 : Int} {a8 : Int} {a9 : Int} {r : Int × Int × Bool} (h : F_drive_aimed_hit n a0 a1 a2 a3 a4 a5 a6 a7 a8 a9 = some r) : Computes cx 99 [.agg [I a0, I a1, I a2, I a3, I a4, I a5, .lst false 3 a6, I a7, I a8], I a9] (.tup [.agg [I r.1, I r.2.1], B r.2.2]) := by
  unfold F_drive_aimed_hit at h
  obtain ⟨t1, h1, h⟩ := bnd_of h
  obtain ⟨t2, h2, h⟩ := bnd_of h
  obtain ⟨t3, h3, h⟩ := bnd_of h
  by_cases h4 : t3.2.2 = true
  · replace h := ite_t h h4
    replace h := Option.some.inj h
    subst h
    exact run (n := 100) (f := 99) (args := [.agg [I a0, I a1, I a2, I a3, I a4, I a5, .lst false 3 a6, I a7, I a8], I a9]) (orc := [.ret (.agg [I t1.1, I t1.2.1, I t1.2.2.1, I t1.2.2.2.1, I t1.2.2.2.2.1, I t1.2.2.2.2.2]), .ret (.agg [I t2.1, I t2.2]), .ret (.tup [.agg [I t3.1, I t3.2.1], B t3.2.2]), .br true]) (r := .tup [.agg [I t2.1, I t2.2], B ((t3.1 == t2.1) && ((t3.2.1 == t2.2) && true))]) (ob := [t3.2.2 = true, Computes cx 122 [.agg [I t2.1, I t2.2], .agg [I a7, I a8]] (.tup [.agg [I t3.1, I t3.2.1], B t3.2.2]), Computes cx 97 [.lst false 3 a6, .agg [I t1.2.2.2.2.1, I t1.2.2.2.2.2]] (.agg [I t2.1, I t2.2]), Computes cx 86 [.agg [I a0, I a1, I a2, I a3, I a4, I a5], I a9] (.agg [I t1.1, I t1.2.1, I t1.2.2.1, I t1.2.2.2.1, I t1.2.2.2.2.1, I t1.2.2.2.2.2])]) (by kernel_rfl) ⟨h4, (c_drive_both_2 h3), (c_drive_places h2), (c_drive_posed_at h1), trivial⟩
  · replace h := ite_f h h4
    replace h := Option.some.inj h
    subst h
    exact run (n := 100) (f := 99) (args := [.agg [I a0, I a1, I a2, I a3, I a4, I a5, .lst false 3 a6, I a7, I a8], I a9]) (orc := [.ret (.agg [I t1.1, I t1.2.1, I t1.2.2.1, I t1.2.2.2.1, I t1.2.2.2.2.1, I t1.2.2.2.2.2]), .ret (.agg [I t2.1, I t2.2]), .ret (.tup [.agg [I t3.1, I t3.2.1], B t3.2.2]), .br false]) (r := .tup [.agg [I t2.1, I t2.2], B false]) (ob := [t3.2.2 = false, Computes cx 122 [.agg [I t2.1, I t2.2], .agg [I a7, I a8]] (.tup [.agg [I t3.1, I t3.2.1], B t3.2.2]), Computes cx 97 [.lst false 3 a6, .agg [I t1.2.2.2.2.1, I t1.2.2.2.2.2]] (.agg [I t2.1, I t2.2]), Computes cx 86 [.agg [I a0, I a1, I a2, I a3, I a4, I a5], I a9] (.agg [I t1.1, I t1.2.1, I t1.2.2.1, I t1.2.2.2.1, I t1.2.2.2.2.1, I t1.2.2.2.2.2])]) (by kernel_rfl) ⟨(bfalse h4), (c_drive_both_2 h3), (c_drive_places h2), (c_drive_posed_at h1), trivial⟩
/- spillage/drive.size: I a0 -/
def F_drive_size (n : Nat) (a0 : Int) : Option (Int) :=
  some (maxI a0 (IntKind.wrap .i64 (0 - a0)))
theorem c_drive_size {n : Nat} {a0 : Int} {r : Int} (h : F_drive_size n a0 = some r) : Computes cx 127 [I a0] (I r) := by
  unfold F_drive_size at h
  replace h := Option.some.inj h
  subst h
  exact run (n := 100) (f := 127) (args := [I a0]) (orc := []) (r := I (maxI a0 (IntKind.wrap .i64 (0 - a0)))) (ob := []) (by kernel_rfl) trivial
def F_drive_aimed_nearest_L1 (n : Nat) (a0 : Int) (a1 : Int) (a2 : Int) (a3 : Int) (a4 : Int) (a5 : Int) (a6 : List D) (a7 : Int) (a8 : Int) (sa : (Int × Bool × Int)) : Option (((Int × Bool × Int)) ⊕ ((Int × Bool))) :=
  if sa.2.2 < ((a1 - a0) + 1) then
    if inI64 (a0 + sa.2.2) then
    (F_drive_aimed_hit n a0 a1 a2 a3 a4 a5 a6 a7 a8 (a0 + sa.2.2)).bind fun ta3 =>
    if ta3.2.2 = true then
      if sa.2.1 = true then
        if inI64 ((a0 + sa.2.2) - a3) then
        (F_drive_size n ((a0 + sa.2.2) - a3)).bind fun ta7 =>
        if inI64 (sa.1 - a3) then
        (F_drive_size n (sa.1 - a3)).bind fun ta9 =>
        if ta7 < ta9 then
          if inI64 (sa.2.2 + 1) then
          some (.inl ((a0 + sa.2.2), true, (sa.2.2 + 1)))
          else none
        else
        if inI64 (sa.2.2 + 1) then
        some (.inl (sa.1, sa.2.1, (sa.2.2 + 1)))
        else none
        else none
        else none
      else
      if inI64 (sa.2.2 + 1) then
      some (.inl ((a0 + sa.2.2), true, (sa.2.2 + 1)))
      else none
    else
    if inI64 (sa.2.2 + 1) then
    some (.inl (sa.1, sa.2.1, (sa.2.2 + 1)))
    else none
    else none
  else
  some (.inr (sa.1, sa.2.1))
noncomputable def T_drive_aimed_nearest_L1 (a0 : Int) (a1 : Int) (a2 : Int) (a3 : Int) (a4 : Int) (a5 : Int) (a6 : List D) (a7 : Int) (a8 : Int) (sa : (Int × Bool × Int)) : List (Nat × AV) := [(1, .ptr 0 0 0 0 0), (4, .d (I sa.1)), (5, .d (B sa.2.1)), (19, .d (I ((a1 - a0) + 1))), (20, .d (I sa.2.2))]
noncomputable def H_drive_aimed_nearest_L1 (a0 : Int) (a1 : Int) (a2 : Int) (a3 : Int) (a4 : Int) (a5 : Int) (a6 : List D) (a7 : Int) (a8 : Int) (sa : (Int × Bool × Int)) : List (Nat × Blk) := [(0, .box (.d (.agg [I a0, I a1, I a2, I a3, I a4, I a5, .lst false 3 a6, I a7, I a8])))]
noncomputable def X_drive_aimed_nearest_L1 (a0 : Int) (a1 : Int) (a2 : Int) (a3 : Int) (a4 : Int) (a5 : Int) (a6 : List D) (a7 : Int) (a8 : Int) (e : (Int × Bool)) : Ex := (.exit 0)
noncomputable def XT_drive_aimed_nearest_L1 (a0 : Int) (a1 : Int) (a2 : Int) (a3 : Int) (a4 : Int) (a5 : Int) (a6 : List D) (a7 : Int) (a8 : Int) (e : (Int × Bool)) : List (Nat × AV) := [(4, .d (I e.1)), (5, .d (B e.2))]
noncomputable def XH_drive_aimed_nearest_L1 (a0 : Int) (a1 : Int) (a2 : Int) (a3 : Int) (a4 : Int) (a5 : Int) (a6 : List D) (a7 : Int) (a8 : Int) (e : (Int × Bool)) : List (Nat × Blk) := []
theorem R_drive_aimed_nearest_L1 {n : Nat} {a0 : Int} {a1 : Int} {a2 : Int} {a3 : Int} {a4 : Int} {a5 : Int} {a6 : List D} {a7 : Int} {a8 : Int} (sa : (Int × Bool × Int)) (r) (h : F_drive_aimed_nearest_L1 n a0 a1 a2 a3 a4 a5 a6 a7 a8 sa = some r) : Rd cx (loopAt cx.P 100 0) 63 0 false (T_drive_aimed_nearest_L1 a0 a1 a2 a3 a4 a5 a6 a7 a8) (H_drive_aimed_nearest_L1 a0 a1 a2 a3 a4 a5 a6 a7 a8) (X_drive_aimed_nearest_L1 a0 a1 a2 a3 a4 a5 a6 a7 a8) (XT_drive_aimed_nearest_L1 a0 a1 a2 a3 a4 a5 a6 a7 a8) (XH_drive_aimed_nearest_L1 a0 a1 a2 a3 a4 a5 a6 a7 a8) sa r := by
  unfold F_drive_aimed_nearest_L1 at h
  by_cases ha1 : sa.2.2 < ((a1 - a0) + 1)
  · replace h := ite_t h ha1
    obtain ⟨ha2, h⟩ := grd_of h
    obtain ⟨ta3, ha3, h⟩ := bnd_of h
    by_cases ha4 : ta3.2.2 = true
    · replace h := ite_t h ha4
      by_cases ha5 : sa.2.1 = true
      · replace h := ite_t h ha5
        obtain ⟨ha6, h⟩ := grd_of h
        obtain ⟨ta7, ha7, h⟩ := bnd_of h
        obtain ⟨ha8, h⟩ := grd_of h
        obtain ⟨ta9, ha9, h⟩ := bnd_of h
        by_cases ha10 : ta7 < ta9
        · replace h := ite_t h ha10
          obtain ⟨ha11, h⟩ := grd_of h
          replace h := Option.some.inj h
          subst h
          exact ⟨100, 16, [.br true, .ret (.tup [.agg [I ta3.1, I ta3.2.1], B ta3.2.2]), .br true, .br false, .ret (I ta7), .ret (I ta9), .br true], [], [1, 4, 5, 19, 20], [0], round_of (ob := [inI64 (sa.2.2 + 1), (decide (ta7 < ta9)) = true, Computes cx 127 [I (sa.1 - a3)] (I ta9), inI64 (sa.1 - a3), Computes cx 127 [I ((a0 + sa.2.2) - a3)] (I ta7), inI64 ((a0 + sa.2.2) - a3), (!sa.2.1) = false, ta3.2.2 = true, Computes cx 99 [.agg [I a0, I a1, I a2, I a3, I a4, I a5, .lst false 3 a6, I a7, I a8], I (a0 + sa.2.2)] (.tup [.agg [I ta3.1, I ta3.2.1], B ta3.2.2]), inI64 (a0 + sa.2.2), (decide (sa.2.2 < ((a1 - a0) + 1))) = true]) (by kernel_rfl) ⟨ha11, (decide_eq_true ha10), (c_drive_size ha9), ha8, (c_drive_size ha7), ha6, (notf ha5), ha4, (c_drive_aimed_hit ha3), ha2, (decide_eq_true ha1), trivial⟩⟩
        · replace h := ite_f h ha10
          obtain ⟨ha11, h⟩ := grd_of h
          replace h := Option.some.inj h
          subst h
          exact ⟨100, 16, [.br true, .ret (.tup [.agg [I ta3.1, I ta3.2.1], B ta3.2.2]), .br true, .br false, .ret (I ta7), .ret (I ta9), .br false], [], [1, 4, 5, 19, 20], [0], round_of (ob := [inI64 (sa.2.2 + 1), (decide (ta7 < ta9)) = false, Computes cx 127 [I (sa.1 - a3)] (I ta9), inI64 (sa.1 - a3), Computes cx 127 [I ((a0 + sa.2.2) - a3)] (I ta7), inI64 ((a0 + sa.2.2) - a3), (!sa.2.1) = false, ta3.2.2 = true, Computes cx 99 [.agg [I a0, I a1, I a2, I a3, I a4, I a5, .lst false 3 a6, I a7, I a8], I (a0 + sa.2.2)] (.tup [.agg [I ta3.1, I ta3.2.1], B ta3.2.2]), inI64 (a0 + sa.2.2), (decide (sa.2.2 < ((a1 - a0) + 1))) = true]) (by kernel_rfl) ⟨ha11, (decide_eq_false ha10), (c_drive_size ha9), ha8, (c_drive_size ha7), ha6, (notf ha5), ha4, (c_drive_aimed_hit ha3), ha2, (decide_eq_true ha1), trivial⟩⟩
      · replace h := ite_f h ha5
        obtain ⟨ha6, h⟩ := grd_of h
        replace h := Option.some.inj h
        subst h
        exact ⟨100, 16, [.br true, .ret (.tup [.agg [I ta3.1, I ta3.2.1], B ta3.2.2]), .br true, .br true, .no], [], [1, 4, 5, 19, 20], [0], round_of (ob := [inI64 (sa.2.2 + 1), (!sa.2.1) = true, ta3.2.2 = true, Computes cx 99 [.agg [I a0, I a1, I a2, I a3, I a4, I a5, .lst false 3 a6, I a7, I a8], I (a0 + sa.2.2)] (.tup [.agg [I ta3.1, I ta3.2.1], B ta3.2.2]), inI64 (a0 + sa.2.2), (decide (sa.2.2 < ((a1 - a0) + 1))) = true]) (by kernel_rfl) ⟨ha6, (nott (bfalse ha5)), ha4, (c_drive_aimed_hit ha3), ha2, (decide_eq_true ha1), trivial⟩⟩
    · replace h := ite_f h ha4
      obtain ⟨ha5, h⟩ := grd_of h
      replace h := Option.some.inj h
      subst h
      exact ⟨100, 16, [.br true, .ret (.tup [.agg [I ta3.1, I ta3.2.1], B ta3.2.2]), .br false, .no], [], [1, 4, 5, 19, 20], [0], round_of (ob := [inI64 (sa.2.2 + 1), ta3.2.2 = false, Computes cx 99 [.agg [I a0, I a1, I a2, I a3, I a4, I a5, .lst false 3 a6, I a7, I a8], I (a0 + sa.2.2)] (.tup [.agg [I ta3.1, I ta3.2.1], B ta3.2.2]), inI64 (a0 + sa.2.2), (decide (sa.2.2 < ((a1 - a0) + 1))) = true]) (by kernel_rfl) ⟨ha5, (bfalse ha4), (c_drive_aimed_hit ha3), ha2, (decide_eq_true ha1), trivial⟩⟩
  · replace h := ite_f h ha1
    replace h := Option.some.inj h
    subst h
    exact ⟨⟨100, 16, [.br false], [], [4, 5], [], round_of (ob := [(decide (sa.2.2 < ((a1 - a0) + 1))) = false]) (by kernel_rfl) ⟨(decide_eq_false ha1), trivial⟩⟩, nofun⟩
/- (spillage/drive.aimed).nearest: .agg [I a0, I a1, I a2, I a3, I a4, I a5, .lst false 3 a6, I a7, I a8] -/
def F_drive_aimed_nearest (n : Nat) (a0 : Int) (a1 : Int) (a2 : Int) (a3 : Int) (a4 : Int) (a5 : Int) (a6 : List D) (a7 : Int) (a8 : Int) : Option (Int × Int) :=
  if inI64 (a1 - a0) then
  if inI64 ((a1 - a0) + 1) then
  (loopF (F_drive_aimed_nearest_L1 n a0 a1 a2 a3 a4 a5 a6 a7 a8) n (0, false, 0)).bind fun t3 =>
  (F_drive_when_2 n (!t3.2) 18).bind fun t4 =>
  some (t3.1, t4)
  else none
  else none
theorem c_drive_aimed_nearest {n : Nat} {a0 : Int} {a1 : Int} {a2 : Int} {a3 : Int} {a4 : Int} {a5 : Int} {a6 : List D} {a7 : Int} {a8 : Int} {r : Int × Int} (h : F_drive_aimed_nearest n a0 a1 a2 a3 a4 a5 a6 a7 a8 = some r) : Computes cx 100 [.agg [I a0, I a1, I a2, I a3, I a4, I a5, .lst false 3 a6, I a7, I a8]] (.tup [I r.1, I r.2]) := by
  unfold F_drive_aimed_nearest at h
  obtain ⟨h1, h⟩ := grd_of h
  obtain ⟨h2, h⟩ := grd_of h
  obtain ⟨t3, h3, h⟩ := bnd_of h
  obtain ⟨t4, h4, h⟩ := bnd_of h
  replace h := Option.some.inj h
  subst h
  exact run (n := 100) (f := 100) (args := [.agg [I a0, I a1, I a2, I a3, I a4, I a5, .lst false 3 a6, I a7, I a8]]) (orc := [.lp [] [1, 4, 5, 19, 20] [0] (.exit 0) [(4, .d (I t3.1)), (5, .d (B t3.2))] [] 73, .ret (I t4)]) (r := .tup [I t3.1, I t4]) (ob := [Computes cx 85 [B (!t3.2), I 18] (I t4), LoopN cx (loopAt cx.P 100 0) 63 0 false [(1, .ptr 0 0 0 0 0), (4, .d (I 0)), (5, .d (B false)), (19, .d (I ((a1 - a0) + 1))), (20, .d (I 0))] [(0, .box (.d (.agg [I a0, I a1, I a2, I a3, I a4, I a5, .lst false 3 a6, I a7, I a8])))] (.exit 0) [(4, .d (I t3.1)), (5, .d (B t3.2))] [], inI64 ((a1 - a0) + 1), inI64 (a1 - a0)]) (by kernel_rfl) ⟨(c_drive_when_2 h4), (loopF_to R_drive_aimed_nearest_L1 h3), h2, h1, trivial⟩
/- spillage/drive.Inverted: .agg [I a0, I a1, I a2], .agg [I a3, I a4, I a5], .lst false 3 a6, .agg [I a7, I a8] -/
def F_drive_Inverted (n : Nat) (a0 : Int) (a1 : Int) (a2 : Int) (a3 : Int) (a4 : Int) (a5 : Int) (a6 : List D) (a7 : Int) (a8 : Int) : Option (Int × Int) :=
  (F_drive_aimed_check n a0 a1 a2 a3 a4 a5 a6 a7 a8).bind fun t1 =>
  if t1 = 0 then
    (F_drive_aimed_nearest n a0 a1 a2 a3 a4 a5 a6 a7 a8).bind fun t3 =>
    some (t3.1, t3.2)
  else
  some (0, t1)
theorem c_drive_Inverted {n : Nat} {a0 : Int} {a1 : Int} {a2 : Int} {a3 : Int} {a4 : Int} {a5 : Int} {a6 : List D} {a7 : Int} {a8 : Int} {r : Int × Int} (h : F_drive_Inverted n a0 a1 a2 a3 a4 a5 a6 a7 a8 = some r) : Computes cx 56 [.agg [I a0, I a1, I a2], .agg [I a3, I a4, I a5], .lst false 3 a6, .agg [I a7, I a8]] (.tup [I r.1, I r.2]) := by
  unfold F_drive_Inverted at h
  obtain ⟨t1, h1, h⟩ := bnd_of h
  by_cases h2 : t1 = 0
  · replace h := ite_t h h2
    obtain ⟨t3, h3, h⟩ := bnd_of h
    replace h := Option.some.inj h
    subst h
    exact run (n := 100) (f := 56) (args := [.agg [I a0, I a1, I a2], .agg [I a3, I a4, I a5], .lst false 3 a6, .agg [I a7, I a8]]) (orc := [.ret (I t1), .br false, .ret (.tup [I t3.1, I t3.2])]) (r := .tup [I t3.1, I t3.2]) (ob := [Computes cx 100 [.agg [I a0, I a1, I a2, I a3, I a4, I a5, .lst false 3 a6, I a7, I a8]] (.tup [I t3.1, I t3.2]), (t1 != 0) = false, Computes cx 98 [.agg [I a0, I a1, I a2, I a3, I a4, I a5, .lst false 3 a6, I a7, I a8]] (I t1)]) (by kernel_rfl) ⟨(c_drive_aimed_nearest h3), (nef h2), (c_drive_aimed_check h1), trivial⟩
  · replace h := ite_f h h2
    replace h := Option.some.inj h
    subst h
    exact run (n := 100) (f := 56) (args := [.agg [I a0, I a1, I a2], .agg [I a3, I a4, I a5], .lst false 3 a6, .agg [I a7, I a8]]) (orc := [.ret (I t1), .br true]) (r := .tup [I 0, I t1]) (ob := [(t1 != 0) = true, Computes cx 98 [.agg [I a0, I a1, I a2, I a3, I a4, I a5, .lst false 3 a6, I a7, I a8]] (I t1)]) (by kernel_rfl) ⟨(net h2), (c_drive_aimed_check h1), trivial⟩
/- spillage/drive.CheckInverted: .agg [I a0, I a1, I a2], .agg [I a3, I a4, I a5], .lst false 3 a6, .agg [I a7, I a8], I a9 -/
def F_drive_CheckInverted (n : Nat) (a0 : Int) (a1 : Int) (a2 : Int) (a3 : Int) (a4 : Int) (a5 : Int) (a6 : List D) (a7 : Int) (a8 : Int) (a9 : Int) : Option (Int × Int × Int) :=
  (F_drive_aimed_check n a0 a1 a2 a3 a4 a5 a6 a7 a8).bind fun t1 =>
  (F_drive_within n a9 a0 a1).bind fun t2 =>
  (F_drive_first n ([I t1, I t2])).bind fun t3 =>
  if t3 = 0 then
    (F_drive_aimed_hit n a0 a1 a2 a3 a4 a5 a6 a7 a8 a9).bind fun t5 =>
    if t5.2.2 = true then
      some (t5.1, t5.2.1, 0)
    else
    some (0, 0, 19)
  else
  some (0, 0, t3)
theorem c_drive_CheckInverted {n : Nat} {a0 : Int} {a1 : Int} {a2 : Int} {a3 : Int} {a4 : Int} {a5 : Int} {a6 : List D} {a7 : Int} {a8 : Int} {a9 : Int} {r : Int × Int × Int} (h : F_drive_CheckInverted n a0 a1 a2 a3 a4 a5 a6 a7 a8 a9 = some r) : Computes cx 55 [.agg [I a0, I a1, I a2], .agg [I a3, I a4, I a5], .lst false 3 a6, .agg [I a7, I a8], I a9] (.tup [.agg [I r.1, I r.2.1], I r.2.2]) := by
  unfold F_drive_CheckInverted at h
  obtain ⟨t1, h1, h⟩ := bnd_of h
  obtain ⟨t2, h2, h⟩ := bnd_of h
  obtain ⟨t3, h3, h⟩ := bnd_of h
  by_cases h4 : t3 = 0
  · replace h := ite_t h h4
    obtain ⟨t5, h5, h⟩ := bnd_of h
    by_cases h6 : t5.2.2 = true
    · replace h := ite_t h h6
      replace h := Option.some.inj h
      subst h
      exact run (n := 100) (f := 55) (args := [.agg [I a0, I a1, I a2], .agg [I a3, I a4, I a5], .lst false 3 a6, .agg [I a7, I a8], I a9]) (orc := [.ret (I t1), .ret (I t2), .ret (I t3), .br false, .ret (.tup [.agg [I t5.1, I t5.2.1], B t5.2.2]), .br false]) (r := .tup [.agg [I t5.1, I t5.2.1], I 0]) (ob := [(!t5.2.2) = false, Computes cx 99 [.agg [I a0, I a1, I a2, I a3, I a4, I a5, .lst false 3 a6, I a7, I a8], I a9] (.tup [.agg [I t5.1, I t5.2.1], B t5.2.2]), (t3 != 0) = false, Computes cx 84 [.lst true 1 [I t1, I t2]] (I t3), Computes cx 89 [I a9, I a0, I a1] (I t2), Computes cx 98 [.agg [I a0, I a1, I a2, I a3, I a4, I a5, .lst false 3 a6, I a7, I a8]] (I t1)]) (by kernel_rfl) ⟨(notf h6), (c_drive_aimed_hit h5), (nef h4), ((c_drive_first h3).le (.cons (.full _ _ _) (.nil)) (.refl _)), (c_drive_within h2), (c_drive_aimed_check h1), trivial⟩
    · replace h := ite_f h h6
      replace h := Option.some.inj h
      subst h
      exact run (n := 100) (f := 55) (args := [.agg [I a0, I a1, I a2], .agg [I a3, I a4, I a5], .lst false 3 a6, .agg [I a7, I a8], I a9]) (orc := [.ret (I t1), .ret (I t2), .ret (I t3), .br false, .ret (.tup [.agg [I t5.1, I t5.2.1], B t5.2.2]), .br true]) (r := .tup [.agg [I 0, I 0], I 19]) (ob := [(!t5.2.2) = true, Computes cx 99 [.agg [I a0, I a1, I a2, I a3, I a4, I a5, .lst false 3 a6, I a7, I a8], I a9] (.tup [.agg [I t5.1, I t5.2.1], B t5.2.2]), (t3 != 0) = false, Computes cx 84 [.lst true 1 [I t1, I t2]] (I t3), Computes cx 89 [I a9, I a0, I a1] (I t2), Computes cx 98 [.agg [I a0, I a1, I a2, I a3, I a4, I a5, .lst false 3 a6, I a7, I a8]] (I t1)]) (by kernel_rfl) ⟨(nott (bfalse h6)), (c_drive_aimed_hit h5), (nef h4), ((c_drive_first h3).le (.cons (.full _ _ _) (.nil)) (.refl _)), (c_drive_within h2), (c_drive_aimed_check h1), trivial⟩
  · replace h := ite_f h h4
    replace h := Option.some.inj h
    subst h
    exact run (n := 100) (f := 55) (args := [.agg [I a0, I a1, I a2], .agg [I a3, I a4, I a5], .lst false 3 a6, .agg [I a7, I a8], I a9]) (orc := [.ret (I t1), .ret (I t2), .ret (I t3), .br true]) (r := .tup [.agg [I 0, I 0], I t3]) (ob := [(t3 != 0) = true, Computes cx 84 [.lst true 1 [I t1, I t2]] (I t3), Computes cx 89 [I a9, I a0, I a1] (I t2), Computes cx 98 [.agg [I a0, I a1, I a2, I a3, I a4, I a5, .lst false 3 a6, I a7, I a8]] (I t1)]) (by kernel_rfl) ⟨(net h4), ((c_drive_first h3).le (.cons (.full _ _ _) (.nil)) (.refl _)), (c_drive_within h2), (c_drive_aimed_check h1), trivial⟩
/- spillage/drive.Track$1: I a0 -/
def F_drive_Track_c1_4 (n : Nat) (a0 : Int) : Option (Int) :=
  (F_drive_within n a0 (-1000) 1000).bind fun t1 =>
  some t1
theorem c_drive_Track_c1_4 {n : Nat} {a0 : Int} {r : Int} (h : F_drive_Track_c1_4 n a0 = some r) : Computes cx 91 [I a0] (I r) := by
  unfold F_drive_Track_c1_4 at h
  obtain ⟨t1, h1, h⟩ := bnd_of h
  replace h := Option.some.inj h
  subst h
  exact run (n := 100) (f := 91) (args := [I a0]) (orc := [.ret (I t1)]) (r := I t1) (ob := [Computes cx 89 [I a0, I (-1000), I 1000] (I t1)]) (by kernel_rfl) ⟨(c_drive_within h1), trivial⟩
def F_drive_Track_2_L1 (n : Nat) (a0 : Int) (a1 : Int) (a2 : Int) (a3 : Int) (a4 : Int) (a5 : Int) (sa : (Unit) ⊕ (Int × Int × List D)) : Option (((Unit) ⊕ (Int × Int × List D)) ⊕ ((Unit) ⊕ (List D))) := match sa with
  | (.inl sa) => (
    if ((a0 == a2) && ((a1 == a3) && true)) = true then
      some (.inr (.inl ()))
    else
    if inI64 (a2 - a0) then
    if inI64 (a0 + (maxI (IntKind.wrap .i64 (0 - a4)) (minI a4 (a2 - a0)))) then
    if inI64 (a3 - a1) then
    if inI64 (a1 + (maxI (IntKind.wrap .i64 (0 - a5)) (minI a5 (a3 - a1)))) then
    some (.inl (.inr ((a0 + (maxI (IntKind.wrap .i64 (0 - a4)) (minI a4 (a2 - a0)))), (a1 + (maxI (IntKind.wrap .i64 (0 - a5)) (minI a5 (a3 - a1)))), [.agg [I a0, I a1], .agg [I (a0 + (maxI (IntKind.wrap .i64 (0 - a4)) (minI a4 (a2 - a0)))), I (a1 + (maxI (IntKind.wrap .i64 (0 - a5)) (minI a5 (a3 - a1))))]])))
    else none
    else none
    else none
    else none)
  | (.inr sa) => (
    if ((sa.1 == a2) && ((sa.2.1 == a3) && true)) = true then
      some (.inr (.inr sa.2.2))
    else
    if inI64 (a2 - sa.1) then
    if inI64 (sa.1 + (maxI (IntKind.wrap .i64 (0 - a4)) (minI a4 (a2 - sa.1)))) then
    if inI64 (a3 - sa.2.1) then
    if inI64 (sa.2.1 + (maxI (IntKind.wrap .i64 (0 - a5)) (minI a5 (a3 - sa.2.1)))) then
    if roomP 16 ((sa.2.2).length + 1) then
    some (.inl (.inr ((sa.1 + (maxI (IntKind.wrap .i64 (0 - a4)) (minI a4 (a2 - sa.1)))), (sa.2.1 + (maxI (IntKind.wrap .i64 (0 - a5)) (minI a5 (a3 - sa.2.1)))), (sa.2.2 ++ ([.agg [I (sa.1 + (maxI (IntKind.wrap .i64 (0 - a4)) (minI a4 (a2 - sa.1)))), I (sa.2.1 + (maxI (IntKind.wrap .i64 (0 - a5)) (minI a5 (a3 - sa.2.1))))]] : List D)))))
    else none
    else none
    else none
    else none
    else none)
noncomputable def T_drive_Track_2_L1 (a0 : Int) (a1 : Int) (a2 : Int) (a3 : Int) (a4 : Int) (a5 : Int) (sa : (Unit) ⊕ (Int × Int × List D)) : List (Nat × AV) := match sa with
  | (.inl sa) => [(4, .ptr 1 0 0 0 0), (5, .ptr 2 0 0 0 0), (10, .ptr 34 0 0 0 0), (11, .own 39 0)]
  | (.inr sa) => [(4, .ptr 1 0 0 0 0), (5, .ptr 2 0 0 0 0), (10, .ptr 34 0 0 0 0), (11, .own 39 0)]
noncomputable def H_drive_Track_2_L1 (a0 : Int) (a1 : Int) (a2 : Int) (a3 : Int) (a4 : Int) (a5 : Int) (sa : (Unit) ⊕ (Int × Int × List D)) : List (Nat × Blk) := match sa with
  | (.inl sa) => [(1, .box (.d (.agg [I a2, I a3]))), (2, .box (.d (.agg [I a4, I a5]))), (34, .box (.d (.agg [I a0, I a1]))), (39, .virt 0 2 [.agg [I a0, I a1]])]
  | (.inr sa) => [(1, .box (.d (.agg [I a2, I a3]))), (2, .box (.d (.agg [I a4, I a5]))), (34, .box (.d (.agg [I sa.1, I sa.2.1]))), (39, .row 0 2 sa.2.2)]
noncomputable def X_drive_Track_2_L1 (a0 : Int) (a1 : Int) (a2 : Int) (a3 : Int) (a4 : Int) (a5 : Int) (e : (Unit) ⊕ (List D)) : Ex := match e with
  | (.inl e) => (.exit 0)
  | (.inr e) => (.exit 0)
noncomputable def XT_drive_Track_2_L1 (a0 : Int) (a1 : Int) (a2 : Int) (a3 : Int) (a4 : Int) (a5 : Int) (e : (Unit) ⊕ (List D)) : List (Nat × AV) := match e with
  | (.inl e) => [(11, .own 39 0)]
  | (.inr e) => [(11, .own 39 0)]
noncomputable def XH_drive_Track_2_L1 (a0 : Int) (a1 : Int) (a2 : Int) (a3 : Int) (a4 : Int) (a5 : Int) (e : (Unit) ⊕ (List D)) : List (Nat × Blk) := match e with
  | (.inl e) => [(39, .virt 0 2 [.agg [I a0, I a1]])]
  | (.inr e) => [(39, .row 0 2 e)]
theorem R_drive_Track_2_L1 {n : Nat} {a0 : Int} {a1 : Int} {a2 : Int} {a3 : Int} {a4 : Int} {a5 : Int} (sa : (Unit) ⊕ (Int × Int × List D)) (r) (h : F_drive_Track_2_L1 n a0 a1 a2 a3 a4 a5 sa = some r) : Rd cx (loopAt cx.P 32 0) 79 0 false (T_drive_Track_2_L1 a0 a1 a2 a3 a4 a5) (H_drive_Track_2_L1 a0 a1 a2 a3 a4 a5) (X_drive_Track_2_L1 a0 a1 a2 a3 a4 a5) (XT_drive_Track_2_L1 a0 a1 a2 a3 a4 a5) (XH_drive_Track_2_L1 a0 a1 a2 a3 a4 a5) sa r := by
  unfold F_drive_Track_2_L1 at h
  rcases sa with sa | sa
  · by_cases ha1 : ((a0 == a2) && ((a1 == a3) && true)) = true
    · replace h := ite_t h ha1
      replace h := Option.some.inj h
      subst h
      exact ⟨⟨100, 40, [.br false], [], [11], [39], round_of (ob := [(!((a0 == a2) && ((a1 == a3) && true))) = false]) (by kernel_rfl) ⟨(notf ha1), trivial⟩⟩, nofun⟩
    · replace h := ite_f h ha1
      obtain ⟨ha2, h⟩ := grd_of h
      obtain ⟨ha3, h⟩ := grd_of h
      obtain ⟨ha4, h⟩ := grd_of h
      obtain ⟨ha5, h⟩ := grd_of h
      replace h := Option.some.inj h
      subst h
      exact ⟨100, 40, [.br true, .no, .no, .no, .no, .no, .no, .no, .no], [], [4, 5, 10, 11], [1, 2, 34, 39], round_of (ob := [inI64 2, inI64 (a1 + (maxI (IntKind.wrap .i64 (0 - a5)) (minI a5 (a3 - a1)))), inI64 (a3 - a1), inI64 1, inI64 (a0 + (maxI (IntKind.wrap .i64 (0 - a4)) (minI a4 (a2 - a0)))), inI64 (a2 - a0), (!((a0 == a2) && ((a1 == a3) && true))) = true]) (by kernel_rfl) ⟨(by unfold inI64; omega), ha5, ha4, (by unfold inI64; omega), ha3, ha2, (nott (bfalse ha1)), trivial⟩⟩
  · by_cases ha1 : ((sa.1 == a2) && ((sa.2.1 == a3) && true)) = true
    · replace h := ite_t h ha1
      replace h := Option.some.inj h
      subst h
      exact ⟨⟨100, 40, [.br false], [], [11], [39], round_of (ob := [(!((sa.1 == a2) && ((sa.2.1 == a3) && true))) = false]) (by kernel_rfl) ⟨(notf ha1), trivial⟩⟩, nofun⟩
    · replace h := ite_f h ha1
      obtain ⟨ha2, h⟩ := grd_of h
      obtain ⟨ha3, h⟩ := grd_of h
      obtain ⟨ha4, h⟩ := grd_of h
      obtain ⟨ha5, h⟩ := grd_of h
      obtain ⟨ha6, h⟩ := grd_of h
      replace h := Option.some.inj h
      subst h
      exact ⟨100, 40, [.br true, .no, .no, .no, .no, .no, .no, .br true], [], [4, 5, 10, 11], [1, 2, 34, 39], round_of (ob := [room cx 51 ((sa.2.2).length + 1), inI64 2, inI64 (sa.2.1 + (maxI (IntKind.wrap .i64 (0 - a5)) (minI a5 (a3 - sa.2.1)))), inI64 (a3 - sa.2.1), inI64 1, inI64 (sa.1 + (maxI (IntKind.wrap .i64 (0 - a4)) (minI a4 (a2 - sa.1)))), inI64 (a2 - sa.1), (!((sa.1 == a2) && ((sa.2.1 == a3) && true))) = true]) (by kernel_rfl) ⟨(room_of (b := 16) (by kernel_rfl) (by decide) ha6), (by unfold inI64; omega), ha5, ha4, (by unfold inI64; omega), ha3, ha2, (nott (bfalse ha1)), trivial⟩⟩
/- spillage/drive.Track: .agg [I a0, I a1], .agg [I a2, I a3], .agg [I a4, I a5] -/
def F_drive_Track_2 (n : Nat) (a0 : Int) (a1 : Int) (a2 : Int) (a3 : Int) (a4 : Int) (a5 : Int) : Option (List D × Int) :=
  (F_drive_Track_c1_4 n a0).bind fun t1 =>
  (F_drive_Track_c1_4 n a1).bind fun t2 =>
  (F_drive_Track_c1_4 n a2).bind fun t3 =>
  (F_drive_Track_c1_4 n a3).bind fun t4 =>
  (F_drive_within n a4 1 100).bind fun t5 =>
  (F_drive_within n a5 1 100).bind fun t6 =>
  (F_drive_first n ([I t1, I t2, I t3, I t4, I t5, I t6])).bind fun t7 =>
  if t7 = 0 then
    (loopF (F_drive_Track_2_L1 n a0 a1 a2 a3 a4 a5) n (.inl ())).bind fun t9 => match t9 with
      | (.inl t9) => (
        some ([.agg [I a0, I a1]], 0))
      | (.inr t9) => (
        some (t9, 0))
  else
  some ([], t7)
theorem c_drive_Track_2 {n : Nat} {a0 : Int} {a1 : Int} {a2 : Int} {a3 : Int} {a4 : Int} {a5 : Int} {r : List D × Int} (h : F_drive_Track_2 n a0 a1 a2 a3 a4 a5 = some r) : Computes cx 32 [.agg [I a0, I a1], .agg [I a2, I a3], .agg [I a4, I a5]] (.tup [.lst false 2 r.1, I r.2]) := by
  unfold F_drive_Track_2 at h
  obtain ⟨t1, h1, h⟩ := bnd_of h
  obtain ⟨t2, h2, h⟩ := bnd_of h
  obtain ⟨t3, h3, h⟩ := bnd_of h
  obtain ⟨t4, h4, h⟩ := bnd_of h
  obtain ⟨t5, h5, h⟩ := bnd_of h
  obtain ⟨t6, h6, h⟩ := bnd_of h
  obtain ⟨t7, h7, h⟩ := bnd_of h
  by_cases h8 : t7 = 0
  · replace h := ite_t h h8
    obtain ⟨t9, h9, h⟩ := bnd_of h
    rcases t9 with t9 | t9
    · replace h := Option.some.inj h
      subst h
      exact (run (n := 100) (f := 32) (args := [.agg [I a0, I a1], .agg [I a2, I a3], .agg [I a4, I a5]]) (orc := [.ret (I t1), .ret (I t2), .ret (I t3), .ret (I t4), .ret (I t5), .ret (I t6), .ret (I t7), .br false, .lp [11, 0] [4, 5, 10, 11] [1, 2, 34, 39] (.exit 0) [(11, .own 39 0)] [(39, .virt 0 2 [.agg [I a0, I a1]])] 120]) (r := .tup [.lst true 2 [.agg [I a0, I a1]], I 0]) (ob := [LoopN cx (loopAt cx.P 32 0) 79 0 false [(4, .ptr 1 0 0 0 0), (5, .ptr 2 0 0 0 0), (10, .ptr 34 0 0 0 0), (11, .own 39 0)] [(1, .box (.d (.agg [I a2, I a3]))), (2, .box (.d (.agg [I a4, I a5]))), (34, .box (.d (.agg [I a0, I a1]))), (39, .virt 0 2 [.agg [I a0, I a1]])] (.exit 0) [(11, .own 39 0)] [(39, .virt 0 2 [.agg [I a0, I a1]])], (t7 != 0) = false, Computes cx 84 [.lst true 1 [I t1, I t2, I t3, I t4, I t5, I t6]] (I t7), Computes cx 89 [I a5, I 1, I 100] (I t6), Computes cx 89 [I a4, I 1, I 100] (I t5), Computes cx 91 [I a3] (I t4), Computes cx 91 [I a2] (I t3), Computes cx 91 [I a1] (I t2), Computes cx 91 [I a0] (I t1)]) (by kernel_rfl) ⟨(loopF_to R_drive_Track_2_L1 h9), (nef h8), ((c_drive_first h7).le (.cons (.full _ _ _) (.nil)) (.refl _)), (c_drive_within h6), (c_drive_within h5), (c_drive_Track_c1_4 h4), (c_drive_Track_c1_4 h3), (c_drive_Track_c1_4 h2), (c_drive_Track_c1_4 h1), trivial⟩).le (LEs.refl _) (.tups (.cons (.full _ _ _) (.cons (.refl _) (.nil))))
    · replace h := Option.some.inj h
      subst h
      exact run (n := 100) (f := 32) (args := [.agg [I a0, I a1], .agg [I a2, I a3], .agg [I a4, I a5]]) (orc := [.ret (I t1), .ret (I t2), .ret (I t3), .ret (I t4), .ret (I t5), .ret (I t6), .ret (I t7), .br false, .lp [11, 0] [4, 5, 10, 11] [1, 2, 34, 39] (.exit 0) [(11, .own 39 0)] [(39, .row 0 2 t9)] 120]) (r := .tup [.lst false 2 t9, I 0]) (ob := [LoopN cx (loopAt cx.P 32 0) 79 0 false [(4, .ptr 1 0 0 0 0), (5, .ptr 2 0 0 0 0), (10, .ptr 34 0 0 0 0), (11, .own 39 0)] [(1, .box (.d (.agg [I a2, I a3]))), (2, .box (.d (.agg [I a4, I a5]))), (34, .box (.d (.agg [I a0, I a1]))), (39, .virt 0 2 [.agg [I a0, I a1]])] (.exit 0) [(11, .own 39 0)] [(39, .row 0 2 t9)], (t7 != 0) = false, Computes cx 84 [.lst true 1 [I t1, I t2, I t3, I t4, I t5, I t6]] (I t7), Computes cx 89 [I a5, I 1, I 100] (I t6), Computes cx 89 [I a4, I 1, I 100] (I t5), Computes cx 91 [I a3] (I t4), Computes cx 91 [I a2] (I t3), Computes cx 91 [I a1] (I t2), Computes cx 91 [I a0] (I t1)]) (by kernel_rfl) ⟨(loopF_to R_drive_Track_2_L1 h9), (nef h8), ((c_drive_first h7).le (.cons (.full _ _ _) (.nil)) (.refl _)), (c_drive_within h6), (c_drive_within h5), (c_drive_Track_c1_4 h4), (c_drive_Track_c1_4 h3), (c_drive_Track_c1_4 h2), (c_drive_Track_c1_4 h1), trivial⟩
  · replace h := ite_f h h8
    replace h := Option.some.inj h
    subst h
    exact (run (n := 100) (f := 32) (args := [.agg [I a0, I a1], .agg [I a2, I a3], .agg [I a4, I a5]]) (orc := [.ret (I t1), .ret (I t2), .ret (I t3), .ret (I t4), .ret (I t5), .ret (I t6), .ret (I t7), .br true]) (r := .tup [.lst true 0 [], I t7]) (ob := [(t7 != 0) = true, Computes cx 84 [.lst true 1 [I t1, I t2, I t3, I t4, I t5, I t6]] (I t7), Computes cx 89 [I a5, I 1, I 100] (I t6), Computes cx 89 [I a4, I 1, I 100] (I t5), Computes cx 91 [I a3] (I t4), Computes cx 91 [I a2] (I t3), Computes cx 91 [I a1] (I t2), Computes cx 91 [I a0] (I t1)]) (by kernel_rfl) ⟨(net h8), ((c_drive_first h7).le (.cons (.full _ _ _) (.nil)) (.refl _)), (c_drive_within h6), (c_drive_within h5), (c_drive_Track_c1_4 h4), (c_drive_Track_c1_4 h3), (c_drive_Track_c1_4 h2), (c_drive_Track_c1_4 h1), trivial⟩).le (LEs.refl _) (.tups (.cons (.lst _ _ _ _ _ nofun (.inl rfl)) (.cons (.refl _) (.nil))))
/- math/bits.Len64: .v (.int .u64 3) -/
def F_math_bits_Len64 (n : Nat)  : Option (Int) :=
  some 2
theorem c_math_bits_Len64 {n : Nat}  {r : Int} (h : F_math_bits_Len64 n  = some r) : Computes cx 159 [.v (.int .u64 3)] (I r) := by
  unfold F_math_bits_Len64 at h
  replace h := Option.some.inj h
  subst h
  exact run (n := 100) (f := 159) (args := [.v (.int .u64 3)]) (orc := [.no, .no, .no, .no]) (r := I 2) (ob := [inI64 2]) (by kernel_rfl) ⟨(by unfold inI64; omega), trivial⟩
/- math/bits.Len: .v (.int .u64 3) -/
def F_math_bits_Len (n : Nat)  : Option (Int) :=
  (F_math_bits_Len64 n).bind fun t1 =>
  some t1
theorem c_math_bits_Len {n : Nat}  {r : Int} (h : F_math_bits_Len n  = some r) : Computes cx 129 [.v (.int .u64 3)] (I r) := by
  unfold F_math_bits_Len at h
  obtain ⟨t1, h1, h⟩ := bnd_of h
  replace h := Option.some.inj h
  subst h
  exact run (n := 100) (f := 129) (args := [.v (.int .u64 3)]) (orc := [.no, .ret (I t1)]) (r := I t1) (ob := [Computes cx 159 [.v (.int .u64 3)] (I t1)]) (by kernel_rfl) ⟨(c_math_bits_Len64 h1), trivial⟩
/- spillage/drive.Voted$1: .agg [I a0, I a1], .agg [I a2, I a3] -/
def F_drive_Voted_c1_4 (n : Nat) (a0 : Int) (a1 : Int) (a2 : Int) (a3 : Int) : Option (Int) :=
  if inI64 (a0 - a2) then
  some (a0 - a2)
  else none
theorem c_drive_Voted_c1_4 {n : Nat} {a0 : Int} {a1 : Int} {a2 : Int} {a3 : Int} {r : Int} (h : F_drive_Voted_c1_4 n a0 a1 a2 a3 = some r) : Computes cx 103 [.agg [I a0, I a1], .agg [I a2, I a3]] (I r) := by
  unfold F_drive_Voted_c1_4 at h
  obtain ⟨h1, h⟩ := grd_of h
  replace h := Option.some.inj h
  subst h
  exact run (n := 100) (f := 103) (args := [.agg [I a0, I a1], .agg [I a2, I a3]]) (orc := []) (r := I (a0 - a2)) (ob := [inI64 (a0 - a2)]) (by kernel_rfl) ⟨h1, trivial⟩
theorem e_drive_Voted_2_0 (a0 : Int) (a1 : Int) (a2 : Int) (a3 : Int) (t1 : Int) (t3 : Int) (t5 : Int) (t7 : Int) (t9 : Int) (t10 : Int) (t12 : Int) (t14 : Int) : runFn true 100 cx 63 [.agg [I a0, I a1, I a2], I a3] [.no, .no, .ret (I t1), .br false, .no, .no, .no, .no, .ret (I t3), .br false, .no, .no, .no, .ret (I t5), .br false, .no, .no, .no, .ret (I t7), .br false, .br true, .ret (I t9), .br true, .no, .no, .br true, .no, .no, .no, .no, .no, .no, .no, .no, .ret (I t10), .br true, .no, .no, .no, .no, .no, .no, .no, .no, .no, .no, .no, .no, .no, .no, .no, .no, .no, .no, .no, .ret (I t12), .br true, .no, .no, .no, .no, .no, .no, .no, .no, .no, .no, .no, .no, .no, .no, .ret (I t14), .br true, .no, .no, .no, .no, .no, .no, .no, .no, .no, .no, .no, .no, .no, .no, .no, .no, .no, .no, .no, .no, .no, .br true, .br true, .no, .no] = some (.tup [I a1, I (-1), I 0], [(decide ((a0 - a1) ≤ a3)) = true, (decide ((a1 - a2) ≤ a3)) = true, inI64 (a0 - a1), inI64 (a1 - a2), inI64 3, inI64 0, inI64 0, inI64 0, (decide (t14 < 0)) = true, Computes cx 103 [.agg [I a2, I 2], .agg [I a1, I 1]] (I t14), inI64 0, inI64 1, inI64 1, inI64 1, (decide (t12 < 0)) = true, Computes cx 103 [.agg [I a2, I 2], .agg [I a0, I 0]] (I t12), inI64 1, inI64 2, inI64 0, inI64 0, inI64 0, (decide (t10 < 0)) = true, Computes cx 103 [.agg [I a1, I 1], .agg [I a0, I 0]] (I t10), inI64 0, inI64 1, inI64 3, Computes cx 129 [.v (.int .u64 3)] (I t9), (t7 != 0) = false, Computes cx 89 [I a3, I 0, I 1000] (I t7), inI64 3, (t5 != 0) = false, Computes cx 89 [I a2, I (-1000), I 1000] (I t5), inI64 2, (t3 != 0) = false, Computes cx 89 [I a1, I (-1000), I 1000] (I t3), inI64 1, (t1 != 0) = false, Computes cx 89 [I a0, I (-1000), I 1000] (I t1)]) := by kernel_rfl
theorem e_drive_Voted_2_1 (a0 : Int) (a1 : Int) (a2 : Int) (a3 : Int) (t1 : Int) (t3 : Int) (t5 : Int) (t7 : Int) (t9 : Int) (t10 : Int) (t12 : Int) (t14 : Int) : runFn true 100 cx 63 [.agg [I a0, I a1, I a2], I a3] [.no, .no, .ret (I t1), .br false, .no, .no, .no, .no, .ret (I t3), .br false, .no, .no, .no, .ret (I t5), .br false, .no, .no, .no, .ret (I t7), .br false, .br true, .ret (I t9), .br true, .no, .no, .br true, .no, .no, .no, .no, .no, .no, .no, .no, .ret (I t10), .br true, .no, .no, .no, .no, .no, .no, .no, .no, .no, .no, .no, .no, .no, .no, .no, .no, .no, .no, .no, .ret (I t12), .br true, .no, .no, .no, .no, .no, .no, .no, .no, .no, .no, .no, .no, .no, .no, .ret (I t14), .br true, .no, .no, .no, .no, .no, .no, .no, .no, .no, .no, .no, .no, .no, .no, .no, .no, .no, .no, .no, .no, .no, .br true, .br false, .br true, .no, .no, .no, .no] = some (.tup [I a1, I 0, I 0], [(decide ((a1 - a2) ≤ a3)) = true, (decide ((a0 - a1) ≤ a3)) = false, (decide ((a1 - a2) ≤ a3)) = true, inI64 (a0 - a1), inI64 (a1 - a2), inI64 3, inI64 0, inI64 0, inI64 0, (decide (t14 < 0)) = true, Computes cx 103 [.agg [I a2, I 2], .agg [I a1, I 1]] (I t14), inI64 0, inI64 1, inI64 1, inI64 1, (decide (t12 < 0)) = true, Computes cx 103 [.agg [I a2, I 2], .agg [I a0, I 0]] (I t12), inI64 1, inI64 2, inI64 0, inI64 0, inI64 0, (decide (t10 < 0)) = true, Computes cx 103 [.agg [I a1, I 1], .agg [I a0, I 0]] (I t10), inI64 0, inI64 1, inI64 3, Computes cx 129 [.v (.int .u64 3)] (I t9), (t7 != 0) = false, Computes cx 89 [I a3, I 0, I 1000] (I t7), inI64 3, (t5 != 0) = false, Computes cx 89 [I a2, I (-1000), I 1000] (I t5), inI64 2, (t3 != 0) = false, Computes cx 89 [I a1, I (-1000), I 1000] (I t3), inI64 1, (t1 != 0) = false, Computes cx 89 [I a0, I (-1000), I 1000] (I t1)]) := by kernel_rfl
theorem e_drive_Voted_2_2 (a0 : Int) (a1 : Int) (a2 : Int) (a3 : Int) (t1 : Int) (t3 : Int) (t5 : Int) (t7 : Int) (t9 : Int) (t10 : Int) (t12 : Int) (t14 : Int) : runFn true 100 cx 63 [.agg [I a0, I a1, I a2], I a3] [.no, .no, .ret (I t1), .br false, .no, .no, .no, .no, .ret (I t3), .br false, .no, .no, .no, .ret (I t5), .br false, .no, .no, .no, .ret (I t7), .br false, .br true, .ret (I t9), .br true, .no, .no, .br true, .no, .no, .no, .no, .no, .no, .no, .no, .ret (I t10), .br true, .no, .no, .no, .no, .no, .no, .no, .no, .no, .no, .no, .no, .no, .no, .no, .no, .no, .no, .no, .ret (I t12), .br true, .no, .no, .no, .no, .no, .no, .no, .no, .no, .no, .no, .no, .no, .no, .ret (I t14), .br true, .no, .no, .no, .no, .no, .no, .no, .no, .no, .no, .no, .no, .no, .no, .no, .no, .no, .no, .no, .no, .no, .br false, .no, .br false, .br true, .no, .no, .no, .no] = some (.tup [I a1, I 2, I 0], [(decide ((a0 - a1) ≤ a3)) = true, (decide ((a1 - a2) ≤ a3)) = false, (decide ((a1 - a2) ≤ a3)) = false, inI64 (a0 - a1), inI64 (a1 - a2), inI64 3, inI64 0, inI64 0, inI64 0, (decide (t14 < 0)) = true, Computes cx 103 [.agg [I a2, I 2], .agg [I a1, I 1]] (I t14), inI64 0, inI64 1, inI64 1, inI64 1, (decide (t12 < 0)) = true, Computes cx 103 [.agg [I a2, I 2], .agg [I a0, I 0]] (I t12), inI64 1, inI64 2, inI64 0, inI64 0, inI64 0, (decide (t10 < 0)) = true, Computes cx 103 [.agg [I a1, I 1], .agg [I a0, I 0]] (I t10), inI64 0, inI64 1, inI64 3, Computes cx 129 [.v (.int .u64 3)] (I t9), (t7 != 0) = false, Computes cx 89 [I a3, I 0, I 1000] (I t7), inI64 3, (t5 != 0) = false, Computes cx 89 [I a2, I (-1000), I 1000] (I t5), inI64 2, (t3 != 0) = false, Computes cx 89 [I a1, I (-1000), I 1000] (I t3), inI64 1, (t1 != 0) = false, Computes cx 89 [I a0, I (-1000), I 1000] (I t1)]) := by kernel_rfl
theorem e_drive_Voted_2_3 (a0 : Int) (a1 : Int) (a2 : Int) (a3 : Int) (t1 : Int) (t3 : Int) (t5 : Int) (t7 : Int) (t9 : Int) (t10 : Int) (t12 : Int) (t14 : Int) : runFn true 100 cx 63 [.agg [I a0, I a1, I a2], I a3] [.no, .no, .ret (I t1), .br false, .no, .no, .no, .no, .ret (I t3), .br false, .no, .no, .no, .ret (I t5), .br false, .no, .no, .no, .ret (I t7), .br false, .br true, .ret (I t9), .br true, .no, .no, .br true, .no, .no, .no, .no, .no, .no, .no, .no, .ret (I t10), .br true, .no, .no, .no, .no, .no, .no, .no, .no, .no, .no, .no, .no, .no, .no, .no, .no, .no, .no, .no, .ret (I t12), .br true, .no, .no, .no, .no, .no, .no, .no, .no, .no, .no, .no, .no, .no, .no, .ret (I t14), .br true, .no, .no, .no, .no, .no, .no, .no, .no, .no, .no, .no, .no, .no, .no, .no, .no, .no, .no, .no, .no, .no, .br false, .no, .br false, .br false] = some (.tup [I 0, I 0, I 7], [(decide ((a0 - a1) ≤ a3)) = false, (decide ((a1 - a2) ≤ a3)) = false, (decide ((a1 - a2) ≤ a3)) = false, inI64 (a0 - a1), inI64 (a1 - a2), inI64 3, inI64 0, inI64 0, inI64 0, (decide (t14 < 0)) = true, Computes cx 103 [.agg [I a2, I 2], .agg [I a1, I 1]] (I t14), inI64 0, inI64 1, inI64 1, inI64 1, (decide (t12 < 0)) = true, Computes cx 103 [.agg [I a2, I 2], .agg [I a0, I 0]] (I t12), inI64 1, inI64 2, inI64 0, inI64 0, inI64 0, (decide (t10 < 0)) = true, Computes cx 103 [.agg [I a1, I 1], .agg [I a0, I 0]] (I t10), inI64 0, inI64 1, inI64 3, Computes cx 129 [.v (.int .u64 3)] (I t9), (t7 != 0) = false, Computes cx 89 [I a3, I 0, I 1000] (I t7), inI64 3, (t5 != 0) = false, Computes cx 89 [I a2, I (-1000), I 1000] (I t5), inI64 2, (t3 != 0) = false, Computes cx 89 [I a1, I (-1000), I 1000] (I t3), inI64 1, (t1 != 0) = false, Computes cx 89 [I a0, I (-1000), I 1000] (I t1)]) := by kernel_rfl
theorem e_drive_Voted_2_4 (a0 : Int) (a1 : Int) (a2 : Int) (a3 : Int) (t1 : Int) (t3 : Int) (t5 : Int) (t7 : Int) (t9 : Int) (t10 : Int) (t12 : Int) (t14 : Int) : runFn true 100 cx 63 [.agg [I a0, I a1, I a2], I a3] [.no, .no, .ret (I t1), .br false, .no, .no, .no, .no, .ret (I t3), .br false, .no, .no, .no, .ret (I t5), .br false, .no, .no, .no, .ret (I t7), .br false, .br true, .ret (I t9), .br true, .no, .no, .br true, .no, .no, .no, .no, .no, .no, .no, .no, .ret (I t10), .br true, .no, .no, .no, .no, .no, .no, .no, .no, .no, .no, .no, .no, .no, .no, .no, .no, .no, .no, .no, .ret (I t12), .br true, .no, .no, .no, .no, .no, .no, .no, .no, .no, .no, .no, .no, .no, .no, .ret (I t14), .br false, .no, .no, .no, .no, .no, .no, .no, .no, .no, .no, .br true, .br true, .no, .no] = some (.tup [I a2, I (-1), I 0], [(decide ((a0 - a2) ≤ a3)) = true, (decide ((a2 - a1) ≤ a3)) = true, inI64 (a0 - a2), inI64 (a2 - a1), inI64 3, (decide (t14 < 0)) = false, Computes cx 103 [.agg [I a2, I 2], .agg [I a1, I 1]] (I t14), inI64 0, inI64 1, inI64 1, inI64 1, (decide (t12 < 0)) = true, Computes cx 103 [.agg [I a2, I 2], .agg [I a0, I 0]] (I t12), inI64 1, inI64 2, inI64 0, inI64 0, inI64 0, (decide (t10 < 0)) = true, Computes cx 103 [.agg [I a1, I 1], .agg [I a0, I 0]] (I t10), inI64 0, inI64 1, inI64 3, Computes cx 129 [.v (.int .u64 3)] (I t9), (t7 != 0) = false, Computes cx 89 [I a3, I 0, I 1000] (I t7), inI64 3, (t5 != 0) = false, Computes cx 89 [I a2, I (-1000), I 1000] (I t5), inI64 2, (t3 != 0) = false, Computes cx 89 [I a1, I (-1000), I 1000] (I t3), inI64 1, (t1 != 0) = false, Computes cx 89 [I a0, I (-1000), I 1000] (I t1)]) := by kernel_rfl
theorem e_drive_Voted_2_5 (a0 : Int) (a1 : Int) (a2 : Int) (a3 : Int) (t1 : Int) (t3 : Int) (t5 : Int) (t7 : Int) (t9 : Int) (t10 : Int) (t12 : Int) (t14 : Int) : runFn true 100 cx 63 [.agg [I a0, I a1, I a2], I a3] [.no, .no, .ret (I t1), .br false, .no, .no, .no, .no, .ret (I t3), .br false, .no, .no, .no, .ret (I t5), .br false, .no, .no, .no, .ret (I t7), .br false, .br true, .ret (I t9), .br true, .no, .no, .br true, .no, .no, .no, .no, .no, .no, .no, .no, .ret (I t10), .br true, .no, .no, .no, .no, .no, .no, .no, .no, .no, .no, .no, .no, .no, .no, .no, .no, .no, .no, .no, .ret (I t12), .br true, .no, .no, .no, .no, .no, .no, .no, .no, .no, .no, .no, .no, .no, .no, .ret (I t14), .br false, .no, .no, .no, .no, .no, .no, .no, .no, .no, .no, .br true, .br false, .br true, .no, .no, .no, .no] = some (.tup [I a2, I 0, I 0], [(decide ((a2 - a1) ≤ a3)) = true, (decide ((a0 - a2) ≤ a3)) = false, (decide ((a2 - a1) ≤ a3)) = true, inI64 (a0 - a2), inI64 (a2 - a1), inI64 3, (decide (t14 < 0)) = false, Computes cx 103 [.agg [I a2, I 2], .agg [I a1, I 1]] (I t14), inI64 0, inI64 1, inI64 1, inI64 1, (decide (t12 < 0)) = true, Computes cx 103 [.agg [I a2, I 2], .agg [I a0, I 0]] (I t12), inI64 1, inI64 2, inI64 0, inI64 0, inI64 0, (decide (t10 < 0)) = true, Computes cx 103 [.agg [I a1, I 1], .agg [I a0, I 0]] (I t10), inI64 0, inI64 1, inI64 3, Computes cx 129 [.v (.int .u64 3)] (I t9), (t7 != 0) = false, Computes cx 89 [I a3, I 0, I 1000] (I t7), inI64 3, (t5 != 0) = false, Computes cx 89 [I a2, I (-1000), I 1000] (I t5), inI64 2, (t3 != 0) = false, Computes cx 89 [I a1, I (-1000), I 1000] (I t3), inI64 1, (t1 != 0) = false, Computes cx 89 [I a0, I (-1000), I 1000] (I t1)]) := by kernel_rfl
theorem e_drive_Voted_2_6 (a0 : Int) (a1 : Int) (a2 : Int) (a3 : Int) (t1 : Int) (t3 : Int) (t5 : Int) (t7 : Int) (t9 : Int) (t10 : Int) (t12 : Int) (t14 : Int) : runFn true 100 cx 63 [.agg [I a0, I a1, I a2], I a3] [.no, .no, .ret (I t1), .br false, .no, .no, .no, .no, .ret (I t3), .br false, .no, .no, .no, .ret (I t5), .br false, .no, .no, .no, .ret (I t7), .br false, .br true, .ret (I t9), .br true, .no, .no, .br true, .no, .no, .no, .no, .no, .no, .no, .no, .ret (I t10), .br true, .no, .no, .no, .no, .no, .no, .no, .no, .no, .no, .no, .no, .no, .no, .no, .no, .no, .no, .no, .ret (I t12), .br true, .no, .no, .no, .no, .no, .no, .no, .no, .no, .no, .no, .no, .no, .no, .ret (I t14), .br false, .no, .no, .no, .no, .no, .no, .no, .no, .no, .no, .br false, .no, .br false, .br true, .no, .no, .no, .no] = some (.tup [I a2, I 1, I 0], [(decide ((a0 - a2) ≤ a3)) = true, (decide ((a2 - a1) ≤ a3)) = false, (decide ((a2 - a1) ≤ a3)) = false, inI64 (a0 - a2), inI64 (a2 - a1), inI64 3, (decide (t14 < 0)) = false, Computes cx 103 [.agg [I a2, I 2], .agg [I a1, I 1]] (I t14), inI64 0, inI64 1, inI64 1, inI64 1, (decide (t12 < 0)) = true, Computes cx 103 [.agg [I a2, I 2], .agg [I a0, I 0]] (I t12), inI64 1, inI64 2, inI64 0, inI64 0, inI64 0, (decide (t10 < 0)) = true, Computes cx 103 [.agg [I a1, I 1], .agg [I a0, I 0]] (I t10), inI64 0, inI64 1, inI64 3, Computes cx 129 [.v (.int .u64 3)] (I t9), (t7 != 0) = false, Computes cx 89 [I a3, I 0, I 1000] (I t7), inI64 3, (t5 != 0) = false, Computes cx 89 [I a2, I (-1000), I 1000] (I t5), inI64 2, (t3 != 0) = false, Computes cx 89 [I a1, I (-1000), I 1000] (I t3), inI64 1, (t1 != 0) = false, Computes cx 89 [I a0, I (-1000), I 1000] (I t1)]) := by kernel_rfl
theorem e_drive_Voted_2_7 (a0 : Int) (a1 : Int) (a2 : Int) (a3 : Int) (t1 : Int) (t3 : Int) (t5 : Int) (t7 : Int) (t9 : Int) (t10 : Int) (t12 : Int) (t14 : Int) : runFn true 100 cx 63 [.agg [I a0, I a1, I a2], I a3] [.no, .no, .ret (I t1), .br false, .no, .no, .no, .no, .ret (I t3), .br false, .no, .no, .no, .ret (I t5), .br false, .no, .no, .no, .ret (I t7), .br false, .br true, .ret (I t9), .br true, .no, .no, .br true, .no, .no, .no, .no, .no, .no, .no, .no, .ret (I t10), .br true, .no, .no, .no, .no, .no, .no, .no, .no, .no, .no, .no, .no, .no, .no, .no, .no, .no, .no, .no, .ret (I t12), .br true, .no, .no, .no, .no, .no, .no, .no, .no, .no, .no, .no, .no, .no, .no, .ret (I t14), .br false, .no, .no, .no, .no, .no, .no, .no, .no, .no, .no, .br false, .no, .br false, .br false] = some (.tup [I 0, I 0, I 7], [(decide ((a0 - a2) ≤ a3)) = false, (decide ((a2 - a1) ≤ a3)) = false, (decide ((a2 - a1) ≤ a3)) = false, inI64 (a0 - a2), inI64 (a2 - a1), inI64 3, (decide (t14 < 0)) = false, Computes cx 103 [.agg [I a2, I 2], .agg [I a1, I 1]] (I t14), inI64 0, inI64 1, inI64 1, inI64 1, (decide (t12 < 0)) = true, Computes cx 103 [.agg [I a2, I 2], .agg [I a0, I 0]] (I t12), inI64 1, inI64 2, inI64 0, inI64 0, inI64 0, (decide (t10 < 0)) = true, Computes cx 103 [.agg [I a1, I 1], .agg [I a0, I 0]] (I t10), inI64 0, inI64 1, inI64 3, Computes cx 129 [.v (.int .u64 3)] (I t9), (t7 != 0) = false, Computes cx 89 [I a3, I 0, I 1000] (I t7), inI64 3, (t5 != 0) = false, Computes cx 89 [I a2, I (-1000), I 1000] (I t5), inI64 2, (t3 != 0) = false, Computes cx 89 [I a1, I (-1000), I 1000] (I t3), inI64 1, (t1 != 0) = false, Computes cx 89 [I a0, I (-1000), I 1000] (I t1)]) := by kernel_rfl
theorem e_drive_Voted_2_8 (a0 : Int) (a1 : Int) (a2 : Int) (a3 : Int) (t1 : Int) (t3 : Int) (t5 : Int) (t7 : Int) (t9 : Int) (t10 : Int) (t12 : Int) : runFn true 100 cx 63 [.agg [I a0, I a1, I a2], I a3] [.no, .no, .ret (I t1), .br false, .no, .no, .no, .no, .ret (I t3), .br false, .no, .no, .no, .ret (I t5), .br false, .no, .no, .no, .ret (I t7), .br false, .br true, .ret (I t9), .br true, .no, .no, .br true, .no, .no, .no, .no, .no, .no, .no, .no, .ret (I t10), .br true, .no, .no, .no, .no, .no, .no, .no, .no, .no, .no, .no, .no, .no, .no, .no, .no, .no, .no, .no, .ret (I t12), .br false, .no, .no, .no, .no, .no, .no, .no, .no, .no, .no, .br true, .br true, .no, .no] = some (.tup [I a0, I (-1), I 0], [(decide ((a2 - a0) ≤ a3)) = true, (decide ((a0 - a1) ≤ a3)) = true, inI64 (a2 - a0), inI64 (a0 - a1), inI64 3, (decide (t12 < 0)) = false, Computes cx 103 [.agg [I a2, I 2], .agg [I a0, I 0]] (I t12), inI64 1, inI64 2, inI64 0, inI64 0, inI64 0, (decide (t10 < 0)) = true, Computes cx 103 [.agg [I a1, I 1], .agg [I a0, I 0]] (I t10), inI64 0, inI64 1, inI64 3, Computes cx 129 [.v (.int .u64 3)] (I t9), (t7 != 0) = false, Computes cx 89 [I a3, I 0, I 1000] (I t7), inI64 3, (t5 != 0) = false, Computes cx 89 [I a2, I (-1000), I 1000] (I t5), inI64 2, (t3 != 0) = false, Computes cx 89 [I a1, I (-1000), I 1000] (I t3), inI64 1, (t1 != 0) = false, Computes cx 89 [I a0, I (-1000), I 1000] (I t1)]) := by kernel_rfl
theorem e_drive_Voted_2_9 (a0 : Int) (a1 : Int) (a2 : Int) (a3 : Int) (t1 : Int) (t3 : Int) (t5 : Int) (t7 : Int) (t9 : Int) (t10 : Int) (t12 : Int) : runFn true 100 cx 63 [.agg [I a0, I a1, I a2], I a3] [.no, .no, .ret (I t1), .br false, .no, .no, .no, .no, .ret (I t3), .br false, .no, .no, .no, .ret (I t5), .br false, .no, .no, .no, .ret (I t7), .br false, .br true, .ret (I t9), .br true, .no, .no, .br true, .no, .no, .no, .no, .no, .no, .no, .no, .ret (I t10), .br true, .no, .no, .no, .no, .no, .no, .no, .no, .no, .no, .no, .no, .no, .no, .no, .no, .no, .no, .no, .ret (I t12), .br false, .no, .no, .no, .no, .no, .no, .no, .no, .no, .no, .br true, .br false, .br true, .no, .no, .no, .no] = some (.tup [I a0, I 2, I 0], [(decide ((a0 - a1) ≤ a3)) = true, (decide ((a2 - a0) ≤ a3)) = false, (decide ((a0 - a1) ≤ a3)) = true, inI64 (a2 - a0), inI64 (a0 - a1), inI64 3, (decide (t12 < 0)) = false, Computes cx 103 [.agg [I a2, I 2], .agg [I a0, I 0]] (I t12), inI64 1, inI64 2, inI64 0, inI64 0, inI64 0, (decide (t10 < 0)) = true, Computes cx 103 [.agg [I a1, I 1], .agg [I a0, I 0]] (I t10), inI64 0, inI64 1, inI64 3, Computes cx 129 [.v (.int .u64 3)] (I t9), (t7 != 0) = false, Computes cx 89 [I a3, I 0, I 1000] (I t7), inI64 3, (t5 != 0) = false, Computes cx 89 [I a2, I (-1000), I 1000] (I t5), inI64 2, (t3 != 0) = false, Computes cx 89 [I a1, I (-1000), I 1000] (I t3), inI64 1, (t1 != 0) = false, Computes cx 89 [I a0, I (-1000), I 1000] (I t1)]) := by kernel_rfl
theorem e_drive_Voted_2_10 (a0 : Int) (a1 : Int) (a2 : Int) (a3 : Int) (t1 : Int) (t3 : Int) (t5 : Int) (t7 : Int) (t9 : Int) (t10 : Int) (t12 : Int) : runFn true 100 cx 63 [.agg [I a0, I a1, I a2], I a3] [.no, .no, .ret (I t1), .br false, .no, .no, .no, .no, .ret (I t3), .br false, .no, .no, .no, .ret (I t5), .br false, .no, .no, .no, .ret (I t7), .br false, .br true, .ret (I t9), .br true, .no, .no, .br true, .no, .no, .no, .no, .no, .no, .no, .no, .ret (I t10), .br true, .no, .no, .no, .no, .no, .no, .no, .no, .no, .no, .no, .no, .no, .no, .no, .no, .no, .no, .no, .ret (I t12), .br false, .no, .no, .no, .no, .no, .no, .no, .no, .no, .no, .br false, .no, .br false, .br true, .no, .no, .no, .no] = some (.tup [I a0, I 1, I 0], [(decide ((a2 - a0) ≤ a3)) = true, (decide ((a0 - a1) ≤ a3)) = false, (decide ((a0 - a1) ≤ a3)) = false, inI64 (a2 - a0), inI64 (a0 - a1), inI64 3, (decide (t12 < 0)) = false, Computes cx 103 [.agg [I a2, I 2], .agg [I a0, I 0]] (I t12), inI64 1, inI64 2, inI64 0, inI64 0, inI64 0, (decide (t10 < 0)) = true, Computes cx 103 [.agg [I a1, I 1], .agg [I a0, I 0]] (I t10), inI64 0, inI64 1, inI64 3, Computes cx 129 [.v (.int .u64 3)] (I t9), (t7 != 0) = false, Computes cx 89 [I a3, I 0, I 1000] (I t7), inI64 3, (t5 != 0) = false, Computes cx 89 [I a2, I (-1000), I 1000] (I t5), inI64 2, (t3 != 0) = false, Computes cx 89 [I a1, I (-1000), I 1000] (I t3), inI64 1, (t1 != 0) = false, Computes cx 89 [I a0, I (-1000), I 1000] (I t1)]) := by kernel_rfl
theorem e_drive_Voted_2_11 (a0 : Int) (a1 : Int) (a2 : Int) (a3 : Int) (t1 : Int) (t3 : Int) (t5 : Int) (t7 : Int) (t9 : Int) (t10 : Int) (t12 : Int) : runFn true 100 cx 63 [.agg [I a0, I a1, I a2], I a3] [.no, .no, .ret (I t1), .br false, .no, .no, .no, .no, .ret (I t3), .br false, .no, .no, .no, .ret (I t5), .br false, .no, .no, .no, .ret (I t7), .br false, .br true, .ret (I t9), .br true, .no, .no, .br true, .no, .no, .no, .no, .no, .no, .no, .no, .ret (I t10), .br true, .no, .no, .no, .no, .no, .no, .no, .no, .no, .no, .no, .no, .no, .no, .no, .no, .no, .no, .no, .ret (I t12), .br false, .no, .no, .no, .no, .no, .no, .no, .no, .no, .no, .br false, .no, .br false, .br false] = some (.tup [I 0, I 0, I 7], [(decide ((a2 - a0) ≤ a3)) = false, (decide ((a0 - a1) ≤ a3)) = false, (decide ((a0 - a1) ≤ a3)) = false, inI64 (a2 - a0), inI64 (a0 - a1), inI64 3, (decide (t12 < 0)) = false, Computes cx 103 [.agg [I a2, I 2], .agg [I a0, I 0]] (I t12), inI64 1, inI64 2, inI64 0, inI64 0, inI64 0, (decide (t10 < 0)) = true, Computes cx 103 [.agg [I a1, I 1], .agg [I a0, I 0]] (I t10), inI64 0, inI64 1, inI64 3, Computes cx 129 [.v (.int .u64 3)] (I t9), (t7 != 0) = false, Computes cx 89 [I a3, I 0, I 1000] (I t7), inI64 3, (t5 != 0) = false, Computes cx 89 [I a2, I (-1000), I 1000] (I t5), inI64 2, (t3 != 0) = false, Computes cx 89 [I a1, I (-1000), I 1000] (I t3), inI64 1, (t1 != 0) = false, Computes cx 89 [I a0, I (-1000), I 1000] (I t1)]) := by kernel_rfl
end Go.Proofs.YtmgbmngmmpeaaaaGreatDoor
