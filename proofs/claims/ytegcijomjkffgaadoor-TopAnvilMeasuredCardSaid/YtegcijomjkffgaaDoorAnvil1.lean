/-
  Printed by gsx.py: functions of the program as Lean functions, and that the code computes them.
-/
import Derived.Test.YtegcijomjkffgaaDoorGen2
set_option linter.unusedVariables false
set_option linter.unusedSimpArgs false
set_option linter.unnecessarySimpa false
set_option maxRecDepth 10000
namespace Go.Proofs.YtegcijomjkffgaaDoor
open Go.SX
/- spillage/spillageref01.When: B true, I 3 -/
def F_ref01_When (n : Nat)  : Option (Int) :=
  some 3
theorem c_ref01_When {n : Nat}  {r : Int} (h : F_ref01_When n  = some r) : Computes cx 18 [B true, I 3] (I r) := by
  unfold F_ref01_When at h
  replace h := Option.some.inj h
  subst h
  exact run (n := 100) (f := 18) (args := [B true, I 3]) (orc := [.no]) (r := I 3) (ob := []) (by kernel_rfl) trivial
/- spillage/spillageref01.When: B a0, I a1 -/
def F_ref01_When_2 (n : Nat) (a0 : Bool) (a1 : Int) : Option (Int) :=
  if a0 = true then
    some a1
  else
  some 0
theorem c_ref01_When_2 {n : Nat} {a0 : Bool} {a1 : Int} {r : Int} (h : F_ref01_When_2 n a0 a1 = some r) : Computes cx 18 [B a0, I a1] (I r) := by
  unfold F_ref01_When_2 at h
  by_cases h1 : a0 = true
  · replace h := ite_t h h1
    replace h := Option.some.inj h
    subst h
    exact run (n := 100) (f := 18) (args := [B a0, I a1]) (orc := [.br true]) (r := I a1) (ob := [a0 = true]) (by kernel_rfl) ⟨h1, trivial⟩
  · replace h := ite_f h h1
    replace h := Option.some.inj h
    subst h
    exact run (n := 100) (f := 18) (args := [B a0, I a1]) (orc := [.br false]) (r := I 0) (ob := [a0 = false]) (by kernel_rfl) ⟨(bfalse h1), trivial⟩
/- spillage/spillageref01.CheckRange: I a0, I a1, I a2 -/
def F_ref01_CheckRange (n : Nat) (a0 : Int) (a1 : Int) (a2 : Int) : Option (Int) :=
  if a0 < a1 then
    (F_ref01_When n).bind fun t2 =>
    some t2
  else
  (F_ref01_When_2 n (decide (a0 > a2)) 3).bind fun t2 =>
  some t2
theorem c_ref01_CheckRange {n : Nat} {a0 : Int} {a1 : Int} {a2 : Int} {r : Int} (h : F_ref01_CheckRange n a0 a1 a2 = some r) : Computes cx 17 [I a0, I a1, I a2] (I r) := by
  unfold F_ref01_CheckRange at h
  by_cases h1 : a0 < a1
  · replace h := ite_t h h1
    obtain ⟨t2, h2, h⟩ := bnd_of h
    replace h := Option.some.inj h
    subst h
    exact run (n := 100) (f := 17) (args := [I a0, I a1, I a2]) (orc := [.br true, .ret (I t2)]) (r := I t2) (ob := [Computes cx 18 [B true, I 3] (I t2), (decide (a0 < a1)) = true]) (by kernel_rfl) ⟨(c_ref01_When h2), (decide_eq_true h1), trivial⟩
  · replace h := ite_f h h1
    obtain ⟨t2, h2, h⟩ := bnd_of h
    replace h := Option.some.inj h
    subst h
    exact run (n := 100) (f := 17) (args := [I a0, I a1, I a2]) (orc := [.br false, .ret (I t2)]) (r := I t2) (ob := [Computes cx 18 [B (decide (a0 > a2)), I 3] (I t2), (decide (a0 < a1)) = false]) (by kernel_rfl) ⟨(c_ref01_When_2 h2), (decide_eq_false h1), trivial⟩
def F_ref01_First_L1 (n : Nat) (a0 : List D) (sa : (Int)) : Option (((Int)) ⊕ ((Int) ⊕ (Unit))) :=
  if sa < ((a0).length : Int) then
    (el un_i a0 sa).bind fun ta2 =>
    if ta2 = 0 then
      if inI64 (sa + 1) then
      some (.inl (sa + 1))
      else none
    else
    some (.inr (.inl ta2))
  else
  some (.inr (.inr ()))
noncomputable def T_ref01_First_L1 (a0 : List D) (sa : (Int)) : List (Nat × AV) := [(0, .d (.lst false 1 a0)), (3, .d (I sa))]
noncomputable def H_ref01_First_L1 (a0 : List D) (sa : (Int)) : List (Nat × Blk) := []
noncomputable def X_ref01_First_L1 (a0 : List D) (e : (Int) ⊕ (Unit)) : Ex := match e with
  | (.inl e) => .ret
  | (.inr e) => (.exit 0)
noncomputable def XT_ref01_First_L1 (a0 : List D) (e : (Int) ⊕ (Unit)) : List (Nat × AV) := match e with
  | (.inl e) => [(2, .d (I e))]
  | (.inr e) => []
noncomputable def XH_ref01_First_L1 (a0 : List D) (e : (Int) ⊕ (Unit)) : List (Nat × Blk) := match e with
  | (.inl e) => []
  | (.inr e) => []
theorem R_ref01_First_L1 {n : Nat} {a0 : List D} (sa : (Int)) (r) (h : F_ref01_First_L1 n a0 sa = some r) : Rd cx (loopAt cx.P 15 0) 19 0 false (T_ref01_First_L1 a0) (H_ref01_First_L1 a0) (X_ref01_First_L1 a0) (XT_ref01_First_L1 a0) (XH_ref01_First_L1 a0) sa r := by
  unfold F_ref01_First_L1 at h
  by_cases ha1 : sa < ((a0).length : Int)
  · replace h := ite_t h ha1
    obtain ⟨ta2, ha2, h⟩ := bnd_of h
    by_cases ha3 : ta2 = 0
    · replace h := ite_t h ha3
      obtain ⟨ha4, h⟩ := grd_of h
      replace h := Option.some.inj h
      subst h
      exact ⟨100, 2, [.br true, .el (I ta2), .br false], [], [0, 3], [], round_of (ob := [inI64 (sa + 1), (ta2 != 0) = false, (0 : Int) ≤ sa, nth (a0) (Int.toNat sa) = some (I ta2), (decide (sa < ((a0).length : Int))) = true]) (by kernel_rfl) ⟨ha4, (nef ha3), (el_ok un_i_ok ha2).1, (el_ok un_i_ok ha2).2, (decide_eq_true ha1), trivial⟩⟩
    · replace h := ite_f h ha3
      replace h := Option.some.inj h
      subst h
      exact ⟨⟨100, 2, [.br true, .el (I ta2), .br true, .el (I ta2)], [], [2], [], round_of (ob := [(0 : Int) ≤ sa, nth (a0) (Int.toNat sa) = some (I ta2), (ta2 != 0) = true, (0 : Int) ≤ sa, nth (a0) (Int.toNat sa) = some (I ta2), (decide (sa < ((a0).length : Int))) = true]) (by kernel_rfl) ⟨(el_ok un_i_ok ha2).1, (el_ok un_i_ok ha2).2, (net ha3), (el_ok un_i_ok ha2).1, (el_ok un_i_ok ha2).2, (decide_eq_true ha1), trivial⟩⟩, nofun⟩
  · replace h := ite_f h ha1
    replace h := Option.some.inj h
    subst h
    exact ⟨⟨100, 2, [.br false], [], [], [], round_of (ob := [(decide (sa < ((a0).length : Int))) = false]) (by kernel_rfl) ⟨(decide_eq_false ha1), trivial⟩⟩, nofun⟩
/- spillage/spillageref01.First: .lst false 1 a0 -/
def F_ref01_First (n : Nat) (a0 : List D) : Option (Int) :=
  (loopF (F_ref01_First_L1 n a0) n 0).bind fun t1 => match t1 with
    | (.inl t1) => (
      some t1)
    | (.inr t1) => (
      some 0)
theorem c_ref01_First {n : Nat} {a0 : List D} {r : Int} (h : F_ref01_First n a0 = some r) : Computes cx 15 [.lst false 1 a0] (I r) := by
  unfold F_ref01_First at h
  obtain ⟨t1, h1, h⟩ := bnd_of h
  rcases t1 with t1 | t1
  · replace h := Option.some.inj h
    subst h
    exact run (n := 100) (f := 15) (args := [.lst false 1 a0]) (orc := [.lp [] [0, 3] [] .ret [(2, .d (I t1))] [] 27]) (r := I t1) (ob := [LoopN cx (loopAt cx.P 15 0) 19 0 false [(0, .d (.lst false 1 a0)), (3, .d (I 0))] [] .ret [(2, .d (I t1))] []]) (by kernel_rfl) ⟨(loopF_to R_ref01_First_L1 h1), trivial⟩
  · replace h := Option.some.inj h
    subst h
    exact run (n := 100) (f := 15) (args := [.lst false 1 a0]) (orc := [.lp [] [0, 3] [] (.exit 0) [] [] 27]) (r := I 0) (ob := [LoopN cx (loopAt cx.P 15 0) 19 0 false [(0, .d (.lst false 1 a0)), (3, .d (I 0))] [] (.exit 0) [] []]) (by kernel_rfl) ⟨(loopF_to R_ref01_First_L1 h1), trivial⟩
/- spillage/spillageref03.CheckAxis: .agg [I a0, I a1, I a2] -/
def F_ref03_CheckAxis (n : Nat) (a0 : Int) (a1 : Int) (a2 : Int) : Option (Int) :=
  (F_ref01_CheckRange n a0 (-1000) 1000).bind fun t1 =>
  (F_ref01_CheckRange n a1 (-1000) 1000).bind fun t2 =>
  (F_ref01_When_2 n (decide (a0 > a1)) 11).bind fun t3 =>
  (F_ref01_CheckRange n a2 0 50).bind fun t4 =>
  (F_ref01_First n ([I t1, I t2, I t3, I t4])).bind fun t5 =>
  some t5
theorem c_ref03_CheckAxis {n : Nat} {a0 : Int} {a1 : Int} {a2 : Int} {r : Int} (h : F_ref03_CheckAxis n a0 a1 a2 = some r) : Computes cx 16 [.agg [I a0, I a1, I a2]] (I r) := by
  unfold F_ref03_CheckAxis at h
  obtain ⟨t1, h1, h⟩ := bnd_of h
  obtain ⟨t2, h2, h⟩ := bnd_of h
  obtain ⟨t3, h3, h⟩ := bnd_of h
  obtain ⟨t4, h4, h⟩ := bnd_of h
  obtain ⟨t5, h5, h⟩ := bnd_of h
  replace h := Option.some.inj h
  subst h
  exact run (n := 100) (f := 16) (args := [.agg [I a0, I a1, I a2]]) (orc := [.ret (I t1), .ret (I t2), .ret (I t3), .ret (I t4), .ret (I t5)]) (r := I t5) (ob := [Computes cx 15 [.lst true 1 [I t1, I t2, I t3, I t4]] (I t5), Computes cx 17 [I a2, I 0, I 50] (I t4), Computes cx 18 [B (decide (a0 > a1)), I 11] (I t3), Computes cx 17 [I a1, I (-1000), I 1000] (I t2), Computes cx 17 [I a0, I (-1000), I 1000] (I t1)]) (by kernel_rfl) ⟨((c_ref01_First h5).le (.cons (.full _ _ _) (.nil)) (.refl _)), (c_ref01_CheckRange h4), (c_ref01_When_2 h3), (c_ref01_CheckRange h2), (c_ref01_CheckRange h1), trivial⟩
/- spillage/spillageref01.When: B true, I 24 -/
def F_ref01_When_3 (n : Nat)  : Option (Int) :=
  some 24
theorem c_ref01_When_3 {n : Nat}  {r : Int} (h : F_ref01_When_3 n  = some r) : Computes cx 18 [B true, I 24] (I r) := by
  unfold F_ref01_When_3 at h
  replace h := Option.some.inj h
  subst h
  exact run (n := 100) (f := 18) (args := [B true, I 24]) (orc := [.no]) (r := I 24) (ob := []) (by kernel_rfl) trivial
/- spillage/spillageref03.CheckState: .agg [I a0, I a1, I a2], .agg [I a3, I a4, I a5] -/
def F_ref03_CheckState (n : Nat) (a0 : Int) (a1 : Int) (a2 : Int) (a3 : Int) (a4 : Int) (a5 : Int) : Option (Int) :=
  (F_ref03_CheckAxis n a0 a1 a2).bind fun t1 =>
  (F_ref01_CheckRange n a3 a0 a1).bind fun t2 =>
  (F_ref01_When_2 n (decide (a4 > a5)) 11).bind fun t3 =>
  (F_ref01_First n ([I t1, I t2, I t3])).bind fun t4 =>
  if t4 = 0 then
    if inI64 (a3 - a2) then
    if a4 < (a3 - a2) then
      (F_ref01_When_3 n).bind fun t8 =>
      some t8
    else
    (F_ref01_When_2 n (decide (a5 > a3)) 24).bind fun t8 =>
    some t8
    else none
  else
  some t4
theorem c_ref03_CheckState {n : Nat} {a0 : Int} {a1 : Int} {a2 : Int} {a3 : Int} {a4 : Int} {a5 : Int} {r : Int} (h : F_ref03_CheckState n a0 a1 a2 a3 a4 a5 = some r) : Computes cx 4 [.agg [I a0, I a1, I a2], .agg [I a3, I a4, I a5]] (I r) := by
  unfold F_ref03_CheckState at h
  obtain ⟨t1, h1, h⟩ := bnd_of h
  obtain ⟨t2, h2, h⟩ := bnd_of h
  obtain ⟨t3, h3, h⟩ := bnd_of h
  obtain ⟨t4, h4, h⟩ := bnd_of h
  by_cases h5 : t4 = 0
  · replace h := ite_t h h5
    obtain ⟨h6, h⟩ := grd_of h
    by_cases h7 : a4 < (a3 - a2)
    · replace h := ite_t h h7
      obtain ⟨t8, h8, h⟩ := bnd_of h
      replace h := Option.some.inj h
      subst h
      exact run (n := 100) (f := 4) (args := [.agg [I a0, I a1, I a2], .agg [I a3, I a4, I a5]]) (orc := [.ret (I t1), .ret (I t2), .ret (I t3), .ret (I t4), .br false, .br true, .ret (I t8)]) (r := I t8) (ob := [Computes cx 18 [B true, I 24] (I t8), (decide (a4 < (a3 - a2))) = true, inI64 (a3 - a2), (t4 != 0) = false, Computes cx 15 [.lst true 1 [I t1, I t2, I t3]] (I t4), Computes cx 18 [B (decide (a4 > a5)), I 11] (I t3), Computes cx 17 [I a3, I a0, I a1] (I t2), Computes cx 16 [.agg [I a0, I a1, I a2]] (I t1)]) (by kernel_rfl) ⟨(c_ref01_When_3 h8), (decide_eq_true h7), h6, (nef h5), ((c_ref01_First h4).le (.cons (.full _ _ _) (.nil)) (.refl _)), (c_ref01_When_2 h3), (c_ref01_CheckRange h2), (c_ref03_CheckAxis h1), trivial⟩
    · replace h := ite_f h h7
      obtain ⟨t8, h8, h⟩ := bnd_of h
      replace h := Option.some.inj h
      subst h
      exact run (n := 100) (f := 4) (args := [.agg [I a0, I a1, I a2], .agg [I a3, I a4, I a5]]) (orc := [.ret (I t1), .ret (I t2), .ret (I t3), .ret (I t4), .br false, .br false, .ret (I t8)]) (r := I t8) (ob := [Computes cx 18 [B (decide (a5 > a3)), I 24] (I t8), (decide (a4 < (a3 - a2))) = false, inI64 (a3 - a2), (t4 != 0) = false, Computes cx 15 [.lst true 1 [I t1, I t2, I t3]] (I t4), Computes cx 18 [B (decide (a4 > a5)), I 11] (I t3), Computes cx 17 [I a3, I a0, I a1] (I t2), Computes cx 16 [.agg [I a0, I a1, I a2]] (I t1)]) (by kernel_rfl) ⟨(c_ref01_When_2 h8), (decide_eq_false h7), h6, (nef h5), ((c_ref01_First h4).le (.cons (.full _ _ _) (.nil)) (.refl _)), (c_ref01_When_2 h3), (c_ref01_CheckRange h2), (c_ref03_CheckAxis h1), trivial⟩
  · replace h := ite_f h h5
    replace h := Option.some.inj h
    subst h
    exact run (n := 100) (f := 4) (args := [.agg [I a0, I a1, I a2], .agg [I a3, I a4, I a5]]) (orc := [.ret (I t1), .ret (I t2), .ret (I t3), .ret (I t4), .br true]) (r := I t4) (ob := [(t4 != 0) = true, Computes cx 15 [.lst true 1 [I t1, I t2, I t3]] (I t4), Computes cx 18 [B (decide (a4 > a5)), I 11] (I t3), Computes cx 17 [I a3, I a0, I a1] (I t2), Computes cx 16 [.agg [I a0, I a1, I a2]] (I t1)]) (by kernel_rfl) ⟨(net h5), ((c_ref01_First h4).le (.cons (.full _ _ _) (.nil)) (.refl _)), (c_ref01_When_2 h3), (c_ref01_CheckRange h2), (c_ref03_CheckAxis h1), trivial⟩
def enc_Ai28iu8iu8Z (x : Int × Int × Int) : D := .agg [.v (.int .i8 x.1), .v (.int .u8 x.2.1), .v (.int .u8 x.2.2)]
def un_Ai28iu8iu8Z : D → Option (Int × Int × Int)
  | .agg [c0, c1, c2] => (un_int .i8 c0).bind fun y0 => (un_int .u8 c1).bind fun y1 => (un_int .u8 c2).bind fun y2 => some (y0, y1, y2)
  | _ => none
theorem un_Ai28iu8iu8Z_ok {d : D} {x : Int × Int × Int} (h : un_Ai28iu8iu8Z d = some x) : d = enc_Ai28iu8iu8Z x := by
  unfold un_Ai28iu8iu8Z at h
  split at h
  case h_2 => cases h
  obtain ⟨y0, h0, h⟩ := bnd_of h
  obtain ⟨y1, h1, h⟩ := bnd_of h
  obtain ⟨y2, h2, h⟩ := bnd_of h
  cases h
  have e0 := un_int_ok h0
  have e1 := un_int_ok h1
  have e2 := un_int_ok h2
  rw [e0, e1, e2]; rfl
/- spillage/spillageref01.CheckVector: .agg [I a0, I a1, I a2] -/
def F_ref01_CheckVector (n : Nat) (a0 : Int) (a1 : Int) (a2 : Int) : Option (Int) :=
  (F_ref01_CheckRange n a0 (-1048576) 1048576).bind fun t1 =>
  (F_ref01_CheckRange n a1 (-1048576) 1048576).bind fun t2 =>
  (F_ref01_CheckRange n a2 (-1048576) 1048576).bind fun t3 =>
  (F_ref01_First n ([I t1, I t2, I t3])).bind fun t4 =>
  some t4
theorem c_ref01_CheckVector {n : Nat} {a0 : Int} {a1 : Int} {a2 : Int} {r : Int} (h : F_ref01_CheckVector n a0 a1 a2 = some r) : Computes cx 7 [.agg [I a0, I a1, I a2]] (I r) := by
  unfold F_ref01_CheckVector at h
  obtain ⟨t1, h1, h⟩ := bnd_of h
  obtain ⟨t2, h2, h⟩ := bnd_of h
  obtain ⟨t3, h3, h⟩ := bnd_of h
  obtain ⟨t4, h4, h⟩ := bnd_of h
  replace h := Option.some.inj h
  subst h
  exact run (n := 100) (f := 7) (args := [.agg [I a0, I a1, I a2]]) (orc := [.ret (I t1), .ret (I t2), .ret (I t3), .ret (I t4)]) (r := I t4) (ob := [Computes cx 15 [.lst true 1 [I t1, I t2, I t3]] (I t4), Computes cx 17 [I a2, I (-1048576), I 1048576] (I t3), Computes cx 17 [I a1, I (-1048576), I 1048576] (I t2), Computes cx 17 [I a0, I (-1048576), I 1048576] (I t1)]) (by kernel_rfl) ⟨((c_ref01_First h4).le (.cons (.full _ _ _) (.nil)) (.refl _)), (c_ref01_CheckRange h3), (c_ref01_CheckRange h2), (c_ref01_CheckRange h1), trivial⟩
/- (spillage/drive.Spot).check: .agg [I a0, I a1, I a2] -/
def F_drive_Spot_check (n : Nat) (a0 : Int) (a1 : Int) (a2 : Int) : Option (Int) :=
  (F_drive_within_3 n a0 (-1000) 1000).bind fun t1 =>
  (F_drive_checkEnds_2 n a1 a2 1000000).bind fun t2 =>
  (F_drive_first n ([I t1, I t2])).bind fun t3 =>
  some t3
theorem c_drive_Spot_check {n : Nat} {a0 : Int} {a1 : Int} {a2 : Int} {r : Int} (h : F_drive_Spot_check n a0 a1 a2 = some r) : Computes cx 36 [.agg [I a0, I a1, I a2]] (I r) := by
  unfold F_drive_Spot_check at h
  obtain ⟨t1, h1, h⟩ := bnd_of h
  obtain ⟨t2, h2, h⟩ := bnd_of h
  obtain ⟨t3, h3, h⟩ := bnd_of h
  replace h := Option.some.inj h
  subst h
  exact run (n := 100) (f := 36) (args := [.agg [I a0, I a1, I a2]]) (orc := [.ret (I t1), .ret (I t2), .ret (I t3)]) (r := I t3) (ob := [Computes cx 29 [.lst true 1 [I t1, I t2]] (I t3), Computes cx 31 [.agg [I a1, I a2], I 1000000] (I t2), Computes cx 35 [I a0, I (-1000), I 1000] (I t1)]) (by kernel_rfl) ⟨((c_drive_first h3).le (.cons (.full _ _ _) (.nil)) (.refl _)), (c_drive_checkEnds_2 h2), (c_drive_within_3 h1), trivial⟩
def F_drive_mapped_g_L1 (n : Nat) (a0 : List D) (sa : (Int × List D)) : Option (((Int × List D)) ⊕ ((List D))) :=
  if sa.1 < ((a0).length : Int) then
    (el un_Ai3Z a0 sa.1).bind fun ta2 =>
    (F_drive_Spot_check n ta2.1 ta2.2.1 ta2.2.2).bind fun ta3 =>
    if roomP 8 ((sa.2).length + 1) then
    if inI64 (sa.1 + 1) then
    some (.inl ((sa.1 + 1), (sa.2 ++ ([I ta3] : List D))))
    else none
    else none
  else
  some (.inr sa.2)
noncomputable def T_drive_mapped_g_L1 (a0 : List D) (sa : (Int × List D)) : List (Nat × AV) := [(1, .d (.fn (.func 36) [] [])), (5, .own 5 0), (8, .d (.lst false 3 a0)), (9, .d (I ((a0).length : Int))), (10, .d (I sa.1))]
noncomputable def H_drive_mapped_g_L1 (a0 : List D) (sa : (Int × List D)) : List (Nat × Blk) := [(5, .row 0 1 sa.2)]
noncomputable def X_drive_mapped_g_L1 (a0 : List D) (e : (List D)) : Ex := (.exit 0)
noncomputable def XT_drive_mapped_g_L1 (a0 : List D) (e : (List D)) : List (Nat × AV) := [(5, .own 5 0)]
noncomputable def XH_drive_mapped_g_L1 (a0 : List D) (e : (List D)) : List (Nat × Blk) := [(5, .row 0 1 e)]
theorem R_drive_mapped_g_L1 {n : Nat} {a0 : List D} (sa : (Int × List D)) (r) (h : F_drive_mapped_g_L1 n a0 sa = some r) : Rd cx (loopAt cx.P 56 0) 22 0 false (T_drive_mapped_g_L1 a0) (H_drive_mapped_g_L1 a0) (X_drive_mapped_g_L1 a0) (XT_drive_mapped_g_L1 a0) (XH_drive_mapped_g_L1 a0) sa r := by
  unfold F_drive_mapped_g_L1 at h
  by_cases ha1 : sa.1 < ((a0).length : Int)
  · replace h := ite_t h ha1
    obtain ⟨ta2, ha2, h⟩ := bnd_of h
    obtain ⟨ta3, ha3, h⟩ := bnd_of h
    obtain ⟨ha4, h⟩ := grd_of h
    obtain ⟨ha5, h⟩ := grd_of h
    replace h := Option.some.inj h
    subst h
    exact ⟨100, 6, [.br true, .el (.agg [I ta2.1, I ta2.2.1, I ta2.2.2]), .ret (I ta3), .br true], [], [1, 5, 8, 9, 10], [5], round_of (ob := [inI64 (sa.1 + 1), room cx 42 ((sa.2).length + 1), Computes cx 36 [.agg [I ta2.1, I ta2.2.1, I ta2.2.2]] (I ta3), (0 : Int) ≤ sa.1, nth (a0) (Int.toNat sa.1) = some (.agg [I ta2.1, I ta2.2.1, I ta2.2.2]), (decide (sa.1 < ((a0).length : Int))) = true]) (by kernel_rfl) ⟨ha5, (room_of (b := 8) (by kernel_rfl) (by decide) ha4), (c_drive_Spot_check ha3), (el_ok un_Ai3Z_ok ha2).1, (el_ok un_Ai3Z_ok ha2).2, (decide_eq_true ha1), trivial⟩⟩
  · replace h := ite_f h ha1
    replace h := Option.some.inj h
    subst h
    exact ⟨⟨100, 6, [.br false], [], [5], [5], round_of (ob := [(decide (sa.1 < ((a0).length : Int))) = false]) (by kernel_rfl) ⟨(decide_eq_false ha1), trivial⟩⟩, nofun⟩
/- spillage/drive.mapped[spillage/drive.Spot,spillage/api.Errno]: .lst false 3 a0, .fn (.func 36) [] [] -/
def F_drive_mapped_g (n : Nat) (a0 : List D) : Option (List D) :=
  (loopF (F_drive_mapped_g_L1 n a0) n (0, [])).bind fun t1 =>
  some t1
theorem c_drive_mapped_g {n : Nat} {a0 : List D} {r : List D} (h : F_drive_mapped_g n a0 = some r) : Computes cx 56 [.lst false 3 a0, .fn (.func 36) [] []] (.lst false 1 r) := by
  unfold F_drive_mapped_g at h
  obtain ⟨t1, h1, h⟩ := bnd_of h
  replace h := Option.some.inj h
  subst h
  exact run (n := 100) (f := 56) (args := [.lst false 3 a0, .fn (.func 36) [] []]) (orc := [.lp [5, 1] [1, 5, 8, 9, 10] [5] (.exit 0) [(5, .own 5 0)] [(5, .row 0 1 t1)] 31]) (r := .lst false 1 t1) (ob := [LoopN cx (loopAt cx.P 56 0) 22 0 false [(1, .d (.fn (.func 36) [] [])), (5, .own 5 0), (8, .d (.lst false 3 a0)), (9, .d (I ((a0).length : Int))), (10, .d (I 0))] [(5, .row 0 1 [])] (.exit 0) [(5, .own 5 0)] [(5, .row 0 1 t1)]]) (by kernel_rfl) ⟨(loopF_to R_drive_mapped_g_L1 h1), trivial⟩
/- spillage/drive.CheckSpots: .lst false 3 a0 -/
def F_drive_CheckSpots (n : Nat) (a0 : List D) : Option (Int) :=
  (F_drive_when_5 n (((a0).length : Int) == 0) 12).bind fun t1 =>
  (F_drive_when_5 n (decide (((a0).length : Int) > 16)) 5).bind fun t2 =>
  (F_drive_first n ([I t1, I t2])).bind fun t3 =>
  if t3 = 0 then
    (F_drive_mapped_g n a0).bind fun t5 =>
    (F_drive_first n t5).bind fun t6 =>
    some t6
  else
  some t3
theorem c_drive_CheckSpots {n : Nat} {a0 : List D} {r : Int} (h : F_drive_CheckSpots n a0 = some r) : Computes cx 30 [.lst false 3 a0] (I r) := by
  unfold F_drive_CheckSpots at h
  obtain ⟨t1, h1, h⟩ := bnd_of h
  obtain ⟨t2, h2, h⟩ := bnd_of h
  obtain ⟨t3, h3, h⟩ := bnd_of h
  by_cases h4 : t3 = 0
  · replace h := ite_t h h4
    obtain ⟨t5, h5, h⟩ := bnd_of h
    obtain ⟨t6, h6, h⟩ := bnd_of h
    replace h := Option.some.inj h
    subst h
    exact run (n := 100) (f := 30) (args := [.lst false 3 a0]) (orc := [.ret (I t1), .ret (I t2), .ret (I t3), .br false, .ret (.lst false 1 t5), .ret (I t6)]) (r := I t6) (ob := [Computes cx 29 [.lst false 1 t5] (I t6), Computes cx 56 [.lst false 3 a0, .fn (.func 36) [] []] (.lst false 1 t5), (t3 != 0) = false, Computes cx 29 [.lst true 1 [I t1, I t2]] (I t3), Computes cx 33 [B (decide (((a0).length : Int) > 16)), I 5] (I t2), Computes cx 33 [B (((a0).length : Int) == 0), I 12] (I t1)]) (by kernel_rfl) ⟨(c_drive_first h6), (c_drive_mapped_g h5), (nef h4), ((c_drive_first h3).le (.cons (.full _ _ _) (.nil)) (.refl _)), (c_drive_when_5 h2), (c_drive_when_5 h1), trivial⟩
  · replace h := ite_f h h4
    replace h := Option.some.inj h
    subst h
    exact run (n := 100) (f := 30) (args := [.lst false 3 a0]) (orc := [.ret (I t1), .ret (I t2), .ret (I t3), .br true]) (r := I t3) (ob := [(t3 != 0) = true, Computes cx 29 [.lst true 1 [I t1, I t2]] (I t3), Computes cx 33 [B (decide (((a0).length : Int) > 16)), I 5] (I t2), Computes cx 33 [B (((a0).length : Int) == 0), I 12] (I t1)]) (by kernel_rfl) ⟨(net h4), ((c_drive_first h3).le (.cons (.full _ _ _) (.nil)) (.refl _)), (c_drive_when_5 h2), (c_drive_when_5 h1), trivial⟩
/- spillage/drive.both: .agg [I a0, I a1], .agg [I a2, I a3] -/
def F_drive_both (n : Nat) (a0 : Int) (a1 : Int) (a2 : Int) (a3 : Int) : Option (Int × Int × Bool) :=
  some ((maxI a0 a2), (minI a1 a3), (decide ((maxI a0 a2) ≤ (minI a1 a3))))
theorem c_drive_both {n : Nat} {a0 : Int} {a1 : Int} {a2 : Int} {a3 : Int} {r : Int × Int × Bool} (h : F_drive_both n a0 a1 a2 a3 = some r) : Computes cx 57 [.agg [I a0, I a1], .agg [I a2, I a3]] (.tup [.agg [I r.1, I r.2.1], B r.2.2]) := by
  unfold F_drive_both at h
  replace h := Option.some.inj h
  subst h
  exact run (n := 100) (f := 57) (args := [.agg [I a0, I a1], .agg [I a2, I a3]]) (orc := []) (r := .tup [.agg [I (maxI a0 a2), I (minI a1 a3)], B (decide ((maxI a0 a2) ≤ (minI a1 a3)))]) (ob := []) (by kernel_rfl) trivial
/- (spillage/drive.Band).seen: .agg [I a0, I a1, I a2], .agg [I a3, I a4, I a5] -/
def F_drive_Band_seen (n : Nat) (a0 : Int) (a1 : Int) (a2 : Int) (a3 : Int) (a4 : Int) (a5 : Int) : Option (Int × Int × Int × Bool) :=
  if inI64 (a0 * a3) then
  if inI64 (a4 - (a0 * a3)) then
  if inI64 (a5 - (a0 * a3)) then
  (F_drive_both n a1 a2 (a4 - (a0 * a3)) (a5 - (a0 * a3))).bind fun t4 =>
  some (a0, t4.1, t4.2.1, t4.2.2)
  else none
  else none
  else none
theorem c_drive_Band_seen {n : Nat} {a0 : Int} {a1 : Int} {a2 : Int} {a3 : Int} {a4 : Int} {a5 : Int} {r : Int × Int × Int × Bool} (h : F_drive_Band_seen n a0 a1 a2 a3 a4 a5 = some r) : Computes cx 32 [.agg [I a0, I a1, I a2], .agg [I a3, I a4, I a5]] (.tup [.agg [I r.1, I r.2.1, I r.2.2.1], B r.2.2.2]) := by
  unfold F_drive_Band_seen at h
  obtain ⟨h1, h⟩ := grd_of h
  obtain ⟨h2, h⟩ := grd_of h
  obtain ⟨h3, h⟩ := grd_of h
  obtain ⟨t4, h4, h⟩ := bnd_of h
  replace h := Option.some.inj h
  subst h
  exact run (n := 100) (f := 32) (args := [.agg [I a0, I a1, I a2], .agg [I a3, I a4, I a5]]) (orc := [.ret (.tup [.agg [I t4.1, I t4.2.1], B t4.2.2])]) (r := .tup [.agg [I a0, I t4.1, I t4.2.1], B t4.2.2]) (ob := [Computes cx 57 [.agg [I a1, I a2], .agg [I (a4 - (a0 * a3)), I (a5 - (a0 * a3))]] (.tup [.agg [I t4.1, I t4.2.1], B t4.2.2]), inI64 (a5 - (a0 * a3)), inI64 (a4 - (a0 * a3)), inI64 (a0 * a3)]) (by kernel_rfl) ⟨(c_drive_both h4), h3, h2, h1, trivial⟩
def F_drive_Fitted_L2 (n : Nat) (a0 : List D) (a1 : Int) (a2 : Int) (sa : Int × List D) (sb : (Int × Int × Int × Int)) : Option (((Int × Int × Int × Int)) ⊕ ((Unit) ⊕ (Int × Int × Int))) :=
  if sb.1 < ((a0).length : Int) then
    (el un_Ai3Z a0 sb.1).bind fun tb2 =>
    (F_drive_Band_seen n sb.2.1 sb.2.2.1 sb.2.2.2 tb2.1 tb2.2.1 tb2.2.2).bind fun tb3 =>
    if tb3.2.2.2 = true then
      if inI64 (sb.1 + 1) then
      some (.inl ((sb.1 + 1), tb3.1, tb3.2.1, tb3.2.2.1))
      else none
    else
    some (.inr (.inl ()))
  else
  some (.inr (.inr (sb.2.1, sb.2.2.1, sb.2.2.2)))
noncomputable def T_drive_Fitted_L2 (a0 : List D) (a1 : Int) (a2 : Int) (sa : Int × List D) (sb : (Int × Int × Int × Int)) : List (Nat × AV) := [(0, .d (.lst false 3 a0)), (3, .ptr 0 0 0 0 0), (7, .own 20 0), (9, .ptr 30 0 0 0 0), (28, .d (I ((a2 - a1) + 1))), (29, .d (I sa.1)), (38, .d (.lst false 3 a0)), (39, .d (I ((a0).length : Int))), (40, .d (I sb.1))]
noncomputable def H_drive_Fitted_L2 (a0 : List D) (a1 : Int) (a2 : Int) (sa : Int × List D) (sb : (Int × Int × Int × Int)) : List (Nat × Blk) := [(0, .box (.d (.agg [I a1, I a2]))), (20, .row 0 3 sa.2), (30, .box (.d (.agg [I sb.2.1, I sb.2.2.1, I sb.2.2.2])))]
noncomputable def X_drive_Fitted_L2 (a0 : List D) (a1 : Int) (a2 : Int) (sa : Int × List D) (e : (Unit) ⊕ (Int × Int × Int)) : Ex := match e with
  | (.inl e) => (.exit 1)
  | (.inr e) => (.exit 2)
noncomputable def XT_drive_Fitted_L2 (a0 : List D) (a1 : Int) (a2 : Int) (sa : Int × List D) (e : (Unit) ⊕ (Int × Int × Int)) : List (Nat × AV) := match e with
  | (.inl e) => [(0, .d (.lst false 3 a0)), (3, .ptr 0 0 0 0 0), (7, .own 20 0), (28, .d (I ((a2 - a1) + 1))), (29, .d (I sa.1))]
  | (.inr e) => [(0, .d (.lst false 3 a0)), (3, .ptr 0 0 0 0 0), (7, .own 20 0), (9, .ptr 30 0 0 0 0), (28, .d (I ((a2 - a1) + 1))), (29, .d (I sa.1))]
noncomputable def XH_drive_Fitted_L2 (a0 : List D) (a1 : Int) (a2 : Int) (sa : Int × List D) (e : (Unit) ⊕ (Int × Int × Int)) : List (Nat × Blk) := match e with
  | (.inl e) => [(0, .box (.d (.agg [I a1, I a2]))), (20, .row 0 3 sa.2)]
  | (.inr e) => [(0, .box (.d (.agg [I a1, I a2]))), (20, .row 0 3 sa.2), (30, .box (.d (.agg [I e.1, I e.2.1, I e.2.2])))]
theorem R_drive_Fitted_L2 {n : Nat} {a0 : List D} {a1 : Int} {a2 : Int} {sa : Int × List D} (sb : (Int × Int × Int × Int)) (r) (h : F_drive_Fitted_L2 n a0 a1 a2 sa sb = some r) : Rd cx (loopAt cx.P 9 1) 72 0 false (T_drive_Fitted_L2 a0 a1 a2 sa) (H_drive_Fitted_L2 a0 a1 a2 sa) (X_drive_Fitted_L2 a0 a1 a2 sa) (XT_drive_Fitted_L2 a0 a1 a2 sa) (XH_drive_Fitted_L2 a0 a1 a2 sa) sb r := by
  unfold F_drive_Fitted_L2 at h
  by_cases hb1 : sb.1 < ((a0).length : Int)
  · replace h := ite_t h hb1
    obtain ⟨tb2, hb2, h⟩ := bnd_of h
    obtain ⟨tb3, hb3, h⟩ := bnd_of h
    by_cases hb4 : tb3.2.2.2 = true
    · replace h := ite_t h hb4
      obtain ⟨hb5, h⟩ := grd_of h
      replace h := Option.some.inj h
      subst h
      exact ⟨100, 35, [.br true, .el (.agg [I tb2.1, I tb2.2.1, I tb2.2.2]), .ret (.tup [.agg [I tb3.1, I tb3.2.1, I tb3.2.2.1], B tb3.2.2.2]), .br false], [], [0, 3, 7, 9, 28, 29, 38, 39, 40], [0, 20, 30], round_of (ob := [inI64 (sb.1 + 1), (!tb3.2.2.2) = false, Computes cx 32 [.agg [I sb.2.1, I sb.2.2.1, I sb.2.2.2], .agg [I tb2.1, I tb2.2.1, I tb2.2.2]] (.tup [.agg [I tb3.1, I tb3.2.1, I tb3.2.2.1], B tb3.2.2.2]), (0 : Int) ≤ sb.1, nth (a0) (Int.toNat sb.1) = some (.agg [I tb2.1, I tb2.2.1, I tb2.2.2]), (decide (sb.1 < ((a0).length : Int))) = true]) (by kernel_rfl) ⟨hb5, (notf hb4), (c_drive_Band_seen hb3), (el_ok un_Ai3Z_ok hb2).1, (el_ok un_Ai3Z_ok hb2).2, (decide_eq_true hb1), trivial⟩⟩
    · replace h := ite_f h hb4
      replace h := Option.some.inj h
      subst h
      exact ⟨⟨100, 35, [.br true, .el (.agg [I tb2.1, I tb2.2.1, I tb2.2.2]), .ret (.tup [.agg [I tb3.1, I tb3.2.1, I tb3.2.2.1], B tb3.2.2.2]), .br true], [], [0, 3, 7, 28, 29], [0, 20], round_of (ob := [(!tb3.2.2.2) = true, Computes cx 32 [.agg [I sb.2.1, I sb.2.2.1, I sb.2.2.2], .agg [I tb2.1, I tb2.2.1, I tb2.2.2]] (.tup [.agg [I tb3.1, I tb3.2.1, I tb3.2.2.1], B tb3.2.2.2]), (0 : Int) ≤ sb.1, nth (a0) (Int.toNat sb.1) = some (.agg [I tb2.1, I tb2.2.1, I tb2.2.2]), (decide (sb.1 < ((a0).length : Int))) = true]) (by kernel_rfl) ⟨(nott (bfalse hb4)), (c_drive_Band_seen hb3), (el_ok un_Ai3Z_ok hb2).1, (el_ok un_Ai3Z_ok hb2).2, (decide_eq_true hb1), trivial⟩⟩, nofun⟩
  · replace h := ite_f h hb1
    replace h := Option.some.inj h
    subst h
    exact ⟨⟨100, 35, [.br false], [], [0, 3, 7, 9, 28, 29], [0, 20, 30], round_of (ob := [(decide (sb.1 < ((a0).length : Int))) = false]) (by kernel_rfl) ⟨(decide_eq_false hb1), trivial⟩⟩, nofun⟩
def F_drive_Fitted_L3 (n : Nat) (a0 : List D) (a1 : Int) (a2 : Int) (sa : (Int × List D)) : Option (((Int × List D)) ⊕ ((List D))) :=
  if sa.1 < ((a2 - a1) + 1) then
    if inI64 (a1 + sa.1) then
    (loopF (F_drive_Fitted_L2 n a0 a1 a2 sa) n (0, (a1 + sa.1), (-2000000), 2000000)).bind fun ta3 => match ta3 with
      | (.inl ta3) => (
        if inI64 (sa.1 + 1) then
        some (.inl ((sa.1 + 1), sa.2))
        else none)
      | (.inr ta3) => (
        if roomP 24 ((sa.2).length + 1) then
        if inI64 (sa.1 + 1) then
        some (.inl ((sa.1 + 1), (sa.2 ++ ([.agg [I ta3.1, I ta3.2.1, I ta3.2.2]] : List D))))
        else none
        else none)
    else none
  else
  some (.inr sa.2)
noncomputable def T_drive_Fitted_L3 (a0 : List D) (a1 : Int) (a2 : Int) (sa : (Int × List D)) : List (Nat × AV) := [(0, .d (.lst false 3 a0)), (3, .ptr 0 0 0 0 0), (7, .own 20 0), (28, .d (I ((a2 - a1) + 1))), (29, .d (I sa.1))]
noncomputable def H_drive_Fitted_L3 (a0 : List D) (a1 : Int) (a2 : Int) (sa : (Int × List D)) : List (Nat × Blk) := [(0, .box (.d (.agg [I a1, I a2]))), (20, .row 0 3 sa.2)]
noncomputable def X_drive_Fitted_L3 (a0 : List D) (a1 : Int) (a2 : Int) (e : (List D)) : Ex := (.exit 0)
noncomputable def XT_drive_Fitted_L3 (a0 : List D) (a1 : Int) (a2 : Int) (e : (List D)) : List (Nat × AV) := [(7, .own 20 0)]
noncomputable def XH_drive_Fitted_L3 (a0 : List D) (a1 : Int) (a2 : Int) (e : (List D)) : List (Nat × Blk) := [(20, .row 0 3 e)]
theorem R_drive_Fitted_L3 {n : Nat} {a0 : List D} {a1 : Int} {a2 : Int} (sa : (Int × List D)) (r) (h : F_drive_Fitted_L3 n a0 a1 a2 sa = some r) : Rd cx (loopAt cx.P 9 0) 72 0 false (T_drive_Fitted_L3 a0 a1 a2) (H_drive_Fitted_L3 a0 a1 a2) (X_drive_Fitted_L3 a0 a1 a2) (XT_drive_Fitted_L3 a0 a1 a2) (XH_drive_Fitted_L3 a0 a1 a2) sa r := by
  unfold F_drive_Fitted_L3 at h
  by_cases ha1 : sa.1 < ((a2 - a1) + 1)
  · replace h := ite_t h ha1
    obtain ⟨ha2, h⟩ := grd_of h
    obtain ⟨ta3, ha3, h⟩ := bnd_of h
    rcases ta3 with ta3 | ta3
    · obtain ⟨ha4, h⟩ := grd_of h
      replace h := Option.some.inj h
      subst h
      exact ⟨100, 21, [.br true, .lp [] [0, 3, 7, 9, 28, 29, 38, 39, 40] [0, 20, 30] (.exit 1) [(0, .d (.lst false 3 a0)), (3, .ptr 0 0 0 0 0), (7, .own 20 0), (28, .d (I ((a2 - a1) + 1))), (29, .d (I sa.1))] [(0, .box (.d (.agg [I a1, I a2]))), (20, .row 0 3 sa.2)] 64], [], [0, 3, 7, 28, 29], [0, 20], round_of (ob := [inI64 (sa.1 + 1), LoopN cx (loopAt cx.P 9 1) 72 0 false [(0, .d (.lst false 3 a0)), (3, .ptr 0 0 0 0 0), (7, .own 20 0), (9, .ptr 30 0 0 0 0), (28, .d (I ((a2 - a1) + 1))), (29, .d (I sa.1)), (38, .d (.lst false 3 a0)), (39, .d (I ((a0).length : Int))), (40, .d (I 0))] [(0, .box (.d (.agg [I a1, I a2]))), (20, .row 0 3 sa.2), (30, .box (.d (.agg [I (a1 + sa.1), I (-2000000), I 2000000])))] (.exit 1) [(0, .d (.lst false 3 a0)), (3, .ptr 0 0 0 0 0), (7, .own 20 0), (28, .d (I ((a2 - a1) + 1))), (29, .d (I sa.1))] [(0, .box (.d (.agg [I a1, I a2]))), (20, .row 0 3 sa.2)], inI64 (a1 + sa.1), (decide (sa.1 < ((a2 - a1) + 1))) = true]) (by kernel_rfl) ⟨ha4, (loopF_to R_drive_Fitted_L2 ha3), ha2, (decide_eq_true ha1), trivial⟩⟩
    · obtain ⟨ha4, h⟩ := grd_of h
      obtain ⟨ha5, h⟩ := grd_of h
      replace h := Option.some.inj h
      subst h
      exact ⟨100, 21, [.br true, .lp [] [0, 3, 7, 9, 28, 29, 38, 39, 40] [0, 20, 30] (.exit 2) [(0, .d (.lst false 3 a0)), (3, .ptr 0 0 0 0 0), (7, .own 20 0), (9, .ptr 30 0 0 0 0), (28, .d (I ((a2 - a1) + 1))), (29, .d (I sa.1))] [(0, .box (.d (.agg [I a1, I a2]))), (20, .row 0 3 sa.2), (30, .box (.d (.agg [I ta3.1, I ta3.2.1, I ta3.2.2])))] 64, .br true], [], [0, 3, 7, 28, 29], [0, 20], round_of (ob := [inI64 (sa.1 + 1), room cx 75 ((sa.2).length + 1), LoopN cx (loopAt cx.P 9 1) 72 0 false [(0, .d (.lst false 3 a0)), (3, .ptr 0 0 0 0 0), (7, .own 20 0), (9, .ptr 30 0 0 0 0), (28, .d (I ((a2 - a1) + 1))), (29, .d (I sa.1)), (38, .d (.lst false 3 a0)), (39, .d (I ((a0).length : Int))), (40, .d (I 0))] [(0, .box (.d (.agg [I a1, I a2]))), (20, .row 0 3 sa.2), (30, .box (.d (.agg [I (a1 + sa.1), I (-2000000), I 2000000])))] (.exit 2) [(0, .d (.lst false 3 a0)), (3, .ptr 0 0 0 0 0), (7, .own 20 0), (9, .ptr 30 0 0 0 0), (28, .d (I ((a2 - a1) + 1))), (29, .d (I sa.1))] [(0, .box (.d (.agg [I a1, I a2]))), (20, .row 0 3 sa.2), (30, .box (.d (.agg [I ta3.1, I ta3.2.1, I ta3.2.2])))], inI64 (a1 + sa.1), (decide (sa.1 < ((a2 - a1) + 1))) = true]) (by kernel_rfl) ⟨ha5, (room_of (b := 24) (by kernel_rfl) (by decide) ha4), (loopF_to R_drive_Fitted_L2 ha3), ha2, (decide_eq_true ha1), trivial⟩⟩
  · replace h := ite_f h ha1
    replace h := Option.some.inj h
    subst h
    exact ⟨⟨100, 21, [.br false], [], [7], [20], round_of (ob := [(decide (sa.1 < ((a2 - a1) + 1))) = false]) (by kernel_rfl) ⟨(decide_eq_false ha1), trivial⟩⟩, nofun⟩
/- spillage/drive.Fitted: .lst false 3 a0, .agg [I a1, I a2] -/
def F_drive_Fitted (n : Nat) (a0 : List D) (a1 : Int) (a2 : Int) : Option (List D × Int) :=
  (F_drive_CheckSpots n a0).bind fun t1 =>
  (F_drive_checkEnds_2 n a1 a2 1000).bind fun t2 =>
  (F_drive_first n ([I t1, I t2])).bind fun t3 =>
  if t3 = 0 then
    if inI64 (a2 - a1) then
    if inI64 ((a2 - a1) + 1) then
    (loopF (F_drive_Fitted_L3 n a0 a1 a2) n (0, [])).bind fun t7 =>
    (F_drive_when_5 n (((t7).length : Int) == 0) 18).bind fun t8 =>
    (F_drive_when_5 n (decide (((t7).length : Int) > 64)) 5).bind fun t9 =>
    (F_drive_first n ([I t8, I t9])).bind fun t10 =>
    if t10 = 0 then
      some (t7, 0)
    else
    some ([], t10)
    else none
    else none
  else
  some ([], t3)
theorem c_drive_Fitted {n : Nat} {a0 : List D} {a1 : Int} {a2 : Int} {r : List D × Int} (h : F_drive_Fitted n a0 a1 a2 = some r) : Computes cx 9 [.lst false 3 a0, .agg [I a1, I a2]] (.tup [.lst false 3 r.1, I r.2]) := by
  unfold F_drive_Fitted at h
  obtain ⟨t1, h1, h⟩ := bnd_of h
  obtain ⟨t2, h2, h⟩ := bnd_of h
  obtain ⟨t3, h3, h⟩ := bnd_of h
  by_cases h4 : t3 = 0
  · replace h := ite_t h h4
    obtain ⟨h5, h⟩ := grd_of h
    obtain ⟨h6, h⟩ := grd_of h
    obtain ⟨t7, h7, h⟩ := bnd_of h
    obtain ⟨t8, h8, h⟩ := bnd_of h
    obtain ⟨t9, h9, h⟩ := bnd_of h
    obtain ⟨t10, h10, h⟩ := bnd_of h
    by_cases h11 : t10 = 0
    · replace h := ite_t h h11
      replace h := Option.some.inj h
      subst h
      exact run (n := 100) (f := 9) (args := [.lst false 3 a0, .agg [I a1, I a2]]) (orc := [.ret (I t1), .ret (I t2), .ret (I t3), .br false, .lp [7, 3] [0, 3, 7, 28, 29] [0, 20] (.exit 0) [(7, .own 20 0)] [(20, .row 0 3 t7)] 82, .ret (I t8), .ret (I t9), .ret (I t10), .br false]) (r := .tup [.lst false 3 t7, I 0]) (ob := [(t10 != 0) = false, Computes cx 29 [.lst true 1 [I t8, I t9]] (I t10), Computes cx 33 [B (decide (((t7).length : Int) > 64)), I 5] (I t9), Computes cx 33 [B (((t7).length : Int) == 0), I 18] (I t8), LoopN cx (loopAt cx.P 9 0) 72 0 false [(0, .d (.lst false 3 a0)), (3, .ptr 0 0 0 0 0), (7, .own 20 0), (28, .d (I ((a2 - a1) + 1))), (29, .d (I 0))] [(0, .box (.d (.agg [I a1, I a2]))), (20, .row 0 3 [])] (.exit 0) [(7, .own 20 0)] [(20, .row 0 3 t7)], inI64 ((a2 - a1) + 1), inI64 (a2 - a1), (t3 != 0) = false, Computes cx 29 [.lst true 1 [I t1, I t2]] (I t3), Computes cx 31 [.agg [I a1, I a2], I 1000] (I t2), Computes cx 30 [.lst false 3 a0] (I t1)]) (by kernel_rfl) ⟨(nef h11), ((c_drive_first h10).le (.cons (.full _ _ _) (.nil)) (.refl _)), (c_drive_when_5 h9), (c_drive_when_5 h8), (loopF_to R_drive_Fitted_L3 h7), h6, h5, (nef h4), ((c_drive_first h3).le (.cons (.full _ _ _) (.nil)) (.refl _)), (c_drive_checkEnds_2 h2), (c_drive_CheckSpots h1), trivial⟩
    · replace h := ite_f h h11
      replace h := Option.some.inj h
      subst h
      exact (run (n := 100) (f := 9) (args := [.lst false 3 a0, .agg [I a1, I a2]]) (orc := [.ret (I t1), .ret (I t2), .ret (I t3), .br false, .lp [7, 3] [0, 3, 7, 28, 29] [0, 20] (.exit 0) [(7, .own 20 0)] [(20, .row 0 3 t7)] 82, .ret (I t8), .ret (I t9), .ret (I t10), .br true]) (r := .tup [.lst true 0 [], I t10]) (ob := [(t10 != 0) = true, Computes cx 29 [.lst true 1 [I t8, I t9]] (I t10), Computes cx 33 [B (decide (((t7).length : Int) > 64)), I 5] (I t9), Computes cx 33 [B (((t7).length : Int) == 0), I 18] (I t8), LoopN cx (loopAt cx.P 9 0) 72 0 false [(0, .d (.lst false 3 a0)), (3, .ptr 0 0 0 0 0), (7, .own 20 0), (28, .d (I ((a2 - a1) + 1))), (29, .d (I 0))] [(0, .box (.d (.agg [I a1, I a2]))), (20, .row 0 3 [])] (.exit 0) [(7, .own 20 0)] [(20, .row 0 3 t7)], inI64 ((a2 - a1) + 1), inI64 (a2 - a1), (t3 != 0) = false, Computes cx 29 [.lst true 1 [I t1, I t2]] (I t3), Computes cx 31 [.agg [I a1, I a2], I 1000] (I t2), Computes cx 30 [.lst false 3 a0] (I t1)]) (by kernel_rfl) ⟨(net h11), ((c_drive_first h10).le (.cons (.full _ _ _) (.nil)) (.refl _)), (c_drive_when_5 h9), (c_drive_when_5 h8), (loopF_to R_drive_Fitted_L3 h7), h6, h5, (nef h4), ((c_drive_first h3).le (.cons (.full _ _ _) (.nil)) (.refl _)), (c_drive_checkEnds_2 h2), (c_drive_CheckSpots h1), trivial⟩).le (LEs.refl _) (.tups (.cons (.lst _ _ _ _ _ nofun (.inl rfl)) (.cons (.refl _) (.nil))))
  · replace h := ite_f h h4
    replace h := Option.some.inj h
    subst h
    exact (run (n := 100) (f := 9) (args := [.lst false 3 a0, .agg [I a1, I a2]]) (orc := [.ret (I t1), .ret (I t2), .ret (I t3), .br true]) (r := .tup [.lst true 0 [], I t3]) (ob := [(t3 != 0) = true, Computes cx 29 [.lst true 1 [I t1, I t2]] (I t3), Computes cx 31 [.agg [I a1, I a2], I 1000] (I t2), Computes cx 30 [.lst false 3 a0] (I t1)]) (by kernel_rfl) ⟨(net h4), ((c_drive_first h3).le (.cons (.full _ _ _) (.nil)) (.refl _)), (c_drive_checkEnds_2 h2), (c_drive_CheckSpots h1), trivial⟩).le (LEs.refl _) (.tups (.cons (.lst _ _ _ _ _ nofun (.inl rfl)) (.cons (.refl _) (.nil))))
def enc_Ai2Z (x : Int × Int) : D := .agg [I x.1, I x.2]
def un_Ai2Z : D → Option (Int × Int)
  | .agg [c0, c1] => (un_int .i64 c0).bind fun y0 => (un_int .i64 c1).bind fun y1 => some (y0, y1)
  | _ => none
theorem un_Ai2Z_ok {d : D} {x : Int × Int} (h : un_Ai2Z d = some x) : d = enc_Ai2Z x := by
  unfold un_Ai2Z at h
  split at h
  case h_2 => cases h
  obtain ⟨y0, h0, h⟩ := bnd_of h
  obtain ⟨y1, h1, h⟩ := bnd_of h
  cases h
  have e0 := un_int_ok h0
  have e1 := un_int_ok h1
  rw [e0, e1]; rfl
def F_drive_Has_L1 (n : Nat) (a0 : List D) (a1 : Int) (a2 : Int) (sa : (Int × List D)) : Option (((Int × List D)) ⊕ ((List D))) :=
  if sa.1 < ((a0).length : Int) then
    (el un_Ai3Z a0 sa.1).bind fun ta2 =>
    if mok (.int .i64 ta2.1) (sa.2 : List D) = true then
    if inI64 (sa.1 + 1) then
    some (.inl ((sa.1 + 1), (mput (.int .i64 ta2.1) (.agg [I ta2.2.1, I ta2.2.2]) (sa.2 : List D))))
    else none
    else none
  else
  some (.inr sa.2)
noncomputable def T_drive_Has_L1 (a0 : List D) (a1 : Int) (a2 : Int) (sa : (Int × List D)) : List (Nat × AV) := [(1, .d (I a1)), (2, .d (I a2)), (9, .own 13 0), (26, .d (.lst false 3 a0)), (27, .d (I ((a0).length : Int))), (28, .d (I sa.1))]
noncomputable def H_drive_Has_L1 (a0 : List D) (a1 : Int) (a2 : Int) (sa : (Int × List D)) : List (Nat × Blk) := [(13, .mp sa.2)]
noncomputable def X_drive_Has_L1 (a0 : List D) (a1 : Int) (a2 : Int) (e : (List D)) : Ex := (.exit 0)
noncomputable def XT_drive_Has_L1 (a0 : List D) (a1 : Int) (a2 : Int) (e : (List D)) : List (Nat × AV) := [(1, .d (I a1)), (2, .d (I a2)), (9, .own 13 0)]
noncomputable def XH_drive_Has_L1 (a0 : List D) (a1 : Int) (a2 : Int) (e : (List D)) : List (Nat × Blk) := [(13, .mp e)]
theorem R_drive_Has_L1 {n : Nat} {a0 : List D} {a1 : Int} {a2 : Int} (sa : (Int × List D)) (r) (h : F_drive_Has_L1 n a0 a1 a2 sa = some r) : Rd cx (loopAt cx.P 10 0) 57 0 false (T_drive_Has_L1 a0 a1 a2) (H_drive_Has_L1 a0 a1 a2) (X_drive_Has_L1 a0 a1 a2) (XT_drive_Has_L1 a0 a1 a2) (XH_drive_Has_L1 a0 a1 a2) sa r := by
  unfold F_drive_Has_L1 at h
  by_cases ha1 : sa.1 < ((a0).length : Int)
  · replace h := ite_t h ha1
    obtain ⟨ta2, ha2, h⟩ := bnd_of h
    obtain ⟨ha3, h⟩ := grd_of h
    obtain ⟨ha4, h⟩ := grd_of h
    replace h := Option.some.inj h
    subst h
    exact ⟨100, 18, [.br true, .el (.agg [I ta2.1, I ta2.2.1, I ta2.2.2]), .br true], [], [1, 2, 9, 26, 27, 28], [13], round_of (ob := [inI64 (sa.1 + 1), mok (.int .i64 ta2.1) (sa.2 : List D) = true, (0 : Int) ≤ sa.1, nth (a0) (Int.toNat sa.1) = some (.agg [I ta2.1, I ta2.2.1, I ta2.2.2]), (decide (sa.1 < ((a0).length : Int))) = true]) (by kernel_rfl) ⟨ha4, ha3, (el_ok un_Ai3Z_ok ha2).1, (el_ok un_Ai3Z_ok ha2).2, (decide_eq_true ha1), trivial⟩⟩
  · replace h := ite_f h ha1
    replace h := Option.some.inj h
    subst h
    exact ⟨⟨100, 18, [.br false], [], [1, 2, 9], [13], round_of (ob := [(decide (sa.1 < ((a0).length : Int))) = false]) (by kernel_rfl) ⟨(decide_eq_false ha1), trivial⟩⟩, nofun⟩
/- spillage/drive.Has: .lst false 3 a0, I a1, I a2 -/
def F_drive_Has (n : Nat) (a0 : List D) (a1 : Int) (a2 : Int) : Option (Bool × Int) :=
  (F_drive_CheckModel_2 n a0).bind fun t1 =>
  (F_drive_within_3 n a1 (-1000) 1000).bind fun t2 =>
  (F_drive_within_3 n a2 (-2000000) 2000000).bind fun t3 =>
  (F_drive_first n ([I t1, I t2, I t3])).bind fun t4 =>
  if t4 = 0 then
    (loopF (F_drive_Has_L1 n a0 a1 a2) n (0, [])).bind fun t6 =>
    if mok (.int .i64 a1) (t6 : List D) = true then
    if (mfind (.int .i64 a1) (t6 : List D)).isSome = true then
      ((mfind (.int .i64 a1) (t6 : List D)).bind un_Ai2Z).bind fun t9 =>
      if a2 ≥ t9.1 then
        some ((decide (a2 ≤ t9.2)), 0)
      else
      some (false, 0)
    else
    some (false, 0)
    else none
  else
  some (false, t4)
theorem c_drive_Has {n : Nat} {a0 : List D} {a1 : Int} {a2 : Int} {r : Bool × Int} (h : F_drive_Has n a0 a1 a2 = some r) : Computes cx 10 [.lst false 3 a0, I a1, I a2] (.tup [B r.1, I r.2]) := by
  unfold F_drive_Has at h
  obtain ⟨t1, h1, h⟩ := bnd_of h
  obtain ⟨t2, h2, h⟩ := bnd_of h
  obtain ⟨t3, h3, h⟩ := bnd_of h
  obtain ⟨t4, h4, h⟩ := bnd_of h
  by_cases h5 : t4 = 0
  · replace h := ite_t h h5
    obtain ⟨t6, h6, h⟩ := bnd_of h
    obtain ⟨h7, h⟩ := grd_of h
    by_cases h8 : (mfind (.int .i64 a1) (t6 : List D)).isSome = true
    · replace h := ite_t h h8
      obtain ⟨t9, h9, h⟩ := bnd_of h
      by_cases h10 : a2 ≥ t9.1
      · replace h := ite_t h h10
        replace h := Option.some.inj h
        subst h
        exact run (n := 100) (f := 10) (args := [.lst false 3 a0, I a1, I a2]) (orc := [.ret (I t1), .ret (I t2), .ret (I t3), .ret (I t4), .br false, .lp [] [1, 2, 9, 26, 27, 28] [13] (.exit 0) [(1, .d (I a1)), (2, .d (I a2)), (9, .own 13 0)] [(13, .mp t6)] 42, .el (.tup [.agg [I t9.1, I t9.2], B true]), .no, .br true]) (r := .tup [B (decide (a2 ≤ t9.2)), I 0]) (ob := [(decide (a2 ≥ t9.1)) = true, mlook true (.int .i64 a1) (.agg [I 0, I 0]) (t6 : List D) = some (.tup [.agg [I t9.1, I t9.2], B true]), LoopN cx (loopAt cx.P 10 0) 57 0 false [(1, .d (I a1)), (2, .d (I a2)), (9, .own 13 0), (26, .d (.lst false 3 a0)), (27, .d (I ((a0).length : Int))), (28, .d (I 0))] [(13, .mp [])] (.exit 0) [(1, .d (I a1)), (2, .d (I a2)), (9, .own 13 0)] [(13, .mp t6)], (t4 != 0) = false, Computes cx 29 [.lst true 1 [I t1, I t2, I t3]] (I t4), Computes cx 35 [I a2, I (-2000000), I 2000000] (I t3), Computes cx 35 [I a1, I (-1000), I 1000] (I t2), Computes cx 34 [.lst false 3 a0] (I t1)]) (by kernel_rfl) ⟨(decide_eq_true h10), (mlook_hit h7 (mel_ok un_Ai2Z_ok h9)), (loopF_to R_drive_Has_L1 h6), (nef h5), ((c_drive_first h4).le (.cons (.full _ _ _) (.nil)) (.refl _)), (c_drive_within_3 h3), (c_drive_within_3 h2), (c_drive_CheckModel_2 h1), trivial⟩
      · replace h := ite_f h h10
        replace h := Option.some.inj h
        subst h
        exact run (n := 100) (f := 10) (args := [.lst false 3 a0, I a1, I a2]) (orc := [.ret (I t1), .ret (I t2), .ret (I t3), .ret (I t4), .br false, .lp [] [1, 2, 9, 26, 27, 28] [13] (.exit 0) [(1, .d (I a1)), (2, .d (I a2)), (9, .own 13 0)] [(13, .mp t6)] 42, .el (.tup [.agg [I t9.1, I t9.2], B true]), .no, .br false]) (r := .tup [B false, I 0]) (ob := [(decide (a2 ≥ t9.1)) = false, mlook true (.int .i64 a1) (.agg [I 0, I 0]) (t6 : List D) = some (.tup [.agg [I t9.1, I t9.2], B true]), LoopN cx (loopAt cx.P 10 0) 57 0 false [(1, .d (I a1)), (2, .d (I a2)), (9, .own 13 0), (26, .d (.lst false 3 a0)), (27, .d (I ((a0).length : Int))), (28, .d (I 0))] [(13, .mp [])] (.exit 0) [(1, .d (I a1)), (2, .d (I a2)), (9, .own 13 0)] [(13, .mp t6)], (t4 != 0) = false, Computes cx 29 [.lst true 1 [I t1, I t2, I t3]] (I t4), Computes cx 35 [I a2, I (-2000000), I 2000000] (I t3), Computes cx 35 [I a1, I (-1000), I 1000] (I t2), Computes cx 34 [.lst false 3 a0] (I t1)]) (by kernel_rfl) ⟨(decide_eq_false h10), (mlook_hit h7 (mel_ok un_Ai2Z_ok h9)), (loopF_to R_drive_Has_L1 h6), (nef h5), ((c_drive_first h4).le (.cons (.full _ _ _) (.nil)) (.refl _)), (c_drive_within_3 h3), (c_drive_within_3 h2), (c_drive_CheckModel_2 h1), trivial⟩
    · replace h := ite_f h h8
      replace h := Option.some.inj h
      subst h
      exact run (n := 100) (f := 10) (args := [.lst false 3 a0, I a1, I a2]) (orc := [.ret (I t1), .ret (I t2), .ret (I t3), .ret (I t4), .br false, .lp [] [1, 2, 9, 26, 27, 28] [13] (.exit 0) [(1, .d (I a1)), (2, .d (I a2)), (9, .own 13 0)] [(13, .mp t6)] 42, .el (.tup [.agg [I 0, I 0], B false]), .no, .no]) (r := .tup [B false, I 0]) (ob := [mlook true (.int .i64 a1) (.agg [I 0, I 0]) (t6 : List D) = some (.tup [.agg [I 0, I 0], B false]), LoopN cx (loopAt cx.P 10 0) 57 0 false [(1, .d (I a1)), (2, .d (I a2)), (9, .own 13 0), (26, .d (.lst false 3 a0)), (27, .d (I ((a0).length : Int))), (28, .d (I 0))] [(13, .mp [])] (.exit 0) [(1, .d (I a1)), (2, .d (I a2)), (9, .own 13 0)] [(13, .mp t6)], (t4 != 0) = false, Computes cx 29 [.lst true 1 [I t1, I t2, I t3]] (I t4), Computes cx 35 [I a2, I (-2000000), I 2000000] (I t3), Computes cx 35 [I a1, I (-1000), I 1000] (I t2), Computes cx 34 [.lst false 3 a0] (I t1)]) (by kernel_rfl) ⟨(mlook_miss h7 (mno h8)), (loopF_to R_drive_Has_L1 h6), (nef h5), ((c_drive_first h4).le (.cons (.full _ _ _) (.nil)) (.refl _)), (c_drive_within_3 h3), (c_drive_within_3 h2), (c_drive_CheckModel_2 h1), trivial⟩
  · replace h := ite_f h h5
    replace h := Option.some.inj h
    subst h
    exact run (n := 100) (f := 10) (args := [.lst false 3 a0, I a1, I a2]) (orc := [.ret (I t1), .ret (I t2), .ret (I t3), .ret (I t4), .br true]) (r := .tup [B false, I t4]) (ob := [(t4 != 0) = true, Computes cx 29 [.lst true 1 [I t1, I t2, I t3]] (I t4), Computes cx 35 [I a2, I (-2000000), I 2000000] (I t3), Computes cx 35 [I a1, I (-1000), I 1000] (I t2), Computes cx 34 [.lst false 3 a0] (I t1)]) (by kernel_rfl) ⟨(net h5), ((c_drive_first h4).le (.cons (.full _ _ _) (.nil)) (.refl _)), (c_drive_within_3 h3), (c_drive_within_3 h2), (c_drive_CheckModel_2 h1), trivial⟩
def F_drive_Refined_L1 (n : Nat) (a0 : List D) (a1 : Int) (a2 : Int) (a3 : Int) (sa : (Int × List D)) : Option (((Int × List D)) ⊕ ((List D))) :=
  if sa.1 < ((a0).length : Int) then
    (el un_Ai3Z a0 sa.1).bind fun ta2 =>
    (F_drive_Band_seen n ta2.1 ta2.2.1 ta2.2.2 a1 a2 a3).bind fun ta3 =>
    if ta3.2.2.2 = true then
      if roomP 24 ((sa.2).length + 1) then
      if inI64 (sa.1 + 1) then
      some (.inl ((sa.1 + 1), (sa.2 ++ ([.agg [I ta3.1, I ta3.2.1, I ta3.2.2.1]] : List D))))
      else none
      else none
    else
    if inI64 (sa.1 + 1) then
    some (.inl ((sa.1 + 1), sa.2))
    else none
  else
  some (.inr sa.2)
noncomputable def T_drive_Refined_L1 (a0 : List D) (a1 : Int) (a2 : Int) (a3 : Int) (sa : (Int × List D)) : List (Nat × AV) := [(3, .ptr 0 0 0 0 0), (7, .own 16 0), (21, .d (.lst false 3 a0)), (22, .d (I ((a0).length : Int))), (23, .d (I sa.1))]
noncomputable def H_drive_Refined_L1 (a0 : List D) (a1 : Int) (a2 : Int) (a3 : Int) (sa : (Int × List D)) : List (Nat × Blk) := [(0, .box (.d (.agg [I a1, I a2, I a3]))), (16, .row 0 3 sa.2)]
noncomputable def X_drive_Refined_L1 (a0 : List D) (a1 : Int) (a2 : Int) (a3 : Int) (e : (List D)) : Ex := (.exit 0)
noncomputable def XT_drive_Refined_L1 (a0 : List D) (a1 : Int) (a2 : Int) (a3 : Int) (e : (List D)) : List (Nat × AV) := [(7, .own 16 0)]
noncomputable def XH_drive_Refined_L1 (a0 : List D) (a1 : Int) (a2 : Int) (a3 : Int) (e : (List D)) : List (Nat × Blk) := [(16, .row 0 3 e)]
theorem R_drive_Refined_L1 {n : Nat} {a0 : List D} {a1 : Int} {a2 : Int} {a3 : Int} (sa : (Int × List D)) (r) (h : F_drive_Refined_L1 n a0 a1 a2 a3 sa = some r) : Rd cx (loopAt cx.P 11 0) 43 0 false (T_drive_Refined_L1 a0 a1 a2 a3) (H_drive_Refined_L1 a0 a1 a2 a3) (X_drive_Refined_L1 a0 a1 a2 a3) (XT_drive_Refined_L1 a0 a1 a2 a3) (XH_drive_Refined_L1 a0 a1 a2 a3) sa r := by
  unfold F_drive_Refined_L1 at h
  by_cases ha1 : sa.1 < ((a0).length : Int)
  · replace h := ite_t h ha1
    obtain ⟨ta2, ha2, h⟩ := bnd_of h
    obtain ⟨ta3, ha3, h⟩ := bnd_of h
    by_cases ha4 : ta3.2.2.2 = true
    · replace h := ite_t h ha4
      obtain ⟨ha5, h⟩ := grd_of h
      obtain ⟨ha6, h⟩ := grd_of h
      replace h := Option.some.inj h
      subst h
      exact ⟨100, 17, [.br true, .el (.agg [I ta2.1, I ta2.2.1, I ta2.2.2]), .ret (.tup [.agg [I ta3.1, I ta3.2.1, I ta3.2.2.1], B ta3.2.2.2]), .br true, .br true], [], [3, 7, 21, 22, 23], [0, 16], round_of (ob := [inI64 (sa.1 + 1), room cx 75 ((sa.2).length + 1), ta3.2.2.2 = true, Computes cx 32 [.agg [I ta2.1, I ta2.2.1, I ta2.2.2], .agg [I a1, I a2, I a3]] (.tup [.agg [I ta3.1, I ta3.2.1, I ta3.2.2.1], B ta3.2.2.2]), (0 : Int) ≤ sa.1, nth (a0) (Int.toNat sa.1) = some (.agg [I ta2.1, I ta2.2.1, I ta2.2.2]), (decide (sa.1 < ((a0).length : Int))) = true]) (by kernel_rfl) ⟨ha6, (room_of (b := 24) (by kernel_rfl) (by decide) ha5), ha4, (c_drive_Band_seen ha3), (el_ok un_Ai3Z_ok ha2).1, (el_ok un_Ai3Z_ok ha2).2, (decide_eq_true ha1), trivial⟩⟩
    · replace h := ite_f h ha4
      obtain ⟨ha5, h⟩ := grd_of h
      replace h := Option.some.inj h
      subst h
      exact ⟨100, 17, [.br true, .el (.agg [I ta2.1, I ta2.2.1, I ta2.2.2]), .ret (.tup [.agg [I ta3.1, I ta3.2.1, I ta3.2.2.1], B ta3.2.2.2]), .br false], [], [3, 7, 21, 22, 23], [0, 16], round_of (ob := [inI64 (sa.1 + 1), ta3.2.2.2 = false, Computes cx 32 [.agg [I ta2.1, I ta2.2.1, I ta2.2.2], .agg [I a1, I a2, I a3]] (.tup [.agg [I ta3.1, I ta3.2.1, I ta3.2.2.1], B ta3.2.2.2]), (0 : Int) ≤ sa.1, nth (a0) (Int.toNat sa.1) = some (.agg [I ta2.1, I ta2.2.1, I ta2.2.2]), (decide (sa.1 < ((a0).length : Int))) = true]) (by kernel_rfl) ⟨ha5, (bfalse ha4), (c_drive_Band_seen ha3), (el_ok un_Ai3Z_ok ha2).1, (el_ok un_Ai3Z_ok ha2).2, (decide_eq_true ha1), trivial⟩⟩
  · replace h := ite_f h ha1
    replace h := Option.some.inj h
    subst h
    exact ⟨⟨100, 17, [.br false], [], [7], [16], round_of (ob := [(decide (sa.1 < ((a0).length : Int))) = false]) (by kernel_rfl) ⟨(decide_eq_false ha1), trivial⟩⟩, nofun⟩
/- spillage/drive.Refined: .lst false 3 a0, .agg [I a1, I a2, I a3] -/
def F_drive_Refined (n : Nat) (a0 : List D) (a1 : Int) (a2 : Int) (a3 : Int) : Option (List D × Int) :=
  (F_drive_CheckModel_2 n a0).bind fun t1 =>
  (F_drive_Spot_check n a1 a2 a3).bind fun t2 =>
  (F_drive_first n ([I t1, I t2])).bind fun t3 =>
  if t3 = 0 then
    (loopF (F_drive_Refined_L1 n a0 a1 a2 a3) n (0, [])).bind fun t5 =>
    if ((t5).length : Int) = 0 then
      some ([], 18)
    else
    some (t5, 0)
  else
  some ([], t3)
theorem c_drive_Refined {n : Nat} {a0 : List D} {a1 : Int} {a2 : Int} {a3 : Int} {r : List D × Int} (h : F_drive_Refined n a0 a1 a2 a3 = some r) : Computes cx 11 [.lst false 3 a0, .agg [I a1, I a2, I a3]] (.tup [.lst false 3 r.1, I r.2]) := by
  unfold F_drive_Refined at h
  obtain ⟨t1, h1, h⟩ := bnd_of h
  obtain ⟨t2, h2, h⟩ := bnd_of h
  obtain ⟨t3, h3, h⟩ := bnd_of h
  by_cases h4 : t3 = 0
  · replace h := ite_t h h4
    obtain ⟨t5, h5, h⟩ := bnd_of h
    by_cases h6 : ((t5).length : Int) = 0
    · replace h := ite_t h h6
      replace h := Option.some.inj h
      subst h
      exact (run (n := 100) (f := 11) (args := [.lst false 3 a0, .agg [I a1, I a2, I a3]]) (orc := [.ret (I t1), .ret (I t2), .ret (I t3), .br false, .lp [7, 3] [3, 7, 21, 22, 23] [0, 16] (.exit 0) [(7, .own 16 0)] [(16, .row 0 3 t5)] 50, .br true]) (r := .tup [.lst true 0 [], I 18]) (ob := [(((t5).length : Int) == 0) = true, LoopN cx (loopAt cx.P 11 0) 43 0 false [(3, .ptr 0 0 0 0 0), (7, .own 16 0), (21, .d (.lst false 3 a0)), (22, .d (I ((a0).length : Int))), (23, .d (I 0))] [(0, .box (.d (.agg [I a1, I a2, I a3]))), (16, .row 0 3 [])] (.exit 0) [(7, .own 16 0)] [(16, .row 0 3 t5)], (t3 != 0) = false, Computes cx 29 [.lst true 1 [I t1, I t2]] (I t3), Computes cx 36 [.agg [I a1, I a2, I a3]] (I t2), Computes cx 34 [.lst false 3 a0] (I t1)]) (by kernel_rfl) ⟨(eqt h6), (loopF_to R_drive_Refined_L1 h5), (nef h4), ((c_drive_first h3).le (.cons (.full _ _ _) (.nil)) (.refl _)), (c_drive_Spot_check h2), (c_drive_CheckModel_2 h1), trivial⟩).le (LEs.refl _) (.tups (.cons (.lst _ _ _ _ _ nofun (.inl rfl)) (.cons (.refl _) (.nil))))
    · replace h := ite_f h h6
      replace h := Option.some.inj h
      subst h
      exact run (n := 100) (f := 11) (args := [.lst false 3 a0, .agg [I a1, I a2, I a3]]) (orc := [.ret (I t1), .ret (I t2), .ret (I t3), .br false, .lp [7, 3] [3, 7, 21, 22, 23] [0, 16] (.exit 0) [(7, .own 16 0)] [(16, .row 0 3 t5)] 50, .br false]) (r := .tup [.lst false 3 t5, I 0]) (ob := [(((t5).length : Int) == 0) = false, LoopN cx (loopAt cx.P 11 0) 43 0 false [(3, .ptr 0 0 0 0 0), (7, .own 16 0), (21, .d (.lst false 3 a0)), (22, .d (I ((a0).length : Int))), (23, .d (I 0))] [(0, .box (.d (.agg [I a1, I a2, I a3]))), (16, .row 0 3 [])] (.exit 0) [(7, .own 16 0)] [(16, .row 0 3 t5)], (t3 != 0) = false, Computes cx 29 [.lst true 1 [I t1, I t2]] (I t3), Computes cx 36 [.agg [I a1, I a2, I a3]] (I t2), Computes cx 34 [.lst false 3 a0] (I t1)]) (by kernel_rfl) ⟨(eqf h6), (loopF_to R_drive_Refined_L1 h5), (nef h4), ((c_drive_first h3).le (.cons (.full _ _ _) (.nil)) (.refl _)), (c_drive_Spot_check h2), (c_drive_CheckModel_2 h1), trivial⟩
  · replace h := ite_f h h4
    replace h := Option.some.inj h
    subst h
    exact (run (n := 100) (f := 11) (args := [.lst false 3 a0, .agg [I a1, I a2, I a3]]) (orc := [.ret (I t1), .ret (I t2), .ret (I t3), .br true]) (r := .tup [.lst true 0 [], I t3]) (ob := [(t3 != 0) = true, Computes cx 29 [.lst true 1 [I t1, I t2]] (I t3), Computes cx 36 [.agg [I a1, I a2, I a3]] (I t2), Computes cx 34 [.lst false 3 a0] (I t1)]) (by kernel_rfl) ⟨(net h4), ((c_drive_first h3).le (.cons (.full _ _ _) (.nil)) (.refl _)), (c_drive_Spot_check h2), (c_drive_CheckModel_2 h1), trivial⟩).le (LEs.refl _) (.tups (.cons (.lst _ _ _ _ _ nofun (.inl rfl)) (.cons (.refl _) (.nil))))
/- spillage/drive.CheckAxis: .agg [I a0, I a1, I a2] -/
def F_drive_CheckAxis (n : Nat) (a0 : Int) (a1 : Int) (a2 : Int) : Option (Int) :=
  (F_drive_checkEnds_2 n a0 a1 1000).bind fun t1 =>
  (F_drive_within_3 n a2 0 50).bind fun t2 =>
  (F_drive_first n ([I t1, I t2])).bind fun t3 =>
  some t3
theorem c_drive_CheckAxis {n : Nat} {a0 : Int} {a1 : Int} {a2 : Int} {r : Int} (h : F_drive_CheckAxis n a0 a1 a2 = some r) : Computes cx 66 [.agg [I a0, I a1, I a2]] (I r) := by
  unfold F_drive_CheckAxis at h
  obtain ⟨t1, h1, h⟩ := bnd_of h
  obtain ⟨t2, h2, h⟩ := bnd_of h
  obtain ⟨t3, h3, h⟩ := bnd_of h
  replace h := Option.some.inj h
  subst h
  exact run (n := 100) (f := 66) (args := [.agg [I a0, I a1, I a2]]) (orc := [.ret (I t1), .ret (I t2), .ret (I t3)]) (r := I t3) (ob := [Computes cx 29 [.lst true 1 [I t1, I t2]] (I t3), Computes cx 35 [I a2, I 0, I 50] (I t2), Computes cx 31 [.agg [I a0, I a1], I 1000] (I t1)]) (by kernel_rfl) ⟨((c_drive_first h3).le (.cons (.full _ _ _) (.nil)) (.refl _)), (c_drive_within_3 h2), (c_drive_checkEnds_2 h1), trivial⟩
/- spillage/drive.when: B true, I 24 -/
def F_drive_when_7 (n : Nat)  : Option (Int) :=
  some 24
theorem c_drive_when_7 {n : Nat}  {r : Int} (h : F_drive_when_7 n  = some r) : Computes cx 33 [B true, I 24] (I r) := by
  unfold F_drive_when_7 at h
  replace h := Option.some.inj h
  subst h
  exact run (n := 100) (f := 33) (args := [B true, I 24]) (orc := [.no]) (r := I 24) (ob := []) (by kernel_rfl) trivial
/- (spillage/drive.posed).check: .agg [I a0, I a1, I a2, I a3, I a4, I a5] -/
def F_drive_posed_check (n : Nat) (a0 : Int) (a1 : Int) (a2 : Int) (a3 : Int) (a4 : Int) (a5 : Int) : Option (Int) :=
  (F_drive_CheckAxis n a0 a1 a2).bind fun t1 =>
  (F_drive_within_3 n a3 a0 a1).bind fun t2 =>
  (F_drive_first n ([I t1, I t2])).bind fun t3 =>
  if t3 = 0 then
    (F_drive_when_5 n (decide (a4 > a5)) 11).bind fun t5 =>
    if inI64 (a3 - a2) then
    if a4 < (a3 - a2) then
      (F_drive_when_7 n).bind fun t8 =>
      (F_drive_first n ([I t5, I t8])).bind fun t9 =>
      some t9
    else
    (F_drive_when_5 n (decide (a5 > a3)) 24).bind fun t8 =>
    (F_drive_first n ([I t5, I t8])).bind fun t9 =>
    some t9
    else none
  else
  some t3
theorem c_drive_posed_check {n : Nat} {a0 : Int} {a1 : Int} {a2 : Int} {a3 : Int} {a4 : Int} {a5 : Int} {r : Int} (h : F_drive_posed_check n a0 a1 a2 a3 a4 a5 = some r) : Computes cx 58 [.agg [I a0, I a1, I a2, I a3, I a4, I a5]] (I r) := by
  unfold F_drive_posed_check at h
  obtain ⟨t1, h1, h⟩ := bnd_of h
  obtain ⟨t2, h2, h⟩ := bnd_of h
  obtain ⟨t3, h3, h⟩ := bnd_of h
  by_cases h4 : t3 = 0
  · replace h := ite_t h h4
    obtain ⟨t5, h5, h⟩ := bnd_of h
    obtain ⟨h6, h⟩ := grd_of h
    by_cases h7 : a4 < (a3 - a2)
    · replace h := ite_t h h7
      obtain ⟨t8, h8, h⟩ := bnd_of h
      obtain ⟨t9, h9, h⟩ := bnd_of h
      replace h := Option.some.inj h
      subst h
      exact run (n := 100) (f := 58) (args := [.agg [I a0, I a1, I a2, I a3, I a4, I a5]]) (orc := [.ret (I t1), .ret (I t2), .ret (I t3), .br false, .ret (I t5), .br true, .ret (I t8), .ret (I t9)]) (r := I t9) (ob := [Computes cx 29 [.lst true 1 [I t5, I t8]] (I t9), Computes cx 33 [B true, I 24] (I t8), (decide (a4 < (a3 - a2))) = true, inI64 (a3 - a2), Computes cx 33 [B (decide (a4 > a5)), I 11] (I t5), (t3 != 0) = false, Computes cx 29 [.lst true 1 [I t1, I t2]] (I t3), Computes cx 35 [I a3, I a0, I a1] (I t2), Computes cx 66 [.agg [I a0, I a1, I a2]] (I t1)]) (by kernel_rfl) ⟨((c_drive_first h9).le (.cons (.full _ _ _) (.nil)) (.refl _)), (c_drive_when_7 h8), (decide_eq_true h7), h6, (c_drive_when_5 h5), (nef h4), ((c_drive_first h3).le (.cons (.full _ _ _) (.nil)) (.refl _)), (c_drive_within_3 h2), (c_drive_CheckAxis h1), trivial⟩
    · replace h := ite_f h h7
      obtain ⟨t8, h8, h⟩ := bnd_of h
      obtain ⟨t9, h9, h⟩ := bnd_of h
      replace h := Option.some.inj h
      subst h
      exact run (n := 100) (f := 58) (args := [.agg [I a0, I a1, I a2, I a3, I a4, I a5]]) (orc := [.ret (I t1), .ret (I t2), .ret (I t3), .br false, .ret (I t5), .br false, .ret (I t8), .ret (I t9)]) (r := I t9) (ob := [Computes cx 29 [.lst true 1 [I t5, I t8]] (I t9), Computes cx 33 [B (decide (a5 > a3)), I 24] (I t8), (decide (a4 < (a3 - a2))) = false, inI64 (a3 - a2), Computes cx 33 [B (decide (a4 > a5)), I 11] (I t5), (t3 != 0) = false, Computes cx 29 [.lst true 1 [I t1, I t2]] (I t3), Computes cx 35 [I a3, I a0, I a1] (I t2), Computes cx 66 [.agg [I a0, I a1, I a2]] (I t1)]) (by kernel_rfl) ⟨((c_drive_first h9).le (.cons (.full _ _ _) (.nil)) (.refl _)), (c_drive_when_5 h8), (decide_eq_false h7), h6, (c_drive_when_5 h5), (nef h4), ((c_drive_first h3).le (.cons (.full _ _ _) (.nil)) (.refl _)), (c_drive_within_3 h2), (c_drive_CheckAxis h1), trivial⟩
  · replace h := ite_f h h4
    replace h := Option.some.inj h
    subst h
    exact run (n := 100) (f := 58) (args := [.agg [I a0, I a1, I a2, I a3, I a4, I a5]]) (orc := [.ret (I t1), .ret (I t2), .ret (I t3), .br true]) (r := I t3) (ob := [(t3 != 0) = true, Computes cx 29 [.lst true 1 [I t1, I t2]] (I t3), Computes cx 35 [I a3, I a0, I a1] (I t2), Computes cx 66 [.agg [I a0, I a1, I a2]] (I t1)]) (by kernel_rfl) ⟨(net h4), ((c_drive_first h3).le (.cons (.full _ _ _) (.nil)) (.refl _)), (c_drive_within_3 h2), (c_drive_CheckAxis h1), trivial⟩
end Go.Proofs.YtegcijomjkffgaaDoor
