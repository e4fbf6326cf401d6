/-
  Printed by gsx.py: functions of the program as Lean functions, and that the code computes them.
-/
import Derived.Test.YtojmcpnpojdnmaaGreatDoorGen2
set_option linter.unusedVariables false
set_option linter.unusedSimpArgs false
set_option linter.unnecessarySimpa false
set_option maxRecDepth 10000
namespace Go.Proofs.YtojmcpnpojdnmaaGreatDoor
open Go.SX
/- (spillage/field.ranked).compare: .agg [.v (.string a0), I a1, I a2, I a3, I a4, I a5, I a6, I a7, I a8, I a9, I a10, I a11], .agg [.v (.string a12), I a13, I a14, I a15, I a16, I a17, I a18, I a19, I a20, I a21, I a22, I a23] -/
def F_field_ranked_compare (n : Nat) (a0 : ByteArray) (a1 : Int) (a2 : Int) (a3 : Int) (a4 : Int) (a5 : Int) (a6 : Int) (a7 : Int) (a8 : Int) (a9 : Int) (a10 : Int) (a11 : Int) (a12 : ByteArray) (a13 : Int) (a14 : Int) (a15 : Int) (a16 : Int) (a17 : Int) (a18 : Int) (a19 : Int) (a20 : Int) (a21 : Int) (a22 : Int) (a23 : Int) : Option (Int) :=
  (F_cmp_Compare_g n a10 a22).bind fun t1 =>
  (F_cmp_Compare_g n a11 a23).bind fun t2 =>
  (F_cmp_Or_g n ([I t1, I t2])).bind fun t3 =>
  some t3
theorem c_field_ranked_compare {n : Nat} {a0 : ByteArray} {a1 : Int} {a2 : Int} {a3 : Int} {a4 : Int} {a5 : Int} {a6 : Int} {a7 : Int} {a8 : Int} {a9 : Int} {a10 : Int} {a11 : Int} {a12 : ByteArray} {a13 : Int} {a14 : Int} {a15 : Int} {a16 : Int} {a17 : Int} {a18 : Int} {a19 : Int} {a20 : Int} {a21 : Int} {a22 : Int} {a23 : Int} {r : Int} (h : F_field_ranked_compare n a0 a1 a2 a3 a4 a5 a6 a7 a8 a9 a10 a11 a12 a13 a14 a15 a16 a17 a18 a19 a20 a21 a22 a23 = some r) : Computes cx 131 [.agg [.v (.string a0), I a1, I a2, I a3, I a4, I a5, I a6, I a7, I a8, I a9, I a10, I a11], .agg [.v (.string a12), I a13, I a14, I a15, I a16, I a17, I a18, I a19, I a20, I a21, I a22, I a23]] (I r) := by
  unfold F_field_ranked_compare at h
  obtain ⟨t1, h1, h⟩ := bnd_of h
  obtain ⟨t2, h2, h⟩ := bnd_of h
  obtain ⟨t3, h3, h⟩ := bnd_of h
  replace h := Option.some.inj h
  subst h
  exact run (n := 100) (f := 131) (args := [.agg [.v (.string a0), I a1, I a2, I a3, I a4, I a5, I a6, I a7, I a8, I a9, I a10, I a11], .agg [.v (.string a12), I a13, I a14, I a15, I a16, I a17, I a18, I a19, I a20, I a21, I a22, I a23]]) (orc := [.ret (I t1), .ret (I t2), .ret (I t3)]) (r := I t3) (ob := [Computes cx 155 [.lst true 1 [I t1, I t2]] (I t3), Computes cx 64 [I a11, I a23] (I t2), Computes cx 64 [I a10, I a22] (I t1)]) (by kernel_rfl) ⟨((c_cmp_Or_g h3).le (.cons (.full _ _ _) (.nil)) (.refl _)), (c_cmp_Compare_g h2), (c_cmp_Compare_g h1), trivial⟩
def F_field_indices_L2 (n : Nat) (a0 : List D) (sb : Int × List D) (sc : (Int × List D)) : Option (((Int × List D)) ⊕ ((List D))) :=
  if sc.1 > 0 then
    if 0 ≤ sc.1 ∧ sc.1 < ((sc.2).length : Int) then
    ((nth (sc.2) (Int.toNat sc.1)).bind un_Asi11Z).bind fun tc3 =>
    if inI64 (sc.1 - 1) then
    if 0 ≤ (sc.1 - 1) ∧ (sc.1 - 1) < ((sc.2).length : Int) then
    ((nth (sc.2) (Int.toNat (sc.1 - 1))).bind un_Asi11Z).bind fun tc6 =>
    (F_field_ranked_compare n tc3.1 tc3.2.1 tc3.2.2.1 tc3.2.2.2.1 tc3.2.2.2.2.1 tc3.2.2.2.2.2.1 tc3.2.2.2.2.2.2.1 tc3.2.2.2.2.2.2.2.1 tc3.2.2.2.2.2.2.2.2.1 tc3.2.2.2.2.2.2.2.2.2.1 tc3.2.2.2.2.2.2.2.2.2.2.1 tc3.2.2.2.2.2.2.2.2.2.2.2 tc6.1 tc6.2.1 tc6.2.2.1 tc6.2.2.2.1 tc6.2.2.2.2.1 tc6.2.2.2.2.2.1 tc6.2.2.2.2.2.2.1 tc6.2.2.2.2.2.2.2.1 tc6.2.2.2.2.2.2.2.2.1 tc6.2.2.2.2.2.2.2.2.2.1 tc6.2.2.2.2.2.2.2.2.2.2.1 tc6.2.2.2.2.2.2.2.2.2.2.2).bind fun tc7 =>
    if tc7 < 0 then
      if (Int.toNat sc.1) < (sc.2).length then
      if 0 ≤ (sc.1 - 1) ∧ (sc.1 - 1) < (((List.set sc.2 (Int.toNat sc.1) (.agg [.v (.string tc6.1), I tc6.2.1, I tc6.2.2.1, I tc6.2.2.2.1, I tc6.2.2.2.2.1, I tc6.2.2.2.2.2.1, I tc6.2.2.2.2.2.2.1, I tc6.2.2.2.2.2.2.2.1, I tc6.2.2.2.2.2.2.2.2.1, I tc6.2.2.2.2.2.2.2.2.2.1, I tc6.2.2.2.2.2.2.2.2.2.2.1, I tc6.2.2.2.2.2.2.2.2.2.2.2] : D)) : List D).length : Int) then
      if (Int.toNat (sc.1 - 1)) < ((List.set sc.2 (Int.toNat sc.1) (.agg [.v (.string tc6.1), I tc6.2.1, I tc6.2.2.1, I tc6.2.2.2.1, I tc6.2.2.2.2.1, I tc6.2.2.2.2.2.1, I tc6.2.2.2.2.2.2.1, I tc6.2.2.2.2.2.2.2.1, I tc6.2.2.2.2.2.2.2.2.1, I tc6.2.2.2.2.2.2.2.2.2.1, I tc6.2.2.2.2.2.2.2.2.2.2.1, I tc6.2.2.2.2.2.2.2.2.2.2.2] : D)) : List D).length then
      some (.inl ((sc.1 - 1), (List.set (List.set sc.2 (Int.toNat sc.1) (.agg [.v (.string tc6.1), I tc6.2.1, I tc6.2.2.1, I tc6.2.2.2.1, I tc6.2.2.2.2.1, I tc6.2.2.2.2.2.1, I tc6.2.2.2.2.2.2.1, I tc6.2.2.2.2.2.2.2.1, I tc6.2.2.2.2.2.2.2.2.1, I tc6.2.2.2.2.2.2.2.2.2.1, I tc6.2.2.2.2.2.2.2.2.2.2.1, I tc6.2.2.2.2.2.2.2.2.2.2.2] : D)) (Int.toNat (sc.1 - 1)) (.agg [.v (.string tc3.1), I tc3.2.1, I tc3.2.2.1, I tc3.2.2.2.1, I tc3.2.2.2.2.1, I tc3.2.2.2.2.2.1, I tc3.2.2.2.2.2.2.1, I tc3.2.2.2.2.2.2.2.1, I tc3.2.2.2.2.2.2.2.2.1, I tc3.2.2.2.2.2.2.2.2.2.1, I tc3.2.2.2.2.2.2.2.2.2.2.1, I tc3.2.2.2.2.2.2.2.2.2.2.2] : D))))
      else none
      else none
      else none
    else
    some (.inr sc.2)
    else none
    else none
    else none
  else
  some (.inr sc.2)
noncomputable def T_field_indices_L2 (a0 : List D) (sb : Int × List D) (sc : (Int × List D)) : List (Nat × AV) := [(0, .own 3 0), (1, .d (I 0)), (2, .d (I (((a0.take ((List.replicate (Int.toNat ((a0).length : Int)) (.agg [.v (.string ⟨#[]⟩), I 0, I 0, I 0, I 0, I 0, I 0, I 0, I 0, I 0, I 0, I 0] : D)) : List D).length ++ (List.replicate (Int.toNat ((a0).length : Int)) (.agg [.v (.string ⟨#[]⟩), I 0, I 0, I 0, I 0, I 0, I 0, I 0, I 0, I 0, I 0, I 0] : D)).drop (a0).length)).length : Int))), (3, .d (.fn (.func 131) [] [])), (8, .d (I sb.1)), (9, .d (I sc.1))]
noncomputable def H_field_indices_L2 (a0 : List D) (sb : Int × List D) (sc : (Int × List D)) : List (Nat × Blk) := [(3, .row 0 12 sc.2)]
noncomputable def X_field_indices_L2 (a0 : List D) (sb : Int × List D) (e : (List D)) : Ex := (.exit 2)
noncomputable def XT_field_indices_L2 (a0 : List D) (sb : Int × List D) (e : (List D)) : List (Nat × AV) := [(0, .own 3 0), (1, .d (I 0)), (2, .d (I (((a0.take ((List.replicate (Int.toNat ((a0).length : Int)) (.agg [.v (.string ⟨#[]⟩), I 0, I 0, I 0, I 0, I 0, I 0, I 0, I 0, I 0, I 0, I 0] : D)) : List D).length ++ (List.replicate (Int.toNat ((a0).length : Int)) (.agg [.v (.string ⟨#[]⟩), I 0, I 0, I 0, I 0, I 0, I 0, I 0, I 0, I 0, I 0, I 0] : D)).drop (a0).length)).length : Int))), (3, .d (.fn (.func 131) [] [])), (8, .d (I sb.1))]
noncomputable def XH_field_indices_L2 (a0 : List D) (sb : Int × List D) (e : (List D)) : List (Nat × Blk) := [(3, .row 0 12 e)]
theorem R_field_indices_L2 {n : Nat} {a0 : List D} {sb : Int × List D} (sc : (Int × List D)) (r) (h : F_field_indices_L2 n a0 sb sc = some r) : Rd cx (loopAt cx.P 185 1) 53 33 false (T_field_indices_L2 a0 sb) (H_field_indices_L2 a0 sb) (X_field_indices_L2 a0 sb) (XT_field_indices_L2 a0 sb) (XH_field_indices_L2 a0 sb) sc r := by
  unfold F_field_indices_L2 at h
  by_cases hc1 : sc.1 > 0
  · replace h := ite_t h hc1
    obtain ⟨hc2, h⟩ := grd_of h
    obtain ⟨tc3, hc3, h⟩ := bnd_of h
    obtain ⟨hc4, h⟩ := grd_of h
    obtain ⟨hc5, h⟩ := grd_of h
    obtain ⟨tc6, hc6, h⟩ := bnd_of h
    obtain ⟨tc7, hc7, h⟩ := bnd_of h
    by_cases hc8 : tc7 < 0
    · replace h := ite_t h hc8
      obtain ⟨hc9, h⟩ := grd_of h
      obtain ⟨hc10, h⟩ := grd_of h
      obtain ⟨hc11, h⟩ := grd_of h
      replace h := Option.some.inj h
      subst h
      exact ⟨100, 41, [.br true, .br true, .el (.agg [.v (.string tc3.1), I tc3.2.1, I tc3.2.2.1, I tc3.2.2.2.1, I tc3.2.2.2.2.1, I tc3.2.2.2.2.2.1, I tc3.2.2.2.2.2.2.1, I tc3.2.2.2.2.2.2.2.1, I tc3.2.2.2.2.2.2.2.2.1, I tc3.2.2.2.2.2.2.2.2.2.1, I tc3.2.2.2.2.2.2.2.2.2.2.1, I tc3.2.2.2.2.2.2.2.2.2.2.2]), .br true, .el (.agg [.v (.string tc6.1), I tc6.2.1, I tc6.2.2.1, I tc6.2.2.2.1, I tc6.2.2.2.2.1, I tc6.2.2.2.2.2.1, I tc6.2.2.2.2.2.2.1, I tc6.2.2.2.2.2.2.2.1, I tc6.2.2.2.2.2.2.2.2.1, I tc6.2.2.2.2.2.2.2.2.2.1, I tc6.2.2.2.2.2.2.2.2.2.2.1, I tc6.2.2.2.2.2.2.2.2.2.2.2]), .ret (I tc7), .br true, .br true, .el (.agg [.v (.string tc6.1), I tc6.2.1, I tc6.2.2.1, I tc6.2.2.2.1, I tc6.2.2.2.2.1, I tc6.2.2.2.2.2.1, I tc6.2.2.2.2.2.2.1, I tc6.2.2.2.2.2.2.2.1, I tc6.2.2.2.2.2.2.2.2.1, I tc6.2.2.2.2.2.2.2.2.2.1, I tc6.2.2.2.2.2.2.2.2.2.2.1, I tc6.2.2.2.2.2.2.2.2.2.2.2]), .br true, .el (.agg [.v (.string tc3.1), I tc3.2.1, I tc3.2.2.1, I tc3.2.2.2.1, I tc3.2.2.2.2.1, I tc3.2.2.2.2.2.1, I tc3.2.2.2.2.2.2.1, I tc3.2.2.2.2.2.2.2.1, I tc3.2.2.2.2.2.2.2.2.1, I tc3.2.2.2.2.2.2.2.2.2.1, I tc3.2.2.2.2.2.2.2.2.2.2.1, I tc3.2.2.2.2.2.2.2.2.2.2.2]), .br true, .br true, .br true, .br true], [], [0, 1, 2, 3, 8, 9], [3], round_of (ob := [inI64 (sc.1 - 1), (Int.toNat (sc.1 - 1)) < ((List.set sc.2 (Int.toNat sc.1) (.agg [.v (.string tc6.1), I tc6.2.1, I tc6.2.2.1, I tc6.2.2.2.1, I tc6.2.2.2.2.1, I tc6.2.2.2.2.2.1, I tc6.2.2.2.2.2.2.1, I tc6.2.2.2.2.2.2.2.1, I tc6.2.2.2.2.2.2.2.2.1, I tc6.2.2.2.2.2.2.2.2.2.1, I tc6.2.2.2.2.2.2.2.2.2.2.1, I tc6.2.2.2.2.2.2.2.2.2.2.2] : D)) : List D).length, 0 ≤ (sc.1 - 1) ∧ (sc.1 - 1) < (((List.set sc.2 (Int.toNat sc.1) (.agg [.v (.string tc6.1), I tc6.2.1, I tc6.2.2.1, I tc6.2.2.2.1, I tc6.2.2.2.2.1, I tc6.2.2.2.2.2.1, I tc6.2.2.2.2.2.2.1, I tc6.2.2.2.2.2.2.2.1, I tc6.2.2.2.2.2.2.2.2.1, I tc6.2.2.2.2.2.2.2.2.2.1, I tc6.2.2.2.2.2.2.2.2.2.2.1, I tc6.2.2.2.2.2.2.2.2.2.2.2] : D)) : List D).length : Int), (Int.toNat sc.1) < (sc.2).length, 0 ≤ sc.1 ∧ sc.1 < ((sc.2).length : Int), nth (sc.2) (Int.toNat sc.1) = some (.agg [.v (.string tc3.1), I tc3.2.1, I tc3.2.2.1, I tc3.2.2.2.1, I tc3.2.2.2.2.1, I tc3.2.2.2.2.2.1, I tc3.2.2.2.2.2.2.1, I tc3.2.2.2.2.2.2.2.1, I tc3.2.2.2.2.2.2.2.2.1, I tc3.2.2.2.2.2.2.2.2.2.1, I tc3.2.2.2.2.2.2.2.2.2.2.1, I tc3.2.2.2.2.2.2.2.2.2.2.2]), 0 ≤ sc.1 ∧ sc.1 < ((sc.2).length : Int), nth (sc.2) (Int.toNat (sc.1 - 1)) = some (.agg [.v (.string tc6.1), I tc6.2.1, I tc6.2.2.1, I tc6.2.2.2.1, I tc6.2.2.2.2.1, I tc6.2.2.2.2.2.1, I tc6.2.2.2.2.2.2.1, I tc6.2.2.2.2.2.2.2.1, I tc6.2.2.2.2.2.2.2.2.1, I tc6.2.2.2.2.2.2.2.2.2.1, I tc6.2.2.2.2.2.2.2.2.2.2.1, I tc6.2.2.2.2.2.2.2.2.2.2.2]), 0 ≤ (sc.1 - 1) ∧ (sc.1 - 1) < ((sc.2).length : Int), inI64 (sc.1 - 1), inI64 (sc.1 - 1), (decide (tc7 < 0)) = true, Computes cx 131 [.agg [.v (.string tc3.1), I tc3.2.1, I tc3.2.2.1, I tc3.2.2.2.1, I tc3.2.2.2.2.1, I tc3.2.2.2.2.2.1, I tc3.2.2.2.2.2.2.1, I tc3.2.2.2.2.2.2.2.1, I tc3.2.2.2.2.2.2.2.2.1, I tc3.2.2.2.2.2.2.2.2.2.1, I tc3.2.2.2.2.2.2.2.2.2.2.1, I tc3.2.2.2.2.2.2.2.2.2.2.2], .agg [.v (.string tc6.1), I tc6.2.1, I tc6.2.2.1, I tc6.2.2.2.1, I tc6.2.2.2.2.1, I tc6.2.2.2.2.2.1, I tc6.2.2.2.2.2.2.1, I tc6.2.2.2.2.2.2.2.1, I tc6.2.2.2.2.2.2.2.2.1, I tc6.2.2.2.2.2.2.2.2.2.1, I tc6.2.2.2.2.2.2.2.2.2.2.1, I tc6.2.2.2.2.2.2.2.2.2.2.2]] (I tc7), nth (sc.2) (Int.toNat (sc.1 - 1)) = some (.agg [.v (.string tc6.1), I tc6.2.1, I tc6.2.2.1, I tc6.2.2.2.1, I tc6.2.2.2.2.1, I tc6.2.2.2.2.2.1, I tc6.2.2.2.2.2.2.1, I tc6.2.2.2.2.2.2.2.1, I tc6.2.2.2.2.2.2.2.2.1, I tc6.2.2.2.2.2.2.2.2.2.1, I tc6.2.2.2.2.2.2.2.2.2.2.1, I tc6.2.2.2.2.2.2.2.2.2.2.2]), 0 ≤ (sc.1 - 1) ∧ (sc.1 - 1) < ((sc.2).length : Int), inI64 (sc.1 - 1), nth (sc.2) (Int.toNat sc.1) = some (.agg [.v (.string tc3.1), I tc3.2.1, I tc3.2.2.1, I tc3.2.2.2.1, I tc3.2.2.2.2.1, I tc3.2.2.2.2.2.1, I tc3.2.2.2.2.2.2.1, I tc3.2.2.2.2.2.2.2.1, I tc3.2.2.2.2.2.2.2.2.1, I tc3.2.2.2.2.2.2.2.2.2.1, I tc3.2.2.2.2.2.2.2.2.2.2.1, I tc3.2.2.2.2.2.2.2.2.2.2.2]), 0 ≤ sc.1 ∧ sc.1 < ((sc.2).length : Int), (decide (sc.1 > 0)) = true]) (by kernel_rfl) ⟨hc4, hc11, hc10, hc9, hc2, nel_ok un_Asi11Z_ok hc3, hc2, nel_ok un_Asi11Z_ok hc6, hc5, hc4, hc4, (decide_eq_true hc8), (c_field_ranked_compare hc7), nel_ok un_Asi11Z_ok hc6, hc5, hc4, nel_ok un_Asi11Z_ok hc3, hc2, (decide_eq_true hc1), trivial⟩⟩
    · replace h := ite_f h hc8
      replace h := Option.some.inj h
      subst h
      exact ⟨⟨100, 41, [.br true, .br true, .el (.agg [.v (.string tc3.1), I tc3.2.1, I tc3.2.2.1, I tc3.2.2.2.1, I tc3.2.2.2.2.1, I tc3.2.2.2.2.2.1, I tc3.2.2.2.2.2.2.1, I tc3.2.2.2.2.2.2.2.1, I tc3.2.2.2.2.2.2.2.2.1, I tc3.2.2.2.2.2.2.2.2.2.1, I tc3.2.2.2.2.2.2.2.2.2.2.1, I tc3.2.2.2.2.2.2.2.2.2.2.2]), .br true, .el (.agg [.v (.string tc6.1), I tc6.2.1, I tc6.2.2.1, I tc6.2.2.2.1, I tc6.2.2.2.2.1, I tc6.2.2.2.2.2.1, I tc6.2.2.2.2.2.2.1, I tc6.2.2.2.2.2.2.2.1, I tc6.2.2.2.2.2.2.2.2.1, I tc6.2.2.2.2.2.2.2.2.2.1, I tc6.2.2.2.2.2.2.2.2.2.2.1, I tc6.2.2.2.2.2.2.2.2.2.2.2]), .ret (I tc7), .br false], [], [0, 1, 2, 3, 8], [3], round_of (ob := [(decide (tc7 < 0)) = false, Computes cx 131 [.agg [.v (.string tc3.1), I tc3.2.1, I tc3.2.2.1, I tc3.2.2.2.1, I tc3.2.2.2.2.1, I tc3.2.2.2.2.2.1, I tc3.2.2.2.2.2.2.1, I tc3.2.2.2.2.2.2.2.1, I tc3.2.2.2.2.2.2.2.2.1, I tc3.2.2.2.2.2.2.2.2.2.1, I tc3.2.2.2.2.2.2.2.2.2.2.1, I tc3.2.2.2.2.2.2.2.2.2.2.2], .agg [.v (.string tc6.1), I tc6.2.1, I tc6.2.2.1, I tc6.2.2.2.1, I tc6.2.2.2.2.1, I tc6.2.2.2.2.2.1, I tc6.2.2.2.2.2.2.1, I tc6.2.2.2.2.2.2.2.1, I tc6.2.2.2.2.2.2.2.2.1, I tc6.2.2.2.2.2.2.2.2.2.1, I tc6.2.2.2.2.2.2.2.2.2.2.1, I tc6.2.2.2.2.2.2.2.2.2.2.2]] (I tc7), nth (sc.2) (Int.toNat (sc.1 - 1)) = some (.agg [.v (.string tc6.1), I tc6.2.1, I tc6.2.2.1, I tc6.2.2.2.1, I tc6.2.2.2.2.1, I tc6.2.2.2.2.2.1, I tc6.2.2.2.2.2.2.1, I tc6.2.2.2.2.2.2.2.1, I tc6.2.2.2.2.2.2.2.2.1, I tc6.2.2.2.2.2.2.2.2.2.1, I tc6.2.2.2.2.2.2.2.2.2.2.1, I tc6.2.2.2.2.2.2.2.2.2.2.2]), 0 ≤ (sc.1 - 1) ∧ (sc.1 - 1) < ((sc.2).length : Int), inI64 (sc.1 - 1), nth (sc.2) (Int.toNat sc.1) = some (.agg [.v (.string tc3.1), I tc3.2.1, I tc3.2.2.1, I tc3.2.2.2.1, I tc3.2.2.2.2.1, I tc3.2.2.2.2.2.1, I tc3.2.2.2.2.2.2.1, I tc3.2.2.2.2.2.2.2.1, I tc3.2.2.2.2.2.2.2.2.1, I tc3.2.2.2.2.2.2.2.2.2.1, I tc3.2.2.2.2.2.2.2.2.2.2.1, I tc3.2.2.2.2.2.2.2.2.2.2.2]), 0 ≤ sc.1 ∧ sc.1 < ((sc.2).length : Int), (decide (sc.1 > 0)) = true]) (by kernel_rfl) ⟨(decide_eq_false hc8), (c_field_ranked_compare hc7), nel_ok un_Asi11Z_ok hc6, hc5, hc4, nel_ok un_Asi11Z_ok hc3, hc2, (decide_eq_true hc1), trivial⟩⟩, nofun⟩
  · replace h := ite_f h hc1
    replace h := Option.some.inj h
    subst h
    exact ⟨⟨100, 41, [.br false, .no], [], [0, 1, 2, 3, 8], [3], round_of (ob := [(decide (sc.1 > 0)) = false]) (by kernel_rfl) ⟨(decide_eq_false hc1), trivial⟩⟩, nofun⟩
def F_field_indices_L3 (n : Nat) (a0 : List D) (sb : (Int × List D)) : Option (((Int × List D)) ⊕ ((List D))) :=
  if sb.1 < (((a0.take ((List.replicate (Int.toNat ((a0).length : Int)) (.agg [.v (.string ⟨#[]⟩), I 0, I 0, I 0, I 0, I 0, I 0, I 0, I 0, I 0, I 0, I 0] : D)) : List D).length ++ (List.replicate (Int.toNat ((a0).length : Int)) (.agg [.v (.string ⟨#[]⟩), I 0, I 0, I 0, I 0, I 0, I 0, I 0, I 0, I 0, I 0, I 0] : D)).drop (a0).length)).length : Int) then
    (loopF (F_field_indices_L2 n a0 sb) n (sb.1, sb.2)).bind fun tb2 =>
    if inI64 (sb.1 + 1) then
    some (.inl ((sb.1 + 1), tb2))
    else none
  else
  some (.inr sb.2)
noncomputable def T_field_indices_L3 (a0 : List D) (sb : (Int × List D)) : List (Nat × AV) := [(0, .own 3 0), (1, .d (I 0)), (2, .d (I (((a0.take ((List.replicate (Int.toNat ((a0).length : Int)) (.agg [.v (.string ⟨#[]⟩), I 0, I 0, I 0, I 0, I 0, I 0, I 0, I 0, I 0, I 0, I 0] : D)) : List D).length ++ (List.replicate (Int.toNat ((a0).length : Int)) (.agg [.v (.string ⟨#[]⟩), I 0, I 0, I 0, I 0, I 0, I 0, I 0, I 0, I 0, I 0, I 0] : D)).drop (a0).length)).length : Int))), (3, .d (.fn (.func 131) [] [])), (8, .d (I sb.1))]
noncomputable def H_field_indices_L3 (a0 : List D) (sb : (Int × List D)) : List (Nat × Blk) := [(3, .row 0 12 sb.2)]
noncomputable def X_field_indices_L3 (a0 : List D) (e : (List D)) : Ex := (.exit 0)
noncomputable def XT_field_indices_L3 (a0 : List D) (e : (List D)) : List (Nat × AV) := []
noncomputable def XH_field_indices_L3 (a0 : List D) (e : (List D)) : List (Nat × Blk) := [(3, .row 0 12 e)]
theorem R_field_indices_L3 {n : Nat} {a0 : List D} (sb : (Int × List D)) (r) (h : F_field_indices_L3 n a0 sb = some r) : Rd cx (loopAt cx.P 185 0) 53 33 false (T_field_indices_L3 a0) (H_field_indices_L3 a0) (X_field_indices_L3 a0) (XT_field_indices_L3 a0) (XH_field_indices_L3 a0) sb r := by
  unfold F_field_indices_L3 at h
  by_cases hb1 : sb.1 < (((a0.take ((List.replicate (Int.toNat ((a0).length : Int)) (.agg [.v (.string ⟨#[]⟩), I 0, I 0, I 0, I 0, I 0, I 0, I 0, I 0, I 0, I 0, I 0] : D)) : List D).length ++ (List.replicate (Int.toNat ((a0).length : Int)) (.agg [.v (.string ⟨#[]⟩), I 0, I 0, I 0, I 0, I 0, I 0, I 0, I 0, I 0, I 0, I 0] : D)).drop (a0).length)).length : Int)
  · replace h := ite_t h hb1
    obtain ⟨tb2, hb2, h⟩ := bnd_of h
    obtain ⟨hb3, h⟩ := grd_of h
    replace h := Option.some.inj h
    subst h
    exact ⟨100, 36, [.br true, .lp [] [0, 1, 2, 3, 8, 9] [3] (.exit 2) [(0, .own 3 0), (1, .d (I 0)), (2, .d (I (((a0.take ((List.replicate (Int.toNat ((a0).length : Int)) (.agg [.v (.string ⟨#[]⟩), I 0, I 0, I 0, I 0, I 0, I 0, I 0, I 0, I 0, I 0, I 0] : D)) : List D).length ++ (List.replicate (Int.toNat ((a0).length : Int)) (.agg [.v (.string ⟨#[]⟩), I 0, I 0, I 0, I 0, I 0, I 0, I 0, I 0, I 0, I 0, I 0] : D)).drop (a0).length)).length : Int))), (3, .d (.fn (.func 131) [] [])), (8, .d (I sb.1))] [(3, .row 0 12 tb2)] 90], [], [0, 1, 2, 3, 8], [3], round_of (ob := [inI64 (sb.1 + 1), LoopN cx (loopAt cx.P 185 1) 53 33 false [(0, .own 3 0), (1, .d (I 0)), (2, .d (I (((a0.take ((List.replicate (Int.toNat ((a0).length : Int)) (.agg [.v (.string ⟨#[]⟩), I 0, I 0, I 0, I 0, I 0, I 0, I 0, I 0, I 0, I 0, I 0] : D)) : List D).length ++ (List.replicate (Int.toNat ((a0).length : Int)) (.agg [.v (.string ⟨#[]⟩), I 0, I 0, I 0, I 0, I 0, I 0, I 0, I 0, I 0, I 0, I 0] : D)).drop (a0).length)).length : Int))), (3, .d (.fn (.func 131) [] [])), (8, .d (I sb.1)), (9, .d (I sb.1))] [(3, .row 0 12 sb.2)] (.exit 2) [(0, .own 3 0), (1, .d (I 0)), (2, .d (I (((a0.take ((List.replicate (Int.toNat ((a0).length : Int)) (.agg [.v (.string ⟨#[]⟩), I 0, I 0, I 0, I 0, I 0, I 0, I 0, I 0, I 0, I 0, I 0] : D)) : List D).length ++ (List.replicate (Int.toNat ((a0).length : Int)) (.agg [.v (.string ⟨#[]⟩), I 0, I 0, I 0, I 0, I 0, I 0, I 0, I 0, I 0, I 0, I 0] : D)).drop (a0).length)).length : Int))), (3, .d (.fn (.func 131) [] [])), (8, .d (I sb.1))] [(3, .row 0 12 tb2)], (decide (sb.1 < (((a0.take ((List.replicate (Int.toNat ((a0).length : Int)) (.agg [.v (.string ⟨#[]⟩), I 0, I 0, I 0, I 0, I 0, I 0, I 0, I 0, I 0, I 0, I 0] : D)) : List D).length ++ (List.replicate (Int.toNat ((a0).length : Int)) (.agg [.v (.string ⟨#[]⟩), I 0, I 0, I 0, I 0, I 0, I 0, I 0, I 0, I 0, I 0, I 0] : D)).drop (a0).length)).length : Int))) = true]) (by kernel_rfl) ⟨hb3, (loopF_to R_field_indices_L2 hb2), (decide_eq_true hb1), trivial⟩⟩
  · replace h := ite_f h hb1
    replace h := Option.some.inj h
    subst h
    exact ⟨⟨100, 36, [.br false], [], [], [3], round_of (ob := [(decide (sb.1 < (((a0.take ((List.replicate (Int.toNat ((a0).length : Int)) (.agg [.v (.string ⟨#[]⟩), I 0, I 0, I 0, I 0, I 0, I 0, I 0, I 0, I 0, I 0, I 0] : D)) : List D).length ++ (List.replicate (Int.toNat ((a0).length : Int)) (.agg [.v (.string ⟨#[]⟩), I 0, I 0, I 0, I 0, I 0, I 0, I 0, I 0, I 0, I 0, I 0] : D)).drop (a0).length)).length : Int))) = false]) (by kernel_rfl) ⟨(decide_eq_false hb1), trivial⟩⟩, nofun⟩
def F_field_indices_L4 (n : Nat) (a0 : List D) (t2 : Int) (sa : (Unit)) : Option (((Unit)) ⊕ ((List D))) :=
  if inI64 ((((a0.take ((List.replicate (Int.toNat ((a0).length : Int)) (.agg [.v (.string ⟨#[]⟩), I 0, I 0, I 0, I 0, I 0, I 0, I 0, I 0, I 0, I 0, I 0] : D)) : List D).length ++ (List.replicate (Int.toNat ((a0).length : Int)) (.agg [.v (.string ⟨#[]⟩), I 0, I 0, I 0, I 0, I 0, I 0, I 0, I 0, I 0, I 0, I 0] : D)).drop (a0).length)).length : Int) - 0) then
  if ((((a0.take ((List.replicate (Int.toNat ((a0).length : Int)) (.agg [.v (.string ⟨#[]⟩), I 0, I 0, I 0, I 0, I 0, I 0, I 0, I 0, I 0, I 0, I 0] : D)) : List D).length ++ (List.replicate (Int.toNat ((a0).length : Int)) (.agg [.v (.string ⟨#[]⟩), I 0, I 0, I 0, I 0, I 0, I 0, I 0, I 0, I 0, I 0, I 0] : D)).drop (a0).length)).length : Int) - 0) ≤ 12 then
    (loopF (F_field_indices_L3 n a0) n (1, (a0.take ((List.replicate (Int.toNat ((a0).length : Int)) (.agg [.v (.string ⟨#[]⟩), I 0, I 0, I 0, I 0, I 0, I 0, I 0, I 0, I 0, I 0, I 0] : D)) : List D).length ++ (List.replicate (Int.toNat ((a0).length : Int)) (.agg [.v (.string ⟨#[]⟩), I 0, I 0, I 0, I 0, I 0, I 0, I 0, I 0, I 0, I 0, I 0] : D)).drop (a0).length))).bind fun ta3 =>
    some (.inr ta3)
  else
  if t2 = 0 then
    none /- never: slices.heapSortCmpFunc[spillage/field.ranked] -/
  else
  none /- never: slices.choosePivotCmpFunc[spillage/field.ranked] -/
  else none
noncomputable def T_field_indices_L4 (a0 : List D) (t2 : Int) (sa : (Unit)) : List (Nat × AV) := [(0, .own 3 0), (1, .d (I 0)), (2, .d (I (((a0.take ((List.replicate (Int.toNat ((a0).length : Int)) (.agg [.v (.string ⟨#[]⟩), I 0, I 0, I 0, I 0, I 0, I 0, I 0, I 0, I 0, I 0, I 0] : D)) : List D).length ++ (List.replicate (Int.toNat ((a0).length : Int)) (.agg [.v (.string ⟨#[]⟩), I 0, I 0, I 0, I 0, I 0, I 0, I 0, I 0, I 0, I 0, I 0] : D)).drop (a0).length)).length : Int))), (3, .d (I t2)), (4, .d (.fn (.func 131) [] [])), (10, .d (B true)), (11, .d (B true))]
noncomputable def H_field_indices_L4 (a0 : List D) (t2 : Int) (sa : (Unit)) : List (Nat × Blk) := [(3, .row 0 12 (a0.take ((List.replicate (Int.toNat ((a0).length : Int)) (.agg [.v (.string ⟨#[]⟩), I 0, I 0, I 0, I 0, I 0, I 0, I 0, I 0, I 0, I 0, I 0] : D)) : List D).length ++ (List.replicate (Int.toNat ((a0).length : Int)) (.agg [.v (.string ⟨#[]⟩), I 0, I 0, I 0, I 0, I 0, I 0, I 0, I 0, I 0, I 0, I 0] : D)).drop (a0).length))]
noncomputable def X_field_indices_L4 (a0 : List D) (t2 : Int) (e : (List D)) : Ex := .ret
noncomputable def XT_field_indices_L4 (a0 : List D) (t2 : Int) (e : (List D)) : List (Nat × AV) := []
noncomputable def XH_field_indices_L4 (a0 : List D) (t2 : Int) (e : (List D)) : List (Nat × Blk) := [(3, .row 0 12 e)]
theorem R_field_indices_L4 {n : Nat} {a0 : List D} {t2 : Int} (sa : (Unit)) (r) (h : F_field_indices_L4 n a0 t2 sa = some r) : Rd cx (loopAt cx.P 162 0) 148 20 false (T_field_indices_L4 a0 t2) (H_field_indices_L4 a0 t2) (X_field_indices_L4 a0 t2) (XT_field_indices_L4 a0 t2) (XH_field_indices_L4 a0 t2) sa r := by
  unfold F_field_indices_L4 at h
  obtain ⟨ha1, h⟩ := grd_of h
  by_cases ha2 : ((((a0.take ((List.replicate (Int.toNat ((a0).length : Int)) (.agg [.v (.string ⟨#[]⟩), I 0, I 0, I 0, I 0, I 0, I 0, I 0, I 0, I 0, I 0, I 0] : D)) : List D).length ++ (List.replicate (Int.toNat ((a0).length : Int)) (.agg [.v (.string ⟨#[]⟩), I 0, I 0, I 0, I 0, I 0, I 0, I 0, I 0, I 0, I 0, I 0] : D)).drop (a0).length)).length : Int) - 0) ≤ 12
  · replace h := ite_t h ha2
    obtain ⟨ta3, ha3, h⟩ := bnd_of h
    replace h := Option.some.inj h
    subst h
    exact ⟨⟨100, 22, [.br true, .br true, .lp [] [0, 1, 2, 3, 8] [3] (.exit 0) [] [(3, .row 0 12 ta3)] 104], [], [], [3], round_of (ob := [LoopN cx (loopAt cx.P 185 0) 53 33 false [(0, .own 3 0), (1, .d (I 0)), (2, .d (I (((a0.take ((List.replicate (Int.toNat ((a0).length : Int)) (.agg [.v (.string ⟨#[]⟩), I 0, I 0, I 0, I 0, I 0, I 0, I 0, I 0, I 0, I 0, I 0] : D)) : List D).length ++ (List.replicate (Int.toNat ((a0).length : Int)) (.agg [.v (.string ⟨#[]⟩), I 0, I 0, I 0, I 0, I 0, I 0, I 0, I 0, I 0, I 0, I 0] : D)).drop (a0).length)).length : Int))), (3, .d (.fn (.func 131) [] [])), (8, .d (I 1))] [(3, .row 0 12 (a0.take ((List.replicate (Int.toNat ((a0).length : Int)) (.agg [.v (.string ⟨#[]⟩), I 0, I 0, I 0, I 0, I 0, I 0, I 0, I 0, I 0, I 0, I 0] : D)) : List D).length ++ (List.replicate (Int.toNat ((a0).length : Int)) (.agg [.v (.string ⟨#[]⟩), I 0, I 0, I 0, I 0, I 0, I 0, I 0, I 0, I 0, I 0, I 0] : D)).drop (a0).length))] (.exit 0) [] [(3, .row 0 12 ta3)], inI64 1, (decide (((((a0.take ((List.replicate (Int.toNat ((a0).length : Int)) (.agg [.v (.string ⟨#[]⟩), I 0, I 0, I 0, I 0, I 0, I 0, I 0, I 0, I 0, I 0, I 0] : D)) : List D).length ++ (List.replicate (Int.toNat ((a0).length : Int)) (.agg [.v (.string ⟨#[]⟩), I 0, I 0, I 0, I 0, I 0, I 0, I 0, I 0, I 0, I 0, I 0] : D)).drop (a0).length)).length : Int) - 0) ≤ 12)) = true, inI64 ((((a0.take ((List.replicate (Int.toNat ((a0).length : Int)) (.agg [.v (.string ⟨#[]⟩), I 0, I 0, I 0, I 0, I 0, I 0, I 0, I 0, I 0, I 0, I 0] : D)) : List D).length ++ (List.replicate (Int.toNat ((a0).length : Int)) (.agg [.v (.string ⟨#[]⟩), I 0, I 0, I 0, I 0, I 0, I 0, I 0, I 0, I 0, I 0, I 0] : D)).drop (a0).length)).length : Int) - 0)]) (by kernel_rfl) ⟨(loopF_to R_field_indices_L3 ha3), (by unfold inI64; omega), (decide_eq_true ha2), ha1, trivial⟩⟩, nofun⟩
  · replace h := ite_f h ha2
    by_cases ha3 : t2 = 0
    · replace h := ite_t h ha3
      cases h
    · replace h := ite_f h ha3
      cases h
def F_field_indices_L5 (n : Nat) (t3 : List D) (sa : (Int × List D)) : Option (((Int × List D)) ⊕ ((List D))) :=
  if sa.1 < ((t3).length : Int) then
    if 0 ≤ sa.1 ∧ sa.1 < ((t3).length : Int) then
    ((nth (t3) (Int.toNat sa.1)).bind un_Asi11Z).bind fun ta3 =>
    if roomP 8 ((sa.2).length + 1) then
    if inI64 (sa.1 + 1) then
    some (.inl ((sa.1 + 1), (sa.2 ++ ([I ta3.2.2.2.2.2.2.2.2.2.2.2] : List D))))
    else none
    else none
    else none
  else
  some (.inr sa.2)
noncomputable def T_field_indices_L5 (t3 : List D) (sa : (Int × List D)) : List (Nat × AV) := [(1, .d (.fn (.func 133) [] [])), (5, .own 123 0), (8, .own 3 0), (9, .d (I ((t3).length : Int))), (10, .d (I sa.1))]
noncomputable def H_field_indices_L5 (t3 : List D) (sa : (Int × List D)) : List (Nat × Blk) := [(3, .row 0 12 t3), (123, .row 0 1 sa.2)]
noncomputable def X_field_indices_L5 (t3 : List D) (e : (List D)) : Ex := (.exit 0)
noncomputable def XT_field_indices_L5 (t3 : List D) (e : (List D)) : List (Nat × AV) := [(5, .own 123 0)]
noncomputable def XH_field_indices_L5 (t3 : List D) (e : (List D)) : List (Nat × Blk) := [(3, .row 0 12 t3), (123, .row 0 1 e)]
theorem R_field_indices_L5 {n : Nat} {t3 : List D} (sa : (Int × List D)) (r) (h : F_field_indices_L5 n t3 sa = some r) : Rd cx (loopAt cx.P 132 0) 22 118 false (T_field_indices_L5 t3) (H_field_indices_L5 t3) (X_field_indices_L5 t3) (XT_field_indices_L5 t3) (XH_field_indices_L5 t3) sa r := by
  unfold F_field_indices_L5 at h
  by_cases ha1 : sa.1 < ((t3).length : Int)
  · replace h := ite_t h ha1
    obtain ⟨ha2, h⟩ := grd_of h
    obtain ⟨ta3, ha3, h⟩ := bnd_of h
    obtain ⟨ha4, h⟩ := grd_of h
    obtain ⟨ha5, h⟩ := grd_of h
    replace h := Option.some.inj h
    subst h
    exact ⟨100, 124, [.br true, .br true, .el (.agg [.v (.string ta3.1), I ta3.2.1, I ta3.2.2.1, I ta3.2.2.2.1, I ta3.2.2.2.2.1, I ta3.2.2.2.2.2.1, I ta3.2.2.2.2.2.2.1, I ta3.2.2.2.2.2.2.2.1, I ta3.2.2.2.2.2.2.2.2.1, I ta3.2.2.2.2.2.2.2.2.2.1, I ta3.2.2.2.2.2.2.2.2.2.2.1, I ta3.2.2.2.2.2.2.2.2.2.2.2]), .br true, .br true], [], [1, 5, 8, 9, 10], [3, 123], round_of (ob := [inI64 (sa.1 + 1), room cx 3 ((sa.2).length + 1), nth (t3) (Int.toNat sa.1) = some (.agg [.v (.string ta3.1), I ta3.2.1, I ta3.2.2.1, I ta3.2.2.2.1, I ta3.2.2.2.2.1, I ta3.2.2.2.2.2.1, I ta3.2.2.2.2.2.2.1, I ta3.2.2.2.2.2.2.2.1, I ta3.2.2.2.2.2.2.2.2.1, I ta3.2.2.2.2.2.2.2.2.2.1, I ta3.2.2.2.2.2.2.2.2.2.2.1, I ta3.2.2.2.2.2.2.2.2.2.2.2]), 0 ≤ sa.1 ∧ sa.1 < ((t3).length : Int), (decide (sa.1 < ((t3).length : Int))) = true]) (by kernel_rfl) ⟨ha5, (room_of (b := 8) (by kernel_rfl) (by decide) ha4), nel_ok un_Asi11Z_ok ha3, ha2, (decide_eq_true ha1), trivial⟩⟩
  · replace h := ite_f h ha1
    replace h := Option.some.inj h
    subst h
    exact ⟨⟨100, 124, [.br false], [], [5], [3, 123], round_of (ob := [(decide (sa.1 < ((t3).length : Int))) = false]) (by kernel_rfl) ⟨(decide_eq_false ha1), trivial⟩⟩, nofun⟩
/- spillage/field.indices: .lst false 12 a0 -/
def F_field_indices (n : Nat) (a0 : List D) : Option (List D) :=
  if 0 ≤ ((a0).length : Int) ∧ ((a0).length : Int) ≤ ((a0).length : Int) ∧ 104 * ((a0).length : Int) ≤ 281474976710656 ∧ ((a0).length : Int) ≤ 9223372036854775807 then
  (F_math_bits_Len n (IntKind.wrap .u64 (((a0.take ((List.replicate (Int.toNat ((a0).length : Int)) (.agg [.v (.string ⟨#[]⟩), I 0, I 0, I 0, I 0, I 0, I 0, I 0, I 0, I 0, I 0, I 0] : D)) : List D).length ++ (List.replicate (Int.toNat ((a0).length : Int)) (.agg [.v (.string ⟨#[]⟩), I 0, I 0, I 0, I 0, I 0, I 0, I 0, I 0, I 0, I 0, I 0] : D)).drop (a0).length)).length : Int))).bind fun t2 =>
  (loopF (F_field_indices_L4 n a0 t2) n ()).bind fun t3 =>
  (loopF (F_field_indices_L5 n t3) n (0, [])).bind fun t4 =>
  some t4
  else none
theorem c_field_indices {n : Nat} {a0 : List D} {r : List D} (h : F_field_indices n a0 = some r) : Computes cx 85 [.lst false 12 a0] (.lst false 1 r) := by
  unfold F_field_indices at h
  obtain ⟨h1, h⟩ := grd_of h
  obtain ⟨t2, h2, h⟩ := bnd_of h
  obtain ⟨t3, h3, h⟩ := bnd_of h
  obtain ⟨t4, h4, h⟩ := bnd_of h
  replace h := Option.some.inj h
  subst h
  exact run (n := 100) (f := 85) (args := [.lst false 12 a0]) (orc := [.br true, .br true, .ret (I t2), .br true, .lp [] [0, 1, 2, 3, 4, 10, 11] [3] .ret [] [(3, .row 0 12 t3)] 115, .br true, .lp [5, 1] [1, 5, 8, 9, 10] [3, 123] (.exit 0) [(5, .own 123 0)] [(3, .row 0 12 t3), (123, .row 0 1 t4)] 154]) (r := .lst false 1 t4) (ob := [LoopN cx (loopAt cx.P 132 0) 22 118 false [(1, .d (.fn (.func 133) [] [])), (5, .own 123 0), (8, .own 3 0), (9, .d (I ((t3).length : Int))), (10, .d (I 0))] [(3, .row 0 12 t3), (123, .row 0 1 [])] (.exit 0) [(5, .own 123 0)] [(3, .row 0 12 t3), (123, .row 0 1 t4)], LoopN cx (loopAt cx.P 162 0) 148 20 false [(0, .own 3 0), (1, .d (I 0)), (2, .d (I (((a0.take ((List.replicate (Int.toNat ((a0).length : Int)) (.agg [.v (.string ⟨#[]⟩), I 0, I 0, I 0, I 0, I 0, I 0, I 0, I 0, I 0, I 0, I 0] : D)) : List D).length ++ (List.replicate (Int.toNat ((a0).length : Int)) (.agg [.v (.string ⟨#[]⟩), I 0, I 0, I 0, I 0, I 0, I 0, I 0, I 0, I 0, I 0, I 0] : D)).drop (a0).length)).length : Int))), (3, .d (I t2)), (4, .d (.fn (.func 131) [] [])), (10, .d (B true)), (11, .d (B true))] [(3, .row 0 12 (a0.take ((List.replicate (Int.toNat ((a0).length : Int)) (.agg [.v (.string ⟨#[]⟩), I 0, I 0, I 0, I 0, I 0, I 0, I 0, I 0, I 0, I 0, I 0] : D)) : List D).length ++ (List.replicate (Int.toNat ((a0).length : Int)) (.agg [.v (.string ⟨#[]⟩), I 0, I 0, I 0, I 0, I 0, I 0, I 0, I 0, I 0, I 0, I 0] : D)).drop (a0).length))] .ret [] [(3, .row 0 12 t3)], Computes cx 154 [.v (.int .u64 (IntKind.wrap .u64 (((a0.take ((List.replicate (Int.toNat ((a0).length : Int)) (.agg [.v (.string ⟨#[]⟩), I 0, I 0, I 0, I 0, I 0, I 0, I 0, I 0, I 0, I 0, I 0] : D)) : List D).length ++ (List.replicate (Int.toNat ((a0).length : Int)) (.agg [.v (.string ⟨#[]⟩), I 0, I 0, I 0, I 0, I 0, I 0, I 0, I 0, I 0, I 0, I 0] : D)).drop (a0).length)).length : Int)))] (I t2), 0 ≤ ((a0).length : Int) ∧ ((a0).length : Int) ≤ ((a0).length : Int) ∧ 104 * ((a0).length : Int) ≤ 281474976710656 ∧ ((a0).length : Int) ≤ 9223372036854775807]) (by kernel_rfl) ⟨(loopF_to R_field_indices_L5 h4), (loopF_to R_field_indices_L4 h3), (c_math_bits_Len h2), h1, trivial⟩
def F_ref04_CheckMirrors_L1 (n : Nat) (a0 : List D) (sa : Int) (sb : (Int)) : Option (((Int)) ⊕ ((Unit) ⊕ (Unit))) :=
  if sb < sa then
    (el un_Asi9Z a0 sb).bind fun tb2 =>
    (el un_Asi9Z a0 sa).bind fun tb3 =>
    if (tb2.1.toList == tb3.1.toList) = true then
      some (.inr (.inl ()))
    else
    if inI64 (sb + 1) then
    some (.inl (sb + 1))
    else none
  else
  some (.inr (.inr ()))
noncomputable def T_ref04_CheckMirrors_L1 (a0 : List D) (sa : Int) (sb : (Int)) : List (Nat × AV) := [(0, .d (.lst false 10 a0)), (3, .d (I sa)), (5, .d (I sb))]
noncomputable def H_ref04_CheckMirrors_L1 (a0 : List D) (sa : Int) (sb : (Int)) : List (Nat × Blk) := []
noncomputable def X_ref04_CheckMirrors_L1 (a0 : List D) (sa : Int) (e : (Unit) ⊕ (Unit)) : Ex := match e with
  | (.inl e) => .ret
  | (.inr e) => (.exit 2)
noncomputable def XT_ref04_CheckMirrors_L1 (a0 : List D) (sa : Int) (e : (Unit) ⊕ (Unit)) : List (Nat × AV) := match e with
  | (.inl e) => [(2, .d (I 9))]
  | (.inr e) => [(0, .d (.lst false 10 a0)), (3, .d (I sa))]
noncomputable def XH_ref04_CheckMirrors_L1 (a0 : List D) (sa : Int) (e : (Unit) ⊕ (Unit)) : List (Nat × Blk) := match e with
  | (.inl e) => []
  | (.inr e) => []
theorem R_ref04_CheckMirrors_L1 {n : Nat} {a0 : List D} {sa : Int} (sb : (Int)) (r) (h : F_ref04_CheckMirrors_L1 n a0 sa sb = some r) : Rd cx (loopAt cx.P 27 1) 39 0 false (T_ref04_CheckMirrors_L1 a0 sa) (H_ref04_CheckMirrors_L1 a0 sa) (X_ref04_CheckMirrors_L1 a0 sa) (XT_ref04_CheckMirrors_L1 a0 sa) (XH_ref04_CheckMirrors_L1 a0 sa) sb r := by
  unfold F_ref04_CheckMirrors_L1 at h
  by_cases hb1 : sb < sa
  · replace h := ite_t h hb1
    obtain ⟨tb2, hb2, h⟩ := bnd_of h
    obtain ⟨tb3, hb3, h⟩ := bnd_of h
    by_cases hb4 : (tb2.1.toList == tb3.1.toList) = true
    · replace h := ite_t h hb4
      replace h := Option.some.inj h
      subst h
      exact ⟨⟨100, 18, [.br true, .el (.agg [.v (.string tb2.1), I tb2.2.1, I tb2.2.2.1, I tb2.2.2.2.1, I tb2.2.2.2.2.1, I tb2.2.2.2.2.2.1, I tb2.2.2.2.2.2.2.1, I tb2.2.2.2.2.2.2.2.1, I tb2.2.2.2.2.2.2.2.2.1, I tb2.2.2.2.2.2.2.2.2.2]), .el (.agg [.v (.string tb3.1), I tb3.2.1, I tb3.2.2.1, I tb3.2.2.2.1, I tb3.2.2.2.2.1, I tb3.2.2.2.2.2.1, I tb3.2.2.2.2.2.2.1, I tb3.2.2.2.2.2.2.2.1, I tb3.2.2.2.2.2.2.2.2.1, I tb3.2.2.2.2.2.2.2.2.2]), .br true], [], [2], [], round_of (ob := [(tb2.1.toList == tb3.1.toList) = true, (0 : Int) ≤ sa, nth (a0) (Int.toNat sa) = some (.agg [.v (.string tb3.1), I tb3.2.1, I tb3.2.2.1, I tb3.2.2.2.1, I tb3.2.2.2.2.1, I tb3.2.2.2.2.2.1, I tb3.2.2.2.2.2.2.1, I tb3.2.2.2.2.2.2.2.1, I tb3.2.2.2.2.2.2.2.2.1, I tb3.2.2.2.2.2.2.2.2.2]), (0 : Int) ≤ sb, nth (a0) (Int.toNat sb) = some (.agg [.v (.string tb2.1), I tb2.2.1, I tb2.2.2.1, I tb2.2.2.2.1, I tb2.2.2.2.2.1, I tb2.2.2.2.2.2.1, I tb2.2.2.2.2.2.2.1, I tb2.2.2.2.2.2.2.2.1, I tb2.2.2.2.2.2.2.2.2.1, I tb2.2.2.2.2.2.2.2.2.2]), (decide (sb < sa)) = true]) (by kernel_rfl) ⟨hb4, (el_ok un_Asi9Z_ok hb3).1, (el_ok un_Asi9Z_ok hb3).2, (el_ok un_Asi9Z_ok hb2).1, (el_ok un_Asi9Z_ok hb2).2, (decide_eq_true hb1), trivial⟩⟩, nofun⟩
    · replace h := ite_f h hb4
      obtain ⟨hb5, h⟩ := grd_of h
      replace h := Option.some.inj h
      subst h
      exact ⟨100, 18, [.br true, .el (.agg [.v (.string tb2.1), I tb2.2.1, I tb2.2.2.1, I tb2.2.2.2.1, I tb2.2.2.2.2.1, I tb2.2.2.2.2.2.1, I tb2.2.2.2.2.2.2.1, I tb2.2.2.2.2.2.2.2.1, I tb2.2.2.2.2.2.2.2.2.1, I tb2.2.2.2.2.2.2.2.2.2]), .el (.agg [.v (.string tb3.1), I tb3.2.1, I tb3.2.2.1, I tb3.2.2.2.1, I tb3.2.2.2.2.1, I tb3.2.2.2.2.2.1, I tb3.2.2.2.2.2.2.1, I tb3.2.2.2.2.2.2.2.1, I tb3.2.2.2.2.2.2.2.2.1, I tb3.2.2.2.2.2.2.2.2.2]), .br false], [], [0, 3, 5], [], round_of (ob := [inI64 (sb + 1), (tb2.1.toList == tb3.1.toList) = false, (0 : Int) ≤ sa, nth (a0) (Int.toNat sa) = some (.agg [.v (.string tb3.1), I tb3.2.1, I tb3.2.2.1, I tb3.2.2.2.1, I tb3.2.2.2.2.1, I tb3.2.2.2.2.2.1, I tb3.2.2.2.2.2.2.1, I tb3.2.2.2.2.2.2.2.1, I tb3.2.2.2.2.2.2.2.2.1, I tb3.2.2.2.2.2.2.2.2.2]), (0 : Int) ≤ sb, nth (a0) (Int.toNat sb) = some (.agg [.v (.string tb2.1), I tb2.2.1, I tb2.2.2.1, I tb2.2.2.2.1, I tb2.2.2.2.2.1, I tb2.2.2.2.2.2.1, I tb2.2.2.2.2.2.2.1, I tb2.2.2.2.2.2.2.2.1, I tb2.2.2.2.2.2.2.2.2.1, I tb2.2.2.2.2.2.2.2.2.2]), (decide (sb < sa)) = true]) (by kernel_rfl) ⟨hb5, (bfalse hb4), (el_ok un_Asi9Z_ok hb3).1, (el_ok un_Asi9Z_ok hb3).2, (el_ok un_Asi9Z_ok hb2).1, (el_ok un_Asi9Z_ok hb2).2, (decide_eq_true hb1), trivial⟩⟩
  · replace h := ite_f h hb1
    replace h := Option.some.inj h
    subst h
    exact ⟨⟨100, 18, [.br false], [], [0, 3], [], round_of (ob := [(decide (sb < sa)) = false]) (by kernel_rfl) ⟨(decide_eq_false hb1), trivial⟩⟩, nofun⟩
def F_ref04_CheckMirrors_L2 (n : Nat) (a0 : List D) (sa : (Int)) : Option (((Int)) ⊕ ((Int) ⊕ (Unit))) :=
  if sa < ((a0).length : Int) then
    (el un_Asi9Z a0 sa).bind fun ta2 =>
    (F_ref04_CheckMirror n ta2.1 ta2.2.1 ta2.2.2.1 ta2.2.2.2.1 ta2.2.2.2.2.1 ta2.2.2.2.2.2.1 ta2.2.2.2.2.2.2.1 ta2.2.2.2.2.2.2.2.1 ta2.2.2.2.2.2.2.2.2.1 ta2.2.2.2.2.2.2.2.2.2).bind fun ta3 =>
    if ta3 = 0 then
      (loopF (F_ref04_CheckMirrors_L1 n a0 sa) n 0).bind fun ta5 => match ta5 with
        | (.inl ta5) => (
          some (.inr (.inl 9)))
        | (.inr ta5) => (
          if inI64 (sa + 1) then
          some (.inl (sa + 1))
          else none)
    else
    some (.inr (.inl ta3))
  else
  some (.inr (.inr ()))
noncomputable def T_ref04_CheckMirrors_L2 (a0 : List D) (sa : (Int)) : List (Nat × AV) := [(0, .d (.lst false 10 a0)), (3, .d (I sa))]
noncomputable def H_ref04_CheckMirrors_L2 (a0 : List D) (sa : (Int)) : List (Nat × Blk) := []
noncomputable def X_ref04_CheckMirrors_L2 (a0 : List D) (e : (Int) ⊕ (Unit)) : Ex := match e with
  | (.inl e) => .ret
  | (.inr e) => (.exit 0)
noncomputable def XT_ref04_CheckMirrors_L2 (a0 : List D) (e : (Int) ⊕ (Unit)) : List (Nat × AV) := match e with
  | (.inl e) => [(2, .d (I e))]
  | (.inr e) => []
noncomputable def XH_ref04_CheckMirrors_L2 (a0 : List D) (e : (Int) ⊕ (Unit)) : List (Nat × Blk) := match e with
  | (.inl e) => []
  | (.inr e) => []
theorem R_ref04_CheckMirrors_L2 {n : Nat} {a0 : List D} (sa : (Int)) (r) (h : F_ref04_CheckMirrors_L2 n a0 sa = some r) : Rd cx (loopAt cx.P 27 0) 39 0 false (T_ref04_CheckMirrors_L2 a0) (H_ref04_CheckMirrors_L2 a0) (X_ref04_CheckMirrors_L2 a0) (XT_ref04_CheckMirrors_L2 a0) (XH_ref04_CheckMirrors_L2 a0) sa r := by
  unfold F_ref04_CheckMirrors_L2 at h
  by_cases ha1 : sa < ((a0).length : Int)
  · replace h := ite_t h ha1
    obtain ⟨ta2, ha2, h⟩ := bnd_of h
    obtain ⟨ta3, ha3, h⟩ := bnd_of h
    by_cases ha4 : ta3 = 0
    · replace h := ite_t h ha4
      obtain ⟨ta5, ha5, h⟩ := bnd_of h
      rcases ta5 with ta5 | ta5
      · replace h := Option.some.inj h
        subst h
        exact ⟨⟨100, 5, [.br true, .el (.agg [.v (.string ta2.1), I ta2.2.1, I ta2.2.2.1, I ta2.2.2.2.1, I ta2.2.2.2.2.1, I ta2.2.2.2.2.2.1, I ta2.2.2.2.2.2.2.1, I ta2.2.2.2.2.2.2.2.1, I ta2.2.2.2.2.2.2.2.2.1, I ta2.2.2.2.2.2.2.2.2.2]), .ret (I ta3), .br false, .lp [] [0, 3, 5] [] .ret [(2, .d (I 9))] [] 46], [], [2], [], round_of (ob := [LoopN cx (loopAt cx.P 27 1) 39 0 false [(0, .d (.lst false 10 a0)), (3, .d (I sa)), (5, .d (I 0))] [] .ret [(2, .d (I 9))] [], (ta3 != 0) = false, Computes cx 14 [.agg [.v (.string ta2.1), I ta2.2.1, I ta2.2.2.1, I ta2.2.2.2.1, I ta2.2.2.2.2.1, I ta2.2.2.2.2.2.1, I ta2.2.2.2.2.2.2.1, I ta2.2.2.2.2.2.2.2.1, I ta2.2.2.2.2.2.2.2.2.1, I ta2.2.2.2.2.2.2.2.2.2]] (I ta3), (0 : Int) ≤ sa, nth (a0) (Int.toNat sa) = some (.agg [.v (.string ta2.1), I ta2.2.1, I ta2.2.2.1, I ta2.2.2.2.1, I ta2.2.2.2.2.1, I ta2.2.2.2.2.2.1, I ta2.2.2.2.2.2.2.1, I ta2.2.2.2.2.2.2.2.1, I ta2.2.2.2.2.2.2.2.2.1, I ta2.2.2.2.2.2.2.2.2.2]), (decide (sa < ((a0).length : Int))) = true]) (by kernel_rfl) ⟨(loopF_to R_ref04_CheckMirrors_L1 ha5), (nef ha4), (c_ref04_CheckMirror ha3), (el_ok un_Asi9Z_ok ha2).1, (el_ok un_Asi9Z_ok ha2).2, (decide_eq_true ha1), trivial⟩⟩, nofun⟩
      · obtain ⟨ha6, h⟩ := grd_of h
        replace h := Option.some.inj h
        subst h
        exact ⟨100, 5, [.br true, .el (.agg [.v (.string ta2.1), I ta2.2.1, I ta2.2.2.1, I ta2.2.2.2.1, I ta2.2.2.2.2.1, I ta2.2.2.2.2.2.1, I ta2.2.2.2.2.2.2.1, I ta2.2.2.2.2.2.2.2.1, I ta2.2.2.2.2.2.2.2.2.1, I ta2.2.2.2.2.2.2.2.2.2]), .ret (I ta3), .br false, .lp [] [0, 3, 5] [] (.exit 2) [(0, .d (.lst false 10 a0)), (3, .d (I sa))] [] 46], [], [0, 3], [], round_of (ob := [inI64 (sa + 1), LoopN cx (loopAt cx.P 27 1) 39 0 false [(0, .d (.lst false 10 a0)), (3, .d (I sa)), (5, .d (I 0))] [] (.exit 2) [(0, .d (.lst false 10 a0)), (3, .d (I sa))] [], (ta3 != 0) = false, Computes cx 14 [.agg [.v (.string ta2.1), I ta2.2.1, I ta2.2.2.1, I ta2.2.2.2.1, I ta2.2.2.2.2.1, I ta2.2.2.2.2.2.1, I ta2.2.2.2.2.2.2.1, I ta2.2.2.2.2.2.2.2.1, I ta2.2.2.2.2.2.2.2.2.1, I ta2.2.2.2.2.2.2.2.2.2]] (I ta3), (0 : Int) ≤ sa, nth (a0) (Int.toNat sa) = some (.agg [.v (.string ta2.1), I ta2.2.1, I ta2.2.2.1, I ta2.2.2.2.1, I ta2.2.2.2.2.1, I ta2.2.2.2.2.2.1, I ta2.2.2.2.2.2.2.1, I ta2.2.2.2.2.2.2.2.1, I ta2.2.2.2.2.2.2.2.2.1, I ta2.2.2.2.2.2.2.2.2.2]), (decide (sa < ((a0).length : Int))) = true]) (by kernel_rfl) ⟨ha6, (loopF_to R_ref04_CheckMirrors_L1 ha5), (nef ha4), (c_ref04_CheckMirror ha3), (el_ok un_Asi9Z_ok ha2).1, (el_ok un_Asi9Z_ok ha2).2, (decide_eq_true ha1), trivial⟩⟩
    · replace h := ite_f h ha4
      replace h := Option.some.inj h
      subst h
      exact ⟨⟨100, 5, [.br true, .el (.agg [.v (.string ta2.1), I ta2.2.1, I ta2.2.2.1, I ta2.2.2.2.1, I ta2.2.2.2.2.1, I ta2.2.2.2.2.2.1, I ta2.2.2.2.2.2.2.1, I ta2.2.2.2.2.2.2.2.1, I ta2.2.2.2.2.2.2.2.2.1, I ta2.2.2.2.2.2.2.2.2.2]), .ret (I ta3), .br true], [], [2], [], round_of (ob := [(ta3 != 0) = true, Computes cx 14 [.agg [.v (.string ta2.1), I ta2.2.1, I ta2.2.2.1, I ta2.2.2.2.1, I ta2.2.2.2.2.1, I ta2.2.2.2.2.2.1, I ta2.2.2.2.2.2.2.1, I ta2.2.2.2.2.2.2.2.1, I ta2.2.2.2.2.2.2.2.2.1, I ta2.2.2.2.2.2.2.2.2.2]] (I ta3), (0 : Int) ≤ sa, nth (a0) (Int.toNat sa) = some (.agg [.v (.string ta2.1), I ta2.2.1, I ta2.2.2.1, I ta2.2.2.2.1, I ta2.2.2.2.2.1, I ta2.2.2.2.2.2.1, I ta2.2.2.2.2.2.2.1, I ta2.2.2.2.2.2.2.2.1, I ta2.2.2.2.2.2.2.2.2.1, I ta2.2.2.2.2.2.2.2.2.2]), (decide (sa < ((a0).length : Int))) = true]) (by kernel_rfl) ⟨(net ha4), (c_ref04_CheckMirror ha3), (el_ok un_Asi9Z_ok ha2).1, (el_ok un_Asi9Z_ok ha2).2, (decide_eq_true ha1), trivial⟩⟩, nofun⟩
  · replace h := ite_f h ha1
    replace h := Option.some.inj h
    subst h
    exact ⟨⟨100, 5, [.br false], [], [], [], round_of (ob := [(decide (sa < ((a0).length : Int))) = false]) (by kernel_rfl) ⟨(decide_eq_false ha1), trivial⟩⟩, nofun⟩
/- spillage/spillageref04.CheckMirrors: .lst false 10 a0 -/
def F_ref04_CheckMirrors (n : Nat) (a0 : List D) : Option (Int) :=
  if ((a0).length : Int) > 64 then
    some 5
  else
  (loopF (F_ref04_CheckMirrors_L2 n a0) n 0).bind fun t2 => match t2 with
    | (.inl t2) => (
      some t2)
    | (.inr t2) => (
      some 0)
theorem c_ref04_CheckMirrors {n : Nat} {a0 : List D} {r : Int} (h : F_ref04_CheckMirrors n a0 = some r) : Computes cx 27 [.lst false 10 a0] (I r) := by
  unfold F_ref04_CheckMirrors at h
  by_cases h1 : ((a0).length : Int) > 64
  · replace h := ite_t h h1
    replace h := Option.some.inj h
    subst h
    exact run (n := 100) (f := 27) (args := [.lst false 10 a0]) (orc := [.br true]) (r := I 5) (ob := [(decide (((a0).length : Int) > 64)) = true]) (by kernel_rfl) ⟨(decide_eq_true h1), trivial⟩
  · replace h := ite_f h h1
    obtain ⟨t2, h2, h⟩ := bnd_of h
    rcases t2 with t2 | t2
    · replace h := Option.some.inj h
      subst h
      exact run (n := 100) (f := 27) (args := [.lst false 10 a0]) (orc := [.br false, .lp [] [0, 3] [] .ret [(2, .d (I t2))] [] 60]) (r := I t2) (ob := [LoopN cx (loopAt cx.P 27 0) 39 0 false [(0, .d (.lst false 10 a0)), (3, .d (I 0))] [] .ret [(2, .d (I t2))] [], (decide (((a0).length : Int) > 64)) = false]) (by kernel_rfl) ⟨(loopF_to R_ref04_CheckMirrors_L2 h2), (decide_eq_false h1), trivial⟩
    · replace h := Option.some.inj h
      subst h
      exact run (n := 100) (f := 27) (args := [.lst false 10 a0]) (orc := [.br false, .lp [] [0, 3] [] (.exit 0) [] [] 60]) (r := I 0) (ob := [LoopN cx (loopAt cx.P 27 0) 39 0 false [(0, .d (.lst false 10 a0)), (3, .d (I 0))] [] (.exit 0) [] [], (decide (((a0).length : Int) > 64)) = false]) (by kernel_rfl) ⟨(loopF_to R_ref04_CheckMirrors_L2 h2), (decide_eq_false h1), trivial⟩
/- spillage/spillageref01.When: B true, I 10 -/
def F_ref01_When_3 (n : Nat)  : Option (Int) :=
  some 10
theorem c_ref01_When_3 {n : Nat}  {r : Int} (h : F_ref01_When_3 n  = some r) : Computes cx 16 [B true, I 10] (I r) := by
  unfold F_ref01_When_3 at h
  replace h := Option.some.inj h
  subst h
  exact run (n := 100) (f := 16) (args := [B true, I 10]) (orc := [.no]) (r := I 10) (ob := []) (by kernel_rfl) trivial
/- spillage/spillagelaw04.checkMirror: .lst false 10 a0, I a1 -/
def F_law04_checkMirror (n : Nat) (a0 : List D) (a1 : Int) : Option (Int) :=
  (F_ref04_CheckMirrors n a0).bind fun t1 =>
  if t1 = 0 then
    if a1 < 0 then
      (F_ref01_When_3 n).bind fun t4 =>
      some t4
    else
    (F_ref01_When n (decide (a1 ≥ ((a0).length : Int))) 10).bind fun t4 =>
    some t4
  else
  some t1
theorem c_law04_checkMirror {n : Nat} {a0 : List D} {a1 : Int} {r : Int} (h : F_law04_checkMirror n a0 a1 = some r) : Computes cx 26 [.lst false 10 a0, I a1] (I r) := by
  unfold F_law04_checkMirror at h
  obtain ⟨t1, h1, h⟩ := bnd_of h
  by_cases h2 : t1 = 0
  · replace h := ite_t h h2
    by_cases h3 : a1 < 0
    · replace h := ite_t h h3
      obtain ⟨t4, h4, h⟩ := bnd_of h
      replace h := Option.some.inj h
      subst h
      exact run (n := 100) (f := 26) (args := [.lst false 10 a0, I a1]) (orc := [.ret (I t1), .br false, .br true, .ret (I t4)]) (r := I t4) (ob := [Computes cx 16 [B true, I 10] (I t4), (decide (a1 < 0)) = true, (t1 != 0) = false, Computes cx 27 [.lst false 10 a0] (I t1)]) (by kernel_rfl) ⟨(c_ref01_When_3 h4), (decide_eq_true h3), (nef h2), (c_ref04_CheckMirrors h1), trivial⟩
    · replace h := ite_f h h3
      obtain ⟨t4, h4, h⟩ := bnd_of h
      replace h := Option.some.inj h
      subst h
      exact run (n := 100) (f := 26) (args := [.lst false 10 a0, I a1]) (orc := [.ret (I t1), .br false, .br false, .ret (I t4)]) (r := I t4) (ob := [Computes cx 16 [B (decide (a1 ≥ ((a0).length : Int))), I 10] (I t4), (decide (a1 < 0)) = false, (t1 != 0) = false, Computes cx 27 [.lst false 10 a0] (I t1)]) (by kernel_rfl) ⟨(c_ref01_When h4), (decide_eq_false h3), (nef h2), (c_ref04_CheckMirrors h1), trivial⟩
  · replace h := ite_f h h2
    replace h := Option.some.inj h
    subst h
    exact run (n := 100) (f := 26) (args := [.lst false 10 a0, I a1]) (orc := [.ret (I t1), .br true]) (r := I t1) (ob := [(t1 != 0) = true, Computes cx 27 [.lst false 10 a0] (I t1)]) (by kernel_rfl) ⟨(net h2), (c_ref04_CheckMirrors h1), trivial⟩
def F_ref01_SameInts_L1 (n : Nat) (a0 : List D) (a1 : List D) (sa : (Int)) : Option (((Int)) ⊕ ((Unit) ⊕ (Unit))) :=
  if sa < ((a0).length : Int) then
    (el un_i a0 sa).bind fun ta2 =>
    (el un_i a1 sa).bind fun ta3 =>
    if ta2 = ta3 then
      if inI64 (sa + 1) then
      some (.inl (sa + 1))
      else none
    else
    some (.inr (.inl ()))
  else
  some (.inr (.inr ()))
noncomputable def T_ref01_SameInts_L1 (a0 : List D) (a1 : List D) (sa : (Int)) : List (Nat × AV) := [(0, .d (.lst false 1 a0)), (1, .d (.lst false 1 a1)), (5, .d (I sa))]
noncomputable def H_ref01_SameInts_L1 (a0 : List D) (a1 : List D) (sa : (Int)) : List (Nat × Blk) := []
noncomputable def X_ref01_SameInts_L1 (a0 : List D) (a1 : List D) (e : (Unit) ⊕ (Unit)) : Ex := match e with
  | (.inl e) => .ret
  | (.inr e) => (.exit 0)
noncomputable def XT_ref01_SameInts_L1 (a0 : List D) (a1 : List D) (e : (Unit) ⊕ (Unit)) : List (Nat × AV) := match e with
  | (.inl e) => [(4, .d (B false))]
  | (.inr e) => []
noncomputable def XH_ref01_SameInts_L1 (a0 : List D) (a1 : List D) (e : (Unit) ⊕ (Unit)) : List (Nat × Blk) := match e with
  | (.inl e) => []
  | (.inr e) => []
theorem R_ref01_SameInts_L1 {n : Nat} {a0 : List D} {a1 : List D} (sa : (Int)) (r) (h : F_ref01_SameInts_L1 n a0 a1 sa = some r) : Rd cx (loopAt cx.P 58 0) 26 0 false (T_ref01_SameInts_L1 a0 a1) (H_ref01_SameInts_L1 a0 a1) (X_ref01_SameInts_L1 a0 a1) (XT_ref01_SameInts_L1 a0 a1) (XH_ref01_SameInts_L1 a0 a1) sa r := by
  unfold F_ref01_SameInts_L1 at h
  by_cases ha1 : sa < ((a0).length : Int)
  · replace h := ite_t h ha1
    obtain ⟨ta2, ha2, h⟩ := bnd_of h
    obtain ⟨ta3, ha3, h⟩ := bnd_of h
    by_cases ha4 : ta2 = ta3
    · replace h := ite_t h ha4
      obtain ⟨ha5, h⟩ := grd_of h
      replace h := Option.some.inj h
      subst h
      exact ⟨100, 7, [.br true, .el (I ta2), .el (I ta3), .br false], [], [0, 1, 5], [], round_of (ob := [inI64 (sa + 1), (ta2 != ta3) = false, (0 : Int) ≤ sa, nth (a1) (Int.toNat sa) = some (I ta3), (0 : Int) ≤ sa, nth (a0) (Int.toNat sa) = some (I ta2), (decide (sa < ((a0).length : Int))) = true]) (by kernel_rfl) ⟨ha5, (nef ha4), (el_ok un_i_ok ha3).1, (el_ok un_i_ok ha3).2, (el_ok un_i_ok ha2).1, (el_ok un_i_ok ha2).2, (decide_eq_true ha1), trivial⟩⟩
    · replace h := ite_f h ha4
      replace h := Option.some.inj h
      subst h
      exact ⟨⟨100, 7, [.br true, .el (I ta2), .el (I ta3), .br true], [], [4], [], round_of (ob := [(ta2 != ta3) = true, (0 : Int) ≤ sa, nth (a1) (Int.toNat sa) = some (I ta3), (0 : Int) ≤ sa, nth (a0) (Int.toNat sa) = some (I ta2), (decide (sa < ((a0).length : Int))) = true]) (by kernel_rfl) ⟨(net ha4), (el_ok un_i_ok ha3).1, (el_ok un_i_ok ha3).2, (el_ok un_i_ok ha2).1, (el_ok un_i_ok ha2).2, (decide_eq_true ha1), trivial⟩⟩, nofun⟩
  · replace h := ite_f h ha1
    replace h := Option.some.inj h
    subst h
    exact ⟨⟨100, 7, [.br false], [], [], [], round_of (ob := [(decide (sa < ((a0).length : Int))) = false]) (by kernel_rfl) ⟨(decide_eq_false ha1), trivial⟩⟩, nofun⟩
/- spillage/spillageref01.SameInts: .lst false 1 a0, .lst false 1 a1 -/
def F_ref01_SameInts (n : Nat) (a0 : List D) (a1 : List D) : Option (Bool) :=
  if ((a0).length : Int) = ((a1).length : Int) then
    (loopF (F_ref01_SameInts_L1 n a0 a1) n 0).bind fun t2 => match t2 with
      | (.inl t2) => (
        some false)
      | (.inr t2) => (
        some true)
  else
  some false
theorem c_ref01_SameInts {n : Nat} {a0 : List D} {a1 : List D} {r : Bool} (h : F_ref01_SameInts n a0 a1 = some r) : Computes cx 58 [.lst false 1 a0, .lst false 1 a1] (B r) := by
  unfold F_ref01_SameInts at h
  by_cases h1 : ((a0).length : Int) = ((a1).length : Int)
  · replace h := ite_t h h1
    obtain ⟨t2, h2, h⟩ := bnd_of h
    rcases t2 with t2 | t2
    · replace h := Option.some.inj h
      subst h
      exact run (n := 100) (f := 58) (args := [.lst false 1 a0, .lst false 1 a1]) (orc := [.br false, .lp [] [0, 1, 5] [] .ret [(4, .d (B false))] [] 34]) (r := B false) (ob := [LoopN cx (loopAt cx.P 58 0) 26 0 false [(0, .d (.lst false 1 a0)), (1, .d (.lst false 1 a1)), (5, .d (I 0))] [] .ret [(4, .d (B false))] [], (((a0).length : Int) != ((a1).length : Int)) = false]) (by kernel_rfl) ⟨(loopF_to R_ref01_SameInts_L1 h2), (nef h1), trivial⟩
    · replace h := Option.some.inj h
      subst h
      exact run (n := 100) (f := 58) (args := [.lst false 1 a0, .lst false 1 a1]) (orc := [.br false, .lp [] [0, 1, 5] [] (.exit 0) [] [] 34]) (r := B true) (ob := [LoopN cx (loopAt cx.P 58 0) 26 0 false [(0, .d (.lst false 1 a0)), (1, .d (.lst false 1 a1)), (5, .d (I 0))] [] (.exit 0) [] [], (((a0).length : Int) != ((a1).length : Int)) = false]) (by kernel_rfl) ⟨(loopF_to R_ref01_SameInts_L1 h2), (nef h1), trivial⟩
  · replace h := ite_f h h1
    replace h := Option.some.inj h
    subst h
    exact run (n := 100) (f := 58) (args := [.lst false 1 a0, .lst false 1 a1]) (orc := [.br true]) (r := B false) (ob := [(((a0).length : Int) != ((a1).length : Int)) = true]) (by kernel_rfl) ⟨(net h1), trivial⟩
/- spillage/spillagelaw04.numbers: .lst false 1 a0, I a1, I a2, .lst false 1 a3 -/
def F_law04_numbers (n : Nat) (a0 : List D) (a1 : Int) (a2 : Int) (a3 : List D) : Option (Bool) :=
  if a1 = a2 then
    if a2 = 0 then
      (F_ref01_SameInts n a0 a3).bind fun t3 =>
      some t3
    else
    if ((a0).length : Int) = 0 then
      some true
    else
    some false
  else
  some false
theorem c_law04_numbers {n : Nat} {a0 : List D} {a1 : Int} {a2 : Int} {a3 : List D} {r : Bool} (h : F_law04_numbers n a0 a1 a2 a3 = some r) : Computes cx 30 [.lst false 1 a0, I a1, I a2, .lst false 1 a3] (B r) := by
  unfold F_law04_numbers at h
  by_cases h1 : a1 = a2
  · replace h := ite_t h h1
    by_cases h2 : a2 = 0
    · replace h := ite_t h h2
      obtain ⟨t3, h3, h⟩ := bnd_of h
      replace h := Option.some.inj h
      subst h
      exact run (n := 100) (f := 30) (args := [.lst false 1 a0, I a1, I a2, .lst false 1 a3]) (orc := [.br true, .br false, .no, .br true, .ret (B t3)]) (r := B t3) (ob := [Computes cx 58 [.lst false 1 a0, .lst false 1 a3] (B t3), (a2 == 0) = true, (a2 != 0) = false, (a1 == a2) = true]) (by kernel_rfl) ⟨(c_ref01_SameInts h3), (eqt h2), (nef h2), (eqt h1), trivial⟩
    · replace h := ite_f h h2
      by_cases h3 : ((a0).length : Int) = 0
      · replace h := ite_t h h3
        replace h := Option.some.inj h
        subst h
        exact run (n := 100) (f := 30) (args := [.lst false 1 a0, I a1, I a2, .lst false 1 a3]) (orc := [.br true, .br true, .br true]) (r := B true) (ob := [(((a0).length : Int) == 0) = true, (a2 != 0) = true, (a1 == a2) = true]) (by kernel_rfl) ⟨(eqt h3), (net h2), (eqt h1), trivial⟩
      · replace h := ite_f h h3
        replace h := Option.some.inj h
        subst h
        exact run (n := 100) (f := 30) (args := [.lst false 1 a0, I a1, I a2, .lst false 1 a3]) (orc := [.br true, .br true, .br false, .br false]) (r := B false) (ob := [(a2 == 0) = false, (((a0).length : Int) == 0) = false, (a2 != 0) = true, (a1 == a2) = true]) (by kernel_rfl) ⟨(eqf h2), (eqf h3), (net h2), (eqt h1), trivial⟩
  · replace h := ite_f h h1
    replace h := Option.some.inj h
    subst h
    exact run (n := 100) (f := 30) (args := [.lst false 1 a0, I a1, I a2, .lst false 1 a3]) (orc := [.br false]) (r := B false) (ob := [(a1 == a2) = false]) (by kernel_rfl) ⟨(eqf h1), trivial⟩
end Go.Proofs.YtojmcpnpojdnmaaGreatDoor
