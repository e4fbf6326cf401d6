/-
  Printed by gsx.py: functions of the program as Lean functions, and that the code computes them.
-/
import Derived.Test.YtiogobiijlaalaaDoorGen1
set_option linter.unusedVariables false
set_option maxRecDepth 10000
namespace Go.Proofs.YtiogobiijlaalaaDoor
open Go.SX
def F_light_IsName_L1 (n : Nat) (a0 : ByteArray) (sa : (Nat)) : Option (((Nat)) ⊕ ((Unit) ⊕ (Unit))) :=
 if sa < a0.size then
  if ((Utf8.decode a0 sa).1 : Int) ≥ 97 then
  if ((Utf8.decode a0 sa).1 : Int) ≤ 122 then
   some (.inl (sa + (Utf8.decode a0 sa).2))
  else
  if ((Utf8.decode a0 sa).1 : Int) ≥ 65 then
   if ((Utf8.decode a0 sa).1 : Int) ≤ 90 then
   some (.inl (sa + (Utf8.decode a0 sa).2))
   else
   if ((sa : Nat) : Int) = 0 then
   some (.inr (.inl ()))
   else
   if ((Utf8.decode a0 sa).1 : Int) = 95 then
   some (.inl (sa + (Utf8.decode a0 sa).2))
   else
   if ((Utf8.decode a0 sa).1 : Int) < 48 then
   some (.inr (.inl ()))
   else
   if ((Utf8.decode a0 sa).1 : Int) > 57 then
   some (.inr (.inl ()))
   else
   some (.inl (sa + (Utf8.decode a0 sa).2))
  else
  if ((sa : Nat) : Int) = 0 then
   some (.inr (.inl ()))
  else
  if ((Utf8.decode a0 sa).1 : Int) = 95 then
   some (.inl (sa + (Utf8.decode a0 sa).2))
  else
  if ((Utf8.decode a0 sa).1 : Int) < 48 then
   some (.inr (.inl ()))
  else
  if ((Utf8.decode a0 sa).1 : Int) > 57 then
   some (.inr (.inl ()))
  else
  some (.inl (sa + (Utf8.decode a0 sa).2))
  else
  if ((Utf8.decode a0 sa).1 : Int) ≥ 65 then
  if ((Utf8.decode a0 sa).1 : Int) ≤ 90 then
   some (.inl (sa + (Utf8.decode a0 sa).2))
  else
  if ((sa : Nat) : Int) = 0 then
   some (.inr (.inl ()))
  else
  if ((Utf8.decode a0 sa).1 : Int) = 95 then
   some (.inl (sa + (Utf8.decode a0 sa).2))
  else
  if ((Utf8.decode a0 sa).1 : Int) < 48 then
   some (.inr (.inl ()))
  else
  if ((Utf8.decode a0 sa).1 : Int) > 57 then
   some (.inr (.inl ()))
  else
  some (.inl (sa + (Utf8.decode a0 sa).2))
  else
  if ((sa : Nat) : Int) = 0 then
  some (.inr (.inl ()))
  else
  if ((Utf8.decode a0 sa).1 : Int) = 95 then
  some (.inl (sa + (Utf8.decode a0 sa).2))
  else
  if ((Utf8.decode a0 sa).1 : Int) < 48 then
  some (.inr (.inl ()))
  else
  if ((Utf8.decode a0 sa).1 : Int) > 57 then
  some (.inr (.inl ()))
  else
  some (.inl (sa + (Utf8.decode a0 sa).2))
 else
 some (.inr (.inr ()))
noncomputable def T_light_IsName_L1 (a0 : ByteArray) (sa : (Nat)) : List (Nat × AV) := [(0, .d (.v (.string a0))), (7, .own 2 0)]
noncomputable def H_light_IsName_L1 (a0 : ByteArray) (sa : (Nat)) : List (Nat × Blk) := [(2, .it a0 sa)]
noncomputable def X_light_IsName_L1 (a0 : ByteArray) (e : (Unit) ⊕ (Unit)) : Ex := match e with
  | (.inl e) => .ret
  | (.inr e) => (.exit 0)
noncomputable def XT_light_IsName_L1 (a0 : ByteArray) (e : (Unit) ⊕ (Unit)) : List (Nat × AV) := match e with
  | (.inl e) => [(2, .d (B false))]
  | (.inr e) => [(0, .d (.v (.string a0)))]
noncomputable def XH_light_IsName_L1 (a0 : ByteArray) (e : (Unit) ⊕ (Unit)) : List (Nat × Blk) := match e with
  | (.inl e) => []
  | (.inr e) => []
theorem R_light_IsName_L1 {n : Nat} {a0 : ByteArray} (sa : (Nat)) (r) (h : F_light_IsName_L1 n a0 sa = some r) : Rd cx (loopAt cx.P 84 0) 51 0 false (T_light_IsName_L1 a0) (H_light_IsName_L1 a0) (X_light_IsName_L1 a0) (XT_light_IsName_L1 a0) (XH_light_IsName_L1 a0) sa r := by
 unfold F_light_IsName_L1 at h
 by_cases ha1 : sa < a0.size
 ·replace h := it h ha1
  by_cases ha2 : ((Utf8.decode a0 sa).1 : Int) ≥ 97
  ·replace h := it h ha2
   by_cases ha3 : ((Utf8.decode a0 sa).1 : Int) ≤ 122
   ·replace h := it h ha3
    obtain rfl := oi h
    exact ⟨100, 3, [.br true, .no, .br true, .br true, .no, .no], [], [0, 7], [2], round_fr (allC (decide_eq_true ha3) (allC (decide_eq_true ha2) (allC ha1 allN))) (by kernel_rfl)⟩
   ·replace h := jf h ha3
    by_cases ha4 : ((Utf8.decode a0 sa).1 : Int) ≥ 65
    ·replace h := it h ha4
     by_cases ha5 : ((Utf8.decode a0 sa).1 : Int) ≤ 90
     ·replace h := it h ha5
      obtain rfl := oi h
      exact ⟨100, 3, [.br true, .no, .br true, .br false, .br true, .br false, .no], [], [0, 7], [2], round_fr (allC (notf (decide_eq_true ha5)) (allC (decide_eq_true ha4) (allC (decide_eq_false ha3) (allC (decide_eq_true ha2) (allC ha1 allN))))) (by kernel_rfl)⟩
     ·replace h := jf h ha5
      by_cases ha6 : ((sa : Nat) : Int) = 0
      ·replace h := it h ha6
       obtain rfl := oi h
       exact ⟨⟨100, 3, [.br true, .no, .br true, .br false, .br true, .br true, .br true, .no], [], [2], [], round_fr (allC (eqt ha6) (allC (nott (decide_eq_false ha5)) (allC (decide_eq_true ha4) (allC (decide_eq_false ha3) (allC (decide_eq_true ha2) (allC ha1 allN)))))) (by kernel_rfl)⟩, nofun⟩
      ·replace h := jf h ha6
       by_cases ha7 : ((Utf8.decode a0 sa).1 : Int) = 95
       ·replace h := it h ha7
        obtain rfl := oi h
        exact ⟨100, 3, [.br true, .no, .br true, .br false, .br true, .br true, .br false, .br false, .no], [], [0, 7], [2], round_fr (allC (nef ha7) (allC (eqf ha6) (allC (nott (decide_eq_false ha5)) (allC (decide_eq_true ha4) (allC (decide_eq_false ha3) (allC (decide_eq_true ha2) (allC ha1 allN))))))) (by kernel_rfl)⟩
       ·replace h := jf h ha7
        by_cases ha8 : ((Utf8.decode a0 sa).1 : Int) < 48
        ·replace h := it h ha8
         obtain rfl := oi h
         exact ⟨⟨100, 3, [.br true, .no, .br true, .br false, .br true, .br true, .br false, .br true, .br true, .no], [], [2], [], round_fr (allC (decide_eq_true ha8) (allC (net ha7) (allC (eqf ha6) (allC (nott (decide_eq_false ha5)) (allC (decide_eq_true ha4) (allC (decide_eq_false ha3) (allC (decide_eq_true ha2) (allC ha1 allN)))))))) (by kernel_rfl)⟩, nofun⟩
        ·replace h := jf h ha8
         by_cases ha9 : ((Utf8.decode a0 sa).1 : Int) > 57
         ·replace h := it h ha9
          obtain rfl := oi h
          exact ⟨⟨100, 3, [.br true, .no, .br true, .br false, .br true, .br true, .br false, .br true, .br false, .br true], [], [2], [], round_fr (allC (decide_eq_true ha9) (allC (decide_eq_false ha8) (allC (net ha7) (allC (eqf ha6) (allC (nott (decide_eq_false ha5)) (allC (decide_eq_true ha4) (allC (decide_eq_false ha3) (allC (decide_eq_true ha2) (allC ha1 allN))))))))) (by kernel_rfl)⟩, nofun⟩
         ·replace h := jf h ha9
          obtain rfl := oi h
          exact ⟨100, 3, [.br true, .no, .br true, .br false, .br true, .br true, .br false, .br true, .br false, .br false], [], [0, 7], [2], round_fr (allC (decide_eq_false ha9) (allC (decide_eq_false ha8) (allC (net ha7) (allC (eqf ha6) (allC (nott (decide_eq_false ha5)) (allC (decide_eq_true ha4) (allC (decide_eq_false ha3) (allC (decide_eq_true ha2) (allC ha1 allN))))))))) (by kernel_rfl)⟩
    ·replace h := jf h ha4
     by_cases ha5 : ((sa : Nat) : Int) = 0
     ·replace h := it h ha5
      obtain rfl := oi h
      exact ⟨⟨100, 3, [.br true, .no, .br true, .br false, .br false, .no, .br true, .no], [], [2], [], round_fr (allC (eqt ha5) (allC (decide_eq_false ha4) (allC (decide_eq_false ha3) (allC (decide_eq_true ha2) (allC ha1 allN))))) (by kernel_rfl)⟩, nofun⟩
     ·replace h := jf h ha5
      by_cases ha6 : ((Utf8.decode a0 sa).1 : Int) = 95
      ·replace h := it h ha6
       obtain rfl := oi h
       exact ⟨100, 3, [.br true, .no, .br true, .br false, .br false, .no, .br false, .br false, .no], [], [0, 7], [2], round_fr (allC (nef ha6) (allC (eqf ha5) (allC (decide_eq_false ha4) (allC (decide_eq_false ha3) (allC (decide_eq_true ha2) (allC ha1 allN)))))) (by kernel_rfl)⟩
      ·replace h := jf h ha6
       by_cases ha7 : ((Utf8.decode a0 sa).1 : Int) < 48
       ·replace h := it h ha7
        obtain rfl := oi h
        exact ⟨⟨100, 3, [.br true, .no, .br true, .br false, .br false, .no, .br false, .br true, .br true, .no], [], [2], [], round_fr (allC (decide_eq_true ha7) (allC (net ha6) (allC (eqf ha5) (allC (decide_eq_false ha4) (allC (decide_eq_false ha3) (allC (decide_eq_true ha2) (allC ha1 allN))))))) (by kernel_rfl)⟩, nofun⟩
       ·replace h := jf h ha7
        by_cases ha8 : ((Utf8.decode a0 sa).1 : Int) > 57
        ·replace h := it h ha8
         obtain rfl := oi h
         exact ⟨⟨100, 3, [.br true, .no, .br true, .br false, .br false, .no, .br false, .br true, .br false, .br true], [], [2], [], round_fr (allC (decide_eq_true ha8) (allC (decide_eq_false ha7) (allC (net ha6) (allC (eqf ha5) (allC (decide_eq_false ha4) (allC (decide_eq_false ha3) (allC (decide_eq_true ha2) (allC ha1 allN)))))))) (by kernel_rfl)⟩, nofun⟩
        ·replace h := jf h ha8
         obtain rfl := oi h
         exact ⟨100, 3, [.br true, .no, .br true, .br false, .br false, .no, .br false, .br true, .br false, .br false], [], [0, 7], [2], round_fr (allC (decide_eq_false ha8) (allC (decide_eq_false ha7) (allC (net ha6) (allC (eqf ha5) (allC (decide_eq_false ha4) (allC (decide_eq_false ha3) (allC (decide_eq_true ha2) (allC ha1 allN)))))))) (by kernel_rfl)⟩
  ·replace h := jf h ha2
   by_cases ha3 : ((Utf8.decode a0 sa).1 : Int) ≥ 65
   ·replace h := it h ha3
    by_cases ha4 : ((Utf8.decode a0 sa).1 : Int) ≤ 90
    ·replace h := it h ha4
     obtain rfl := oi h
     exact ⟨100, 3, [.br true, .no, .br false, .no, .br true, .br false, .no], [], [0, 7], [2], round_fr (allC (notf (decide_eq_true ha4)) (allC (decide_eq_true ha3) (allC (decide_eq_false ha2) (allC ha1 allN)))) (by kernel_rfl)⟩
    ·replace h := jf h ha4
     by_cases ha5 : ((sa : Nat) : Int) = 0
     ·replace h := it h ha5
      obtain rfl := oi h
      exact ⟨⟨100, 3, [.br true, .no, .br false, .no, .br true, .br true, .br true, .no], [], [2], [], round_fr (allC (eqt ha5) (allC (nott (decide_eq_false ha4)) (allC (decide_eq_true ha3) (allC (decide_eq_false ha2) (allC ha1 allN))))) (by kernel_rfl)⟩, nofun⟩
     ·replace h := jf h ha5
      by_cases ha6 : ((Utf8.decode a0 sa).1 : Int) = 95
      ·replace h := it h ha6
       obtain rfl := oi h
       exact ⟨100, 3, [.br true, .no, .br false, .no, .br true, .br true, .br false, .br false, .no], [], [0, 7], [2], round_fr (allC (nef ha6) (allC (eqf ha5) (allC (nott (decide_eq_false ha4)) (allC (decide_eq_true ha3) (allC (decide_eq_false ha2) (allC ha1 allN)))))) (by kernel_rfl)⟩
      ·replace h := jf h ha6
       by_cases ha7 : ((Utf8.decode a0 sa).1 : Int) < 48
       ·replace h := it h ha7
        obtain rfl := oi h
        exact ⟨⟨100, 3, [.br true, .no, .br false, .no, .br true, .br true, .br false, .br true, .br true, .no], [], [2], [], round_fr (allC (decide_eq_true ha7) (allC (net ha6) (allC (eqf ha5) (allC (nott (decide_eq_false ha4)) (allC (decide_eq_true ha3) (allC (decide_eq_false ha2) (allC ha1 allN))))))) (by kernel_rfl)⟩, nofun⟩
       ·replace h := jf h ha7
        by_cases ha8 : ((Utf8.decode a0 sa).1 : Int) > 57
        ·replace h := it h ha8
         obtain rfl := oi h
         exact ⟨⟨100, 3, [.br true, .no, .br false, .no, .br true, .br true, .br false, .br true, .br false, .br true], [], [2], [], round_fr (allC (decide_eq_true ha8) (allC (decide_eq_false ha7) (allC (net ha6) (allC (eqf ha5) (allC (nott (decide_eq_false ha4)) (allC (decide_eq_true ha3) (allC (decide_eq_false ha2) (allC ha1 allN)))))))) (by kernel_rfl)⟩, nofun⟩
        ·replace h := jf h ha8
         obtain rfl := oi h
         exact ⟨100, 3, [.br true, .no, .br false, .no, .br true, .br true, .br false, .br true, .br false, .br false], [], [0, 7], [2], round_fr (allC (decide_eq_false ha8) (allC (decide_eq_false ha7) (allC (net ha6) (allC (eqf ha5) (allC (nott (decide_eq_false ha4)) (allC (decide_eq_true ha3) (allC (decide_eq_false ha2) (allC ha1 allN)))))))) (by kernel_rfl)⟩
   ·replace h := jf h ha3
    by_cases ha4 : ((sa : Nat) : Int) = 0
    ·replace h := it h ha4
     obtain rfl := oi h
     exact ⟨⟨100, 3, [.br true, .no, .br false, .no, .br false, .no, .br true, .no], [], [2], [], round_fr (allC (eqt ha4) (allC (decide_eq_false ha3) (allC (decide_eq_false ha2) (allC ha1 allN)))) (by kernel_rfl)⟩, nofun⟩
    ·replace h := jf h ha4
     by_cases ha5 : ((Utf8.decode a0 sa).1 : Int) = 95
     ·replace h := it h ha5
      obtain rfl := oi h
      exact ⟨100, 3, [.br true, .no, .br false, .no, .br false, .no, .br false, .br false, .no], [], [0, 7], [2], round_fr (allC (nef ha5) (allC (eqf ha4) (allC (decide_eq_false ha3) (allC (decide_eq_false ha2) (allC ha1 allN))))) (by kernel_rfl)⟩
     ·replace h := jf h ha5
      by_cases ha6 : ((Utf8.decode a0 sa).1 : Int) < 48
      ·replace h := it h ha6
       obtain rfl := oi h
       exact ⟨⟨100, 3, [.br true, .no, .br false, .no, .br false, .no, .br false, .br true, .br true, .no], [], [2], [], round_fr (allC (decide_eq_true ha6) (allC (net ha5) (allC (eqf ha4) (allC (decide_eq_false ha3) (allC (decide_eq_false ha2) (allC ha1 allN)))))) (by kernel_rfl)⟩, nofun⟩
      ·replace h := jf h ha6
       by_cases ha7 : ((Utf8.decode a0 sa).1 : Int) > 57
       ·replace h := it h ha7
        obtain rfl := oi h
        exact ⟨⟨100, 3, [.br true, .no, .br false, .no, .br false, .no, .br false, .br true, .br false, .br true], [], [2], [], round_fr (allC (decide_eq_true ha7) (allC (decide_eq_false ha6) (allC (net ha5) (allC (eqf ha4) (allC (decide_eq_false ha3) (allC (decide_eq_false ha2) (allC ha1 allN))))))) (by kernel_rfl)⟩, nofun⟩
       ·replace h := jf h ha7
        obtain rfl := oi h
        exact ⟨100, 3, [.br true, .no, .br false, .no, .br false, .no, .br false, .br true, .br false, .br false], [], [0, 7], [2], round_fr (allC (decide_eq_false ha7) (allC (decide_eq_false ha6) (allC (net ha5) (allC (eqf ha4) (allC (decide_eq_false ha3) (allC (decide_eq_false ha2) (allC ha1 allN))))))) (by kernel_rfl)⟩
 ·replace h := jf h ha1
  obtain rfl := oi h
  exact ⟨⟨100, 3, [.br false, .no], [], [0], [], round_fr (allC ha1 allN) (by kernel_rfl)⟩, nofun⟩
def F_light_IsName (n : Nat) (a0 : ByteArray) : Option (Bool) :=
 (loopF (F_light_IsName_L1 n a0) n 0).bind fun t1 => match t1 with
  | (.inl t1) => (
  some false)
  | (.inr t1) => (
  if (!(a0.toList == (⟨#[]⟩ : ByteArray).toList)) = true then
   some (decide ((a0.size : Int) ≤ 24))
  else
  some false)
theorem c_light_IsName {n : Nat} {a0 : ByteArray} {r : Bool} (h : F_light_IsName n a0 = some r) : Computes cx 84 [.v (.string a0)] (B r) := by
 unfold F_light_IsName at h
 obtain ⟨t1, h1, h⟩ := bo h
 rcases t1 with t1 | t1
 ·obtain rfl := oi h
  exact run_fr (n := 100) (orc := [.lp [] [0, 7] [2] .ret [(2, .d (B false))] [] 54]) (allC (loopF_to R_light_IsName_L1 h1) allN) (by kernel_rfl)
 ·by_cases h2 : (!(a0.toList == (⟨#[]⟩ : ByteArray).toList)) = true
  ·replace h := it h h2
   obtain rfl := oi h
   exact run_fr (n := 100) (orc := [.lp [] [0, 7] [2] (.exit 0) [(0, .d (.v (.string a0)))] [] 54, .br true]) (allC h2 (allC (loopF_to R_light_IsName_L1 h1) allN)) (by kernel_rfl)
  ·replace h := jf h h2
   obtain rfl := oi h
   exact run_fr (n := 100) (orc := [.lp [] [0, 7] [2] (.exit 0) [(0, .d (.v (.string a0)))] [] 54, .br false]) (allC (bfalse h2) (allC (loopF_to R_light_IsName_L1 h1) allN)) (by kernel_rfl)
def F_field_when (n : Nat) (a0 : Bool) (a1 : Int) : Option (Int) :=
 if a0 = true then
  some a1
 else
 some 0
theorem c_field_when {n : Nat} {a0 : Bool} {a1 : Int} {r : Int} (h : F_field_when n a0 a1 = some r) : Computes cx 83 [B a0, I a1] (I r) := by
 unfold F_field_when at h
 by_cases h1 : a0 = true
 ·replace h := it h h1
  obtain rfl := oi h
  exact run_fr (n := 100) (orc := [.br true]) (allC h1 allN) (by kernel_rfl)
 ·replace h := jf h h1
  obtain rfl := oi h
  exact run_fr (n := 100) (orc := [.br false]) (allC (bfalse h1) allN) (by kernel_rfl)
def F_field_when_2 (n : Nat)  : Option (Int) :=
 some 3
theorem c_field_when_2 {n : Nat}  {r : Int} (h : F_field_when_2 n  = some r) : Computes cx 83 [B true, I 3] (I r) := by
 unfold F_field_when_2 at h
 obtain rfl := oi h
 exact run_fr (n := 100) (orc := [.no]) allN (by kernel_rfl)
def F_field_within (n : Nat) (a0 : Int) (a1 : Int) (a2 : Int) : Option (Int) :=
 if a0 < a1 then
  (F_field_when_2 n).bind fun t2 =>
  some t2
 else
 (F_field_when n (decide (a0 > a2)) 3).bind fun t2 =>
 some t2
theorem c_field_within {n : Nat} {a0 : Int} {a1 : Int} {a2 : Int} {r : Int} (h : F_field_within n a0 a1 a2 = some r) : Computes cx 73 [I a0, I a1, I a2] (I r) := by
 unfold F_field_within at h
 by_cases h1 : a0 < a1
 ·replace h := it h h1
  obtain ⟨t2, h2, h⟩ := bo h
  obtain rfl := oi h
  exact run_fr (n := 100) (orc := [.br true, .ret (I t2)]) (allC (c_field_when_2 h2) (allC (decide_eq_true h1) allN)) (by kernel_rfl)
 ·replace h := jf h h1
  obtain ⟨t2, h2, h⟩ := bo h
  obtain rfl := oi h
  exact run_fr (n := 100) (orc := [.br false, .ret (I t2)]) (allC (c_field_when h2) (allC (decide_eq_false h1) allN)) (by kernel_rfl)
def F_field_first_L1 (n : Nat) (a0 : List D) (sa : (Int)) : Option (((Int)) ⊕ ((Int) ⊕ (Unit))) :=
 if sa < ((a0).length : Int) then
  (el un_i a0 sa).bind fun ta2 =>
  if ta2 = 0 then
  if inI64 (sa + 1) then
  some (.inl (sa + 1))
  else none
  else
  some (.inr (.inl ta2))
 else
 some (.inr (.inr ()))
noncomputable def T_field_first_L1 (a0 : List D) (sa : (Int)) : List (Nat × AV) := [(5, .d (.lst false 1 a0)), (6, .d (I ((a0).length : Int))), (7, .d (I sa))]
noncomputable def H_field_first_L1 (a0 : List D) (sa : (Int)) : List (Nat × Blk) := []
noncomputable def X_field_first_L1 (a0 : List D) (e : (Int) ⊕ (Unit)) : Ex := match e with
  | (.inl e) => .ret
  | (.inr e) => (.exit 0)
noncomputable def XT_field_first_L1 (a0 : List D) (e : (Int) ⊕ (Unit)) : List (Nat × AV) := match e with
  | (.inl e) => [(2, .d (I e))]
  | (.inr e) => []
noncomputable def XH_field_first_L1 (a0 : List D) (e : (Int) ⊕ (Unit)) : List (Nat × Blk) := match e with
  | (.inl e) => []
  | (.inr e) => []
theorem R_field_first_L1 {n : Nat} {a0 : List D} (sa : (Int)) (r) (h : F_field_first_L1 n a0 sa = some r) : Rd cx (loopAt cx.P 56 0) 15 0 false (T_field_first_L1 a0) (H_field_first_L1 a0) (X_field_first_L1 a0) (XT_field_first_L1 a0) (XH_field_first_L1 a0) sa r := by
 unfold F_field_first_L1 at h
 by_cases ha1 : sa < ((a0).length : Int)
 ·replace h := it h ha1
  obtain ⟨ta2, ha2, h⟩ := bo h
  by_cases ha3 : ta2 = 0
  ·replace h := it h ha3
   obtain ⟨ha4, h⟩ := gd h
   obtain rfl := oi h
   exact ⟨100, 4, [.br true, .el (enc_i ta2), .br false], [], [5, 6, 7], [], round_fr (allC ha4 (allC (nef ha3) (allC (el_ok un_i_ok ha2).1 (allC (el_ok un_i_ok ha2).2 (allC (decide_eq_true ha1) allN))))) (by kernel_rfl)⟩
  ·replace h := jf h ha3
   obtain rfl := oi h
   exact ⟨⟨100, 4, [.br true, .el (enc_i ta2), .br true], [], [2], [], round_fr (allC (net ha3) (allC (el_ok un_i_ok ha2).1 (allC (el_ok un_i_ok ha2).2 (allC (decide_eq_true ha1) allN)))) (by kernel_rfl)⟩, nofun⟩
 ·replace h := jf h ha1
  obtain rfl := oi h
  exact ⟨⟨100, 4, [.br false], [], [], [], round_fr (allC (decide_eq_false ha1) allN) (by kernel_rfl)⟩, nofun⟩
def F_field_first (n : Nat) (a0 : List D) : Option (Int) :=
 (loopF (F_field_first_L1 n a0) n 0).bind fun t1 => match t1 with
  | (.inl t1) => (
  some t1)
  | (.inr t1) => (
  some 0)
theorem c_field_first {n : Nat} {a0 : List D} {r : Int} (h : F_field_first n a0 = some r) : Computes cx 56 [.lst false 1 a0] (I r) := by
 unfold F_field_first at h
 obtain ⟨t1, h1, h⟩ := bo h
 rcases t1 with t1 | t1
 ·obtain rfl := oi h
  exact run_fr (n := 100) (orc := [.lp [] [5, 6, 7] [] .ret [(2, .d (I t1))] [] 23]) (allC (loopF_to R_field_first_L1 h1) allN) (by kernel_rfl)
 ·obtain rfl := oi h
  exact run_fr (n := 100) (orc := [.lp [] [5, 6, 7] [] (.exit 0) [] [] 23]) (allC (loopF_to R_field_first_L1 h1) allN) (by kernel_rfl)
def F_field_checkParts (n : Nat) (a0 : Int) (a1 : Int) (a2 : Int) (a3 : Int) : Option (Int) :=
 (F_field_within n a0 (IntKind.wrap .i64 (0 - a3)) a3).bind fun t1 =>
 (F_field_within n a1 (IntKind.wrap .i64 (0 - a3)) a3).bind fun t2 =>
 (F_field_within n a2 (IntKind.wrap .i64 (0 - a3)) a3).bind fun t3 =>
 (F_field_first n ([I t1, I t2, I t3])).bind fun t4 =>
 some t4
theorem c_field_checkParts {n : Nat} {a0 : Int} {a1 : Int} {a2 : Int} {a3 : Int} {r : Int} (h : F_field_checkParts n a0 a1 a2 a3 = some r) : Computes cx 64 [.agg [I a0, I a1, I a2], I a3] (I r) := by
 unfold F_field_checkParts at h
 obtain ⟨t1, h1, h⟩ := bo h; obtain ⟨t2, h2, h⟩ := bo h; obtain ⟨t3, h3, h⟩ := bo h; obtain ⟨t4, h4, h⟩ := bo h
 obtain rfl := oi h
 exact run_fr (n := 100) (orc := [.ret (I t1), .ret (I t2), .ret (I t3), .ret (I t4)]) (allC (((c_field_first h4).le (.cons (.full _ _ _) (.nil)) (.refl _)) : Computes cx 56 [.lst true 1 [I t1, I t2, I t3]] (I t4)) (allC (c_field_within h3) (allC (c_field_within h2) (allC (c_field_within h1) allN)))) (by kernel_rfl)
def F_field_cross (n : Nat) (a0 : Int) (a1 : Int) (a2 : Int) (a3 : Int) (a4 : Int) (a5 : Int) : Option (Int × Int × Int) :=
 if inI64 (a1 * a5) then
 if inI64 (a2 * a4) then
 if inI64 ((a1 * a5) - (a2 * a4)) then
 if inI64 (a2 * a3) then
 if inI64 (a0 * a5) then
 if inI64 ((a2 * a3) - (a0 * a5)) then
 if inI64 (a0 * a4) then
 if inI64 (a1 * a3) then
 if inI64 ((a0 * a4) - (a1 * a3)) then
 some (((a1 * a5) - (a2 * a4)), ((a2 * a3) - (a0 * a5)), ((a0 * a4) - (a1 * a3)))
 else none
 else none
 else none
 else none
 else none
 else none
 else none
 else none
 else none
theorem c_field_cross {n : Nat} {a0 : Int} {a1 : Int} {a2 : Int} {a3 : Int} {a4 : Int} {a5 : Int} {r : Int × Int × Int} (h : F_field_cross n a0 a1 a2 a3 a4 a5 = some r) : Computes cx 85 [.agg [I a0, I a1, I a2], .agg [I a3, I a4, I a5]] (.agg [I r.1, I r.2.1, I r.2.2]) := by
 unfold F_field_cross at h
 obtain ⟨h1, h⟩ := gd h; obtain ⟨h2, h⟩ := gd h; obtain ⟨h3, h⟩ := gd h; obtain ⟨h4, h⟩ := gd h; obtain ⟨h5, h⟩ := gd h; obtain ⟨h6, h⟩ := gd h; obtain ⟨h7, h⟩ := gd h; obtain ⟨h8, h⟩ := gd h; obtain ⟨h9, h⟩ := gd h
 obtain rfl := oi h
 exact run_fr (n := 100) (orc := []) (allC h9 (allC h8 (allC h7 (allC h6 (allC h5 (allC h4 (allC h3 (allC h2 (allC h1 allN))))))))) (by kernel_rfl)
/- (spillage/field.Mirror).normal: .agg [.v (.string a0), I a1, I a2, I a3, I a4, I a5, I a6, I a7, I a8, I a9] -/
def F_field_Mirror_normal (n : Nat) (a0 : ByteArray) (a1 : Int) (a2 : Int) (a3 : Int) (a4 : Int) (a5 : Int) (a6 : Int) (a7 : Int) (a8 : Int) (a9 : Int) : Option (Int × Int × Int) :=
 (F_field_cross n a4 a5 a6 a7 a8 a9).bind fun t1 =>
 some (t1.1, t1.2.1, t1.2.2)
theorem c_field_Mirror_normal {n : Nat} {a0 : ByteArray} {a1 : Int} {a2 : Int} {a3 : Int} {a4 : Int} {a5 : Int} {a6 : Int} {a7 : Int} {a8 : Int} {a9 : Int} {r : Int × Int × Int} (h : F_field_Mirror_normal n a0 a1 a2 a3 a4 a5 a6 a7 a8 a9 = some r) : Computes cx 60 [.agg [.v (.string a0), I a1, I a2, I a3, I a4, I a5, I a6, I a7, I a8, I a9]] (.agg [I r.1, I r.2.1, I r.2.2]) := by
 unfold F_field_Mirror_normal at h
 obtain ⟨t1, h1, h⟩ := bo h
 obtain rfl := oi h
 exact run_fr (n := 100) (orc := [.ret (.agg [I t1.1, I t1.2.1, I t1.2.2])]) (allC (c_field_cross h1) allN) (by kernel_rfl)
/- (spillage/field.Mirror).check: .agg [.v (.string a0), I a1, I a2, I a3, I a4, I a5, I a6, I a7, I a8, I a9] -/
def F_field_Mirror_check (n : Nat) (a0 : ByteArray) (a1 : Int) (a2 : Int) (a3 : Int) (a4 : Int) (a5 : Int) (a6 : Int) (a7 : Int) (a8 : Int) (a9 : Int) : Option (Int) :=
 (F_light_IsName n a0).bind fun t1 =>
 (F_field_when n (!t1) 8).bind fun t2 =>
 (F_field_checkParts n a1 a2 a3 4096).bind fun t3 =>
 (F_field_checkParts n a4 a5 a6 64).bind fun t4 =>
 (F_field_checkParts n a7 a8 a9 64).bind fun t5 =>
 (F_field_first n ([I t2, I t3, I t4, I t5])).bind fun t6 =>
 if t6 = 0 then
  (F_field_Mirror_normal n a0 a1 a2 a3 a4 a5 a6 a7 a8 a9).bind fun t8 =>
  (F_field_when n ((t8.1 == 0) && ((t8.2.1 == 0) && ((t8.2.2 == 0) && true))) 17).bind fun t9 =>
  some t9
 else
 some t6
theorem c_field_Mirror_check {n : Nat} {a0 : ByteArray} {a1 : Int} {a2 : Int} {a3 : Int} {a4 : Int} {a5 : Int} {a6 : Int} {a7 : Int} {a8 : Int} {a9 : Int} {r : Int} (h : F_field_Mirror_check n a0 a1 a2 a3 a4 a5 a6 a7 a8 a9 = some r) : Computes cx 57 [.agg [.v (.string a0), I a1, I a2, I a3, I a4, I a5, I a6, I a7, I a8, I a9]] (I r) := by
 unfold F_field_Mirror_check at h
 obtain ⟨t1, h1, h⟩ := bo h; obtain ⟨t2, h2, h⟩ := bo h; obtain ⟨t3, h3, h⟩ := bo h; obtain ⟨t4, h4, h⟩ := bo h; obtain ⟨t5, h5, h⟩ := bo h; obtain ⟨t6, h6, h⟩ := bo h
 by_cases h7 : t6 = 0
 ·replace h := it h h7
  obtain ⟨t8, h8, h⟩ := bo h; obtain ⟨t9, h9, h⟩ := bo h
  obtain rfl := oi h
  exact run_fr (n := 100) (orc := [.ret (B t1), .ret (I t2), .ret (I t3), .ret (I t4), .ret (I t5), .ret (I t6), .br false, .ret (.agg [I t8.1, I t8.2.1, I t8.2.2]), .ret (I t9)]) (allC (c_field_when h9) (allC (c_field_Mirror_normal h8) (allC (nef h7) (allC (((c_field_first h6).le (.cons (.full _ _ _) (.nil)) (.refl _)) : Computes cx 56 [.lst true 1 [I t2, I t3, I t4, I t5]] (I t6)) (allC (c_field_checkParts h5) (allC (c_field_checkParts h4) (allC (c_field_checkParts h3) (allC (c_field_when h2) (allC (c_light_IsName h1) allN))))))))) (by kernel_rfl)
 ·replace h := jf h h7
  obtain rfl := oi h
  exact run_fr (n := 100) (orc := [.ret (B t1), .ret (I t2), .ret (I t3), .ret (I t4), .ret (I t5), .ret (I t6), .br true]) (allC (net h7) (allC (((c_field_first h6).le (.cons (.full _ _ _) (.nil)) (.refl _)) : Computes cx 56 [.lst true 1 [I t2, I t3, I t4, I t5]] (I t6)) (allC (c_field_checkParts h5) (allC (c_field_checkParts h4) (allC (c_field_checkParts h3) (allC (c_field_when h2) (allC (c_light_IsName h1) allN))))))) (by kernel_rfl)
def F_field_checkDirection (n : Nat) (a0 : Int) (a1 : Int) (a2 : Int) (a3 : Int) : Option (Int) :=
 (F_field_checkParts n a0 a1 a2 a3).bind fun t1 =>
 (F_field_when n ((a0 == 0) && ((a1 == 0) && ((a2 == 0) && true))) 6).bind fun t2 =>
 (F_field_first n ([I t1, I t2])).bind fun t3 =>
 some t3
theorem c_field_checkDirection {n : Nat} {a0 : Int} {a1 : Int} {a2 : Int} {a3 : Int} {r : Int} (h : F_field_checkDirection n a0 a1 a2 a3 = some r) : Computes cx 58 [.agg [I a0, I a1, I a2], I a3] (I r) := by
 unfold F_field_checkDirection at h
 obtain ⟨t1, h1, h⟩ := bo h; obtain ⟨t2, h2, h⟩ := bo h; obtain ⟨t3, h3, h⟩ := bo h
 obtain rfl := oi h
 exact run_fr (n := 100) (orc := [.ret (I t1), .ret (I t2), .ret (I t3)]) (allC (((c_field_first h3).le (.cons (.full _ _ _) (.nil)) (.refl _)) : Computes cx 56 [.lst true 1 [I t1, I t2]] (I t3)) (allC (c_field_when h2) (allC (c_field_checkParts h1) allN))) (by kernel_rfl)
def F_field_dot (n : Nat) (a0 : Int) (a1 : Int) (a2 : Int) (a3 : Int) (a4 : Int) (a5 : Int) : Option (Int) :=
 if inI64 (a0 * a3) then
 if inI64 (a1 * a4) then
 if inI64 ((a0 * a3) + (a1 * a4)) then
 if inI64 (a2 * a5) then
 if inI64 (((a0 * a3) + (a1 * a4)) + (a2 * a5)) then
 some (((a0 * a3) + (a1 * a4)) + (a2 * a5))
 else none
 else none
 else none
 else none
 else none
theorem c_field_dot {n : Nat} {a0 : Int} {a1 : Int} {a2 : Int} {a3 : Int} {a4 : Int} {a5 : Int} {r : Int} (h : F_field_dot n a0 a1 a2 a3 a4 a5 = some r) : Computes cx 59 [.agg [I a0, I a1, I a2], .agg [I a3, I a4, I a5]] (I r) := by
 unfold F_field_dot at h
 obtain ⟨h1, h⟩ := gd h; obtain ⟨h2, h⟩ := gd h; obtain ⟨h3, h⟩ := gd h; obtain ⟨h4, h⟩ := gd h; obtain ⟨h5, h⟩ := gd h
 obtain rfl := oi h
 exact run_fr (n := 100) (orc := []) (allC h5 (allC h4 (allC h3 (allC h2 (allC h1 allN))))) (by kernel_rfl)
/- cmp.isNaN[int]: I a0 -/
def F_cmp_isNaN_g (n : Nat) (a0 : Int) : Option (Bool) :=
 some (a0 != a0)
theorem c_cmp_isNaN_g {n : Nat} {a0 : Int} {r : Bool} (h : F_cmp_isNaN_g n a0 = some r) : Computes cx 86 [I a0] (B r) := by
 unfold F_cmp_isNaN_g at h
 obtain rfl := oi h
 exact run_fr (n := 100) (orc := []) allN (by kernel_rfl)
/- cmp.Compare[int]: I a0, I a1 -/
def F_cmp_Compare_g (n : Nat) (a0 : Int) (a1 : Int) : Option (Int) :=
 (F_cmp_isNaN_g n a0).bind fun t1 =>
 (F_cmp_isNaN_g n a1).bind fun t2 =>
 if t1 = true then
  if t2 = true then
  some 0
  else
  some (-1)
 else
 if t2 = true then
  some 1
 else
 if a0 < a1 then
  some (-1)
 else
 if a0 > a1 then
  some 1
 else
 some 0
theorem c_cmp_Compare_g {n : Nat} {a0 : Int} {a1 : Int} {r : Int} (h : F_cmp_Compare_g n a0 a1 = some r) : Computes cx 61 [I a0, I a1] (I r) := by
 unfold F_cmp_Compare_g at h
 obtain ⟨t1, h1, h⟩ := bo h; obtain ⟨t2, h2, h⟩ := bo h
 by_cases h3 : t1 = true
 ·replace h := it h h3
  by_cases h4 : t2 = true
  ·replace h := it h h4
   obtain rfl := oi h
   exact run_fr (n := 100) (orc := [.ret (B t1), .ret (B t2), .br true, .br true]) (allC h4 (allC h3 (allC (c_cmp_isNaN_g h2) (allC (c_cmp_isNaN_g h1) allN)))) (by kernel_rfl)
  ·replace h := jf h h4
   obtain rfl := oi h
   exact run_fr (n := 100) (orc := [.ret (B t1), .ret (B t2), .br true, .br false]) (allC (bfalse h4) (allC h3 (allC (c_cmp_isNaN_g h2) (allC (c_cmp_isNaN_g h1) allN)))) (by kernel_rfl)
 ·replace h := jf h h3
  by_cases h4 : t2 = true
  ·replace h := it h h4
   obtain rfl := oi h
   exact run_fr (n := 100) (orc := [.ret (B t1), .ret (B t2), .br false, .br true]) (allC h4 (allC (bfalse h3) (allC (c_cmp_isNaN_g h2) (allC (c_cmp_isNaN_g h1) allN)))) (by kernel_rfl)
  ·replace h := jf h h4
   by_cases h5 : a0 < a1
   ·replace h := it h h5
    obtain rfl := oi h
    exact run_fr (n := 100) (orc := [.ret (B t1), .ret (B t2), .br false, .br false, .br true]) (allC (decide_eq_true h5) (allC (bfalse h4) (allC (bfalse h3) (allC (c_cmp_isNaN_g h2) (allC (c_cmp_isNaN_g h1) allN))))) (by kernel_rfl)
   ·replace h := jf h h5
    by_cases h6 : a0 > a1
    ·replace h := it h h6
     obtain rfl := oi h
     exact run_fr (n := 100) (orc := [.ret (B t1), .ret (B t2), .br false, .br false, .br false, .br true]) (allC (decide_eq_true h6) (allC (decide_eq_false h5) (allC (bfalse h4) (allC (bfalse h3) (allC (c_cmp_isNaN_g h2) (allC (c_cmp_isNaN_g h1) allN)))))) (by kernel_rfl)
    ·replace h := jf h h6
     obtain rfl := oi h
     exact run_fr (n := 100) (orc := [.ret (B t1), .ret (B t2), .br false, .br false, .br false, .br false]) (allC (decide_eq_false h6) (allC (decide_eq_false h5) (allC (bfalse h4) (allC (bfalse h3) (allC (c_cmp_isNaN_g h2) (allC (c_cmp_isNaN_g h1) allN)))))) (by kernel_rfl)
def F_field_lowest_L1 (n : Nat) (a0 : Int) (a1 : Int) (sa : (Int × Int)) : Option (((Int × Int)) ⊕ ((Int))) :=
 if sa.2 = 0 then
  some (.inr sa.1)
 else
 if sa.2 ≠ 0 then
 some (.inl (sa.2, (Int.tmod sa.1 sa.2)))
 else none
noncomputable def T_field_lowest_L1 (a0 : Int) (a1 : Int) (sa : (Int × Int)) : List (Nat × AV) := [(0, .d (I a0)), (1, .d (I a1)), (4, .ptr 0 0 0 0 0), (5, .d (I sa.1)), (6, .d (I sa.2))]
noncomputable def H_field_lowest_L1 (a0 : Int) (a1 : Int) (sa : (Int × Int)) : List (Nat × Blk) := [(0, .box (.d (.agg [I 0, I 0])))]
noncomputable def X_field_lowest_L1 (a0 : Int) (a1 : Int) (e : (Int)) : Ex := (.exit 0)
noncomputable def XT_field_lowest_L1 (a0 : Int) (a1 : Int) (e : (Int)) : List (Nat × AV) := [(0, .d (I a0)), (1, .d (I a1)), (4, .ptr 0 0 0 0 0), (5, .d (I e))]
noncomputable def XH_field_lowest_L1 (a0 : Int) (a1 : Int) (e : (Int)) : List (Nat × Blk) := [(0, .box (.d (.agg [I 0, I 0])))]
theorem R_field_lowest_L1 {n : Nat} {a0 : Int} {a1 : Int} (sa : (Int × Int)) (r) (h : F_field_lowest_L1 n a0 a1 sa = some r) : Rd cx (loopAt cx.P 62 0) 22 0 false (T_field_lowest_L1 a0 a1) (H_field_lowest_L1 a0 a1) (X_field_lowest_L1 a0 a1) (XT_field_lowest_L1 a0 a1) (XH_field_lowest_L1 a0 a1) sa r := by
 unfold F_field_lowest_L1 at h
 by_cases ha1 : sa.2 = 0
 ·replace h := it h ha1
  obtain rfl := oi h
  exact ⟨⟨100, 5, [.br false], [], [0, 1, 4, 5], [0], round_fr (allC (nef ha1) allN) (by kernel_rfl)⟩, nofun⟩
 ·replace h := jf h ha1
  obtain ⟨ha2, h⟩ := gd h
  obtain rfl := oi h
  exact ⟨100, 5, [.br true], [], [0, 1, 4, 5, 6], [0], round_fr (allC ha2 (allC (net ha1) allN)) (by kernel_rfl)⟩
def F_field_lowest (n : Nat) (a0 : Int) (a1 : Int) : Option (Int × Int) :=
 (loopF (F_field_lowest_L1 n a0 a1) n (a0, a1)).bind fun t1 =>
 if t1 ≠ 0 then
 if inI64 (Int.tdiv a0 t1) then
 if inI64 (Int.tdiv a1 t1) then
 some ((Int.tdiv a0 t1), (Int.tdiv a1 t1))
 else none
 else none
 else none
theorem c_field_lowest {n : Nat} {a0 : Int} {a1 : Int} {r : Int × Int} (h : F_field_lowest n a0 a1 = some r) : Computes cx 62 [I a0, I a1] (.agg [I r.1, I r.2]) := by
 unfold F_field_lowest at h
 obtain ⟨t1, h1, h⟩ := bo h; obtain ⟨h2, h⟩ := gd h; obtain ⟨h3, h⟩ := gd h; obtain ⟨h4, h⟩ := gd h
 obtain rfl := oi h
 exact run_fr (n := 100) (orc := [.lp [] [0, 1, 4, 5, 6] [0] (.exit 0) [(0, .d (I a0)), (1, .d (I a1)), (4, .ptr 0 0 0 0 0), (5, .d (I t1))] [(0, .box (.d (.agg [I 0, I 0])))] 24]) (allC h2 (allC h4 (allC h2 (allC h3 (allC (loopF_to R_field_lowest_L1 h1) allN))))) (by kernel_rfl)
def F_field_Cosine (n : Nat) (a0 : ByteArray) (a1 : Int) (a2 : Int) (a3 : Int) (a4 : Int) (a5 : Int) (a6 : Int) (a7 : Int) (a8 : Int) (a9 : Int) (a10 : Int) (a11 : Int) (a12 : Int) : Option (Int × Int × Int × Int) :=
 (F_field_Mirror_check n a0 a1 a2 a3 a4 a5 a6 a7 a8 a9).bind fun t1 =>
 (F_field_checkDirection n a10 a11 a12 1024).bind fun t2 =>
 (F_field_first n ([I t1, I t2])).bind fun t3 =>
 if t3 = 0 then
  (F_field_Mirror_normal n a0 a1 a2 a3 a4 a5 a6 a7 a8 a9).bind fun t5 =>
  (F_field_dot n t5.1 t5.2.1 t5.2.2 a10 a11 a12).bind fun t6 =>
  (F_cmp_Compare_g n t6 0).bind fun t7 =>
  if inI64 (t6 * t6) then
  (F_field_dot n t5.1 t5.2.1 t5.2.2 t5.1 t5.2.1 t5.2.2).bind fun t9 =>
  (F_field_dot n a10 a11 a12 a10 a11 a12).bind fun t10 =>
  if inI64 (t9 * t10) then
  (F_field_lowest n (t6 * t6) (t9 * t10)).bind fun t12 =>
  some (t7, t12.1, t12.2, 0)
  else none
  else none
 else
 some (0, 0, 0, t3)
theorem c_field_Cosine {n : Nat} {a0 : ByteArray} {a1 : Int} {a2 : Int} {a3 : Int} {a4 : Int} {a5 : Int} {a6 : Int} {a7 : Int} {a8 : Int} {a9 : Int} {a10 : Int} {a11 : Int} {a12 : Int} {r : Int × Int × Int × Int} (h : F_field_Cosine n a0 a1 a2 a3 a4 a5 a6 a7 a8 a9 a10 a11 a12 = some r) : Computes cx 14 [.agg [.v (.string a0), I a1, I a2, I a3, I a4, I a5, I a6, I a7, I a8, I a9], .agg [I a10, I a11, I a12]] (.tup [I r.1, .agg [I r.2.1, I r.2.2.1], I r.2.2.2]) := by
 unfold F_field_Cosine at h
 obtain ⟨t1, h1, h⟩ := bo h; obtain ⟨t2, h2, h⟩ := bo h; obtain ⟨t3, h3, h⟩ := bo h
 by_cases h4 : t3 = 0
 ·replace h := it h h4
  obtain ⟨t5, h5, h⟩ := bo h; obtain ⟨t6, h6, h⟩ := bo h; obtain ⟨t7, h7, h⟩ := bo h; obtain ⟨h8, h⟩ := gd h; obtain ⟨t9, h9, h⟩ := bo h; obtain ⟨t10, h10, h⟩ := bo h; obtain ⟨h11, h⟩ := gd h; obtain ⟨t12, h12, h⟩ := bo h
  obtain rfl := oi h
  exact run_fr (n := 100) (orc := [.ret (I t1), .ret (I t2), .ret (I t3), .br false, .ret (.agg [I t5.1, I t5.2.1, I t5.2.2]), .ret (I t6), .ret (I t7), .ret (.agg [I t5.1, I t5.2.1, I t5.2.2]), .ret (.agg [I t5.1, I t5.2.1, I t5.2.2]), .ret (I t9), .ret (I t10), .ret (.agg [I t12.1, I t12.2])]) (allC (c_field_lowest h12) (allC h11 (allC (c_field_dot h10) (allC (c_field_dot h9) (allC (c_field_Mirror_normal h5) (allC (c_field_Mirror_normal h5) (allC h8 (allC (c_cmp_Compare_g h7) (allC (c_field_dot h6) (allC (c_field_Mirror_normal h5) (allC (nef h4) (allC (((c_field_first h3).le (.cons (.full _ _ _) (.nil)) (.refl _)) : Computes cx 56 [.lst true 1 [I t1, I t2]] (I t3)) (allC (c_field_checkDirection h2) (allC (c_field_Mirror_check h1) allN)))))))))))))) (by kernel_rfl)
 ·replace h := jf h h4
  obtain rfl := oi h
  exact run_fr (n := 100) (orc := [.ret (I t1), .ret (I t2), .ret (I t3), .br true]) (allC (net h4) (allC (((c_field_first h3).le (.cons (.full _ _ _) (.nil)) (.refl _)) : Computes cx 56 [.lst true 1 [I t1, I t2]] (I t3)) (allC (c_field_checkDirection h2) (allC (c_field_Mirror_check h1) allN)))) (by kernel_rfl)
theorem e_top_thistleLevel_0 (t1 : Int × Int × Int × Int) (t2 : Int × Int × Int × Int × Int × Int × Int) (t6 : Int) (t8 : Int × Int × Int × Int) (t9 : Int × Int × Int × Int) : runFn true 100 cx 5 [] [.ret (.tup [.agg [I t1.1, I t1.2.1, I t1.2.2.1], I t1.2.2.2]), .ret (.tup [.agg [I t2.1, I t2.2.1, I t2.2.2.1, I t2.2.2.2.1, I t2.2.2.2.2.1, I t2.2.2.2.2.2.1], I t2.2.2.2.2.2.2]), .br false, .br false, .br false, .ret (I t6), .br false, .ret (.tup [I t8.1, .agg [I t8.2.1, I t8.2.2.1], I t8.2.2.2]), .ret (.tup [I t9.1, .agg [I t9.2.1, I t9.2.2.1], I t9.2.2.2]), .br true, .br true, .br true, .br true, .br true] = some (B ((t8.2.1 == 5) && ((t8.2.2.1 == 6) && true)), [((t8.2.1 == t9.2.1) && ((t8.2.2.1 == t9.2.2.1) && true)) = true, (t9.1 == 1) = true, (t8.1 == 1) = true, (t9.2.2.2 == 0) = true, (t8.2.2.2 == 0) = true, Computes cx 14 [.agg [.v (.string ⟨#[109]⟩), I 0, I 0, I 0, I t2.1, I t2.2.1, I t2.2.2.1, I t2.2.2.2.1, I t2.2.2.2.2.1, I t2.2.2.2.2.2.1], .agg [I 2, I 1, I 2]] (.tup [I t9.1, .agg [I t9.2.1, I t9.2.2.1], I t9.2.2.2]), Computes cx 14 [.agg [.v (.string ⟨#[109]⟩), I 0, I 0, I 0, I t2.1, I t2.2.1, I t2.2.2.1, I t2.2.2.2.1, I t2.2.2.2.2.1, I t2.2.2.2.2.2.1], .agg [I 0, I 0, I 1]] (.tup [I t8.1, .agg [I t8.2.1, I t8.2.2.1], I t8.2.2.2]), (t6 != 0) = false, Computes cx 12 [.agg [.v (.string ⟨#[109]⟩), I 0, I 0, I 0, I t2.1, I t2.2.1, I t2.2.2.1, I t2.2.2.2.1, I t2.2.2.2.2.1, I t2.2.2.2.2.2.1]] (I t6), (!((t1.1 == 2) && ((t1.2.1 == 1) && ((t1.2.2.1 == 5) && true)))) = false, (t2.2.2.2.2.2.2 != 0) = false, (t1.2.2.2 != 0) = false, Computes cx 11 [.agg [I t1.1, I t1.2.1, I t1.2.2.1]] (.tup [.agg [I t2.1, I t2.2.1, I t2.2.2.1, I t2.2.2.2.1, I t2.2.2.2.2.1, I t2.2.2.2.2.2.1], I t2.2.2.2.2.2.2]), Computes cx 9 [.agg [I 0, I 0, I 1], .agg [I 2, I 1, I 2]] (.tup [.agg [I t1.1, I t1.2.1, I t1.2.2.1], I t1.2.2.2])]) := by kernel_rfl
def F_top_thistleLevel (n : Nat)  : Option (Bool) :=
 (F_sun_Normal_2 n 0 0 1 2 1 2).bind fun t1 =>
 (F_sun_Frame n t1.1 t1.2.1 t1.2.2.1).bind fun t2 =>
 if t1.2.2.2 = 0 then
  if t2.2.2.2.2.2.2 = 0 then
  if ((t1.1 == 2) && ((t1.2.1 == 1) && ((t1.2.2.1 == 5) && true))) = true then
   (F_ref04_CheckMirror n (⟨#[109]⟩) 0 0 0 t2.1 t2.2.1 t2.2.2.1 t2.2.2.2.1 t2.2.2.2.2.1 t2.2.2.2.2.2.1).bind fun t6 =>
   if t6 = 0 then
   (F_field_Cosine n (⟨#[109]⟩) 0 0 0 t2.1 t2.2.1 t2.2.2.1 t2.2.2.2.1 t2.2.2.2.2.1 t2.2.2.2.2.2.1 0 0 1).bind fun t8 =>
   (F_field_Cosine n (⟨#[109]⟩) 0 0 0 t2.1 t2.2.1 t2.2.2.1 t2.2.2.2.1 t2.2.2.2.2.1 t2.2.2.2.2.2.1 2 1 2).bind fun t9 =>
   if t8.2.2.2 = 0 then
    if t9.2.2.2 = 0 then
    if t8.1 = 1 then
     if t9.1 = 1 then
     if ((t8.2.1 == t9.2.1) && ((t8.2.2.1 == t9.2.2.1) && true)) = true then
      some ((t8.2.1 == 5) && ((t8.2.2.1 == 6) && true))
     else
     none /- false -/
     else
     none /- false -/
    else
    none /- false -/
    else
    none /- false -/
   else
   none /- false -/
   else
   none /- false -/
  else
  none /- false -/
  else
  none /- false -/
 else
 none /- false -/
theorem c_top_thistleLevel {n : Nat}  {r : Bool} (h : F_top_thistleLevel n  = some r) : Computes cx 5 [] (B r) := by
 unfold F_top_thistleLevel at h
 obtain ⟨t1, h1, h⟩ := bo h; obtain ⟨t2, h2, h⟩ := bo h
 by_cases h3 : t1.2.2.2 = 0
 ·replace h := it h h3
  by_cases h4 : t2.2.2.2.2.2.2 = 0
  ·replace h := it h h4
   by_cases h5 : ((t1.1 == 2) && ((t1.2.1 == 1) && ((t1.2.2.1 == 5) && true))) = true
   ·replace h := it h h5
    obtain ⟨t6, h6, h⟩ := bo h
    by_cases h7 : t6 = 0
    ·replace h := it h h7
     obtain ⟨t8, h8, h⟩ := bo h; obtain ⟨t9, h9, h⟩ := bo h
     by_cases h10 : t8.2.2.2 = 0
     ·replace h := it h h10
      by_cases h11 : t9.2.2.2 = 0
      ·replace h := it h h11
       by_cases h12 : t8.1 = 1
       ·replace h := it h h12
        by_cases h13 : t9.1 = 1
        ·replace h := it h h13
         by_cases h14 : ((t8.2.1 == t9.2.1) && ((t8.2.2.1 == t9.2.2.1) && true)) = true
         ·replace h := it h h14
          obtain rfl := oi h
          exact run (e_top_thistleLevel_0 t1 t2 t6 t8 t9) ⟨h14, (eqt h13), (eqt h12), (eqt h11), (eqt h10), (c_field_Cosine h9), (c_field_Cosine h8), (nef h7), (c_ref04_CheckMirror h6), (notf h5), (nef h4), (nef h3), (c_sun_Frame h2), (c_sun_Normal_2 h1), trivial⟩
         ·replace h := jf h h14
          cases h
        ·replace h := jf h h13
         cases h
       ·replace h := jf h h12
        cases h
      ·replace h := jf h h11
       cases h
     ·replace h := jf h h10
      cases h
    ·replace h := jf h h7
     cases h
   ·replace h := jf h h5
    cases h
  ·replace h := jf h h4
   cases h
 ·replace h := jf h h3
  cases h
def F_sun_when_3 (n : Nat)  : Option (Int) :=
 some 3
theorem c_sun_when_3 {n : Nat}  {r : Int} (h : F_sun_when_3 n  = some r) : Computes cx 36 [B true, I 3] (I r) := by
 unfold F_sun_when_3 at h
 obtain rfl := oi h
 exact run_fr (n := 100) (orc := [.no]) allN (by kernel_rfl)
def F_sun_within (n : Nat) (a0 : Int) (a1 : Int) (a2 : Int) : Option (Int) :=
 if a0 < a1 then
  (F_sun_when_3 n).bind fun t2 =>
  some t2
 else
 (F_sun_when n (decide (a0 > a2)) 3).bind fun t2 =>
 some t2
theorem c_sun_within {n : Nat} {a0 : Int} {a1 : Int} {a2 : Int} {r : Int} (h : F_sun_within n a0 a1 a2 = some r) : Computes cx 35 [I a0, I a1, I a2] (I r) := by
 unfold F_sun_within at h
 by_cases h1 : a0 < a1
 ·replace h := it h h1
  obtain ⟨t2, h2, h⟩ := bo h
  obtain rfl := oi h
  exact run_fr (n := 100) (orc := [.br true, .ret (I t2)]) (allC (c_sun_when_3 h2) (allC (decide_eq_true h1) allN)) (by kernel_rfl)
 ·replace h := jf h h1
  obtain ⟨t2, h2, h⟩ := bo h
  obtain rfl := oi h
  exact run_fr (n := 100) (orc := [.br false, .ret (I t2)]) (allC (c_sun_when h2) (allC (decide_eq_false h1) allN)) (by kernel_rfl)
def F_ref01_CheckVector (n : Nat) (a0 : Int) (a1 : Int) (a2 : Int) : Option (Int) :=
 (F_ref01_CheckRange n a0 (-1048576) 1048576).bind fun t1 =>
 (F_ref01_CheckRange n a1 (-1048576) 1048576).bind fun t2 =>
 (F_ref01_CheckRange n a2 (-1048576) 1048576).bind fun t3 =>
 (F_ref01_First n ([I t1, I t2, I t3])).bind fun t4 =>
 some t4
theorem c_ref01_CheckVector {n : Nat} {a0 : Int} {a1 : Int} {a2 : Int} {r : Int} (h : F_ref01_CheckVector n a0 a1 a2 = some r) : Computes cx 75 [.agg [I a0, I a1, I a2]] (I r) := by
 unfold F_ref01_CheckVector at h
 obtain ⟨t1, h1, h⟩ := bo h; obtain ⟨t2, h2, h⟩ := bo h; obtain ⟨t3, h3, h⟩ := bo h; obtain ⟨t4, h4, h⟩ := bo h
 obtain rfl := oi h
 exact run_fr (n := 100) (orc := [.ret (I t1), .ret (I t2), .ret (I t3), .ret (I t4)]) (allC (((c_ref01_First h4).le (.cons (.full _ _ _) (.nil)) (.refl _)) : Computes cx 37 [.lst true 1 [I t1, I t2, I t3]] (I t4)) (allC (c_ref01_CheckRange h3) (allC (c_ref01_CheckRange h2) (allC (c_ref01_CheckRange h1) allN)))) (by kernel_rfl)
def F_ref01_CheckDirection (n : Nat) (a0 : Int) (a1 : Int) (a2 : Int) : Option (Int) :=
 (F_ref01_CheckVector n a0 a1 a2).bind fun t1 =>
 if t1 = 0 then
  (F_ref01_When n ((a0 == 0) && ((a1 == 0) && ((a2 == 0) && true))) 6).bind fun t3 =>
  some t3
 else
 some t1
theorem c_ref01_CheckDirection {n : Nat} {a0 : Int} {a1 : Int} {a2 : Int} {r : Int} (h : F_ref01_CheckDirection n a0 a1 a2 = some r) : Computes cx 38 [.agg [I a0, I a1, I a2]] (I r) := by
 unfold F_ref01_CheckDirection at h
 obtain ⟨t1, h1, h⟩ := bo h
 by_cases h2 : t1 = 0
 ·replace h := it h h2
  obtain ⟨t3, h3, h⟩ := bo h
  obtain rfl := oi h
  exact run_fr (n := 100) (orc := [.ret (I t1), .br false, .ret (I t3)]) (allC (c_ref01_When h3) (allC (nef h2) (allC (c_ref01_CheckVector h1) allN))) (by kernel_rfl)
 ·replace h := jf h h2
  obtain rfl := oi h
  exact run_fr (n := 100) (orc := [.ret (I t1), .br true]) (allC (net h2) (allC (c_ref01_CheckVector h1) allN)) (by kernel_rfl)
def F_ref02_within (n : Nat) (a0 : Int) (a1 : Int) (a2 : Int) (a3 : Int) : Option (Int) :=
 if inI64 (0 - a3) then
 (F_ref01_CheckRange n a0 (0 - a3) a3).bind fun t2 =>
 (F_ref01_CheckRange n a1 (0 - a3) a3).bind fun t3 =>
 (F_ref01_CheckRange n a2 (0 - a3) a3).bind fun t4 =>
 (F_ref01_First n ([I t2, I t3, I t4])).bind fun t5 =>
 some t5
 else none
theorem c_ref02_within {n : Nat} {a0 : Int} {a1 : Int} {a2 : Int} {a3 : Int} {r : Int} (h : F_ref02_within n a0 a1 a2 a3 = some r) : Computes cx 39 [.agg [I a0, I a1, I a2], I a3] (I r) := by
 unfold F_ref02_within at h
 obtain ⟨h1, h⟩ := gd h; obtain ⟨t2, h2, h⟩ := bo h; obtain ⟨t3, h3, h⟩ := bo h; obtain ⟨t4, h4, h⟩ := bo h; obtain ⟨t5, h5, h⟩ := bo h
 obtain rfl := oi h
 exact run_fr (n := 100) (orc := [.ret (I t2), .ret (I t3), .ret (I t4), .ret (I t5)]) (allC (((c_ref01_First h5).le (.cons (.full _ _ _) (.nil)) (.refl _)) : Computes cx 37 [.lst true 1 [I t2, I t3, I t4]] (I t5)) (allC (c_ref01_CheckRange h4) (allC h1 (allC (c_ref01_CheckRange h3) (allC h1 (allC (c_ref01_CheckRange h2) (allC h1 allN))))))) (by kernel_rfl)
def F_ref02_CheckRay (n : Nat) (a0 : Int) (a1 : Int) (a2 : Int) : Option (Int) :=
 (F_ref01_CheckDirection n a0 a1 a2).bind fun t1 =>
 (F_ref02_within n a0 a1 a2 4096).bind fun t2 =>
 (F_ref01_First n ([I t1, I t2])).bind fun t3 =>
 some t3
theorem c_ref02_CheckRay {n : Nat} {a0 : Int} {a1 : Int} {a2 : Int} {r : Int} (h : F_ref02_CheckRay n a0 a1 a2 = some r) : Computes cx 7 [.agg [I a0, I a1, I a2]] (I r) := by
 unfold F_ref02_CheckRay at h
 obtain ⟨t1, h1, h⟩ := bo h; obtain ⟨t2, h2, h⟩ := bo h; obtain ⟨t3, h3, h⟩ := bo h
 obtain rfl := oi h
 exact run_fr (n := 100) (orc := [.ret (I t1), .ret (I t2), .ret (I t3)]) (allC (((c_ref01_First h3).le (.cons (.full _ _ _) (.nil)) (.refl _)) : Computes cx 37 [.lst true 1 [I t1, I t2]] (I t3)) (allC (c_ref02_within h2) (allC (c_ref01_CheckDirection h1) allN))) (by kernel_rfl)
def F_ref04_CheckDirection (n : Nat) (a0 : Int) (a1 : Int) (a2 : Int) : Option (Int) :=
 (F_ref04_checkParts n a0 a1 a2 1024).bind fun t1 =>
 (F_ref01_When n ((a0 == 0) && ((a1 == 0) && ((a2 == 0) && true))) 6).bind fun t2 =>
 (F_ref01_First n ([I t1, I t2])).bind fun t3 =>
 some t3
theorem c_ref04_CheckDirection {n : Nat} {a0 : Int} {a1 : Int} {a2 : Int} {r : Int} (h : F_ref04_CheckDirection n a0 a1 a2 = some r) : Computes cx 8 [.agg [I a0, I a1, I a2]] (I r) := by
 unfold F_ref04_CheckDirection at h
 obtain ⟨t1, h1, h⟩ := bo h; obtain ⟨t2, h2, h⟩ := bo h; obtain ⟨t3, h3, h⟩ := bo h
 obtain rfl := oi h
 exact run_fr (n := 100) (orc := [.ret (I t1), .ret (I t2), .ret (I t3)]) (allC (((c_ref01_First h3).le (.cons (.full _ _ _) (.nil)) (.refl _)) : Computes cx 37 [.lst true 1 [I t1, I t2]] (I t3)) (allC (c_ref01_When h2) (allC (c_ref04_checkParts h1) allN))) (by kernel_rfl)
def enc_Asi9Z (x : ByteArray × Int × Int × Int × Int × Int × Int × Int × Int × Int) : D := .agg [.v (.string x.1), I x.2.1, I x.2.2.1, I x.2.2.2.1, I x.2.2.2.2.1, I x.2.2.2.2.2.1, I x.2.2.2.2.2.2.1, I x.2.2.2.2.2.2.2.1, I x.2.2.2.2.2.2.2.2.1, I x.2.2.2.2.2.2.2.2.2]
def un_Asi9Z : D → Option (ByteArray × Int × Int × Int × Int × Int × Int × Int × Int × Int)
  | .agg [c0, c1, c2, c3, c4, c5, c6, c7, c8, c9] => (un_str c0).bind fun y0 => (un_int .i64 c1).bind fun y1 => (un_int .i64 c2).bind fun y2 => (un_int .i64 c3).bind fun y3 => (un_int .i64 c4).bind fun y4 => (un_int .i64 c5).bind fun y5 => (un_int .i64 c6).bind fun y6 => (un_int .i64 c7).bind fun y7 => (un_int .i64 c8).bind fun y8 => (un_int .i64 c9).bind fun y9 => some (y0, y1, y2, y3, y4, y5, y6, y7, y8, y9)
  | _ => none
theorem un_Asi9Z_ok {d : D} {x : ByteArray × Int × Int × Int × Int × Int × Int × Int × Int × Int} (h : un_Asi9Z d = some x) : d = enc_Asi9Z x := by
 unfold un_Asi9Z at h
 split at h
 case h_2 => cases h
 obtain ⟨y0, h0, h⟩ := bo h; obtain ⟨y1, h1, h⟩ := bo h; obtain ⟨y2, h2, h⟩ := bo h; obtain ⟨y3, h3, h⟩ := bo h; obtain ⟨y4, h4, h⟩ := bo h; obtain ⟨y5, h5, h⟩ := bo h; obtain ⟨y6, h6, h⟩ := bo h; obtain ⟨y7, h7, h⟩ := bo h; obtain ⟨y8, h8, h⟩ := bo h; obtain ⟨y9, h9, h⟩ := bo h
 cases h
 have e0 := un_str_ok h0
 have e1 := un_int_ok h1
 have e2 := un_int_ok h2
 have e3 := un_int_ok h3
 have e4 := un_int_ok h4
 have e5 := un_int_ok h5
 have e6 := un_int_ok h6
 have e7 := un_int_ok h7
 have e8 := un_int_ok h8
 have e9 := un_int_ok h9
 rw [e0, e1, e2, e3, e4, e5, e6, e7, e8, e9]; rfl
def F_top_thistleField_L1 (n : Nat) (a0 : List D) (sa : (Int × List D)) : Option (((Int × List D)) ⊕ ((List D))) :=
 if sa.1 < ((a0).length : Int) then
  (el un_Asi9Z a0 sa.1).bind fun ta2 =>
  if roomP 88 ((sa.2).length + 1) then
  if inI64 (sa.1 + 1) then
  some (.inl ((sa.1 + 1), (sa.2 ++ ([.agg [.v (.string ta2.1), I ta2.2.1, I ta2.2.2.1, I ta2.2.2.2.1, I ta2.2.2.2.2.1, I ta2.2.2.2.2.2.1, I ta2.2.2.2.2.2.2.1, I ta2.2.2.2.2.2.2.2.1, I ta2.2.2.2.2.2.2.2.2.1, I ta2.2.2.2.2.2.2.2.2.2]] : List D))))
  else none
  else none
 else
 some (.inr sa.2)
noncomputable def T_top_thistleField_L1 (a0 : List D) (sa : (Int × List D)) : List (Nat × AV) := [(3, .own 5 0), (6, .d (.lst false 10 a0)), (7, .d (I ((a0).length : Int))), (8, .d (I sa.1))]
noncomputable def H_top_thistleField_L1 (a0 : List D) (sa : (Int × List D)) : List (Nat × Blk) := [(5, .row 0 10 sa.2)]
noncomputable def X_top_thistleField_L1 (a0 : List D) (e : (List D)) : Ex := (.exit 0)
noncomputable def XT_top_thistleField_L1 (a0 : List D) (e : (List D)) : List (Nat × AV) := [(3, .own 5 0)]
noncomputable def XH_top_thistleField_L1 (a0 : List D) (e : (List D)) : List (Nat × Blk) := [(5, .row 0 10 e)]
theorem R_top_thistleField_L1 {n : Nat} {a0 : List D} (sa : (Int × List D)) (r) (h : F_top_thistleField_L1 n a0 sa = some r) : Rd cx (loopAt cx.P 19 0) 18 0 false (T_top_thistleField_L1 a0) (H_top_thistleField_L1 a0) (X_top_thistleField_L1 a0) (XT_top_thistleField_L1 a0) (XH_top_thistleField_L1 a0) sa r := by
 unfold F_top_thistleField_L1 at h
 by_cases ha1 : sa.1 < ((a0).length : Int)
 ·replace h := it h ha1
  obtain ⟨ta2, ha2, h⟩ := bo h; obtain ⟨ha3, h⟩ := gd h; obtain ⟨ha4, h⟩ := gd h
  obtain rfl := oi h
  exact ⟨100, 6, [.br true, .el (enc_Asi9Z ta2), .br true], [], [3, 6, 7, 8], [5], round_fr (allC ha4 (allC ((room_of (b := 88) (by kernel_rfl) (by decide) ha3) : room cx 47 ((sa.2).length + 1)) (allC (el_ok un_Asi9Z_ok ha2).1 (allC (el_ok un_Asi9Z_ok ha2).2 (allC (decide_eq_true ha1) allN))))) (by kernel_rfl)⟩
 ·replace h := jf h ha1
  obtain rfl := oi h
  exact ⟨⟨100, 6, [.br false], [], [3], [5], round_fr (allC (decide_eq_false ha1) allN) (by kernel_rfl)⟩, nofun⟩
def F_top_thistleField (n : Nat) (a0 : List D) : Option (List D) :=
 (loopF (F_top_thistleField_L1 n a0) n (0, [])).bind fun t1 =>
 some t1
theorem c_top_thistleField {n : Nat} {a0 : List D} {r : List D} (h : F_top_thistleField n a0 = some r) : Computes cx 19 [.lst false 10 a0] (.lst false 10 r) := by
 unfold F_top_thistleField at h
 obtain ⟨t1, h1, h⟩ := bo h
 obtain rfl := oi h
 exact run_fr (n := 100) (orc := [.lp [3, 10] [3, 6, 7, 8] [5] (.exit 0) [(3, .own 5 0)] [(5, .row 0 10 t1)] 29]) (allC (loopF_to R_top_thistleField_L1 h1) allN) (by kernel_rfl)
def enc_b (x : Bool) : D := B x
def un_b (d : D) : Option (Bool) := un_bool d
theorem un_b_ok {d : D} {x : Bool} (h : un_b d = some x) : d = enc_b x := un_bool_ok h
def F_field_when_3 (n : Nat)  : Option (Int) :=
 some 0
theorem c_field_when_3 {n : Nat}  {r : Int} (h : F_field_when_3 n  = some r) : Computes cx 83 [B false, I 9] (I r) := by
 unfold F_field_when_3 at h
 obtain rfl := oi h
 exact run_fr (n := 100) (orc := [.no]) allN (by kernel_rfl)
def F_field_CheckMirrors_L1 (n : Nat) (a0 : List D) (sa : (Int × List D)) : Option (((Int × List D)) ⊕ ((Int) ⊕ (Unit))) :=
 if sa.1 < ((a0).length : Int) then
  (el un_Asi9Z a0 sa.1).bind fun ta2 =>
  (F_field_Mirror_check n ta2.1 ta2.2.1 ta2.2.2.1 ta2.2.2.2.1 ta2.2.2.2.2.1 ta2.2.2.2.2.2.1 ta2.2.2.2.2.2.2.1 ta2.2.2.2.2.2.2.2.1 ta2.2.2.2.2.2.2.2.2.1 ta2.2.2.2.2.2.2.2.2.2).bind fun ta3 =>
  if mok (.string ta2.1) (sa.2 : List D) = true then
  if (mfind (.string ta2.1) (sa.2 : List D)).isSome = true then
  ((mfind (.string ta2.1) (sa.2 : List D)).bind un_b).bind fun ta6 =>
  (F_field_when n ta6 9).bind fun ta7 =>
  (F_field_first n ([I ta3, I ta7])).bind fun ta8 =>
  if ta8 = 0 then
   if inI64 (sa.1 + 1) then
   some (.inl ((sa.1 + 1), (mput (.string ta2.1) (B true) (sa.2 : List D))))
   else none
  else
  some (.inr (.inl ta8))
  else
  (F_field_when_3 n).bind fun ta6 =>
  (F_field_first n ([I ta3, I ta6])).bind fun ta7 =>
  if ta7 = 0 then
  if inI64 (sa.1 + 1) then
  some (.inl ((sa.1 + 1), (mput (.string ta2.1) (B true) (sa.2 : List D))))
  else none
  else
  some (.inr (.inl ta7))
  else none
 else
 some (.inr (.inr ()))
noncomputable def T_field_CheckMirrors_L1 (a0 : List D) (sa : (Int × List D)) : List (Nat × AV) := [(3, .own 4 0), (11, .d (.lst false 10 a0)), (12, .d (I ((a0).length : Int))), (13, .d (I sa.1))]
noncomputable def H_field_CheckMirrors_L1 (a0 : List D) (sa : (Int × List D)) : List (Nat × Blk) := [(4, .mp sa.2)]
noncomputable def X_field_CheckMirrors_L1 (a0 : List D) (e : (Int) ⊕ (Unit)) : Ex := match e with
  | (.inl e) => .ret
  | (.inr e) => (.exit 0)
noncomputable def XT_field_CheckMirrors_L1 (a0 : List D) (e : (Int) ⊕ (Unit)) : List (Nat × AV) := match e with
  | (.inl e) => [(2, .d (I e))]
  | (.inr e) => []
noncomputable def XH_field_CheckMirrors_L1 (a0 : List D) (e : (Int) ⊕ (Unit)) : List (Nat × Blk) := match e with
  | (.inl e) => []
  | (.inr e) => []
theorem R_field_CheckMirrors_L1 {n : Nat} {a0 : List D} (sa : (Int × List D)) (r) (h : F_field_CheckMirrors_L1 n a0 sa = some r) : Rd cx (loopAt cx.P 87 0) 33 0 false (T_field_CheckMirrors_L1 a0) (H_field_CheckMirrors_L1 a0) (X_field_CheckMirrors_L1 a0) (XT_field_CheckMirrors_L1 a0) (XH_field_CheckMirrors_L1 a0) sa r := by
 unfold F_field_CheckMirrors_L1 at h
 by_cases ha1 : sa.1 < ((a0).length : Int)
 ·replace h := it h ha1
  obtain ⟨ta2, ha2, h⟩ := bo h; obtain ⟨ta3, ha3, h⟩ := bo h; obtain ⟨ha4, h⟩ := gd h
  by_cases ha5 : (mfind (.string ta2.1) (sa.2 : List D)).isSome = true
  ·replace h := it h ha5
   obtain ⟨ta6, ha6, h⟩ := bo h; obtain ⟨ta7, ha7, h⟩ := bo h; obtain ⟨ta8, ha8, h⟩ := bo h
   by_cases ha9 : ta8 = 0
   ·replace h := it h ha9
    obtain ⟨ha10, h⟩ := gd h
    obtain rfl := oi h
    exact ⟨100, 9, [.br true, .el (enc_Asi9Z ta2), .ret (I ta3), .el (B ta6), .ret (I ta7), .ret (I ta8), .br false, .br true], [], [3, 11, 12, 13], [4], round_fr (allC ha10 (allC ha4 (allC (nef ha9) (allC (((c_field_first ha8).le (.cons (.full _ _ _) (.nil)) (.refl _)) : Computes cx 56 [.lst true 1 [I ta3, I ta7]] (I ta8)) (allC (c_field_when ha7) (allC ((mlook_hit1 ha4 (mel_ok un_b_ok ha6)) : mlook false (.string ta2.1) (B false) (sa.2 : List D) = some (B ta6)) (allC (c_field_Mirror_check ha3) (allC (el_ok un_Asi9Z_ok ha2).1 (allC (el_ok un_Asi9Z_ok ha2).2 (allC (decide_eq_true ha1) allN)))))))))) (by kernel_rfl)⟩
   ·replace h := jf h ha9
    obtain rfl := oi h
    exact ⟨⟨100, 9, [.br true, .el (enc_Asi9Z ta2), .ret (I ta3), .el (B ta6), .ret (I ta7), .ret (I ta8), .br true], [], [2], [], round_fr (allC (net ha9) (allC (((c_field_first ha8).le (.cons (.full _ _ _) (.nil)) (.refl _)) : Computes cx 56 [.lst true 1 [I ta3, I ta7]] (I ta8)) (allC (c_field_when ha7) (allC ((mlook_hit1 ha4 (mel_ok un_b_ok ha6)) : mlook false (.string ta2.1) (B false) (sa.2 : List D) = some (B ta6)) (allC (c_field_Mirror_check ha3) (allC (el_ok un_Asi9Z_ok ha2).1 (allC (el_ok un_Asi9Z_ok ha2).2 (allC (decide_eq_true ha1) allN)))))))) (by kernel_rfl)⟩, nofun⟩
  ·replace h := jf h ha5
   obtain ⟨ta6, ha6, h⟩ := bo h; obtain ⟨ta7, ha7, h⟩ := bo h
   by_cases ha8 : ta7 = 0
   ·replace h := it h ha8
    obtain ⟨ha9, h⟩ := gd h
    obtain rfl := oi h
    exact ⟨100, 9, [.br true, .el (enc_Asi9Z ta2), .ret (I ta3), .el (B false), .ret (I ta6), .ret (I ta7), .br false, .br true], [], [3, 11, 12, 13], [4], round_fr (allC ha9 (allC ha4 (allC (nef ha8) (allC (((c_field_first ha7).le (.cons (.full _ _ _) (.nil)) (.refl _)) : Computes cx 56 [.lst true 1 [I ta3, I ta6]] (I ta7)) (allC (c_field_when_3 ha6) (allC ((mlook_miss1 ha4 (mno ha5)) : mlook false (.string ta2.1) (B false) (sa.2 : List D) = some (B false)) (allC (c_field_Mirror_check ha3) (allC (el_ok un_Asi9Z_ok ha2).1 (allC (el_ok un_Asi9Z_ok ha2).2 (allC (decide_eq_true ha1) allN)))))))))) (by kernel_rfl)⟩
   ·replace h := jf h ha8
    obtain rfl := oi h
    exact ⟨⟨100, 9, [.br true, .el (enc_Asi9Z ta2), .ret (I ta3), .el (B false), .ret (I ta6), .ret (I ta7), .br true], [], [2], [], round_fr (allC (net ha8) (allC (((c_field_first ha7).le (.cons (.full _ _ _) (.nil)) (.refl _)) : Computes cx 56 [.lst true 1 [I ta3, I ta6]] (I ta7)) (allC (c_field_when_3 ha6) (allC ((mlook_miss1 ha4 (mno ha5)) : mlook false (.string ta2.1) (B false) (sa.2 : List D) = some (B false)) (allC (c_field_Mirror_check ha3) (allC (el_ok un_Asi9Z_ok ha2).1 (allC (el_ok un_Asi9Z_ok ha2).2 (allC (decide_eq_true ha1) allN)))))))) (by kernel_rfl)⟩, nofun⟩
 ·replace h := jf h ha1
  obtain rfl := oi h
  exact ⟨⟨100, 9, [.br false], [], [], [], round_fr (allC (decide_eq_false ha1) allN) (by kernel_rfl)⟩, nofun⟩
def F_field_CheckMirrors (n : Nat) (a0 : List D) : Option (Int) :=
 if ((a0).length : Int) > 64 then
  some 5
 else
 (loopF (F_field_CheckMirrors_L1 n a0) n (0, [])).bind fun t2 => match t2 with
  | (.inl t2) => (
  some t2)
  | (.inr t2) => (
  some 0)
theorem c_field_CheckMirrors {n : Nat} {a0 : List D} {r : Int} (h : F_field_CheckMirrors n a0 = some r) : Computes cx 87 [.lst false 10 a0] (I r) := by
 unfold F_field_CheckMirrors at h
 by_cases h1 : ((a0).length : Int) > 64
 ·replace h := it h h1
  obtain rfl := oi h
  exact run_fr (n := 100) (orc := [.br true]) (allC (decide_eq_true h1) allN) (by kernel_rfl)
 ·replace h := jf h h1
  obtain ⟨t2, h2, h⟩ := bo h
  rcases t2 with t2 | t2
  ·obtain rfl := oi h
   exact run_fr (n := 100) (orc := [.br false, .lp [] [3, 11, 12, 13] [4] .ret [(2, .d (I t2))] [] 43]) (allC (loopF_to R_field_CheckMirrors_L1 h2) (allC (decide_eq_false h1) allN)) (by kernel_rfl)
  ·obtain rfl := oi h
   exact run_fr (n := 100) (orc := [.br false, .lp [] [3, 11, 12, 13] [4] (.exit 0) [] [] 43]) (allC (loopF_to R_field_CheckMirrors_L1 h2) (allC (decide_eq_false h1) allN)) (by kernel_rfl)
def F_field_when_4 (n : Nat)  : Option (Int) :=
 some 10
theorem c_field_when_4 {n : Nat}  {r : Int} (h : F_field_when_4 n  = some r) : Computes cx 83 [B true, I 10] (I r) := by
 unfold F_field_when_4 at h
 obtain rfl := oi h
 exact run_fr (n := 100) (orc := [.no]) allN (by kernel_rfl)
def F_field_checkIndex (n : Nat) (a0 : List D) (a1 : Int) : Option (Int) :=
 (F_field_CheckMirrors n a0).bind fun t1 =>
 if a1 < 0 then
  (F_field_when_4 n).bind fun t3 =>
  (F_field_first n ([I t1, I t3])).bind fun t4 =>
  some t4
 else
 (F_field_when n (decide (a1 ≥ ((a0).length : Int))) 10).bind fun t3 =>
 (F_field_first n ([I t1, I t3])).bind fun t4 =>
 some t4
theorem c_field_checkIndex {n : Nat} {a0 : List D} {a1 : Int} {r : Int} (h : F_field_checkIndex n a0 a1 = some r) : Computes cx 63 [.lst false 10 a0, I a1] (I r) := by
 unfold F_field_checkIndex at h
 obtain ⟨t1, h1, h⟩ := bo h
 by_cases h2 : a1 < 0
 ·replace h := it h h2
  obtain ⟨t3, h3, h⟩ := bo h; obtain ⟨t4, h4, h⟩ := bo h
  obtain rfl := oi h
  exact run_fr (n := 100) (orc := [.ret (I t1), .br true, .ret (I t3), .ret (I t4)]) (allC (((c_field_first h4).le (.cons (.full _ _ _) (.nil)) (.refl _)) : Computes cx 56 [.lst true 1 [I t1, I t3]] (I t4)) (allC (c_field_when_4 h3) (allC (decide_eq_true h2) (allC (c_field_CheckMirrors h1) allN)))) (by kernel_rfl)
 ·replace h := jf h h2
  obtain ⟨t3, h3, h⟩ := bo h; obtain ⟨t4, h4, h⟩ := bo h
  obtain rfl := oi h
  exact run_fr (n := 100) (orc := [.ret (I t1), .br false, .ret (I t3), .ret (I t4)]) (allC (((c_field_first h4).le (.cons (.full _ _ _) (.nil)) (.refl _)) : Computes cx 56 [.lst true 1 [I t1, I t3]] (I t4)) (allC (c_field_when h3) (allC (decide_eq_false h2) (allC (c_field_CheckMirrors h1) allN)))) (by kernel_rfl)
def F_field_checkK (n : Nat) (a0 : Int) : Option (Int) :=
 (F_field_within n a0 1 8).bind fun t1 =>
 some t1
theorem c_field_checkK {n : Nat} {a0 : Int} {r : Int} (h : F_field_checkK n a0 = some r) : Computes cx 65 [I a0] (I r) := by
 unfold F_field_checkK at h
 obtain ⟨t1, h1, h⟩ := bo h
 obtain rfl := oi h
 exact run_fr (n := 100) (orc := [.ret (I t1)]) (allC (c_field_within h1) allN) (by kernel_rfl)
def F_field_times (n : Nat) (a0 : Int) (a1 : Int) (a2 : Int) (a3 : Int) : Option (Int × Int × Int) :=
 if inI64 (a0 * a1) then
 if inI64 (a0 * a2) then
 if inI64 (a0 * a3) then
 some ((a0 * a1), (a0 * a2), (a0 * a3))
 else none
 else none
 else none
theorem c_field_times {n : Nat} {a0 : Int} {a1 : Int} {a2 : Int} {a3 : Int} {r : Int × Int × Int} (h : F_field_times n a0 a1 a2 a3 = some r) : Computes cx 99 [I a0, .agg [I a1, I a2, I a3]] (.agg [I r.1, I r.2.1, I r.2.2]) := by
 unfold F_field_times at h
 obtain ⟨h1, h⟩ := gd h; obtain ⟨h2, h⟩ := gd h; obtain ⟨h3, h⟩ := gd h
 obtain rfl := oi h
 exact run_fr (n := 100) (orc := []) (allC h3 (allC h2 (allC h1 allN))) (by kernel_rfl)
def F_field_plus (n : Nat) (a0 : Int) (a1 : Int) (a2 : Int) (a3 : Int) (a4 : Int) (a5 : Int) : Option (Int × Int × Int) :=
 if inI64 (a0 + a3) then
 if inI64 (a1 + a4) then
 if inI64 (a2 + a5) then
 some ((a0 + a3), (a1 + a4), (a2 + a5))
 else none
 else none
 else none
theorem c_field_plus {n : Nat} {a0 : Int} {a1 : Int} {a2 : Int} {a3 : Int} {a4 : Int} {a5 : Int} {r : Int × Int × Int} (h : F_field_plus n a0 a1 a2 a3 a4 a5 = some r) : Computes cx 98 [.agg [I a0, I a1, I a2], .agg [I a3, I a4, I a5]] (.agg [I r.1, I r.2.1, I r.2.2]) := by
 unfold F_field_plus at h
 obtain ⟨h1, h⟩ := gd h; obtain ⟨h2, h⟩ := gd h; obtain ⟨h3, h⟩ := gd h
 obtain rfl := oi h
 exact run_fr (n := 100) (orc := []) (allC h3 (allC h2 (allC h1 allN))) (by kernel_rfl)
def enc_Ai4Z (x : Int × Int × Int × Int) : D := .agg [I x.1, I x.2.1, I x.2.2.1, I x.2.2.2]
def un_Ai4Z : D → Option (Int × Int × Int × Int)
  | .agg [c0, c1, c2, c3] => (un_int .i64 c0).bind fun y0 => (un_int .i64 c1).bind fun y1 => (un_int .i64 c2).bind fun y2 => (un_int .i64 c3).bind fun y3 => some (y0, y1, y2, y3)
  | _ => none
theorem un_Ai4Z_ok {d : D} {x : Int × Int × Int × Int} (h : un_Ai4Z d = some x) : d = enc_Ai4Z x := by
 unfold un_Ai4Z at h
 split at h
 case h_2 => cases h
 obtain ⟨y0, h0, h⟩ := bo h; obtain ⟨y1, h1, h⟩ := bo h; obtain ⟨y2, h2, h⟩ := bo h; obtain ⟨y3, h3, h⟩ := bo h
 cases h
 have e0 := un_int_ok h0
 have e1 := un_int_ok h1
 have e2 := un_int_ok h2
 have e3 := un_int_ok h3
 rw [e0, e1, e2, e3]; rfl
theorem e_field_Mirror_meets_0 (a0 : ByteArray) (a1 : Int) (a2 : Int) (a3 : Int) (a4 : Int) (a5 : Int) (a6 : Int) (a7 : Int) (a8 : Int) (a9 : Int) (a10 : Int) (a11 : Int) (a12 : Int) (a13 : Int) (a14 : Int) (a15 : Int) (a16 : Int) (a17 : Bool) (t1 : Int × Int × Int) (t2 : Int × Int × Int) (t3 : Int × Int × Int) (t4 : Int) (t5 : Int) : runFn true 100 cx 105 [.agg [.v (.string a0), I a1, I a2, I a3, I a4, I a5, I a6, I a7, I a8, I a9], I a10, .agg [I a11, I a12, I a13, I a14, I a15, I a16, B a17]] [.ret (.agg [I t1.1, I t1.2.1, I t1.2.2]), .ret (.agg [I t2.1, I t2.2.1, I t2.2.2]), .ret (.agg [I t3.1, I t3.2.1, I t3.2.2]), .ret (I t4), .ret (.agg [I t3.1, I t3.2.1, I t3.2.2]), .ret (I t5), .br true, .br true, .no, .no] = some (B false, [((IntKind.wrap .i64 (0 - t4)) == 0) = true, (decide (t4 < 0)) = true, Computes cx 59 [.agg [I t3.1, I t3.2.1, I t3.2.2], .agg [I t2.1, I t2.2.1, I t2.2.2]] (I t5), Computes cx 60 [.agg [.v (.string a0), I a1, I a2, I a3, I a4, I a5, I a6, I a7, I a8, I a9]] (.agg [I t3.1, I t3.2.1, I t3.2.2]), Computes cx 59 [.agg [I t3.1, I t3.2.1, I t3.2.2], .agg [I a14, I a15, I a16]] (I t4), Computes cx 60 [.agg [.v (.string a0), I a1, I a2, I a3, I a4, I a5, I a6, I a7, I a8, I a9]] (.agg [I t3.1, I t3.2.1, I t3.2.2]), Computes cx 98 [.agg [I a11, I a12, I a13], .agg [I t1.1, I t1.2.1, I t1.2.2]] (.agg [I t2.1, I t2.2.1, I t2.2.2]), Computes cx 99 [I (IntKind.wrap .i64 (0 - a10)), .agg [I a1, I a2, I a3]] (.agg [I t1.1, I t1.2.1, I t1.2.2])]) := by kernel_rfl
theorem e_field_Mirror_meets_1 (a0 : ByteArray) (a1 : Int) (a2 : Int) (a3 : Int) (a4 : Int) (a5 : Int) (a6 : Int) (a7 : Int) (a8 : Int) (a9 : Int) (a10 : Int) (a11 : Int) (a12 : Int) (a13 : Int) (a14 : Int) (a15 : Int) (a16 : Int) (a17 : Bool) (t1 : Int × Int × Int) (t2 : Int × Int × Int) (t3 : Int × Int × Int) (t4 : Int) (t5 : Int) : runFn true 100 cx 105 [.agg [.v (.string a0), I a1, I a2, I a3, I a4, I a5, I a6, I a7, I a8, I a9], I a10, .agg [I a11, I a12, I a13, I a14, I a15, I a16, B a17]] [.ret (.agg [I t1.1, I t1.2.1, I t1.2.2]), .ret (.agg [I t2.1, I t2.2.1, I t2.2.2]), .ret (.agg [I t3.1, I t3.2.1, I t3.2.2]), .ret (I t4), .ret (.agg [I t3.1, I t3.2.1, I t3.2.2]), .ret (I t5), .br true, .br false, .br true, .no] = some (B false, [(decide ((IntKind.wrap .i64 (0 - (IntKind.wrap .i64 (0 - t5)))) ≤ 0)) = true, ((IntKind.wrap .i64 (0 - t4)) == 0) = false, (decide (t4 < 0)) = true, Computes cx 59 [.agg [I t3.1, I t3.2.1, I t3.2.2], .agg [I t2.1, I t2.2.1, I t2.2.2]] (I t5), Computes cx 60 [.agg [.v (.string a0), I a1, I a2, I a3, I a4, I a5, I a6, I a7, I a8, I a9]] (.agg [I t3.1, I t3.2.1, I t3.2.2]), Computes cx 59 [.agg [I t3.1, I t3.2.1, I t3.2.2], .agg [I a14, I a15, I a16]] (I t4), Computes cx 60 [.agg [.v (.string a0), I a1, I a2, I a3, I a4, I a5, I a6, I a7, I a8, I a9]] (.agg [I t3.1, I t3.2.1, I t3.2.2]), Computes cx 98 [.agg [I a11, I a12, I a13], .agg [I t1.1, I t1.2.1, I t1.2.2]] (.agg [I t2.1, I t2.2.1, I t2.2.2]), Computes cx 99 [I (IntKind.wrap .i64 (0 - a10)), .agg [I a1, I a2, I a3]] (.agg [I t1.1, I t1.2.1, I t1.2.2])]) := by kernel_rfl
theorem e_field_Mirror_meets_2 (a0 : ByteArray) (a1 : Int) (a2 : Int) (a3 : Int) (a4 : Int) (a5 : Int) (a6 : Int) (a7 : Int) (a8 : Int) (a9 : Int) (a10 : Int) (a11 : Int) (a12 : Int) (a13 : Int) (a14 : Int) (a15 : Int) (a16 : Int) (a17 : Bool) (t1 : Int × Int × Int) (t2 : Int × Int × Int) (t3 : Int × Int × Int) (t4 : Int) (t5 : Int) : runFn true 100 cx 105 [.agg [.v (.string a0), I a1, I a2, I a3, I a4, I a5, I a6, I a7, I a8, I a9], I a10, .agg [I a11, I a12, I a13, I a14, I a15, I a16, B a17]] [.ret (.agg [I t1.1, I t1.2.1, I t1.2.2]), .ret (.agg [I t2.1, I t2.2.1, I t2.2.2]), .ret (.agg [I t3.1, I t3.2.1, I t3.2.2]), .ret (I t4), .ret (.agg [I t3.1, I t3.2.1, I t3.2.2]), .ret (I t5), .br true, .br false, .br false, .br true, .br true] = some (B false, [(decide ((IntKind.wrap .i64 (0 - (IntKind.wrap .i64 (0 - t5)))) ≥ (IntKind.wrap .i64 (0 - t4)))) = true, a17 = true, (decide ((IntKind.wrap .i64 (0 - (IntKind.wrap .i64 (0 - t5)))) ≤ 0)) = false, ((IntKind.wrap .i64 (0 - t4)) == 0) = false, (decide (t4 < 0)) = true, Computes cx 59 [.agg [I t3.1, I t3.2.1, I t3.2.2], .agg [I t2.1, I t2.2.1, I t2.2.2]] (I t5), Computes cx 60 [.agg [.v (.string a0), I a1, I a2, I a3, I a4, I a5, I a6, I a7, I a8, I a9]] (.agg [I t3.1, I t3.2.1, I t3.2.2]), Computes cx 59 [.agg [I t3.1, I t3.2.1, I t3.2.2], .agg [I a14, I a15, I a16]] (I t4), Computes cx 60 [.agg [.v (.string a0), I a1, I a2, I a3, I a4, I a5, I a6, I a7, I a8, I a9]] (.agg [I t3.1, I t3.2.1, I t3.2.2]), Computes cx 98 [.agg [I a11, I a12, I a13], .agg [I t1.1, I t1.2.1, I t1.2.2]] (.agg [I t2.1, I t2.2.1, I t2.2.2]), Computes cx 99 [I (IntKind.wrap .i64 (0 - a10)), .agg [I a1, I a2, I a3]] (.agg [I t1.1, I t1.2.1, I t1.2.2])]) := by kernel_rfl
theorem e_field_Mirror_meets_3 (a0 : ByteArray) (a1 : Int) (a2 : Int) (a3 : Int) (a4 : Int) (a5 : Int) (a6 : Int) (a7 : Int) (a8 : Int) (a9 : Int) (a10 : Int) (a11 : Int) (a12 : Int) (a13 : Int) (a14 : Int) (a15 : Int) (a16 : Int) (a17 : Bool) (t1 : Int × Int × Int) (t2 : Int × Int × Int) (t3 : Int × Int × Int) (t4 : Int) (t5 : Int) (t11 : Int × Int × Int) (t12 : Int) (t13 : Int) : runFn true 100 cx 105 [.agg [.v (.string a0), I a1, I a2, I a3, I a4, I a5, I a6, I a7, I a8, I a9], I a10, .agg [I a11, I a12, I a13, I a14, I a15, I a16, B a17]] [.ret (.agg [I t1.1, I t1.2.1, I t1.2.2]), .ret (.agg [I t2.1, I t2.2.1, I t2.2.2]), .ret (.agg [I t3.1, I t3.2.1, I t3.2.2]), .ret (I t4), .ret (.agg [I t3.1, I t3.2.1, I t3.2.2]), .ret (I t5), .br true, .br false, .br false, .br true, .br false, .ret (.agg [I t11.1, I t11.2.1, I t11.2.2]), .ret (I t12), .ret (I t13), .br true] = some (B (decide ((maxI t13 (IntKind.wrap .i64 (0 - t13))) ≤ (a10 * (IntKind.wrap .i64 (0 - t4))))), [inI64 (a10 * (IntKind.wrap .i64 (0 - t4))), (decide ((maxI t12 (IntKind.wrap .i64 (0 - t12))) ≤ (a10 * (IntKind.wrap .i64 (0 - t4))))) = true, inI64 (a10 * (IntKind.wrap .i64 (0 - t4))), Computes cx 59 [.agg [I t11.1, I t11.2.1, I t11.2.2], .agg [I a4, I a5, I a6]] (I t13), Computes cx 59 [.agg [I t11.1, I t11.2.1, I t11.2.2], .agg [I a7, I a8, I a9]] (I t12), Computes cx 85 [.agg [I a14, I a15, I a16], .agg [I t2.1, I t2.2.1, I t2.2.2]] (.agg [I t11.1, I t11.2.1, I t11.2.2]), (decide ((IntKind.wrap .i64 (0 - (IntKind.wrap .i64 (0 - t5)))) ≥ (IntKind.wrap .i64 (0 - t4)))) = false, a17 = true, (decide ((IntKind.wrap .i64 (0 - (IntKind.wrap .i64 (0 - t5)))) ≤ 0)) = false, ((IntKind.wrap .i64 (0 - t4)) == 0) = false, (decide (t4 < 0)) = true, Computes cx 59 [.agg [I t3.1, I t3.2.1, I t3.2.2], .agg [I t2.1, I t2.2.1, I t2.2.2]] (I t5), Computes cx 60 [.agg [.v (.string a0), I a1, I a2, I a3, I a4, I a5, I a6, I a7, I a8, I a9]] (.agg [I t3.1, I t3.2.1, I t3.2.2]), Computes cx 59 [.agg [I t3.1, I t3.2.1, I t3.2.2], .agg [I a14, I a15, I a16]] (I t4), Computes cx 60 [.agg [.v (.string a0), I a1, I a2, I a3, I a4, I a5, I a6, I a7, I a8, I a9]] (.agg [I t3.1, I t3.2.1, I t3.2.2]), Computes cx 98 [.agg [I a11, I a12, I a13], .agg [I t1.1, I t1.2.1, I t1.2.2]] (.agg [I t2.1, I t2.2.1, I t2.2.2]), Computes cx 99 [I (IntKind.wrap .i64 (0 - a10)), .agg [I a1, I a2, I a3]] (.agg [I t1.1, I t1.2.1, I t1.2.2])]) := by kernel_rfl
theorem e_field_Mirror_meets_4 (a0 : ByteArray) (a1 : Int) (a2 : Int) (a3 : Int) (a4 : Int) (a5 : Int) (a6 : Int) (a7 : Int) (a8 : Int) (a9 : Int) (a10 : Int) (a11 : Int) (a12 : Int) (a13 : Int) (a14 : Int) (a15 : Int) (a16 : Int) (a17 : Bool) (t1 : Int × Int × Int) (t2 : Int × Int × Int) (t3 : Int × Int × Int) (t4 : Int) (t5 : Int) (t11 : Int × Int × Int) (t12 : Int) (t13 : Int) : runFn true 100 cx 105 [.agg [.v (.string a0), I a1, I a2, I a3, I a4, I a5, I a6, I a7, I a8, I a9], I a10, .agg [I a11, I a12, I a13, I a14, I a15, I a16, B a17]] [.ret (.agg [I t1.1, I t1.2.1, I t1.2.2]), .ret (.agg [I t2.1, I t2.2.1, I t2.2.2]), .ret (.agg [I t3.1, I t3.2.1, I t3.2.2]), .ret (I t4), .ret (.agg [I t3.1, I t3.2.1, I t3.2.2]), .ret (I t5), .br true, .br false, .br false, .br true, .br false, .ret (.agg [I t11.1, I t11.2.1, I t11.2.2]), .ret (I t12), .ret (I t13), .br false] = some (B false, [(decide ((maxI t12 (IntKind.wrap .i64 (0 - t12))) ≤ (a10 * (IntKind.wrap .i64 (0 - t4))))) = false, inI64 (a10 * (IntKind.wrap .i64 (0 - t4))), Computes cx 59 [.agg [I t11.1, I t11.2.1, I t11.2.2], .agg [I a4, I a5, I a6]] (I t13), Computes cx 59 [.agg [I t11.1, I t11.2.1, I t11.2.2], .agg [I a7, I a8, I a9]] (I t12), Computes cx 85 [.agg [I a14, I a15, I a16], .agg [I t2.1, I t2.2.1, I t2.2.2]] (.agg [I t11.1, I t11.2.1, I t11.2.2]), (decide ((IntKind.wrap .i64 (0 - (IntKind.wrap .i64 (0 - t5)))) ≥ (IntKind.wrap .i64 (0 - t4)))) = false, a17 = true, (decide ((IntKind.wrap .i64 (0 - (IntKind.wrap .i64 (0 - t5)))) ≤ 0)) = false, ((IntKind.wrap .i64 (0 - t4)) == 0) = false, (decide (t4 < 0)) = true, Computes cx 59 [.agg [I t3.1, I t3.2.1, I t3.2.2], .agg [I t2.1, I t2.2.1, I t2.2.2]] (I t5), Computes cx 60 [.agg [.v (.string a0), I a1, I a2, I a3, I a4, I a5, I a6, I a7, I a8, I a9]] (.agg [I t3.1, I t3.2.1, I t3.2.2]), Computes cx 59 [.agg [I t3.1, I t3.2.1, I t3.2.2], .agg [I a14, I a15, I a16]] (I t4), Computes cx 60 [.agg [.v (.string a0), I a1, I a2, I a3, I a4, I a5, I a6, I a7, I a8, I a9]] (.agg [I t3.1, I t3.2.1, I t3.2.2]), Computes cx 98 [.agg [I a11, I a12, I a13], .agg [I t1.1, I t1.2.1, I t1.2.2]] (.agg [I t2.1, I t2.2.1, I t2.2.2]), Computes cx 99 [I (IntKind.wrap .i64 (0 - a10)), .agg [I a1, I a2, I a3]] (.agg [I t1.1, I t1.2.1, I t1.2.2])]) := by kernel_rfl
theorem e_field_Mirror_meets_5 (a0 : ByteArray) (a1 : Int) (a2 : Int) (a3 : Int) (a4 : Int) (a5 : Int) (a6 : Int) (a7 : Int) (a8 : Int) (a9 : Int) (a10 : Int) (a11 : Int) (a12 : Int) (a13 : Int) (a14 : Int) (a15 : Int) (a16 : Int) (a17 : Bool) (t1 : Int × Int × Int) (t2 : Int × Int × Int) (t3 : Int × Int × Int) (t4 : Int) (t5 : Int) (t10 : Int × Int × Int) (t11 : Int) (t12 : Int) : runFn true 100 cx 105 [.agg [.v (.string a0), I a1, I a2, I a3, I a4, I a5, I a6, I a7, I a8, I a9], I a10, .agg [I a11, I a12, I a13, I a14, I a15, I a16, B a17]] [.ret (.agg [I t1.1, I t1.2.1, I t1.2.2]), .ret (.agg [I t2.1, I t2.2.1, I t2.2.2]), .ret (.agg [I t3.1, I t3.2.1, I t3.2.2]), .ret (I t4), .ret (.agg [I t3.1, I t3.2.1, I t3.2.2]), .ret (I t5), .br true, .br false, .br false, .br false, .no, .ret (.agg [I t10.1, I t10.2.1, I t10.2.2]), .ret (I t11), .ret (I t12), .br true] = some (B (decide ((maxI t12 (IntKind.wrap .i64 (0 - t12))) ≤ (a10 * (IntKind.wrap .i64 (0 - t4))))), [inI64 (a10 * (IntKind.wrap .i64 (0 - t4))), (decide ((maxI t11 (IntKind.wrap .i64 (0 - t11))) ≤ (a10 * (IntKind.wrap .i64 (0 - t4))))) = true, inI64 (a10 * (IntKind.wrap .i64 (0 - t4))), Computes cx 59 [.agg [I t10.1, I t10.2.1, I t10.2.2], .agg [I a4, I a5, I a6]] (I t12), Computes cx 59 [.agg [I t10.1, I t10.2.1, I t10.2.2], .agg [I a7, I a8, I a9]] (I t11), Computes cx 85 [.agg [I a14, I a15, I a16], .agg [I t2.1, I t2.2.1, I t2.2.2]] (.agg [I t10.1, I t10.2.1, I t10.2.2]), a17 = false, (decide ((IntKind.wrap .i64 (0 - (IntKind.wrap .i64 (0 - t5)))) ≤ 0)) = false, ((IntKind.wrap .i64 (0 - t4)) == 0) = false, (decide (t4 < 0)) = true, Computes cx 59 [.agg [I t3.1, I t3.2.1, I t3.2.2], .agg [I t2.1, I t2.2.1, I t2.2.2]] (I t5), Computes cx 60 [.agg [.v (.string a0), I a1, I a2, I a3, I a4, I a5, I a6, I a7, I a8, I a9]] (.agg [I t3.1, I t3.2.1, I t3.2.2]), Computes cx 59 [.agg [I t3.1, I t3.2.1, I t3.2.2], .agg [I a14, I a15, I a16]] (I t4), Computes cx 60 [.agg [.v (.string a0), I a1, I a2, I a3, I a4, I a5, I a6, I a7, I a8, I a9]] (.agg [I t3.1, I t3.2.1, I t3.2.2]), Computes cx 98 [.agg [I a11, I a12, I a13], .agg [I t1.1, I t1.2.1, I t1.2.2]] (.agg [I t2.1, I t2.2.1, I t2.2.2]), Computes cx 99 [I (IntKind.wrap .i64 (0 - a10)), .agg [I a1, I a2, I a3]] (.agg [I t1.1, I t1.2.1, I t1.2.2])]) := by kernel_rfl
theorem e_field_Mirror_meets_6 (a0 : ByteArray) (a1 : Int) (a2 : Int) (a3 : Int) (a4 : Int) (a5 : Int) (a6 : Int) (a7 : Int) (a8 : Int) (a9 : Int) (a10 : Int) (a11 : Int) (a12 : Int) (a13 : Int) (a14 : Int) (a15 : Int) (a16 : Int) (a17 : Bool) (t1 : Int × Int × Int) (t2 : Int × Int × Int) (t3 : Int × Int × Int) (t4 : Int) (t5 : Int) (t10 : Int × Int × Int) (t11 : Int) (t12 : Int) : runFn true 100 cx 105 [.agg [.v (.string a0), I a1, I a2, I a3, I a4, I a5, I a6, I a7, I a8, I a9], I a10, .agg [I a11, I a12, I a13, I a14, I a15, I a16, B a17]] [.ret (.agg [I t1.1, I t1.2.1, I t1.2.2]), .ret (.agg [I t2.1, I t2.2.1, I t2.2.2]), .ret (.agg [I t3.1, I t3.2.1, I t3.2.2]), .ret (I t4), .ret (.agg [I t3.1, I t3.2.1, I t3.2.2]), .ret (I t5), .br true, .br false, .br false, .br false, .no, .ret (.agg [I t10.1, I t10.2.1, I t10.2.2]), .ret (I t11), .ret (I t12), .br false] = some (B false, [(decide ((maxI t11 (IntKind.wrap .i64 (0 - t11))) ≤ (a10 * (IntKind.wrap .i64 (0 - t4))))) = false, inI64 (a10 * (IntKind.wrap .i64 (0 - t4))), Computes cx 59 [.agg [I t10.1, I t10.2.1, I t10.2.2], .agg [I a4, I a5, I a6]] (I t12), Computes cx 59 [.agg [I t10.1, I t10.2.1, I t10.2.2], .agg [I a7, I a8, I a9]] (I t11), Computes cx 85 [.agg [I a14, I a15, I a16], .agg [I t2.1, I t2.2.1, I t2.2.2]] (.agg [I t10.1, I t10.2.1, I t10.2.2]), a17 = false, (decide ((IntKind.wrap .i64 (0 - (IntKind.wrap .i64 (0 - t5)))) ≤ 0)) = false, ((IntKind.wrap .i64 (0 - t4)) == 0) = false, (decide (t4 < 0)) = true, Computes cx 59 [.agg [I t3.1, I t3.2.1, I t3.2.2], .agg [I t2.1, I t2.2.1, I t2.2.2]] (I t5), Computes cx 60 [.agg [.v (.string a0), I a1, I a2, I a3, I a4, I a5, I a6, I a7, I a8, I a9]] (.agg [I t3.1, I t3.2.1, I t3.2.2]), Computes cx 59 [.agg [I t3.1, I t3.2.1, I t3.2.2], .agg [I a14, I a15, I a16]] (I t4), Computes cx 60 [.agg [.v (.string a0), I a1, I a2, I a3, I a4, I a5, I a6, I a7, I a8, I a9]] (.agg [I t3.1, I t3.2.1, I t3.2.2]), Computes cx 98 [.agg [I a11, I a12, I a13], .agg [I t1.1, I t1.2.1, I t1.2.2]] (.agg [I t2.1, I t2.2.1, I t2.2.2]), Computes cx 99 [I (IntKind.wrap .i64 (0 - a10)), .agg [I a1, I a2, I a3]] (.agg [I t1.1, I t1.2.1, I t1.2.2])]) := by kernel_rfl
theorem e_field_Mirror_meets_7 (a0 : ByteArray) (a1 : Int) (a2 : Int) (a3 : Int) (a4 : Int) (a5 : Int) (a6 : Int) (a7 : Int) (a8 : Int) (a9 : Int) (a10 : Int) (a11 : Int) (a12 : Int) (a13 : Int) (a14 : Int) (a15 : Int) (a16 : Int) (a17 : Bool) (t1 : Int × Int × Int) (t2 : Int × Int × Int) (t3 : Int × Int × Int) (t4 : Int) (t5 : Int) : runFn true 100 cx 105 [.agg [.v (.string a0), I a1, I a2, I a3, I a4, I a5, I a6, I a7, I a8, I a9], I a10, .agg [I a11, I a12, I a13, I a14, I a15, I a16, B a17]] [.ret (.agg [I t1.1, I t1.2.1, I t1.2.2]), .ret (.agg [I t2.1, I t2.2.1, I t2.2.2]), .ret (.agg [I t3.1, I t3.2.1, I t3.2.2]), .ret (I t4), .ret (.agg [I t3.1, I t3.2.1, I t3.2.2]), .ret (I t5), .br false, .br true, .no, .no] = some (B false, [(t4 == 0) = true, (decide (t4 < 0)) = false, Computes cx 59 [.agg [I t3.1, I t3.2.1, I t3.2.2], .agg [I t2.1, I t2.2.1, I t2.2.2]] (I t5), Computes cx 60 [.agg [.v (.string a0), I a1, I a2, I a3, I a4, I a5, I a6, I a7, I a8, I a9]] (.agg [I t3.1, I t3.2.1, I t3.2.2]), Computes cx 59 [.agg [I t3.1, I t3.2.1, I t3.2.2], .agg [I a14, I a15, I a16]] (I t4), Computes cx 60 [.agg [.v (.string a0), I a1, I a2, I a3, I a4, I a5, I a6, I a7, I a8, I a9]] (.agg [I t3.1, I t3.2.1, I t3.2.2]), Computes cx 98 [.agg [I a11, I a12, I a13], .agg [I t1.1, I t1.2.1, I t1.2.2]] (.agg [I t2.1, I t2.2.1, I t2.2.2]), Computes cx 99 [I (IntKind.wrap .i64 (0 - a10)), .agg [I a1, I a2, I a3]] (.agg [I t1.1, I t1.2.1, I t1.2.2])]) := by kernel_rfl
theorem e_field_Mirror_meets_8 (a0 : ByteArray) (a1 : Int) (a2 : Int) (a3 : Int) (a4 : Int) (a5 : Int) (a6 : Int) (a7 : Int) (a8 : Int) (a9 : Int) (a10 : Int) (a11 : Int) (a12 : Int) (a13 : Int) (a14 : Int) (a15 : Int) (a16 : Int) (a17 : Bool) (t1 : Int × Int × Int) (t2 : Int × Int × Int) (t3 : Int × Int × Int) (t4 : Int) (t5 : Int) : runFn true 100 cx 105 [.agg [.v (.string a0), I a1, I a2, I a3, I a4, I a5, I a6, I a7, I a8, I a9], I a10, .agg [I a11, I a12, I a13, I a14, I a15, I a16, B a17]] [.ret (.agg [I t1.1, I t1.2.1, I t1.2.2]), .ret (.agg [I t2.1, I t2.2.1, I t2.2.2]), .ret (.agg [I t3.1, I t3.2.1, I t3.2.2]), .ret (I t4), .ret (.agg [I t3.1, I t3.2.1, I t3.2.2]), .ret (I t5), .br false, .br false, .br true, .no] = some (B false, [(decide ((IntKind.wrap .i64 (0 - t5)) ≤ 0)) = true, (t4 == 0) = false, (decide (t4 < 0)) = false, Computes cx 59 [.agg [I t3.1, I t3.2.1, I t3.2.2], .agg [I t2.1, I t2.2.1, I t2.2.2]] (I t5), Computes cx 60 [.agg [.v (.string a0), I a1, I a2, I a3, I a4, I a5, I a6, I a7, I a8, I a9]] (.agg [I t3.1, I t3.2.1, I t3.2.2]), Computes cx 59 [.agg [I t3.1, I t3.2.1, I t3.2.2], .agg [I a14, I a15, I a16]] (I t4), Computes cx 60 [.agg [.v (.string a0), I a1, I a2, I a3, I a4, I a5, I a6, I a7, I a8, I a9]] (.agg [I t3.1, I t3.2.1, I t3.2.2]), Computes cx 98 [.agg [I a11, I a12, I a13], .agg [I t1.1, I t1.2.1, I t1.2.2]] (.agg [I t2.1, I t2.2.1, I t2.2.2]), Computes cx 99 [I (IntKind.wrap .i64 (0 - a10)), .agg [I a1, I a2, I a3]] (.agg [I t1.1, I t1.2.1, I t1.2.2])]) := by kernel_rfl
theorem e_field_Mirror_meets_9 (a0 : ByteArray) (a1 : Int) (a2 : Int) (a3 : Int) (a4 : Int) (a5 : Int) (a6 : Int) (a7 : Int) (a8 : Int) (a9 : Int) (a10 : Int) (a11 : Int) (a12 : Int) (a13 : Int) (a14 : Int) (a15 : Int) (a16 : Int) (a17 : Bool) (t1 : Int × Int × Int) (t2 : Int × Int × Int) (t3 : Int × Int × Int) (t4 : Int) (t5 : Int) : runFn true 100 cx 105 [.agg [.v (.string a0), I a1, I a2, I a3, I a4, I a5, I a6, I a7, I a8, I a9], I a10, .agg [I a11, I a12, I a13, I a14, I a15, I a16, B a17]] [.ret (.agg [I t1.1, I t1.2.1, I t1.2.2]), .ret (.agg [I t2.1, I t2.2.1, I t2.2.2]), .ret (.agg [I t3.1, I t3.2.1, I t3.2.2]), .ret (I t4), .ret (.agg [I t3.1, I t3.2.1, I t3.2.2]), .ret (I t5), .br false, .br false, .br false, .br true, .br true] = some (B false, [(decide ((IntKind.wrap .i64 (0 - t5)) ≥ t4)) = true, a17 = true, (decide ((IntKind.wrap .i64 (0 - t5)) ≤ 0)) = false, (t4 == 0) = false, (decide (t4 < 0)) = false, Computes cx 59 [.agg [I t3.1, I t3.2.1, I t3.2.2], .agg [I t2.1, I t2.2.1, I t2.2.2]] (I t5), Computes cx 60 [.agg [.v (.string a0), I a1, I a2, I a3, I a4, I a5, I a6, I a7, I a8, I a9]] (.agg [I t3.1, I t3.2.1, I t3.2.2]), Computes cx 59 [.agg [I t3.1, I t3.2.1, I t3.2.2], .agg [I a14, I a15, I a16]] (I t4), Computes cx 60 [.agg [.v (.string a0), I a1, I a2, I a3, I a4, I a5, I a6, I a7, I a8, I a9]] (.agg [I t3.1, I t3.2.1, I t3.2.2]), Computes cx 98 [.agg [I a11, I a12, I a13], .agg [I t1.1, I t1.2.1, I t1.2.2]] (.agg [I t2.1, I t2.2.1, I t2.2.2]), Computes cx 99 [I (IntKind.wrap .i64 (0 - a10)), .agg [I a1, I a2, I a3]] (.agg [I t1.1, I t1.2.1, I t1.2.2])]) := by kernel_rfl
theorem e_field_Mirror_meets_10 (a0 : ByteArray) (a1 : Int) (a2 : Int) (a3 : Int) (a4 : Int) (a5 : Int) (a6 : Int) (a7 : Int) (a8 : Int) (a9 : Int) (a10 : Int) (a11 : Int) (a12 : Int) (a13 : Int) (a14 : Int) (a15 : Int) (a16 : Int) (a17 : Bool) (t1 : Int × Int × Int) (t2 : Int × Int × Int) (t3 : Int × Int × Int) (t4 : Int) (t5 : Int) (t11 : Int × Int × Int) (t12 : Int) (t13 : Int) : runFn true 100 cx 105 [.agg [.v (.string a0), I a1, I a2, I a3, I a4, I a5, I a6, I a7, I a8, I a9], I a10, .agg [I a11, I a12, I a13, I a14, I a15, I a16, B a17]] [.ret (.agg [I t1.1, I t1.2.1, I t1.2.2]), .ret (.agg [I t2.1, I t2.2.1, I t2.2.2]), .ret (.agg [I t3.1, I t3.2.1, I t3.2.2]), .ret (I t4), .ret (.agg [I t3.1, I t3.2.1, I t3.2.2]), .ret (I t5), .br false, .br false, .br false, .br true, .br false, .ret (.agg [I t11.1, I t11.2.1, I t11.2.2]), .ret (I t12), .ret (I t13), .br true] = some (B (decide ((maxI t13 (IntKind.wrap .i64 (0 - t13))) ≤ (a10 * t4))), [inI64 (a10 * t4), (decide ((maxI t12 (IntKind.wrap .i64 (0 - t12))) ≤ (a10 * t4))) = true, inI64 (a10 * t4), Computes cx 59 [.agg [I t11.1, I t11.2.1, I t11.2.2], .agg [I a4, I a5, I a6]] (I t13), Computes cx 59 [.agg [I t11.1, I t11.2.1, I t11.2.2], .agg [I a7, I a8, I a9]] (I t12), Computes cx 85 [.agg [I a14, I a15, I a16], .agg [I t2.1, I t2.2.1, I t2.2.2]] (.agg [I t11.1, I t11.2.1, I t11.2.2]), (decide ((IntKind.wrap .i64 (0 - t5)) ≥ t4)) = false, a17 = true, (decide ((IntKind.wrap .i64 (0 - t5)) ≤ 0)) = false, (t4 == 0) = false, (decide (t4 < 0)) = false, Computes cx 59 [.agg [I t3.1, I t3.2.1, I t3.2.2], .agg [I t2.1, I t2.2.1, I t2.2.2]] (I t5), Computes cx 60 [.agg [.v (.string a0), I a1, I a2, I a3, I a4, I a5, I a6, I a7, I a8, I a9]] (.agg [I t3.1, I t3.2.1, I t3.2.2]), Computes cx 59 [.agg [I t3.1, I t3.2.1, I t3.2.2], .agg [I a14, I a15, I a16]] (I t4), Computes cx 60 [.agg [.v (.string a0), I a1, I a2, I a3, I a4, I a5, I a6, I a7, I a8, I a9]] (.agg [I t3.1, I t3.2.1, I t3.2.2]), Computes cx 98 [.agg [I a11, I a12, I a13], .agg [I t1.1, I t1.2.1, I t1.2.2]] (.agg [I t2.1, I t2.2.1, I t2.2.2]), Computes cx 99 [I (IntKind.wrap .i64 (0 - a10)), .agg [I a1, I a2, I a3]] (.agg [I t1.1, I t1.2.1, I t1.2.2])]) := by kernel_rfl
theorem e_field_Mirror_meets_11 (a0 : ByteArray) (a1 : Int) (a2 : Int) (a3 : Int) (a4 : Int) (a5 : Int) (a6 : Int) (a7 : Int) (a8 : Int) (a9 : Int) (a10 : Int) (a11 : Int) (a12 : Int) (a13 : Int) (a14 : Int) (a15 : Int) (a16 : Int) (a17 : Bool) (t1 : Int × Int × Int) (t2 : Int × Int × Int) (t3 : Int × Int × Int) (t4 : Int) (t5 : Int) (t11 : Int × Int × Int) (t12 : Int) (t13 : Int) : runFn true 100 cx 105 [.agg [.v (.string a0), I a1, I a2, I a3, I a4, I a5, I a6, I a7, I a8, I a9], I a10, .agg [I a11, I a12, I a13, I a14, I a15, I a16, B a17]] [.ret (.agg [I t1.1, I t1.2.1, I t1.2.2]), .ret (.agg [I t2.1, I t2.2.1, I t2.2.2]), .ret (.agg [I t3.1, I t3.2.1, I t3.2.2]), .ret (I t4), .ret (.agg [I t3.1, I t3.2.1, I t3.2.2]), .ret (I t5), .br false, .br false, .br false, .br true, .br false, .ret (.agg [I t11.1, I t11.2.1, I t11.2.2]), .ret (I t12), .ret (I t13), .br false] = some (B false, [(decide ((maxI t12 (IntKind.wrap .i64 (0 - t12))) ≤ (a10 * t4))) = false, inI64 (a10 * t4), Computes cx 59 [.agg [I t11.1, I t11.2.1, I t11.2.2], .agg [I a4, I a5, I a6]] (I t13), Computes cx 59 [.agg [I t11.1, I t11.2.1, I t11.2.2], .agg [I a7, I a8, I a9]] (I t12), Computes cx 85 [.agg [I a14, I a15, I a16], .agg [I t2.1, I t2.2.1, I t2.2.2]] (.agg [I t11.1, I t11.2.1, I t11.2.2]), (decide ((IntKind.wrap .i64 (0 - t5)) ≥ t4)) = false, a17 = true, (decide ((IntKind.wrap .i64 (0 - t5)) ≤ 0)) = false, (t4 == 0) = false, (decide (t4 < 0)) = false, Computes cx 59 [.agg [I t3.1, I t3.2.1, I t3.2.2], .agg [I t2.1, I t2.2.1, I t2.2.2]] (I t5), Computes cx 60 [.agg [.v (.string a0), I a1, I a2, I a3, I a4, I a5, I a6, I a7, I a8, I a9]] (.agg [I t3.1, I t3.2.1, I t3.2.2]), Computes cx 59 [.agg [I t3.1, I t3.2.1, I t3.2.2], .agg [I a14, I a15, I a16]] (I t4), Computes cx 60 [.agg [.v (.string a0), I a1, I a2, I a3, I a4, I a5, I a6, I a7, I a8, I a9]] (.agg [I t3.1, I t3.2.1, I t3.2.2]), Computes cx 98 [.agg [I a11, I a12, I a13], .agg [I t1.1, I t1.2.1, I t1.2.2]] (.agg [I t2.1, I t2.2.1, I t2.2.2]), Computes cx 99 [I (IntKind.wrap .i64 (0 - a10)), .agg [I a1, I a2, I a3]] (.agg [I t1.1, I t1.2.1, I t1.2.2])]) := by kernel_rfl
theorem e_field_Mirror_meets_12 (a0 : ByteArray) (a1 : Int) (a2 : Int) (a3 : Int) (a4 : Int) (a5 : Int) (a6 : Int) (a7 : Int) (a8 : Int) (a9 : Int) (a10 : Int) (a11 : Int) (a12 : Int) (a13 : Int) (a14 : Int) (a15 : Int) (a16 : Int) (a17 : Bool) (t1 : Int × Int × Int) (t2 : Int × Int × Int) (t3 : Int × Int × Int) (t4 : Int) (t5 : Int) (t10 : Int × Int × Int) (t11 : Int) (t12 : Int) : runFn true 100 cx 105 [.agg [.v (.string a0), I a1, I a2, I a3, I a4, I a5, I a6, I a7, I a8, I a9], I a10, .agg [I a11, I a12, I a13, I a14, I a15, I a16, B a17]] [.ret (.agg [I t1.1, I t1.2.1, I t1.2.2]), .ret (.agg [I t2.1, I t2.2.1, I t2.2.2]), .ret (.agg [I t3.1, I t3.2.1, I t3.2.2]), .ret (I t4), .ret (.agg [I t3.1, I t3.2.1, I t3.2.2]), .ret (I t5), .br false, .br false, .br false, .br false, .no, .ret (.agg [I t10.1, I t10.2.1, I t10.2.2]), .ret (I t11), .ret (I t12), .br true] = some (B (decide ((maxI t12 (IntKind.wrap .i64 (0 - t12))) ≤ (a10 * t4))), [inI64 (a10 * t4), (decide ((maxI t11 (IntKind.wrap .i64 (0 - t11))) ≤ (a10 * t4))) = true, inI64 (a10 * t4), Computes cx 59 [.agg [I t10.1, I t10.2.1, I t10.2.2], .agg [I a4, I a5, I a6]] (I t12), Computes cx 59 [.agg [I t10.1, I t10.2.1, I t10.2.2], .agg [I a7, I a8, I a9]] (I t11), Computes cx 85 [.agg [I a14, I a15, I a16], .agg [I t2.1, I t2.2.1, I t2.2.2]] (.agg [I t10.1, I t10.2.1, I t10.2.2]), a17 = false, (decide ((IntKind.wrap .i64 (0 - t5)) ≤ 0)) = false, (t4 == 0) = false, (decide (t4 < 0)) = false, Computes cx 59 [.agg [I t3.1, I t3.2.1, I t3.2.2], .agg [I t2.1, I t2.2.1, I t2.2.2]] (I t5), Computes cx 60 [.agg [.v (.string a0), I a1, I a2, I a3, I a4, I a5, I a6, I a7, I a8, I a9]] (.agg [I t3.1, I t3.2.1, I t3.2.2]), Computes cx 59 [.agg [I t3.1, I t3.2.1, I t3.2.2], .agg [I a14, I a15, I a16]] (I t4), Computes cx 60 [.agg [.v (.string a0), I a1, I a2, I a3, I a4, I a5, I a6, I a7, I a8, I a9]] (.agg [I t3.1, I t3.2.1, I t3.2.2]), Computes cx 98 [.agg [I a11, I a12, I a13], .agg [I t1.1, I t1.2.1, I t1.2.2]] (.agg [I t2.1, I t2.2.1, I t2.2.2]), Computes cx 99 [I (IntKind.wrap .i64 (0 - a10)), .agg [I a1, I a2, I a3]] (.agg [I t1.1, I t1.2.1, I t1.2.2])]) := by kernel_rfl
theorem e_field_Mirror_meets_13 (a0 : ByteArray) (a1 : Int) (a2 : Int) (a3 : Int) (a4 : Int) (a5 : Int) (a6 : Int) (a7 : Int) (a8 : Int) (a9 : Int) (a10 : Int) (a11 : Int) (a12 : Int) (a13 : Int) (a14 : Int) (a15 : Int) (a16 : Int) (a17 : Bool) (t1 : Int × Int × Int) (t2 : Int × Int × Int) (t3 : Int × Int × Int) (t4 : Int) (t5 : Int) (t10 : Int × Int × Int) (t11 : Int) (t12 : Int) : runFn true 100 cx 105 [.agg [.v (.string a0), I a1, I a2, I a3, I a4, I a5, I a6, I a7, I a8, I a9], I a10, .agg [I a11, I a12, I a13, I a14, I a15, I a16, B a17]] [.ret (.agg [I t1.1, I t1.2.1, I t1.2.2]), .ret (.agg [I t2.1, I t2.2.1, I t2.2.2]), .ret (.agg [I t3.1, I t3.2.1, I t3.2.2]), .ret (I t4), .ret (.agg [I t3.1, I t3.2.1, I t3.2.2]), .ret (I t5), .br false, .br false, .br false, .br false, .no, .ret (.agg [I t10.1, I t10.2.1, I t10.2.2]), .ret (I t11), .ret (I t12), .br false] = some (B false, [(decide ((maxI t11 (IntKind.wrap .i64 (0 - t11))) ≤ (a10 * t4))) = false, inI64 (a10 * t4), Computes cx 59 [.agg [I t10.1, I t10.2.1, I t10.2.2], .agg [I a4, I a5, I a6]] (I t12), Computes cx 59 [.agg [I t10.1, I t10.2.1, I t10.2.2], .agg [I a7, I a8, I a9]] (I t11), Computes cx 85 [.agg [I a14, I a15, I a16], .agg [I t2.1, I t2.2.1, I t2.2.2]] (.agg [I t10.1, I t10.2.1, I t10.2.2]), a17 = false, (decide ((IntKind.wrap .i64 (0 - t5)) ≤ 0)) = false, (t4 == 0) = false, (decide (t4 < 0)) = false, Computes cx 59 [.agg [I t3.1, I t3.2.1, I t3.2.2], .agg [I t2.1, I t2.2.1, I t2.2.2]] (I t5), Computes cx 60 [.agg [.v (.string a0), I a1, I a2, I a3, I a4, I a5, I a6, I a7, I a8, I a9]] (.agg [I t3.1, I t3.2.1, I t3.2.2]), Computes cx 59 [.agg [I t3.1, I t3.2.1, I t3.2.2], .agg [I a14, I a15, I a16]] (I t4), Computes cx 60 [.agg [.v (.string a0), I a1, I a2, I a3, I a4, I a5, I a6, I a7, I a8, I a9]] (.agg [I t3.1, I t3.2.1, I t3.2.2]), Computes cx 98 [.agg [I a11, I a12, I a13], .agg [I t1.1, I t1.2.1, I t1.2.2]] (.agg [I t2.1, I t2.2.1, I t2.2.2]), Computes cx 99 [I (IntKind.wrap .i64 (0 - a10)), .agg [I a1, I a2, I a3]] (.agg [I t1.1, I t1.2.1, I t1.2.2])]) := by kernel_rfl
/- (spillage/field.Mirror).meets: .agg [.v (.string a0), I a1, I a2, I a3, I a4, I a5, I a6, I a7, I a8, I a9], I a10, .agg [I a11, I a12, I a13, I a14, I a15, I a16, B a17] -/
def F_field_Mirror_meets (n : Nat) (a0 : ByteArray) (a1 : Int) (a2 : Int) (a3 : Int) (a4 : Int) (a5 : Int) (a6 : Int) (a7 : Int) (a8 : Int) (a9 : Int) (a10 : Int) (a11 : Int) (a12 : Int) (a13 : Int) (a14 : Int) (a15 : Int) (a16 : Int) (a17 : Bool) : Option (Bool) :=
 (F_field_times n (IntKind.wrap .i64 (0 - a10)) a1 a2 a3).bind fun t1 =>
 (F_field_plus n a11 a12 a13 t1.1 t1.2.1 t1.2.2).bind fun t2 =>
 (F_field_Mirror_normal n a0 a1 a2 a3 a4 a5 a6 a7 a8 a9).bind fun t3 =>
 (F_field_dot n t3.1 t3.2.1 t3.2.2 a14 a15 a16).bind fun t4 =>
 (F_field_dot n t3.1 t3.2.1 t3.2.2 t2.1 t2.2.1 t2.2.2).bind fun t5 =>
 if t4 < 0 then
  if (IntKind.wrap .i64 (0 - t4)) = 0 then
  some false
  else
  if (IntKind.wrap .i64 (0 - (IntKind.wrap .i64 (0 - t5)))) ≤ 0 then
  some false
  else
  if a17 = true then
  if (IntKind.wrap .i64 (0 - (IntKind.wrap .i64 (0 - t5)))) ≥ (IntKind.wrap .i64 (0 - t4)) then
   some false
  else
  (F_field_cross n a14 a15 a16 t2.1 t2.2.1 t2.2.2).bind fun t11 =>
  (F_field_dot n t11.1 t11.2.1 t11.2.2 a7 a8 a9).bind fun t12 =>
  (F_field_dot n t11.1 t11.2.1 t11.2.2 a4 a5 a6).bind fun t13 =>
  if inI64 (a10 * (IntKind.wrap .i64 (0 - t4))) then
  if (maxI t12 (IntKind.wrap .i64 (0 - t12))) ≤ (a10 * (IntKind.wrap .i64 (0 - t4))) then
   some (decide ((maxI t13 (IntKind.wrap .i64 (0 - t13))) ≤ (a10 * (IntKind.wrap .i64 (0 - t4)))))
  else
  some false
  else none
  else
  (F_field_cross n a14 a15 a16 t2.1 t2.2.1 t2.2.2).bind fun t10 =>
  (F_field_dot n t10.1 t10.2.1 t10.2.2 a7 a8 a9).bind fun t11 =>
  (F_field_dot n t10.1 t10.2.1 t10.2.2 a4 a5 a6).bind fun t12 =>
  if inI64 (a10 * (IntKind.wrap .i64 (0 - t4))) then
  if (maxI t11 (IntKind.wrap .i64 (0 - t11))) ≤ (a10 * (IntKind.wrap .i64 (0 - t4))) then
  some (decide ((maxI t12 (IntKind.wrap .i64 (0 - t12))) ≤ (a10 * (IntKind.wrap .i64 (0 - t4)))))
  else
  some false
  else none
 else
 if t4 = 0 then
  some false
 else
 if (IntKind.wrap .i64 (0 - t5)) ≤ 0 then
  some false
 else
 if a17 = true then
  if (IntKind.wrap .i64 (0 - t5)) ≥ t4 then
  some false
  else
  (F_field_cross n a14 a15 a16 t2.1 t2.2.1 t2.2.2).bind fun t11 =>
  (F_field_dot n t11.1 t11.2.1 t11.2.2 a7 a8 a9).bind fun t12 =>
  (F_field_dot n t11.1 t11.2.1 t11.2.2 a4 a5 a6).bind fun t13 =>
  if inI64 (a10 * t4) then
  if (maxI t12 (IntKind.wrap .i64 (0 - t12))) ≤ (a10 * t4) then
  some (decide ((maxI t13 (IntKind.wrap .i64 (0 - t13))) ≤ (a10 * t4)))
  else
  some false
  else none
 else
 (F_field_cross n a14 a15 a16 t2.1 t2.2.1 t2.2.2).bind fun t10 =>
 (F_field_dot n t10.1 t10.2.1 t10.2.2 a7 a8 a9).bind fun t11 =>
 (F_field_dot n t10.1 t10.2.1 t10.2.2 a4 a5 a6).bind fun t12 =>
 if inI64 (a10 * t4) then
 if (maxI t11 (IntKind.wrap .i64 (0 - t11))) ≤ (a10 * t4) then
  some (decide ((maxI t12 (IntKind.wrap .i64 (0 - t12))) ≤ (a10 * t4)))
 else
 some false
 else none
theorem c_field_Mirror_meets {n : Nat} {a0 : ByteArray} {a1 : Int} {a2 : Int} {a3 : Int} {a4 : Int} {a5 : Int} {a6 : Int} {a7 : Int} {a8 : Int} {a9 : Int} {a10 : Int} {a11 : Int} {a12 : Int} {a13 : Int} {a14 : Int} {a15 : Int} {a16 : Int} {a17 : Bool} {r : Bool} (h : F_field_Mirror_meets n a0 a1 a2 a3 a4 a5 a6 a7 a8 a9 a10 a11 a12 a13 a14 a15 a16 a17 = some r) : Computes cx 105 [.agg [.v (.string a0), I a1, I a2, I a3, I a4, I a5, I a6, I a7, I a8, I a9], I a10, .agg [I a11, I a12, I a13, I a14, I a15, I a16, B a17]] (B r) := by
 unfold F_field_Mirror_meets at h
 obtain ⟨t1, h1, h⟩ := bo h; obtain ⟨t2, h2, h⟩ := bo h; obtain ⟨t3, h3, h⟩ := bo h; obtain ⟨t4, h4, h⟩ := bo h; obtain ⟨t5, h5, h⟩ := bo h
 by_cases h6 : t4 < 0
 ·replace h := it h h6
  by_cases h7 : (IntKind.wrap .i64 (0 - t4)) = 0
  ·replace h := it h h7
   obtain rfl := oi h
   exact run (e_field_Mirror_meets_0 a0 a1 a2 a3 a4 a5 a6 a7 a8 a9 a10 a11 a12 a13 a14 a15 a16 a17 t1 t2 t3 t4 t5) ⟨(eqt h7), (decide_eq_true h6), (c_field_dot h5), (c_field_Mirror_normal h3), (c_field_dot h4), (c_field_Mirror_normal h3), (c_field_plus h2), (c_field_times h1), trivial⟩
  ·replace h := jf h h7
   by_cases h8 : (IntKind.wrap .i64 (0 - (IntKind.wrap .i64 (0 - t5)))) ≤ 0
   ·replace h := it h h8
    obtain rfl := oi h
    exact run (e_field_Mirror_meets_1 a0 a1 a2 a3 a4 a5 a6 a7 a8 a9 a10 a11 a12 a13 a14 a15 a16 a17 t1 t2 t3 t4 t5) ⟨(decide_eq_true h8), (eqf h7), (decide_eq_true h6), (c_field_dot h5), (c_field_Mirror_normal h3), (c_field_dot h4), (c_field_Mirror_normal h3), (c_field_plus h2), (c_field_times h1), trivial⟩
   ·replace h := jf h h8
    by_cases h9 : a17 = true
    ·replace h := it h h9
     by_cases h10 : (IntKind.wrap .i64 (0 - (IntKind.wrap .i64 (0 - t5)))) ≥ (IntKind.wrap .i64 (0 - t4))
     ·replace h := it h h10
      obtain rfl := oi h
      exact run (e_field_Mirror_meets_2 a0 a1 a2 a3 a4 a5 a6 a7 a8 a9 a10 a11 a12 a13 a14 a15 a16 a17 t1 t2 t3 t4 t5) ⟨(decide_eq_true h10), h9, (decide_eq_false h8), (eqf h7), (decide_eq_true h6), (c_field_dot h5), (c_field_Mirror_normal h3), (c_field_dot h4), (c_field_Mirror_normal h3), (c_field_plus h2), (c_field_times h1), trivial⟩
     ·replace h := jf h h10
      obtain ⟨t11, h11, h⟩ := bo h; obtain ⟨t12, h12, h⟩ := bo h; obtain ⟨t13, h13, h⟩ := bo h; obtain ⟨h14, h⟩ := gd h
      by_cases h15 : (maxI t12 (IntKind.wrap .i64 (0 - t12))) ≤ (a10 * (IntKind.wrap .i64 (0 - t4)))
      ·replace h := it h h15
       obtain rfl := oi h
       exact run (e_field_Mirror_meets_3 a0 a1 a2 a3 a4 a5 a6 a7 a8 a9 a10 a11 a12 a13 a14 a15 a16 a17 t1 t2 t3 t4 t5 t11 t12 t13) ⟨h14, (decide_eq_true h15), h14, (c_field_dot h13), (c_field_dot h12), (c_field_cross h11), (decide_eq_false h10), h9, (decide_eq_false h8), (eqf h7), (decide_eq_true h6), (c_field_dot h5), (c_field_Mirror_normal h3), (c_field_dot h4), (c_field_Mirror_normal h3), (c_field_plus h2), (c_field_times h1), trivial⟩
      ·replace h := jf h h15
       obtain rfl := oi h
       exact run (e_field_Mirror_meets_4 a0 a1 a2 a3 a4 a5 a6 a7 a8 a9 a10 a11 a12 a13 a14 a15 a16 a17 t1 t2 t3 t4 t5 t11 t12 t13) ⟨(decide_eq_false h15), h14, (c_field_dot h13), (c_field_dot h12), (c_field_cross h11), (decide_eq_false h10), h9, (decide_eq_false h8), (eqf h7), (decide_eq_true h6), (c_field_dot h5), (c_field_Mirror_normal h3), (c_field_dot h4), (c_field_Mirror_normal h3), (c_field_plus h2), (c_field_times h1), trivial⟩
    ·replace h := jf h h9
     obtain ⟨t10, h10, h⟩ := bo h; obtain ⟨t11, h11, h⟩ := bo h; obtain ⟨t12, h12, h⟩ := bo h; obtain ⟨h13, h⟩ := gd h
     by_cases h14 : (maxI t11 (IntKind.wrap .i64 (0 - t11))) ≤ (a10 * (IntKind.wrap .i64 (0 - t4)))
     ·replace h := it h h14
      obtain rfl := oi h
      exact run (e_field_Mirror_meets_5 a0 a1 a2 a3 a4 a5 a6 a7 a8 a9 a10 a11 a12 a13 a14 a15 a16 a17 t1 t2 t3 t4 t5 t10 t11 t12) ⟨h13, (decide_eq_true h14), h13, (c_field_dot h12), (c_field_dot h11), (c_field_cross h10), (bfalse h9), (decide_eq_false h8), (eqf h7), (decide_eq_true h6), (c_field_dot h5), (c_field_Mirror_normal h3), (c_field_dot h4), (c_field_Mirror_normal h3), (c_field_plus h2), (c_field_times h1), trivial⟩
     ·replace h := jf h h14
      obtain rfl := oi h
      exact run (e_field_Mirror_meets_6 a0 a1 a2 a3 a4 a5 a6 a7 a8 a9 a10 a11 a12 a13 a14 a15 a16 a17 t1 t2 t3 t4 t5 t10 t11 t12) ⟨(decide_eq_false h14), h13, (c_field_dot h12), (c_field_dot h11), (c_field_cross h10), (bfalse h9), (decide_eq_false h8), (eqf h7), (decide_eq_true h6), (c_field_dot h5), (c_field_Mirror_normal h3), (c_field_dot h4), (c_field_Mirror_normal h3), (c_field_plus h2), (c_field_times h1), trivial⟩
 ·replace h := jf h h6
  by_cases h7 : t4 = 0
  ·replace h := it h h7
   obtain rfl := oi h
   exact run (e_field_Mirror_meets_7 a0 a1 a2 a3 a4 a5 a6 a7 a8 a9 a10 a11 a12 a13 a14 a15 a16 a17 t1 t2 t3 t4 t5) ⟨(eqt h7), (decide_eq_false h6), (c_field_dot h5), (c_field_Mirror_normal h3), (c_field_dot h4), (c_field_Mirror_normal h3), (c_field_plus h2), (c_field_times h1), trivial⟩
  ·replace h := jf h h7
   by_cases h8 : (IntKind.wrap .i64 (0 - t5)) ≤ 0
   ·replace h := it h h8
    obtain rfl := oi h
    exact run (e_field_Mirror_meets_8 a0 a1 a2 a3 a4 a5 a6 a7 a8 a9 a10 a11 a12 a13 a14 a15 a16 a17 t1 t2 t3 t4 t5) ⟨(decide_eq_true h8), (eqf h7), (decide_eq_false h6), (c_field_dot h5), (c_field_Mirror_normal h3), (c_field_dot h4), (c_field_Mirror_normal h3), (c_field_plus h2), (c_field_times h1), trivial⟩
   ·replace h := jf h h8
    by_cases h9 : a17 = true
    ·replace h := it h h9
     by_cases h10 : (IntKind.wrap .i64 (0 - t5)) ≥ t4
     ·replace h := it h h10
      obtain rfl := oi h
      exact run (e_field_Mirror_meets_9 a0 a1 a2 a3 a4 a5 a6 a7 a8 a9 a10 a11 a12 a13 a14 a15 a16 a17 t1 t2 t3 t4 t5) ⟨(decide_eq_true h10), h9, (decide_eq_false h8), (eqf h7), (decide_eq_false h6), (c_field_dot h5), (c_field_Mirror_normal h3), (c_field_dot h4), (c_field_Mirror_normal h3), (c_field_plus h2), (c_field_times h1), trivial⟩
     ·replace h := jf h h10
      obtain ⟨t11, h11, h⟩ := bo h; obtain ⟨t12, h12, h⟩ := bo h; obtain ⟨t13, h13, h⟩ := bo h; obtain ⟨h14, h⟩ := gd h
      by_cases h15 : (maxI t12 (IntKind.wrap .i64 (0 - t12))) ≤ (a10 * t4)
      ·replace h := it h h15
       obtain rfl := oi h
       exact run (e_field_Mirror_meets_10 a0 a1 a2 a3 a4 a5 a6 a7 a8 a9 a10 a11 a12 a13 a14 a15 a16 a17 t1 t2 t3 t4 t5 t11 t12 t13) ⟨h14, (decide_eq_true h15), h14, (c_field_dot h13), (c_field_dot h12), (c_field_cross h11), (decide_eq_false h10), h9, (decide_eq_false h8), (eqf h7), (decide_eq_false h6), (c_field_dot h5), (c_field_Mirror_normal h3), (c_field_dot h4), (c_field_Mirror_normal h3), (c_field_plus h2), (c_field_times h1), trivial⟩
      ·replace h := jf h h15
       obtain rfl := oi h
       exact run (e_field_Mirror_meets_11 a0 a1 a2 a3 a4 a5 a6 a7 a8 a9 a10 a11 a12 a13 a14 a15 a16 a17 t1 t2 t3 t4 t5 t11 t12 t13) ⟨(decide_eq_false h15), h14, (c_field_dot h13), (c_field_dot h12), (c_field_cross h11), (decide_eq_false h10), h9, (decide_eq_false h8), (eqf h7), (decide_eq_false h6), (c_field_dot h5), (c_field_Mirror_normal h3), (c_field_dot h4), (c_field_Mirror_normal h3), (c_field_plus h2), (c_field_times h1), trivial⟩
    ·replace h := jf h h9
     obtain ⟨t10, h10, h⟩ := bo h; obtain ⟨t11, h11, h⟩ := bo h; obtain ⟨t12, h12, h⟩ := bo h; obtain ⟨h13, h⟩ := gd h
     by_cases h14 : (maxI t11 (IntKind.wrap .i64 (0 - t11))) ≤ (a10 * t4)
     ·replace h := it h h14
      obtain rfl := oi h
      exact run (e_field_Mirror_meets_12 a0 a1 a2 a3 a4 a5 a6 a7 a8 a9 a10 a11 a12 a13 a14 a15 a16 a17 t1 t2 t3 t4 t5 t10 t11 t12) ⟨h13, (decide_eq_true h14), h13, (c_field_dot h12), (c_field_dot h11), (c_field_cross h10), (bfalse h9), (decide_eq_false h8), (eqf h7), (decide_eq_false h6), (c_field_dot h5), (c_field_Mirror_normal h3), (c_field_dot h4), (c_field_Mirror_normal h3), (c_field_plus h2), (c_field_times h1), trivial⟩
     ·replace h := jf h h14
      obtain rfl := oi h
      exact run (e_field_Mirror_meets_13 a0 a1 a2 a3 a4 a5 a6 a7 a8 a9 a10 a11 a12 a13 a14 a15 a16 a17 t1 t2 t3 t4 t5 t10 t11 t12) ⟨(decide_eq_false h14), h13, (c_field_dot h12), (c_field_dot h11), (c_field_cross h10), (bfalse h9), (decide_eq_false h8), (eqf h7), (decide_eq_false h6), (c_field_dot h5), (c_field_Mirror_normal h3), (c_field_dot h4), (c_field_Mirror_normal h3), (c_field_plus h2), (c_field_times h1), trivial⟩
end Go.Proofs.YtiogobiijlaalaaDoor
