/-
  Plain lemmas that the laws of this seat share: the first error, ranges, axes and states. An own text.
-/
import Derived.Test.YtoblljobcafecaaGreatDoorGen5
import Derived.Test.YtoblljobcafecaaGreatDoorSxTwentyFive
set_option linter.unusedVariables false
set_option linter.unusedSimpArgs false
set_option linter.unnecessarySimpa false
set_option maxRecDepth 20000
namespace Go.Proofs.YtoblljobcafecaaGreatDoor
open Go.SX

def firstNZ : List Int → Int
  | [] => 0
  | x :: l => if x = 0 then firstNZ l else x
theorem el_map {ms : List Int} {i : Nat} {x : Int} (h : ms[i]? = some x) : el un_i (ms.map I) (i : Int) = some x := by
  unfold el
  rw [if_pos (Int.natCast_nonneg i), Int.toNat_natCast, nth_get?, List.getElem?_map, h]
  rfl
theorem axis_awake : F_law03_awake 1000 = some true := by kernel_rfl

def firstE (ms : List Int) : Int ⊕ Unit := if firstNZ ms = 0 then .inr () else .inl (firstNZ ms)
theorem firstE_nil : firstE [] = .inr () := rfl
theorem firstE_zero {x : Int} {l : List Int} (h : x = 0) : firstE (x :: l) = firstE l := by simp [firstE, firstNZ, h]
theorem firstE_some {x : Int} {l : List Int} (h : x ≠ 0) : firstE (x :: l) = .inl x := by simp [firstE, firstNZ, h]

theorem first_loop (n : Nat) (ms : List Int) (hm : ms.length < 9223372036854775807) : ∀ (k : Nat) (i : Nat), i ≤ ms.length → ms.length < i + k →
    loopF (F_drive_first_L1 n (ms.map I)) k (i : Int) = some (firstE (ms.drop i))
  | 0, i, h, hk => by omega
  | k + 1, i, h, hk => by
    by_cases hi : i < ms.length
    · have hx := List.getElem?_eq_getElem hi
      rw [List.drop_eq_getElem_cons hi]
      have hl : (i : Int) < ((ms.map I).length : Int) := by simp; omega
      by_cases h0 : ms[i] = 0
      · rw [loopF_l (s' := ((i + 1 : Nat) : Int)), firstE_zero h0]
        · exact first_loop n ms hm k (i + 1) hi (by omega)
        · unfold F_drive_first_L1
          rw [if_pos hl, el_map hx, Option.bind_some, if_pos h0, if_pos (by unfold inI64; omega)]; rfl
      · rw [loopF_r (e := .inl ms[i]), firstE_some h0]
        unfold F_drive_first_L1
        rw [if_pos hl, el_map hx, Option.bind_some, if_neg h0]
    · rw [loopF_r (e := .inr ()), List.drop_eq_nil_of_le (by omega), firstE_nil]
      unfold F_drive_first_L1
      rw [if_neg (by simp; omega)]
theorem refFirst_loop (n : Nat) (ms : List Int) (hm : ms.length < 9223372036854775807) : ∀ (k : Nat) (i : Nat), i ≤ ms.length → ms.length < i + k →
    loopF (F_ref01_First_L1 n (ms.map I)) k (i : Int) = some (firstE (ms.drop i))
  | 0, i, h, hk => by omega
  | k + 1, i, h, hk => by
    by_cases hi : i < ms.length
    · have hx := List.getElem?_eq_getElem hi
      rw [List.drop_eq_getElem_cons hi]
      have hl : (i : Int) < ((ms.map I).length : Int) := by simp; omega
      by_cases h0 : ms[i] = 0
      · rw [loopF_l (s' := ((i + 1 : Nat) : Int)), firstE_zero h0]
        · exact refFirst_loop n ms hm k (i + 1) hi (by omega)
        · unfold F_ref01_First_L1
          rw [if_pos hl, el_map hx, Option.bind_some, if_pos h0, if_pos (by unfold inI64; omega)]; rfl
      · rw [loopF_r (e := .inl ms[i]), firstE_some h0]
        unfold F_ref01_First_L1
        rw [if_pos hl, el_map hx, Option.bind_some, if_neg h0]
    · rw [loopF_r (e := .inr ()), List.drop_eq_nil_of_le (by omega), firstE_nil]
      unfold F_ref01_First_L1
      rw [if_neg (by simp; omega)]
theorem first_eq {n : Nat} (ms : List Int) (hm : ms.length < 9223372036854775807) (hn : ms.length < n) : F_drive_first n (ms.map I) = some (firstNZ ms) := by
  unfold F_drive_first
  have := first_loop n ms hm n 0 (Nat.zero_le _) (by omega)
  simp only [Int.natCast_zero, List.drop_zero] at this
  rw [show (0 : Int) = ((0 : Nat) : Int) from rfl] at this ⊢
  rw [this, Option.bind_some]
  unfold firstE
  split
  · rename_i h; split at h
    · cases h
    · cases h; rfl
  · rename_i h; split at h
    · rename_i h0; rw [h0]; rfl
    · cases h
theorem refFirst_eq {n : Nat} (ms : List Int) (hm : ms.length < 9223372036854775807) (hn : ms.length < n) : F_ref01_First n (ms.map I) = some (firstNZ ms) := by
  unfold F_ref01_First
  have := refFirst_loop n ms hm n 0 (Nat.zero_le _) (by omega)
  simp only [Int.natCast_zero, List.drop_zero] at this
  rw [show (0 : Int) = ((0 : Nat) : Int) from rfl] at this ⊢
  rw [this, Option.bind_some]
  unfold firstE
  split
  · rename_i h; split at h
    · cases h
    · cases h; rfl
  · rename_i h; split at h
    · rename_i h0; rw [h0]; rfl
    · cases h
theorem first2 {n : Nat} (hn : 10 ≤ n) (a b : Int) : F_drive_first n [I a, I b] = some (firstNZ [a, b]) := first_eq [a, b] (by simp) (by simp; omega)
theorem first3 {n : Nat} (hn : 10 ≤ n) (a b c : Int) : F_drive_first n [I a, I b, I c] = some (firstNZ [a, b, c]) := first_eq [a, b, c] (by simp) (by simp; omega)
theorem refFirst2 {n : Nat} (hn : 10 ≤ n) (a b : Int) : F_ref01_First n [I a, I b] = some (firstNZ [a, b]) := refFirst_eq [a, b] (by simp) (by simp; omega)
theorem refFirst3 {n : Nat} (hn : 10 ≤ n) (a b c : Int) : F_ref01_First n [I a, I b, I c] = some (firstNZ [a, b, c]) := refFirst_eq [a, b, c] (by simp) (by simp; omega)
theorem refFirst4 {n : Nat} (hn : 10 ≤ n) (a b c d : Int) : F_ref01_First n [I a, I b, I c, I d] = some (firstNZ [a, b, c, d]) := refFirst_eq [a, b, c, d] (by simp) (by simp; omega)

def inR (x lo hi : Int) : Int := if x < lo then 3 else if x > hi then 3 else 0
theorem within_eq (n : Nat) (x lo hi : Int) : F_drive_within n x lo hi = some (inR x lo hi) := by
  unfold F_drive_within F_drive_when F_drive_when_2 inR
  by_cases h : x < lo
  · simp [h]
  · by_cases h2 : x > hi
    · simp [h, h2]
    · simp [h, h2]
theorem range_eq (n : Nat) (x lo hi : Int) : F_ref01_CheckRange n x lo hi = some (inR x lo hi) := by
  unfold F_ref01_CheckRange F_ref01_When F_ref01_When_2 inR
  by_cases h : x < lo
  · simp [h]
  · by_cases h2 : x > hi
    · simp [h, h2]
    · simp [h, h2]
def whenI (b : Bool) (e : Int) : Int := if b then e else 0
theorem when_eq (n : Nat) (b : Bool) (e : Int) : F_drive_when_2 n b e = some (whenI b e) := by
  unfold F_drive_when_2 whenI; cases b <;> rfl
theorem refWhen_eq (n : Nat) (b : Bool) (e : Int) : F_ref01_When_2 n b e = some (whenI b e) := by
  unfold F_ref01_When_2 whenI; cases b <;> rfl

def axisE (a0 a1 a2 : Int) : Int := firstNZ [inR a0 (-1000) 1000, inR a1 (-1000) 1000, whenI (decide (a0 > a1)) 11, inR a2 0 50]
theorem checkAxis_eq {n : Nat} (hn : 10 ≤ n) (a0 a1 a2 : Int) : F_drive_CheckAxis n a0 a1 a2 = some (axisE a0 a1 a2) := by
  have hw : IntKind.wrap .i64 (0 - 1000) = -1000 := by decide
  unfold F_drive_CheckAxis F_drive_checkEnds
  simp only [within_eq, when_eq, hw, Option.bind_some, first3 hn, first2 hn, Option.some.injEq]
  unfold axisE
  simp only [firstNZ]
  repeat' split
  all_goals first | rfl | omega
def stateE (a0 a1 a2 a3 a4 a5 : Int) : Int :=
  if firstNZ [axisE a0 a1 a2, inR a3 a0 a1, whenI (decide (a4 > a5)) 11] = 0 then if a4 < a3 - a2 then 24 else whenI (decide (a5 > a3)) 24
  else firstNZ [axisE a0 a1 a2, inR a3 a0 a1, whenI (decide (a4 > a5)) 11]
theorem axisE_zero {a0 a1 a2 : Int} (h : axisE a0 a1 a2 = 0) : -1000 ≤ a0 ∧ a0 ≤ a1 ∧ a1 ≤ 1000 ∧ 0 ≤ a2 ∧ a2 ≤ 50 := by
  unfold axisE firstNZ firstNZ firstNZ firstNZ firstNZ inR whenI at h
  simp only [decide_eq_true_eq] at h
  repeat' split at h
  all_goals omega
theorem inR_zero {x lo hi : Int} (h : inR x lo hi = 0) : lo ≤ x ∧ x ≤ hi := by
  unfold inR at h
  repeat' split at h
  all_goals omega
theorem posed_eq {n : Nat} (hn : 10 ≤ n) (a0 a1 a2 a3 a4 a5 : Int) : F_drive_CheckState n a0 a1 a2 a3 a4 a5 = some (stateE a0 a1 a2 a3 a4 a5) := by
  unfold F_drive_CheckState F_drive_posed_check
  simp only [checkAxis_eq hn, within_eq, when_eq, Option.bind_some, first2 hn, F_drive_when_3]
  unfold stateE
  by_cases h1 : axisE a0 a1 a2 = 0
  · by_cases h2 : inR a3 a0 a1 = 0
    · have q1 := axisE_zero h1
      have q2 := inR_zero h2
      simp only [firstNZ, h1, h2, if_true, ite_true]
      rw [if_pos (by unfold inI64; omega)]
      by_cases h3 : a4 > a5
      · have e : whenI (decide (a4 > a5)) 11 = 11 := by simp [whenI, h3]
        rw [e]
        split <;> simp
      · have e : whenI (decide (a4 > a5)) 11 = 0 := by simp [whenI, h3]
        rw [e]
        split
        · simp
        · simp
          exact fun h => h.symm
    · simp [firstNZ, h1, h2]
  · simp [firstNZ, h1]

theorem stateE_zero {a0 a1 a2 a3 a4 a5 : Int} (h : stateE a0 a1 a2 a3 a4 a5 = 0) : (-1000 ≤ a0 ∧ a0 ≤ a1 ∧ a1 ≤ 1000 ∧ 0 ≤ a2 ∧ a2 ≤ 50) ∧ a0 ≤ a3 ∧ a3 ≤ a1 := by
  unfold stateE at h
  have key : firstNZ [axisE a0 a1 a2, inR a3 a0 a1, whenI (decide (a4 > a5)) 11] = 0 := by
    by_cases h1 : firstNZ [axisE a0 a1 a2, inR a3 a0 a1, whenI (decide (a4 > a5)) 11] = 0
    · exact h1
    · rw [if_neg h1] at h; exact h
  have h1 : axisE a0 a1 a2 = 0 := by
    unfold firstNZ at key; split at key
    · assumption
    · assumption
  have h2 : inR a3 a0 a1 = 0 := by
    unfold firstNZ firstNZ at key; rw [if_pos h1] at key; split at key
    · assumption
    · assumption
  exact ⟨axisE_zero h1, inR_zero h2⟩
theorem whenI_zero {b : Bool} {e : Int} (he : e ≠ 0) (h : whenI b e = 0) : b = false := by
  unfold whenI at h; cases b
  · rfl
  · exact absurd h he
end Go.Proofs.YtoblljobcafecaaGreatDoor
