/-
  THE PLAIN LAW of DriveMoves: the two ways of moving an axis agree. An own text.
-/
import Derived.Test.YtmgbmngmmpeaaaaGreatDoorMoves1
set_option linter.unusedVariables false
set_option linter.unusedSimpArgs false
set_option linter.unnecessarySimpa false
set_option maxRecDepth 20000
namespace Go.Proofs.YtmgbmngmmpeaaaaGreatDoor
open Go.SX

def firstNZ : List Int → Int
  | [] => 0
  | x :: l => if x = 0 then firstNZ l else x
theorem nth_get? {α : Type} : ∀ (l : List α) (i : Nat), nth l i = l[i]?
  | [], i => by cases i <;> rfl
  | _ :: _, 0 => rfl
  | _ :: l, i + 1 => by simpa [nth] using nth_get? l i
theorem el_map {ms : List Int} {i : Nat} {x : Int} (h : ms[i]? = some x) : el un_i (ms.map I) (i : Int) = some x := by
  unfold el
  rw [if_pos (Int.natCast_nonneg i), Int.toNat_natCast, nth_get?, List.getElem?_map, h]
  rfl
theorem axis_awake : F_law03_awake 1000 = some true := by kernel_rfl

theorem loopF_l {S E : Type} {step : S → Option (S ⊕ E)} {k : Nat} {s s' : S} (h : step s = some (.inl s')) : loopF step (k + 1) s = loopF step k s' := by
  show (match step s with | none => none | some (.inl s') => loopF step k s' | some (.inr e) => some e) = _
  rw [h]
theorem loopF_r {S E : Type} {step : S → Option (S ⊕ E)} {k : Nat} {s : S} {e : E} (h : step s = some (.inr e)) : loopF step (k + 1) s = some e := by
  show (match step s with | none => none | some (.inl s') => loopF step k s' | some (.inr e) => some e) = _
  rw [h]

def firstE (ms : List Int) : Int ⊕ Unit := if firstNZ ms = 0 then .inr () else .inl (firstNZ ms)
theorem firstE_nil : firstE [] = .inr () := rfl
theorem firstE_zero {x : Int} {l : List Int} (h : x = 0) : firstE (x :: l) = firstE l := by simp [firstE, firstNZ, h]
theorem firstE_some {x : Int} {l : List Int} (h : x ≠ 0) : firstE (x :: l) = .inl x := by simp [firstE, firstNZ, h]

theorem first_loop (n : Nat) (ms : List Int) (hm : ms.length < 9223372036854775807) : ∀ (k : Nat) (i : Nat), i ≤ ms.length → ms.length < i + k →
    loopF (F_drive_first_L1 n (ms.map I)) k (i : Int) = some (firstE (ms.drop i))
  | 0, i, h, hk => by omega
  | k + 1, i, h, hk => by
    by_cases hi : i < ms.length
    · have hx := List.getElem?_eq_getElem hi
      rw [List.drop_eq_getElem_cons hi]
      have hl : (i : Int) < ((ms.map I).length : Int) := by simp; omega
      by_cases h0 : ms[i] = 0
      · rw [loopF_l (s' := ((i + 1 : Nat) : Int)), firstE_zero h0]
        · exact first_loop n ms hm k (i + 1) hi (by omega)
        · unfold F_drive_first_L1
          rw [if_pos hl, el_map hx, Option.bind_some, if_pos h0, if_pos (by unfold inI64; omega)]; rfl
      · rw [loopF_r (e := .inl ms[i]), firstE_some h0]
        unfold F_drive_first_L1
        rw [if_pos hl, el_map hx, Option.bind_some, if_neg h0]
    · rw [loopF_r (e := .inr ()), List.drop_eq_nil_of_le (by omega), firstE_nil]
      unfold F_drive_first_L1
      rw [if_neg (by simp; omega)]
theorem refFirst_loop (n : Nat) (ms : List Int) (hm : ms.length < 9223372036854775807) : ∀ (k : Nat) (i : Nat), i ≤ ms.length → ms.length < i + k →
    loopF (F_ref01_First_L1 n (ms.map I)) k (i : Int) = some (firstE (ms.drop i))
  | 0, i, h, hk => by omega
  | k + 1, i, h, hk => by
    by_cases hi : i < ms.length
    · have hx := List.getElem?_eq_getElem hi
      rw [List.drop_eq_getElem_cons hi]
      have hl : (i : Int) < ((ms.map I).length : Int) := by simp; omega
      by_cases h0 : ms[i] = 0
      · rw [loopF_l (s' := ((i + 1 : Nat) : Int)), firstE_zero h0]
        · exact refFirst_loop n ms hm k (i + 1) hi (by omega)
        · unfold F_ref01_First_L1
          rw [if_pos hl, el_map hx, Option.bind_some, if_pos h0, if_pos (by unfold inI64; omega)]; rfl
      · rw [loopF_r (e := .inl ms[i]), firstE_some h0]
        unfold F_ref01_First_L1
        rw [if_pos hl, el_map hx, Option.bind_some, if_neg h0]
    · rw [loopF_r (e := .inr ()), List.drop_eq_nil_of_le (by omega), firstE_nil]
      unfold F_ref01_First_L1
      rw [if_neg (by simp; omega)]
theorem first_eq {n : Nat} (ms : List Int) (hm : ms.length < 9223372036854775807) (hn : ms.length < n) : F_drive_first n (ms.map I) = some (firstNZ ms) := by
  unfold F_drive_first
  have := first_loop n ms hm n 0 (Nat.zero_le _) (by omega)
  simp only [Int.natCast_zero, List.drop_zero] at this
  rw [show (0 : Int) = ((0 : Nat) : Int) from rfl] at this ⊢
  rw [this, Option.bind_some]
  unfold firstE
  split
  · rename_i h; split at h
    · cases h
    · cases h; rfl
  · rename_i h; split at h
    · rename_i h0; rw [h0]; rfl
    · cases h
theorem refFirst_eq {n : Nat} (ms : List Int) (hm : ms.length < 9223372036854775807) (hn : ms.length < n) : F_ref01_First n (ms.map I) = some (firstNZ ms) := by
  unfold F_ref01_First
  have := refFirst_loop n ms hm n 0 (Nat.zero_le _) (by omega)
  simp only [Int.natCast_zero, List.drop_zero] at this
  rw [show (0 : Int) = ((0 : Nat) : Int) from rfl] at this ⊢
  rw [this, Option.bind_some]
  unfold firstE
  split
  · rename_i h; split at h
    · cases h
    · cases h; rfl
  · rename_i h; split at h
    · rename_i h0; rw [h0]; rfl
    · cases h
theorem first2 {n : Nat} (hn : 10 ≤ n) (a b : Int) : F_drive_first n [I a, I b] = some (firstNZ [a, b]) := first_eq [a, b] (by simp) (by simp; omega)
theorem first3 {n : Nat} (hn : 10 ≤ n) (a b c : Int) : F_drive_first n [I a, I b, I c] = some (firstNZ [a, b, c]) := first_eq [a, b, c] (by simp) (by simp; omega)
theorem refFirst2 {n : Nat} (hn : 10 ≤ n) (a b : Int) : F_ref01_First n [I a, I b] = some (firstNZ [a, b]) := refFirst_eq [a, b] (by simp) (by simp; omega)
theorem refFirst3 {n : Nat} (hn : 10 ≤ n) (a b c : Int) : F_ref01_First n [I a, I b, I c] = some (firstNZ [a, b, c]) := refFirst_eq [a, b, c] (by simp) (by simp; omega)
theorem refFirst4 {n : Nat} (hn : 10 ≤ n) (a b c d : Int) : F_ref01_First n [I a, I b, I c, I d] = some (firstNZ [a, b, c, d]) := refFirst_eq [a, b, c, d] (by simp) (by simp; omega)

def inR (x lo hi : Int) : Int := if x < lo then 3 else if x > hi then 3 else 0
theorem within_eq (n : Nat) (x lo hi : Int) : F_drive_within n x lo hi = some (inR x lo hi) := by
  unfold F_drive_within F_drive_when F_drive_when_2 inR
  by_cases h : x < lo
  · simp [h]
  · by_cases h2 : x > hi
    · simp [h, h2]
    · simp [h, h2]
theorem range_eq (n : Nat) (x lo hi : Int) : F_ref01_CheckRange n x lo hi = some (inR x lo hi) := by
  unfold F_ref01_CheckRange F_ref01_When F_ref01_When_2 inR
  by_cases h : x < lo
  · simp [h]
  · by_cases h2 : x > hi
    · simp [h, h2]
    · simp [h, h2]
def whenI (b : Bool) (e : Int) : Int := if b then e else 0
theorem when_eq (n : Nat) (b : Bool) (e : Int) : F_drive_when_2 n b e = some (whenI b e) := by
  unfold F_drive_when_2 whenI; cases b <;> rfl
theorem refWhen_eq (n : Nat) (b : Bool) (e : Int) : F_ref01_When_2 n b e = some (whenI b e) := by
  unfold F_ref01_When_2 whenI; cases b <;> rfl

def axisE (a0 a1 a2 : Int) : Int := firstNZ [inR a0 (-1000) 1000, inR a1 (-1000) 1000, whenI (decide (a0 > a1)) 11, inR a2 0 50]
theorem checkAxis_eq {n : Nat} (hn : 10 ≤ n) (a0 a1 a2 : Int) : F_drive_CheckAxis n a0 a1 a2 = some (axisE a0 a1 a2) := by
  have hw : IntKind.wrap .i64 (0 - 1000) = -1000 := by decide
  unfold F_drive_CheckAxis F_drive_checkEnds
  simp only [within_eq, when_eq, hw, Option.bind_some, first3 hn, first2 hn, Option.some.injEq]
  unfold axisE
  simp only [firstNZ]
  repeat' split
  all_goals first | rfl | omega
theorem refAxis_eq {n : Nat} (hn : 10 ≤ n) (a0 a1 a2 : Int) : F_ref03_CheckAxis n a0 a1 a2 = some (axisE a0 a1 a2) := by
  unfold F_ref03_CheckAxis
  simp only [range_eq, refWhen_eq, Option.bind_some, refFirst4 hn]
  rfl

def stateE (a0 a1 a2 a3 a4 a5 : Int) : Int :=
  if firstNZ [axisE a0 a1 a2, inR a3 a0 a1, whenI (decide (a4 > a5)) 11] = 0 then if a4 < a3 - a2 then 24 else whenI (decide (a5 > a3)) 24
  else firstNZ [axisE a0 a1 a2, inR a3 a0 a1, whenI (decide (a4 > a5)) 11]
theorem axisE_zero {a0 a1 a2 : Int} (h : axisE a0 a1 a2 = 0) : -1000 ≤ a0 ∧ a0 ≤ a1 ∧ a1 ≤ 1000 ∧ 0 ≤ a2 ∧ a2 ≤ 50 := by
  unfold axisE firstNZ firstNZ firstNZ firstNZ firstNZ inR whenI at h
  simp only [decide_eq_true_eq] at h
  repeat' split at h
  all_goals omega
theorem inR_zero {x lo hi : Int} (h : inR x lo hi = 0) : lo ≤ x ∧ x ≤ hi := by
  unfold inR at h
  repeat' split at h
  all_goals omega
theorem refState_eq {n : Nat} (hn : 10 ≤ n) (a0 a1 a2 a3 a4 a5 : Int) : F_ref03_CheckState n a0 a1 a2 a3 a4 a5 = some (stateE a0 a1 a2 a3 a4 a5) := by
  unfold F_ref03_CheckState stateE
  simp only [refAxis_eq hn, range_eq, refWhen_eq, Option.bind_some, refFirst3 hn]
  by_cases h : firstNZ [axisE a0 a1 a2, inR a3 a0 a1, whenI (decide (a4 > a5)) 11] = 0
  · rw [if_pos h, if_pos h]
    have h1 : axisE a0 a1 a2 = 0 := by
      unfold firstNZ at h; split at h
      · assumption
      · assumption
    have h2 : inR a3 a0 a1 = 0 := by
      unfold firstNZ firstNZ at h; rw [if_pos h1] at h; split at h
      · assumption
      · assumption
    have q1 := axisE_zero h1
    have q2 := inR_zero h2
    rw [if_pos (by unfold inI64; omega)]
    split <;> rfl
  · rw [if_neg h, if_neg h]
theorem posed_eq {n : Nat} (hn : 10 ≤ n) (a0 a1 a2 a3 a4 a5 : Int) : F_drive_CheckState n a0 a1 a2 a3 a4 a5 = some (stateE a0 a1 a2 a3 a4 a5) := by
  unfold F_drive_CheckState F_drive_posed_check
  simp only [checkAxis_eq hn, within_eq, when_eq, Option.bind_some, first2 hn, F_drive_when_3]
  unfold stateE
  by_cases h1 : axisE a0 a1 a2 = 0
  · by_cases h2 : inR a3 a0 a1 = 0
    · have q1 := axisE_zero h1
      have q2 := inR_zero h2
      simp only [firstNZ, h1, h2, if_true, ite_true]
      rw [if_pos (by unfold inI64; omega)]
      by_cases h3 : a4 > a5
      · have e : whenI (decide (a4 > a5)) 11 = 11 := by simp [whenI, h3]
        rw [e]
        split <;> simp
      · have e : whenI (decide (a4 > a5)) 11 = 0 := by simp [whenI, h3]
        rw [e]
        split
        · simp
        · simp
          exact fun h => h.symm
    · simp [firstNZ, h1, h2]
  · simp [firstNZ, h1]

def movedE (a0 a1 a2 : Int) : List Int → Int → Int → Int → Option (Int × Int × Int)
  | [], m, lo, hi => some (m, lo, hi)
  | x :: l, m, lo, hi => if x < a0 - m ∨ x > a1 - m then none else movedE a0 a1 a2 l (m + x) (minI (m + x) (maxI (m + x - a2) lo)) (minI (m + x) (maxI (m + x - a2) hi))
def outD (a0 a1 a2 : Int) : Option (Int × Int × Int) → Unit ⊕ (Int × Int × Int × Int × Int × Int)
  | none => .inl ()
  | some r => .inr (a0, a1, a2, r.1, r.2.1, r.2.2)
def outR : Option (Int × Int × Int) → Unit ⊕ (Int × Int × Int)
  | none => .inl ()
  | some r => .inr (r.1, r.2.1, r.2.2)
theorem clamp_eq {m d x : Int} (h : 0 ≤ d) : maxI (m - d) (minI m x) = minI m (maxI (m - d) x) := by
  unfold maxI minI
  repeat' split
  all_goals omega

theorem moved_loop {n : Nat} {a0 a1 a2 : Int} (hb : -1000 ≤ a0 ∧ a0 ≤ a1 ∧ a1 ≤ 1000 ∧ 0 ≤ a2 ∧ a2 ≤ 50) (ms : List Int) (hm : ms.length < 9223372036854775807) : ∀ (k : Nat) (i : Nat) (m lo hi : Int), a0 ≤ m → m ≤ a1 → i ≤ ms.length → ms.length < i + k →
    loopF (F_drive_Moved_L1 n (ms.map I)) k ((i : Int), a0, a1, a2, m, lo, hi) = some (outD a0 a1 a2 (movedE a0 a1 a2 (ms.drop i) m lo hi))
  | 0, i, m, lo, hi, _, _, h, hk => by omega
  | k + 1, i, m, lo, hi, h0, h1, h, hk => by
    by_cases hi' : i < ms.length
    · have hx := List.getElem?_eq_getElem hi'
      rw [List.drop_eq_getElem_cons hi']
      have hl : (i : Int) < ((ms.map I).length : Int) := by simp; omega
      unfold movedE
      by_cases hc : ms[i] < a0 - m ∨ ms[i] > a1 - m
      · rw [if_pos hc, loopF_r (e := .inl ())]
        · rfl
        · unfold F_drive_Moved_L1
          dsimp only
          rw [if_pos hl, el_map hx, Option.bind_some, if_pos (by unfold inI64; omega)]
          by_cases hd : ms[i] < a0 - m
          · rw [if_pos hd]
          · rw [if_neg hd, if_pos (by unfold inI64; omega), if_pos (by omega)]
      · rw [if_neg hc, loopF_l (s' := (((i + 1 : Nat) : Int), a0, a1, a2, m + ms[i], minI (m + ms[i]) (maxI (m + ms[i] - a2) lo), minI (m + ms[i]) (maxI (m + ms[i] - a2) hi)))]
        · exact moved_loop hb ms hm k (i + 1) _ _ _ (by omega) (by omega) hi' (by omega)
        · unfold F_drive_Moved_L1 F_drive_posed_at
          dsimp only
          rw [if_pos hl, el_map hx, Option.bind_some, if_pos (by unfold inI64; omega), if_neg (by omega), if_pos (by unfold inI64; omega), if_neg (by omega), if_pos (by unfold inI64; omega), if_pos (by unfold inI64; omega), Option.bind_some, if_pos (by unfold inI64; omega)]
          rfl
    · rw [loopF_r (e := .inr (a0, a1, a2, m, lo, hi)), List.drop_eq_nil_of_le (by omega)]
      · rfl
      · unfold F_drive_Moved_L1
        rw [if_neg (by simp; omega)]
theorem refStep_at {n : Nat} {a0 a1 a2 q lo hi m : Int} (h0 : 0 ≤ a2) (h : inI64 (m - a2)) : F_ref03_Stepped n a0 a1 a2 q lo hi m = some (m, minI m (maxI (m - a2) lo), minI m (maxI (m - a2) hi)) := by
  unfold F_ref03_Stepped F_ref03_Leaves
  rw [if_pos h, if_pos h, clamp_eq h0, clamp_eq h0]
  rfl
theorem refMoved_step {n : Nat} {a0 a1 a2 m lo hi x : Int} {l : List D} {i : Nat} (hl : (i : Int) < (l.length : Int)) (hx : el un_i l (i : Int) = some x) (hb : -1000 ≤ a0 ∧ a0 ≤ a1 ∧ a1 ≤ 1000 ∧ 0 ≤ a2 ∧ a2 ≤ 50) (h0 : a0 ≤ m) (h1 : m ≤ a1) (hc : ¬ (x < a0 - m ∨ x > a1 - m)) (hi' : i < 9223372036854775807) :
    F_ref03_Moved_L1 n a0 a1 a2 l ((i : Int), m, lo, hi) = some (.inl (((i + 1 : Nat) : Int), m + x, minI (m + x) (maxI (m + x - a2) lo), minI (m + x) (maxI (m + x - a2) hi))) := by
  have e1 : inI64 (a1 - m) := by unfold inI64; omega
  have e2 : inI64 (a0 - m) := by unfold inI64; omega
  have e3 : inI64 (m + x) := by unfold inI64; omega
  have e4 : inI64 (m + x - a2) := by unfold inI64; omega
  have e5 : inI64 ((i : Int) + 1) := by unfold inI64; omega
  have e6 : ¬ x > a1 - m := by omega
  have e7 : ¬ x < a0 - m := by omega
  unfold F_ref03_Moved_L1
  dsimp only
  rw [if_pos hl, hx, Option.bind_some, if_pos e1, if_neg e6, if_pos e2, if_neg e7, if_pos e3, refStep_at hb.2.2.2.1 e4, Option.bind_some, if_pos e5, Int.natCast_succ]
theorem refMoved_loop {n : Nat} {a0 a1 a2 : Int} (hb : -1000 ≤ a0 ∧ a0 ≤ a1 ∧ a1 ≤ 1000 ∧ 0 ≤ a2 ∧ a2 ≤ 50) (ms : List Int) (hm : ms.length < 9223372036854775807) : ∀ (k : Nat) (i : Nat) (m lo hi : Int), a0 ≤ m → m ≤ a1 → i ≤ ms.length → ms.length < i + k →
    loopF (F_ref03_Moved_L1 n a0 a1 a2 (ms.map I)) k ((i : Int), m, lo, hi) = some (outR (movedE a0 a1 a2 (ms.drop i) m lo hi)) := by
  intro k
  induction k with
  | zero => intro i m lo hi _ _ h hk; omega
  | succ k ih =>
    intro i m lo hi h0 h1 h hk
    by_cases hi' : i < ms.length
    · have hx := List.getElem?_eq_getElem hi'
      rw [List.drop_eq_getElem_cons hi']
      have hl : (i : Int) < ((ms.map I).length : Int) := by simp; omega
      unfold movedE
      by_cases hc : ms[i] < a0 - m ∨ ms[i] > a1 - m
      · rw [if_pos hc, loopF_r (e := .inl ())]
        · rfl
        · unfold F_ref03_Moved_L1
          dsimp only
          rw [if_pos hl, el_map hx, Option.bind_some, if_pos (by unfold inI64; omega)]
          by_cases hd : ms[i] > a1 - m
          · rw [if_pos hd]
          · rw [if_neg hd, if_pos (by unfold inI64; omega), if_pos (by omega)]
      · rw [if_neg hc, loopF_l (s' := (((i + 1 : Nat) : Int), m + ms[i], minI (m + ms[i]) (maxI (m + ms[i] - a2) lo), minI (m + ms[i]) (maxI (m + ms[i] - a2) hi)))]
        · exact ih (i + 1) _ _ _ (by omega) (by omega) hi' (by omega)
        · exact refMoved_step hl (el_map hx) hb h0 h1 hc (by omega)
    · rw [loopF_r (e := .inr (m, lo, hi)), List.drop_eq_nil_of_le (by omega)]
      · rfl
      · unfold F_ref03_Moved_L1
        rw [if_neg (by simp; omega)]

def resE : Option (Int × Int × Int) → Int × Int × Int × Int
  | none => (0, 0, 0, 20)
  | some r => (r.1, r.2.1, r.2.2, 0)
theorem refMoved_eq {n : Nat} {a0 a1 a2 m lo hi : Int} (hb : -1000 ≤ a0 ∧ a0 ≤ a1 ∧ a1 ≤ 1000 ∧ 0 ≤ a2 ∧ a2 ≤ 50) (h0 : a0 ≤ m) (h1 : m ≤ a1) (ms : List Int) (hm : ms.length < 1000) (hn : 1000 ≤ n) :
    F_ref03_Moved n a0 a1 a2 m lo hi (ms.map I) = some (resE (movedE a0 a1 a2 ms m lo hi)) := by
  unfold F_ref03_Moved
  have := refMoved_loop (n := n) hb ms (by omega) n 0 m lo hi h0 h1 (Nat.zero_le _) (by omega)
  rw [Int.natCast_zero, List.drop_zero] at this
  rw [this, Option.bind_some]
  cases movedE a0 a1 a2 ms m lo hi <;> rfl

theorem stateE_zero {a0 a1 a2 a3 a4 a5 : Int} (h : stateE a0 a1 a2 a3 a4 a5 = 0) : (-1000 ≤ a0 ∧ a0 ≤ a1 ∧ a1 ≤ 1000 ∧ 0 ≤ a2 ∧ a2 ≤ 50) ∧ a0 ≤ a3 ∧ a3 ≤ a1 := by
  unfold stateE at h
  have key : firstNZ [axisE a0 a1 a2, inR a3 a0 a1, whenI (decide (a4 > a5)) 11] = 0 := by
    by_cases h1 : firstNZ [axisE a0 a1 a2, inR a3 a0 a1, whenI (decide (a4 > a5)) 11] = 0
    · exact h1
    · rw [if_neg h1] at h; exact h
  have h1 : axisE a0 a1 a2 = 0 := by
    unfold firstNZ at key; split at key
    · assumption
    · assumption
  have h2 : inR a3 a0 a1 = 0 := by
    unfold firstNZ firstNZ at key; rw [if_pos h1] at key; split at key
    · assumption
    · assumption
  exact ⟨axisE_zero h1, inR_zero h2⟩
def mvE (a0 a1 a2 a3 a4 a5 : Int) (ms : List Int) : Int × Int × Int × Int :=
  if firstNZ [stateE a0 a1 a2 a3 a4 a5, whenI (decide ((ms.length : Int) > 256)) 5] = 0 then resE (movedE a0 a1 a2 ms a3 a4 a5)
  else (0, 0, 0, firstNZ [stateE a0 a1 a2 a3 a4 a5, whenI (decide ((ms.length : Int) > 256)) 5])
theorem moved_eq {n : Nat} (hn : 1000 ≤ n) (a0 a1 a2 a3 a4 a5 : Int) (ms : List Int) (hm : ms.length < 1000) :
    F_drive_Moved n a0 a1 a2 a3 a4 a5 (ms.map I) = some (mvE a0 a1 a2 a3 a4 a5 ms) := by
  unfold F_drive_Moved mvE
  rw [posed_eq (by omega), Option.bind_some, when_eq, Option.bind_some, List.length_map, first2 (by omega), Option.bind_some]
  by_cases h : firstNZ [stateE a0 a1 a2 a3 a4 a5, whenI (decide ((ms.length : Int) > 256)) 5] = 0
  · rw [if_pos h, if_pos h]
    have h1 : stateE a0 a1 a2 a3 a4 a5 = 0 := by
      unfold firstNZ at h; split at h
      · assumption
      · assumption
    obtain ⟨hb, h2, h3⟩ := stateE_zero h1
    have := moved_loop (n := n) hb ms (by omega) n 0 a3 a4 a5 h2 h3 (Nat.zero_le _) (by omega)
    rw [Int.natCast_zero, List.drop_zero] at this
    rw [this, Option.bind_some]
    cases movedE a0 a1 a2 ms a3 a4 a5 <;> rfl
  · rw [if_neg h, if_neg h]

theorem same0 {n : Nat} (hn : 10 ≤ n) : F_ref01_SameInts n [] [] = some true := by
  obtain ⟨k, rfl⟩ : ∃ k, n = k + 1 := ⟨n - 1, by omega⟩
  unfold F_ref01_SameInts
  rw [if_pos rfl, loopF_r (e := .inr ())]
  · rfl
  · rfl
theorem same2 {n : Nat} (hn : 10 ≤ n) (x y : Int) : F_ref01_SameInts n [I x, I y] [I x, I y] = some true := by
  obtain ⟨k, rfl⟩ : ∃ k, n = k + 1 + 1 + 1 := ⟨n - 3, by omega⟩
  have e0 : el un_i [I x, I y] 0 = some x := rfl
  have e1 : el un_i [I x, I y] 1 = some y := rfl
  have q0 : inI64 (0 + 1) := by decide
  have q1 : inI64 (1 + 1) := by decide
  have s0 : F_ref01_SameInts_L1 (k + 1 + 1 + 1) [I x, I y] [I x, I y] 0 = some (.inl 1) := by
    unfold F_ref01_SameInts_L1
    rw [if_pos (show (0:Int) < (([I x, I y] : List D).length : Int) by simp), e0, Option.bind_some, Option.bind_some, if_pos rfl, if_pos q0]; rfl
  have s1 : F_ref01_SameInts_L1 (k + 1 + 1 + 1) [I x, I y] [I x, I y] 1 = some (.inl 2) := by
    unfold F_ref01_SameInts_L1
    rw [if_pos (show (1:Int) < (([I x, I y] : List D).length : Int) by simp), e1, Option.bind_some, Option.bind_some, if_pos rfl, if_pos q1]; rfl
  have s2 : F_ref01_SameInts_L1 (k + 1 + 1 + 1) [I x, I y] [I x, I y] 2 = some (.inr (.inr ())) := by
    unfold F_ref01_SameInts_L1
    rw [if_neg (show ¬ (2:Int) < (([I x, I y] : List D).length : Int) by simp)]
  unfold F_ref01_SameInts
  rw [if_pos rfl, loopF_l s0, loopF_l s1, loopF_r s2]
  rfl

def refdE (a0 a1 a2 a3 : Int) : List D × Int := if a0 + a2 > a1 then ([], 20) else ([I (a0 - a3), I a2], 0)
theorem refReferenced_eq {n : Nat} {a0 a1 a2 a3 a4 a5 : Int} (hb : -1000 ≤ a0 ∧ a0 ≤ a1 ∧ a1 ≤ 1000 ∧ 0 ≤ a2 ∧ a2 ≤ 50) (h0 : a0 ≤ a3) (h1 : a3 ≤ a1) : F_ref03_Referenced n a0 a1 a2 a3 a4 a5 = some (refdE a0 a1 a2 a3) := by
  have e1 : inI64 (a0 + a2) := by unfold inI64; omega
  have e2 : inI64 (a0 - a3) := by unfold inI64; omega
  unfold F_ref03_Referenced refdE
  rw [if_pos e1]
  by_cases h : a0 + a2 > a1
  · rw [if_pos h, if_pos h]
  · rw [if_neg h, if_neg h, if_pos e2]
theorem moved_ref {a0 a1 a2 a3 a4 a5 : Int} (hb : -1000 ≤ a0 ∧ a0 ≤ a1 ∧ a1 ≤ 1000 ∧ 0 ≤ a2 ∧ a2 ≤ 50) (h0 : a0 ≤ a3) (h1 : a3 ≤ a1) :
    (a0 + a2 > a1 → movedE a0 a1 a2 [a0 - a3, a2] a3 a4 a5 = none) ∧ (¬ a0 + a2 > a1 → ∃ r, movedE a0 a1 a2 [a0 - a3, a2] a3 a4 a5 = some r) := by
  have c1 : ¬ (a0 - a3 < a0 - a3 ∨ a0 - a3 > a1 - a3) := by omega
  constructor
  · intro h
    have c2 : a2 < a0 - (a3 + (a0 - a3)) ∨ a2 > a1 - (a3 + (a0 - a3)) := by omega
    rw [movedE, if_neg c1, movedE, if_pos c2]
  · intro h
    have c2 : ¬ (a2 < a0 - (a3 + (a0 - a3)) ∨ a2 > a1 - (a3 + (a0 - a3))) := by omega
    rw [movedE, if_neg c1, movedE, if_neg c2, movedE]
    exact ⟨_, rfl⟩

def drefE (a0 a1 a2 a3 a4 a5 : Int) : Int × Int × Int × List D × Int :=
  if stateE a0 a1 a2 a3 a4 a5 = 0 then match movedE a0 a1 a2 [a0 - a3, a2] a3 a4 a5 with
    | none => (0, 0, 0, [], 20)
    | some r => (r.1, r.2.1, r.2.2, [I (a0 - a3), I a2], 0)
  else (0, 0, 0, [], stateE a0 a1 a2 a3 a4 a5)
theorem referenced_eq {n : Nat} (hn : 1000 ≤ n) (a0 a1 a2 a3 a4 a5 : Int) : F_drive_Referenced n a0 a1 a2 a3 a4 a5 = some (drefE a0 a1 a2 a3 a4 a5) := by
  unfold F_drive_Referenced drefE
  rw [posed_eq (by omega), Option.bind_some]
  by_cases h : stateE a0 a1 a2 a3 a4 a5 = 0
  · obtain ⟨hb, h2, h3⟩ := stateE_zero h
    have e2 : inI64 (a0 - a3) := by unfold inI64; omega
    have e3 := moved_eq hn a0 a1 a2 a3 a4 a5 [a0 - a3, a2] (by simp)
    have e4 : mvE a0 a1 a2 a3 a4 a5 [a0 - a3, a2] = resE (movedE a0 a1 a2 [a0 - a3, a2] a3 a4 a5) := by
      unfold mvE
      rw [if_pos]
      rw [h]; rfl
    rw [e4] at e3
    rw [if_pos h, if_pos h, if_pos e2]
    rw [show ([I (a0 - a3), I a2] : List D) = ([a0 - a3, a2] : List Int).map I from rfl, e3, Option.bind_some]
    cases hmv : movedE a0 a1 a2 [a0 - a3, a2] a3 a4 a5 with
    | none => rfl
    | some r => rfl
  · rw [if_neg h, if_neg h]

theorem whenI_zero {b : Bool} {e : Int} (he : e ≠ 0) (h : whenI b e = 0) : b = false := by
  unfold whenI at h; cases b
  · rfl
  · exact absurd h he
theorem shortSteps_eq (n : Nat) (l : List D) : F_ref03_ShortSteps n l = some (decide (l.length ≤ 8 ∨ l.length = 257)) := by
  unfold F_ref03_ShortSteps
  by_cases h : (l.length : Int) ≤ 8
  · rw [if_pos h, decide_eq_true (by omega)]
  · rw [if_neg h]
    by_cases h2 : l.length = 257
    · rw [decide_eq_true (.inr h2), h2]; rfl
    · rw [decide_eq_false (by omega)]
      have : ¬ ((l.length : Int) = 257) := by omega
      simp [this]
theorem ints_eq (n : Nat) (l : List D) (h : l.length ≤ 1000) : F_law03_ints n l = some l := by
  unfold F_law03_ints
  rw [if_pos (by unfold roomP; omega)]
  cases l with
  | nil => rfl
  | cons x l => rfl
theorem e3 (a b c : Int) : ((a == a) && (((b == b) && ((c == c) && true)) && true)) = true := by simp

theorem law_short {n : Nat} (hn : 1000 ≤ n) (hw : F_law03_awake n = some true) (a0 a1 a2 a3 a4 a5 : Int) (ms : List Int) (hl : ms.length ≤ 8 ∨ ms.length = 257) :
    F_law03_DriveMoves n a0 a1 a2 a3 a4 a5 (ms.map I) = some true := by
  have hsh : F_ref03_ShortSteps n (ms.map I) = some true := by
    rw [shortSteps_eq, List.length_map, decide_eq_true hl]
  have hin : F_law03_ints n (ms.map I) = some (ms.map I) := ints_eq n _ (by rw [List.length_map]; omega)
  have hm := moved_eq hn a0 a1 a2 a3 a4 a5 ms (by omega)
  have hr := referenced_eq hn a0 a1 a2 a3 a4 a5
  have ha : F_drive_CheckAxis n a0 a1 a2 = some (axisE a0 a1 a2) := checkAxis_eq (by omega) _ _ _
  have hb : F_ref03_CheckAxis n a0 a1 a2 = some (axisE a0 a1 a2) := refAxis_eq (by omega) _ _ _
  have hs : F_drive_CheckState n a0 a1 a2 a3 a4 a5 = some (stateE a0 a1 a2 a3 a4 a5) := posed_eq (by omega) _ _ _ _ _ _
  have hs' : F_ref03_CheckState n a0 a1 a2 a3 a4 a5 = some (stateE a0 a1 a2 a3 a4 a5) := refState_eq (by omega) _ _ _ _ _ _
  have s0 : F_ref01_SameInts n [] [] = some true := same0 (by omega)
  have s2 : ∀ x y, F_ref01_SameInts n [I x, I y] [I x, I y] = some true := fun x y => same2 (by omega) x y
  unfold F_law03_DriveMoves
  rw [hsh, Option.bind_some, if_pos rfl, hin, Option.bind_some, hm, Option.bind_some, hr, Option.bind_some, hs', Option.bind_some, refWhen_eq, Option.bind_some,
    refFirst2 (by omega), Option.bind_some, List.length_map, ha, hb, hs]
  simp only [Option.bind_some]
  by_cases hS : stateE a0 a1 a2 a3 a4 a5 = 0
  · obtain ⟨bb, h2, h3⟩ := stateE_zero hS
    have hR := refReferenced_eq (n := n) (a4 := a4) (a5 := a5) bb h2 h3
    have mr := moved_ref (a4 := a4) (a5 := a5) bb h2 h3
    have rm : ∀ (l : List Int), l.length < 1000 → F_ref03_Moved n a0 a1 a2 a3 a4 a5 (l.map I) = some (resE (movedE a0 a1 a2 l a3 a4 a5)) := fun l hl => refMoved_eq bb h2 h3 l hl hn
    have rm2 : F_ref03_Moved n a0 a1 a2 a3 a4 a5 [I (a0 - a3), I a2] = some (resE (movedE a0 a1 a2 [a0 - a3, a2] a3 a4 a5)) := rm [a0 - a3, a2] (by simp)
    rw [rm ms (by omega), hR]
    simp only [Option.bind_some, if_pos hS]
    unfold refdE drefE mvE
    rw [if_pos hS]
    generalize firstNZ [stateE a0 a1 a2 a3 a4 a5, whenI (decide ((ms.length : Int) > 256)) 5] = E
    by_cases hq : a0 + a2 > a1
    · rw [mr.1 hq, if_pos hq]
      by_cases hE : E = 0
      · simp [hE, s0, hw, hS]
      · simp [hE, s0, hw, hS]
    · obtain ⟨r, hr'⟩ := mr.2 hq
      rw [hr', if_neg hq]
      rw [hr'] at rm2
      by_cases hE : E = 0
      · simp [hE, s2, hw, hS, rm2, resE]
      · simp [hE, s2, hw, hS, rm2, resE]
  · have hE : firstNZ [stateE a0 a1 a2 a3 a4 a5, whenI (decide ((ms.length : Int) > 256)) 5] = stateE a0 a1 a2 a3 a4 a5 := by
      unfold firstNZ; rw [if_neg hS]
    unfold drefE mvE
    rw [hE]
    simp [hS, s0, hw]
theorem law_DriveMoves (a0 a1 a2 a3 a4 a5 : Int) (ms : List Int) : F_law03_DriveMoves 1000 a0 a1 a2 a3 a4 a5 (ms.map I) = some true := by
  by_cases hl : ms.length ≤ 8 ∨ ms.length = 257
  · exact law_short (Nat.le_refl _) axis_awake _ _ _ _ _ _ _ hl
  · unfold F_law03_DriveMoves
    rw [shortSteps_eq, List.length_map, decide_eq_false hl, Option.bind_some, if_neg (by decide), axis_awake]
    rfl
end Go.Proofs.YtmgbmngmmpeaaaaGreatDoor
