/-
  The plain law of DriveVotes: both ways of voting agree. An own text.
-/
import Derived.Test.YtmgbmngmmpeaaaaGreatDoorVotes2
import Derived.Test.YtmgbmngmmpeaaaaGreatDoorCom
set_option linter.unusedVariables false
set_option linter.unusedSimpArgs false
set_option linter.unnecessarySimpa false
set_option maxRecDepth 20000
namespace Go.Proofs.YtmgbmngmmpeaaaaGreatDoor
open Go.SX

def idxV (a0 a1 a2 v : Int) : Int := if a0 = v then 0 else if a1 = v then 1 else if a2 = v then 2 else -1
def mnV (a0 a1 a2 : Int) : Int := minI (minI a0 a1) a2
def mxV (a0 a1 a2 : Int) : Int := maxI (maxI a0 a1) a2
def mdV (a0 a1 a2 : Int) : Int := a0 + a1 + a2 - mnV a0 a1 a2 - mxV a0 a1 a2
def voteE (a0 a1 a2 a3 : Int) : Int × Int × Int :=
  if mdV a0 a1 a2 - mnV a0 a1 a2 ≤ a3 then if mxV a0 a1 a2 - mdV a0 a1 a2 ≤ a3 then (mdV a0 a1 a2, -1, 0) else (mdV a0 a1 a2, idxV a0 a1 a2 (mxV a0 a1 a2), 0)
  else if mxV a0 a1 a2 - mdV a0 a1 a2 ≤ a3 then (mdV a0 a1 a2, idxV a0 a1 a2 (mnV a0 a1 a2), 0) else (0, 0, 7)
theorem mnV_b {a0 a1 a2 : Int} (h0 : -1000 ≤ a0 ∧ a0 ≤ 1000) (h1 : -1000 ≤ a1 ∧ a1 ≤ 1000) (h2 : -1000 ≤ a2 ∧ a2 ≤ 1000) : (-1000 ≤ mnV a0 a1 a2 ∧ mnV a0 a1 a2 ≤ 1000) ∧ (-1000 ≤ mxV a0 a1 a2 ∧ mxV a0 a1 a2 ≤ 1000) := by
  unfold mnV mxV minI maxI
  repeat' split
  all_goals omega
theorem leafV {lo md hi a3 ilo ihi a0 a1 a2 : Int} (h1 : lo ≤ md) (h2 : md ≤ hi) (hb : -1000 ≤ lo) (hc : hi ≤ 1000) (hmn : mnV a0 a1 a2 = lo) (hmx : mxV a0 a1 a2 = hi) (hs : a0 + a1 + a2 = lo + md + hi)
    (hlo : md - lo > a3 → idxV a0 a1 a2 lo = ilo) (hhi : hi - md > a3 → idxV a0 a1 a2 hi = ihi) :
    (if inI64 (md - lo) then if inI64 (hi - md) then if md - lo ≤ a3 then if hi - md ≤ a3 then some (md, ((-1 : Int), (0 : Int))) else some (md, ihi, 0)
      else if hi - md ≤ a3 then some (md, ilo, 0) else some (0, 0, 7) else none else none) = some (voteE a0 a1 a2 a3) := by
  have hmd : mdV a0 a1 a2 = md := by unfold mdV; omega
  rw [if_pos (by unfold inI64; omega), if_pos (by unfold inI64; omega)]
  unfold voteE
  rw [hmd, hmn, hmx]
  by_cases q1 : md - lo ≤ a3
  · rw [if_pos q1, if_pos q1]
    by_cases q2 : hi - md ≤ a3
    · rw [if_pos q2, if_pos q2]
    · rw [if_neg q2, if_neg q2, hhi (by omega)]
  · rw [if_neg q1, if_neg q1]
    by_cases q2 : hi - md ≤ a3
    · rw [if_pos q2, if_pos q2, hlo (by omega)]
    · rw [if_neg q2, if_neg q2]
theorem c14 {n : Nat} {a b : Int} (i j : Int) (ha : -1000 ≤ a ∧ a ≤ 1000) (hb : -1000 ≤ b ∧ b ≤ 1000) : F_drive_Voted_c1_4 n a i b j = some (a - b) := by
  unfold F_drive_Voted_c1_4
  rw [if_pos (by unfold inI64; omega)]
def votE (a0 a1 a2 a3 : Int) : Int × Int × Int :=
  if inR a0 (-1000) 1000 = 0 then if inR a1 (-1000) 1000 = 0 then if inR a2 (-1000) 1000 = 0 then if inR a3 0 1000 = 0 then voteE a0 a1 a2 a3
    else (0, 0, inR a3 0 1000) else (0, 0, inR a2 (-1000) 1000) else (0, 0, inR a1 (-1000) 1000) else (0, 0, inR a0 (-1000) 1000)
theorem refVoted_eq (n : Nat) (a0 a1 a2 a3 : Int) : F_ref03_Voted n a0 a1 a2 a3 = some (votE a0 a1 a2 a3) := by
  unfold F_ref03_Voted votE
  simp only [range_eq, Option.bind_some]
  by_cases h0 : inR a0 (-1000) 1000 = 0
  · by_cases h1 : inR a1 (-1000) 1000 = 0
    · by_cases h2 : inR a2 (-1000) 1000 = 0
      · by_cases h3 : inR a3 0 1000 = 0
        · rw [if_pos h0, if_pos h1, if_pos h2, if_pos h3, if_pos h0, if_pos h1, if_pos h2, if_pos h3]
          have b0 := inR_zero h0
          have b1 := inR_zero h1
          have b2 := inR_zero h2
          have b3 := inR_zero h3
          have bm := mnV_b b0 b1 b2
          change (if inI64 (a0 + a1) then if inI64 (a0 + a1 + a2) then if inI64 (a0 + a1 + a2 - mnV a0 a1 a2) then if inI64 (mdV a0 a1 a2) then if inI64 (mdV a0 a1 a2 - mnV a0 a1 a2) then if inI64 (mxV a0 a1 a2 - mdV a0 a1 a2) then _ else none else none else none else none else none else none) = _
          have bd : mdV a0 a1 a2 = a0 + a1 + a2 - mnV a0 a1 a2 - mxV a0 a1 a2 := rfl
          rw [if_pos (by unfold inI64; omega), if_pos (by unfold inI64; omega), if_pos (by unfold inI64; omega), if_pos (by unfold inI64; omega), if_pos (by unfold inI64; omega), if_pos (by unfold inI64; omega)]
          change (if mdV a0 a1 a2 - mnV a0 a1 a2 ≤ a3 then if mxV a0 a1 a2 - mdV a0 a1 a2 ≤ a3 then some (mdV a0 a1 a2, ((-1 : Int), (0 : Int)))
              else if a0 = mxV a0 a1 a2 then some (mdV a0 a1 a2, 0, 0) else if a1 = mxV a0 a1 a2 then some (mdV a0 a1 a2, 1, 0) else if a2 = mxV a0 a1 a2 then some (mdV a0 a1 a2, 2, 0) else some (mdV a0 a1 a2, -1, 0)
            else if mxV a0 a1 a2 - mdV a0 a1 a2 ≤ a3 then
              if a0 = mnV a0 a1 a2 then some (mdV a0 a1 a2, 0, 0) else if a1 = mnV a0 a1 a2 then some (mdV a0 a1 a2, 1, 0) else if a2 = mnV a0 a1 a2 then some (mdV a0 a1 a2, 2, 0) else some (mdV a0 a1 a2, -1, 0)
            else some (0, 0, 7)) = _
          unfold voteE idxV
          repeat' split
          all_goals rfl
        · simp [h0, h1, h2, h3]
      · simp [h0, h1, h2]
    · simp [h0, h1]
  · simp [h0]
theorem voted_eq (n : Nat) (a0 a1 a2 a3 : Int) : F_drive_Voted_2 n a0 a1 a2 a3 = some (votE a0 a1 a2 a3) := by
  unfold F_drive_Voted_2 votE
  simp only [within_eq, Option.bind_some]
  by_cases h0 : inR a0 (-1000) 1000 = 0
  · by_cases h1 : inR a1 (-1000) 1000 = 0
    · by_cases h2 : inR a2 (-1000) 1000 = 0
      · by_cases h3 : inR a3 0 1000 = 0
        · rw [if_pos h0, if_pos h1, if_pos h2, if_pos h3, if_pos h0, if_pos h1, if_pos h2, if_pos h3]
          have b0 := inR_zero h0
          have b1 := inR_zero h1
          have b2 := inR_zero h2
          have b3 := inR_zero h3
          have hbits : F_math_bits_Len n = some 2 := rfl
          rw [hbits, Option.bind_some, c14 1 0 b1 b0, Option.bind_some]
          by_cases p1 : a1 - a0 < 0
          · rw [if_pos p1, c14 2 0 b2 b0, Option.bind_some]
            by_cases p2 : a2 - a0 < 0
            · rw [if_pos p2, c14 2 1 b2 b1, Option.bind_some]
              by_cases p3 : a2 - a1 < 0
              · rw [if_pos p3]
                refine leafV ?_ ?_ ?_ ?_ ?_ ?_ ?_ (fun _ => ?_) (fun _ => ?_)
                all_goals first | omega | (unfold mnV minI; (repeat' split) <;> omega) | (unfold mxV maxI; (repeat' split) <;> omega) | (unfold idxV; (repeat' split) <;> omega)
              · rw [if_neg p3]
                refine leafV ?_ ?_ ?_ ?_ ?_ ?_ ?_ (fun _ => ?_) (fun _ => ?_)
                all_goals first | omega | (unfold mnV minI; (repeat' split) <;> omega) | (unfold mxV maxI; (repeat' split) <;> omega) | (unfold idxV; (repeat' split) <;> omega)
            · rw [if_neg p2]
              refine leafV ?_ ?_ ?_ ?_ ?_ ?_ ?_ (fun _ => ?_) (fun _ => ?_)
              all_goals first | omega | (unfold mnV minI; (repeat' split) <;> omega) | (unfold mxV maxI; (repeat' split) <;> omega) | (unfold idxV; (repeat' split) <;> omega)
          · rw [if_neg p1, c14 2 1 b2 b1, Option.bind_some]
            by_cases p2 : a2 - a1 < 0
            · rw [if_pos p2, c14 2 0 b2 b0, Option.bind_some]
              by_cases p3 : a2 - a0 < 0
              · rw [if_pos p3]
                refine leafV ?_ ?_ ?_ ?_ ?_ ?_ ?_ (fun _ => ?_) (fun _ => ?_)
                all_goals first | omega | (unfold mnV minI; (repeat' split) <;> omega) | (unfold mxV maxI; (repeat' split) <;> omega) | (unfold idxV; (repeat' split) <;> omega)
              · rw [if_neg p3]
                refine leafV ?_ ?_ ?_ ?_ ?_ ?_ ?_ (fun _ => ?_) (fun _ => ?_)
                all_goals first | omega | (unfold mnV minI; (repeat' split) <;> omega) | (unfold mxV maxI; (repeat' split) <;> omega) | (unfold idxV; (repeat' split) <;> omega)
            · rw [if_neg p2]
              refine leafV ?_ ?_ ?_ ?_ ?_ ?_ ?_ (fun _ => ?_) (fun _ => ?_)
              all_goals first | omega | (unfold mnV minI; (repeat' split) <;> omega) | (unfold mxV maxI; (repeat' split) <;> omega) | (unfold idxV; (repeat' split) <;> omega)
        · simp [h0, h1, h2, h3]
      · simp [h0, h1, h2]
    · simp [h0, h1]
  · simp [h0]
theorem law_DriveVotes (a0 a1 a2 a3 : Int) : F_law03_DriveVotes 1000 a0 a1 a2 a3 = some true := by
  unfold F_law03_DriveVotes
  rw [voted_eq, refVoted_eq, Option.bind_some, Option.bind_some, if_pos rfl, if_pos rfl, if_pos rfl, axis_awake]
  rfl
end Go.Proofs.YtmgbmngmmpeaaaaGreatDoor
