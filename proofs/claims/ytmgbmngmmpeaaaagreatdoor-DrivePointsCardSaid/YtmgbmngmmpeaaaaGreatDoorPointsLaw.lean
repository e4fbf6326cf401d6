/-
  The plain law of DrivePoints: both ways of pointing agree. An own text.
-/
import Derived.Test.YtmgbmngmmpeaaaaGreatDoorPoints1
import Derived.Test.YtmgbmngmmpeaaaaGreatDoorCom3
set_option linter.unusedVariables false
set_option linter.unusedSimpArgs false
set_option linter.unnecessarySimpa false
set_option maxRecDepth 20000
namespace Go.Proofs.YtmgbmngmmpeaaaaGreatDoor
open Go.SX

theorem awake5 : F_law03_awake 5000 = some true := by kernel_rfl
theorem beq2 {x y a b : Int} : ((x == a) && ((y == b) && true)) = true ↔ x = a ∧ y = b := by simp
theorem nearE_zero (r : Int × Bool) : (nearE r).2 = 0 ∨ nearE r = (0, 18) := by unfold nearE; split <;> simp
theorem law_DrivePoints (a0 a1 a2 a3 a4 a5 a6 a7 b0 b1 b2 b3 b4 b5 b6 b7 : Int) (l m : List (Int × Int × Int)) :
    F_law03_DrivePoints 5000 a0 a1 a2 a3 a4 a5 a6 a7 b0 b1 b2 b3 b4 b5 b6 b7 (l.map enc_Ai3Z) (m.map enc_Ai3Z) = some true := by
  unfold F_law03_DrivePoints
  rw [shortModel_eq, List.length_map, Option.bind_some]
  by_cases hs : l.length ≤ 8 ∨ l.length = 65
  · rw [if_pos (decide_eq_true hs), shortModel_eq, List.length_map, Option.bind_some]
    by_cases hs2 : m.length ≤ 8 ∨ m.length = 65
    · have hl : l.length < 1000 := by omega
      have hm : m.length < 1000 := by omega
      rw [if_pos (decide_eq_true hs2), given_eq l (by omega) (by omega), Option.bind_some, given_eq m (by omega) (by omega), Option.bind_some, refAll_eq (by omega) _ _ _ _ _ _ l _ _ hl, refAll_eq (by omega) _ _ _ _ _ _ m _ _ hm]
      unfold F_drive_Pointed
      rw [aimedCheck_eq (by omega) _ _ _ _ _ _ l _ _ hl, Option.bind_some, aimedCheck_eq (by omega) _ _ _ _ _ _ m _ _ hm, Option.bind_some, first2 (by omega), Option.bind_some]
      simp only [Option.bind_some, refFirst2 (n := 5000) (by omega)]
      by_cases h : firstNZ [allE a0 a1 a2 a3 a4 a5 l a6 a7, allE b0 b1 b2 b3 b4 b5 m b6 b7] = 0
      · have h1 := firstNZ_zero h (allE a0 a1 a2 a3 a4 a5 l a6 a7) (by simp)
        have h2 := firstNZ_zero h (allE b0 b1 b2 b3 b4 b5 m b6 b7) (by simp)
        obtain ⟨_, p1, p2, p3, p4, _⟩ := allE_zero h1
        obtain ⟨_, q1, q2, q3, q4, _⟩ := allE_zero h2
        simp only [if_pos h, nearest_eq (Nat.le_refl 5000) p1 hl p2 p4, nearest_eq (Nat.le_refl 5000) q1 hm q2 q4, refInverted_eq (Nat.le_refl 5000) p1 hl p4, refInverted_eq (Nat.le_refl 5000) q1 hm q4]
        generalize nearR a0 a1 a3 (hitE a2 a4 a5 l a6 a7) = r
        generalize nearR b0 b1 b3 (hitE b2 b4 b5 m b6 b7) = s
        simp only [Option.bind_some]
        rcases nearE_zero r with e1 | e1
        · rw [if_pos e1]
          rcases nearE_zero s with e2 | e2
          · rw [if_pos e2]
            have hz : firstNZ [(nearE r).2, (nearE s).2] = 0 := by rw [e1, e2]; rfl
            simp only [Option.bind_some, if_pos hz, if_pos (beq2.2 ⟨rfl, rfl⟩), if_pos hz.symm, awake5]
          · have hz : firstNZ [(nearE r).2, (nearE s).2] = 18 := by rw [e1, e2]; rfl
            rw [e2]
            rw [e2] at hz
            simp [hz, awake5]
        · have hz : firstNZ [(nearE r).2, (nearE s).2] = 18 := by rw [e1]; rfl
          rw [e1]
          rw [e1] at hz
          simp [hz, awake5]
      · simp only [if_neg h, Option.bind_some]
        simp [awake5]
    · rw [if_neg (by simpa using hs2), awake5]
      rfl
  · rw [if_neg (by simpa using hs), awake5]
    rfl
end Go.Proofs.YtmgbmngmmpeaaaaGreatDoor
