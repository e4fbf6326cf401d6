/-
  The plain law of DriveTargets: both ways of aiming at a target agree. An own text.
-/
import Derived.Test.YtmgbmngmmpeaaaaGreatDoorTargets1
import Derived.Test.YtmgbmngmmpeaaaaGreatDoorCom3
set_option linter.unusedVariables false
set_option linter.unusedSimpArgs false
set_option linter.unnecessarySimpa false
set_option maxRecDepth 20000
namespace Go.Proofs.YtmgbmngmmpeaaaaGreatDoor
open Go.SX

theorem awake5 : F_law03_awake 5000 = some true := by kernel_rfl
def withE (l : List (Int × Int × Int)) (c0 c1 : Int) : Int := firstNZ [modelE l, ivE c0 c1 (-1000) 1000]
theorem withE_zero {l : List (Int × Int × Int)} {c0 c1 : Int} (h : withE l c0 c1 = 0) : l ≠ [] ∧ (∀ b, b ∈ l → BandOk b) ∧ (-1100 ≤ c0 ∧ c0 ≤ 1100) ∧ (-1100 ≤ c1 ∧ c1 ≤ 1100) := by
  have hm := modelE_zero (firstNZ_zero h (modelE l) (by simp))
  have ht := ivE_zero (firstNZ_zero h (ivE c0 c1 (-1000) 1000) (by simp))
  refine ⟨?_, hm.2, by omega, by omega⟩
  rintro rfl
  simp at hm
theorem dWithin_eq {n : Nat} (hn : 5000 ≤ n) (l : List (Int × Int × Int)) (c0 c1 : Int) (hlen : l.length < 1000) :
    F_drive_Within n (l.map enc_Ai3Z) c0 c1 = some (if withE l c0 c1 = 0 then ((placesE c0 c1 l).1, (placesE c0 c1 l).2, 0) else (0, 0, withE l c0 c1)) := by
  unfold F_drive_Within
  rw [checkModel_eq (by omega) l hlen, Option.bind_some, ends_eq (by omega) _ _ (by omega), Option.bind_some, first2 (by omega), Option.bind_some]
  change (if withE l c0 c1 = 0 then _ else some (0, 0, withE l c0 c1)) = _
  by_cases h : withE l c0 c1 = 0
  · obtain ⟨h1, h2, h3, h4⟩ := withE_zero h
    rw [if_pos h, if_pos h, places_eq hn l hlen h1 h2 h3 h4]
    rfl
  · rw [if_neg h, if_neg h]
theorem dInverted_eq {n : Nat} (hn : 5000 ≤ n) (a0 a1 a2 a3 a4 a5 : Int) (l : List (Int × Int × Int)) (t0 t1 : Int) (hlen : l.length < 1000) :
    F_drive_Inverted n a0 a1 a2 a3 a4 a5 (l.map enc_Ai3Z) t0 t1 = some (if allE a0 a1 a2 a3 a4 a5 l t0 t1 = 0 then nearE (nearR a0 a1 a3 (hitE a2 a4 a5 l t0 t1)) else (0, allE a0 a1 a2 a3 a4 a5 l t0 t1)) := by
  unfold F_drive_Inverted
  rw [aimedCheck_eq (by omega) _ _ _ _ _ _ l _ _ hlen, Option.bind_some]
  by_cases h : allE a0 a1 a2 a3 a4 a5 l t0 t1 = 0
  · obtain ⟨_, h1, h2, h3, h4, _⟩ := allE_zero h
    rw [if_pos h, if_pos h, nearest_eq hn h1 hlen h2 h4]
    rfl
  · rw [if_neg h, if_neg h]
theorem dCheckInverted_eq {n : Nat} (hn : 5000 ≤ n) (a0 a1 a2 a3 a4 a5 : Int) (l : List (Int × Int × Int)) (t0 t1 m : Int) (hlen : l.length < 1000) :
    F_drive_CheckInverted n a0 a1 a2 a3 a4 a5 (l.map enc_Ai3Z) t0 t1 m = some (if allE a0 a1 a2 a3 a4 a5 l t0 t1 = 0 then if inR m a0 a1 = 0 then if hitE a2 a4 a5 l t0 t1 m = true then ((reachE a2 a4 a5 l m).1, (reachE a2 a4 a5 l m).2, 0) else (0, 0, 19) else (0, 0, inR m a0 a1) else (0, 0, allE a0 a1 a2 a3 a4 a5 l t0 t1)) := by
  unfold F_drive_CheckInverted
  rw [aimedCheck_eq (by omega) _ _ _ _ _ _ l _ _ hlen, Option.bind_some, within_eq, Option.bind_some, first2 (by omega), Option.bind_some, firstNZ_cons, firstNZ_one]
  by_cases h : allE a0 a1 a2 a3 a4 a5 l t0 t1 = 0
  · obtain ⟨_, h1, h2, h3, h4, _⟩ := allE_zero h
    rw [if_pos h, if_pos h]
    by_cases hm : inR m a0 a1 = 0
    · have hb := inR_zero hm
      have q0 := h1.l0
      have q1 := h1.l2
      rw [if_pos hm, if_pos hm, hit_eq hn hlen h2 h4 (by omega) ⟨h1.p0, h1.p1⟩, Option.bind_some]
      dsimp only
      split <;> rfl
    · rw [if_neg hm, if_neg hm]
  · rw [if_neg h, if_neg h, if_neg h]
theorem beq2 {x y a b : Int} : ((x == a) && ((y == b) && true)) = true ↔ x = a ∧ y = b := by simp
theorem law_DriveTargets (a0 a1 a2 a3 a4 a5 a6 a7 : Int) (l : List (Int × Int × Int)) (a9 a10 a11 : Int) : F_law03_DriveTargets 5000 a0 a1 a2 a3 a4 a5 a6 a7 (l.map enc_Ai3Z) a9 a10 a11 = some true := by
  unfold F_law03_DriveTargets
  rw [shortModel_eq, List.length_map, Option.bind_some]
  by_cases hs : l.length ≤ 8 ∨ l.length = 65
  · have hl : l.length < 1000 := by omega
    rw [if_pos (decide_eq_true hs), given_eq l (by omega) (by omega), Option.bind_some, dWithin_eq (Nat.le_refl _) l _ _ hl, Option.bind_some, dCheckInverted_eq (Nat.le_refl _) _ _ _ _ _ _ l _ _ _ hl, Option.bind_some,
      dInverted_eq (Nat.le_refl _) _ _ _ _ _ _ l _ _ hl, Option.bind_some, refCheckModel_eq (by omega) l hl, Option.bind_some, interval_eq (by omega), Option.bind_some, refFirst2 (by omega), Option.bind_some, refAll_eq (by omega) _ _ _ _ _ _ l _ _ hl, Option.bind_some]
    change (if withE l a9 a10 = 0 then _ else _) = _
    have hW : withE l a9 a10 = 0 → F_ref03_Within 5000 (l.map enc_Ai3Z) a9 a10 = some (placesE a9 a10 l) := by
      intro h
      obtain ⟨h1, h2, h3, h4⟩ := withE_zero h
      exact refWithin_eq (by omega) l hl h2 h3 h4
    have hA : allE a0 a1 a2 a3 a4 a5 l a6 a7 = 0 → F_ref03_Inverted 5000 a0 a1 a2 a3 a4 a5 (l.map enc_Ai3Z) a6 a7 = some (nearE (nearR a0 a1 a3 (hitE a2 a4 a5 l a6 a7))) := by
      intro h
      obtain ⟨_, h1, h2, h3, h4, _⟩ := allE_zero h
      exact refInverted_eq (Nat.le_refl _) h1 hl h4
    have hR : allE a0 a1 a2 a3 a4 a5 l a6 a7 = 0 → inR a11 a0 a1 = 0 → F_ref03_Reached 5000 a0 a1 a2 a3 a4 a5 (l.map enc_Ai3Z) a11 = some (reachE a2 a4 a5 l a11) := by
      intro h hm
      obtain ⟨_, h1, h2, h3, h4, _⟩ := allE_zero h
      have hb := inR_zero hm
      have q0 := h1.l0
      have q1 := h1.l2
      exact reached_eq (Nat.le_refl _) hl h4 (by omega) ⟨h1.p0, h1.p1⟩
    have e0 : ∀ e : Int, (firstNZ [modelE l, ivE a9 a10 (-1000) 1000]) = withE l a9 a10 := fun _ => rfl
    have hI : ∀ x y : Int, F_ref03_Inside 5000 x y a6 a7 = some (decide (a6 ≤ x ∧ y ≤ a7)) := fun x y => inside_eq _ _ _ _ _
    have hH : hitE a2 a4 a5 l a6 a7 a11 = decide (a6 ≤ (reachE a2 a4 a5 l a11).1 ∧ (reachE a2 a4 a5 l a11).2 ≤ a7) := rfl
    rw [e0 0]
    by_cases hw : withE l a9 a10 = 0
    · by_cases ha : allE a0 a1 a2 a3 a4 a5 l a6 a7 = 0
      · by_cases hm : inR a11 a0 a1 = 0
        · simp only [if_pos hw, if_pos ha, hW hw, hA ha, Option.bind_some, range_eq, if_pos hm, hR ha hm, hI, hH]
          by_cases hd : decide (a6 ≤ (reachE a2 a4 a5 l a11).1 ∧ (reachE a2 a4 a5 l a11).2 ≤ a7) = true
          · simp only [if_pos hd, if_pos (beq2.2 ⟨rfl, rfl⟩), if_pos hw.symm, hm, awake5, Option.bind_some, if_true]
          · simp only [if_neg hd, if_pos (beq2.2 ⟨rfl, rfl⟩), if_pos hw.symm, awake5, Option.bind_some, if_true]
        · simp only [if_pos hw, if_pos ha, hW hw, hA ha, Option.bind_some, range_eq, if_neg hm, if_pos (beq2.2 ⟨rfl, rfl⟩), if_pos hw.symm, awake5, if_true]
      · simp only [if_pos hw, if_neg ha, hW hw, Option.bind_some, if_pos (beq2.2 ⟨rfl, rfl⟩), if_pos hw.symm, awake5, if_true]
    · by_cases ha : allE a0 a1 a2 a3 a4 a5 l a6 a7 = 0
      · by_cases hm : inR a11 a0 a1 = 0
        · simp only [if_neg hw, if_pos ha, hA ha, Option.bind_some, range_eq, if_pos hm, hR ha hm, hI, hH]
          by_cases hd : decide (a6 ≤ (reachE a2 a4 a5 l a11).1 ∧ (reachE a2 a4 a5 l a11).2 ≤ a7) = true
          · simp only [if_pos hd, if_pos (beq2.2 ⟨rfl, rfl⟩), hm, awake5, Option.bind_some, if_true]
          · simp only [if_neg hd, if_pos (beq2.2 ⟨rfl, rfl⟩), awake5, Option.bind_some, if_true]
        · simp only [if_neg hw, if_pos ha, hA ha, Option.bind_some, range_eq, if_neg hm, if_pos (beq2.2 ⟨rfl, rfl⟩), awake5, if_true]
      · simp only [if_neg hw, if_neg ha, Option.bind_some, if_pos (beq2.2 ⟨rfl, rfl⟩), awake5, if_true]
  · rw [if_neg (by simpa using hs), awake5]
    rfl
end Go.Proofs.YtmgbmngmmpeaaaaGreatDoor
