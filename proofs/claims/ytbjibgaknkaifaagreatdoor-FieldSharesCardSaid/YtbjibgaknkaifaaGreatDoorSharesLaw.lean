/-
  FieldShares, the plain law: Efficiency and Summed answer as the reference does. An own text.
-/
import Derived.Test.YtbjibgaknkaifaaGreatDoorFCom
import Derived.Test.YtbjibgaknkaifaaGreatDoorGcd
import Derived.Test.YtbjibgaknkaifaaGreatDoorShares2
set_option linter.unusedVariables false
set_option linter.unusedSimpArgs false
set_option linter.unnecessarySimpa false
set_option maxRecDepth 20000
namespace Go.Proofs.YtbjibgaknkaifaaGreatDoor
open Go.SX

/-! Lowest terms. -/
theorem pow62 : (2 : Nat) ^ 62 = 4611686018427387904 := by decide
theorem tdiv_nat (a b : Nat) : Int.tdiv (a : Int) (b : Int) = ((a / b : Nat) : Int) := Int.ofNat_tdiv a b
theorem lowest_eq {n : Nat} (hn : 500 ≤ n) {a b : Nat} (hb : 0 < b) (ha : a < 2 ^ 62) (hb2 : b < 2 ^ 62) : F_field_lowest n (a : Int) (b : Int) = some (((low a b).1 : Int), ((low a b).2 : Int)) := by
  unfold F_field_lowest
  have hg : 0 < Nat.gcd a b := Nat.gcd_pos_of_pos_right _ hb
  have hp : a * b < 2 ^ 124 := by
    calc a * b < 2 ^ 62 * 2 ^ 62 := Nat.mul_lt_mul'' ha hb2
      _ = 2 ^ 124 := by decide
  rw [euclid (f := F_field_lowest_L1 n (a : Int) (b : Int)) (fun x y => by
    unfold F_field_lowest_L1
    dsimp only
    by_cases h : y = 0
    · rw [if_pos h, if_pos h]
    · rw [if_neg h, if_neg h, if_pos h]) hp (by omega), Option.bind_some, if_pos (by omega), tdiv_nat, tdiv_nat]
  have h1 := (low_le a b).1
  have h2 := (low_le a b).2
  unfold low at h1 h2 ⊢
  dsimp only at h1 h2 ⊢
  generalize a / Nat.gcd a b = x at *
  generalize b / Nat.gcd a b = y at *
  rw [pow62] at ha hb2
  rw [if_pos (by unfold inI64; omega), if_pos (by unfold inI64; omega)]
theorem divisor_eq {n : Nat} (hn : 500 ≤ n) (a : Int) {b : Nat} (hb : 0 < b) (ha : a.natAbs < 2 ^ 62) (hb2 : b < 2 ^ 62) : F_ref01_Divisor n a (b : Int) = some ((Nat.gcd a.natAbs b : Nat) : Int) := by
  have hg : 0 < Nat.gcd a.natAbs b := Nat.gcd_pos_of_pos_right _ hb
  have hp : a.natAbs * b < 2 ^ 124 := by
    calc a.natAbs * b < 2 ^ 62 * 2 ^ 62 := Nat.mul_lt_mul'' ha hb2
      _ = 2 ^ 124 := by decide
  unfold F_ref01_Divisor
  by_cases h : a < 0
  · rw [if_pos h, if_pos (by unfold inI64; omega), if_neg (by omega)]
    rw [show (0 - a) = ((a.natAbs : Nat) : Int) by omega, euclid (f := F_ref01_Divisor_L2 n) (fun x y => by
      unfold F_ref01_Divisor_L2
      dsimp only
      by_cases h : y = 0
      · rw [if_pos h, if_pos h]
      · rw [if_neg h, if_neg h, if_pos h]) hp (by omega), Option.bind_some, if_neg (by omega)]
  · rw [if_neg h, if_neg (by omega)]
    rw [show a = ((a.natAbs : Nat) : Int) by omega]
    simp only [Int.natAbs_natCast]
    rw [euclid (f := F_ref01_Divisor_L4 n) (fun x y => by
      unfold F_ref01_Divisor_L4
      dsimp only
      by_cases h : y = 0
      · rw [if_pos h, if_pos h]
      · rw [if_neg h, if_neg h, if_pos h]) hp (by omega), Option.bind_some, if_neg (by omega)]
theorem refLowest_eq {n : Nat} (hn : 500 ≤ n) {a b : Nat} (hb : 0 < b) (ha : a < 2 ^ 62) (hb2 : b < 2 ^ 62) : F_ref01_Lowest n (a : Int) (b : Int) = some (((low a b).1 : Int), ((low a b).2 : Int)) := by
  unfold F_ref01_Lowest
  have hg : 0 < Nat.gcd a b := Nat.gcd_pos_of_pos_right _ hb
  rw [if_neg (by omega), divisor_eq hn (a : Int) hb (by simpa using ha) hb2, Option.bind_some, Int.natAbs_natCast, if_pos (by omega), tdiv_nat, tdiv_nat]
  have h1 := (low_le a b).1
  have h2 := (low_le a b).2
  unfold low at h1 h2 ⊢
  dsimp only at h1 h2 ⊢
  generalize a / Nat.gcd a b = x at *
  generalize b / Nat.gcd a b = y at *
  rw [pow62] at ha hb2
  rw [if_pos (by unfold inI64; omega), if_pos (by unfold inI64; omega)]

/-! Ratios. -/
abbrev Rat2 := Int × Int
def encR (r : Rat2) : D := .agg [I r.1, I r.2]
theorem unR (r : Rat2) : un_Ai2Z (encR r) = some r := rfl
theorem lightFirst2 {n : Nat} (hn : 10 ≤ n) (a b : Int) : F_light_first n [I a, I b] = some (firstNZ [a, b]) := by
  unfold F_light_first
  have := loopF_list0 (step := F_light_first_L1 n ([a, b].map I)) fG (fun _ => .inr ()) (fun i _ => (i : Int)) [a, b] (fun _ _ => True)
    (fun i s x hx _ => by
      unfold fG F_light_first_L1
      have hi := (List.getElem?_eq_some_iff.1 hx).1
      by_cases h : x = 0
      · rw [if_pos h]
        refine ⟨?_, trivial⟩
        rw [if_pos (lenlt hx), el_map hx, Option.bind_some, if_pos h, if_pos (by unfold inI64; simp at hi; omega)]; rfl
      · rw [if_neg h]
        dsimp only
        rw [if_pos (lenlt hx), el_map hx, Option.bind_some, if_neg h])
    (fun s _ => by unfold F_light_first_L1; rw [if_neg (by simp)]) (s := ()) (k := n) trivial (by simp; omega)
  rw [show [I a, I b] = [a, b].map I from rfl, show (0 : Int) = ((0 : Nat) : Int) from rfl, this, runL_first]
  by_cases h : firstNZ [a, b] = 0
  · rw [if_pos h, h]; rfl
  · rw [if_neg h]; rfl
theorem lightWithin_eq (n : Nat) (x lo hi : Int) : F_light_within n x lo hi = some (inR x lo hi) := by
  unfold F_light_within F_light_when F_light_when_2 inR
  by_cases h : x < lo
  · simp [h]
  · by_cases h2 : x > hi
    · simp [h, h2]
    · simp [h, h2]
def ratE (r : Rat2) : Int :=
  if firstNZ [inR r.1 (-999999999) 999999999, inR r.2 1 999999999] = 0 then whenI (decide (Nat.gcd r.1.natAbs r.2.natAbs ≠ 1)) 1
  else firstNZ [inR r.1 (-999999999) 999999999, inR r.2 1 999999999]
theorem ratio_eq {n : Nat} (hn : 500 ≤ n) (r : Rat2) : F_light_CheckRatio n r.1 r.2 = some (ratE r) := by
  unfold F_light_CheckRatio ratE
  rw [lightWithin_eq, Option.bind_some, lightWithin_eq, Option.bind_some, lightFirst2 (by omega), Option.bind_some]
  by_cases h : firstNZ [inR r.1 (-999999999) 999999999, inR r.2 1 999999999] = 0
  · rw [if_pos h, if_pos h]
    have h1 := inR_zero (firstNZ_zero h (inR r.1 (-999999999) 999999999) (by simp))
    have h2 := inR_zero (firstNZ_zero h (inR r.2 1 999999999) (by simp))
    have hw : IntKind.wrap .i64 (0 - r.1) = -r.1 := by rw [IntKind.wrap_i64]; omega
    have hm : maxI r.1 (-r.1) = ((r.1.natAbs : Nat) : Int) := by unfold maxI; split <;> omega
    have hp : r.1.natAbs * r.2.natAbs < 2 ^ 124 := by
      calc r.1.natAbs * r.2.natAbs < 2 ^ 62 * 2 ^ 62 := Nat.mul_lt_mul'' (by rw [pow62]; omega) (by rw [pow62]; omega)
        _ = 2 ^ 124 := by decide
    rw [hw, hm, show ((r.1.natAbs : Int), r.2) = ((r.1.natAbs : Int), ((r.2.natAbs : Nat) : Int)) by congr 1; omega]
    rw [euclid (f := F_light_CheckRatio_L1 n) (fun x y => by
      unfold F_light_CheckRatio_L1
      dsimp only
      by_cases h : y = 0
      · rw [if_pos h, if_pos h]
      · rw [if_neg h, if_neg h, if_pos h]) hp (by omega), Option.bind_some]
    unfold F_light_when_2 whenI
    by_cases hg : Nat.gcd r.1.natAbs r.2.natAbs = 1
    · simp [hg]
    · have hg2 : ¬ ((Nat.gcd r.1.natAbs r.2.natAbs : Nat) : Int) = 1 := by omega
      simp [hg, hg2]
  · rw [if_neg h, if_neg h]
theorem refRatio_eq {n : Nat} (hn : 500 ≤ n) (r : Rat2) : F_ref01_CheckRatio n r.1 r.2 = some (ratE r) := by
  unfold F_ref01_CheckRatio ratE
  rw [range_eq, Option.bind_some, range_eq, Option.bind_some, refFirst2 (by omega), Option.bind_some]
  by_cases h : firstNZ [inR r.1 (-999999999) 999999999, inR r.2 1 999999999] = 0
  · rw [if_pos h, if_pos h]
    have h1 := inR_zero (firstNZ_zero h (inR r.1 (-999999999) 999999999) (by simp))
    have h2 := inR_zero (firstNZ_zero h (inR r.2 1 999999999) (by simp))
    have hd := divisor_eq hn r.1 (b := r.2.natAbs) (by omega) (by rw [pow62]; omega) (by rw [pow62]; omega)
    rw [show ((r.2.natAbs : Nat) : Int) = r.2 by omega] at hd
    have hg : 0 < Nat.gcd r.1.natAbs r.2.natAbs := Nat.gcd_pos_of_pos_right _ (by omega)
    rw [hd, Option.bind_some, refWhen_eq, Option.bind_some]
    congr 2
    rw [Bool.eq_iff_iff]
    simp only [decide_eq_true_eq]
    omega
  · rw [if_neg h, if_neg h]
/-- The error of a share. -/
def shE (r : Rat2) : Int := firstNZ [ratE r, if r.1 < 0 then 3 else if r.1 > r.2 then 3 else whenI (decide (r.2 > 1000)) 3]
theorem shE_zero {r : Rat2} (h : shE r = 0) : 0 ≤ r.1 ∧ r.1 ≤ r.2 ∧ 1 ≤ r.2 ∧ r.2 ≤ 1000 := by
  have h1 := firstNZ_zero h (ratE r) (by simp)
  have h2 := firstNZ_zero h (if r.1 < 0 then 3 else if r.1 > r.2 then 3 else whenI (decide (r.2 > 1000)) 3) (by simp)
  unfold ratE at h1
  by_cases hq : firstNZ [inR r.1 (-999999999) 999999999, inR r.2 1 999999999] = 0
  · have h3 := inR_zero (firstNZ_zero hq (inR r.2 1 999999999) (by simp))
    unfold whenI at h2
    repeat' split at h2
    all_goals first | omega | (simp only [decide_eq_true_eq] at *; omega)
  · rw [if_neg hq] at h1; exact absurd h1 hq

/-! Products. -/
def prodN : List Rat2 → Nat × Nat → Nat × Nat
  | [], s => s
  | r :: l, s => prodN l (s.1 * r.1.natAbs, s.2 * r.2.natAbs)
def gE (s : Nat × Nat) (r : Rat2) : (Nat × Nat) ⊕ (Int ⊕ (Int × Int)) := if shE r = 0 then .inl (s.1 * r.1.natAbs, s.2 * r.2.natAbs) else .inr (.inl (shE r))
theorem runL_E : ∀ (l : List Rat2) (s : Nat × Nat), runL gE (fun s => .inr ((s.1 : Int), (s.2 : Int))) l s = if firstNZ (l.map shE) = 0 then .inr (((prodN l s).1 : Int), ((prodN l s).2 : Int)) else .inl (firstNZ (l.map shE))
  | [], s => rfl
  | r :: l, s => by
    unfold runL gE
    by_cases h : shE r = 0
    · rw [if_pos h]; simp only [List.map_cons, firstNZ, if_pos h, prodN]; exact runL_E l _
    · rw [if_neg h]; simp only [List.map_cons, firstNZ, if_neg h]
theorem pow_b {i : Nat} (h : i < 6) : 1000 ^ i * 1000 ≤ 1000000000000000000 := by
  have : 1000 ^ i * 1000 = 1000 ^ (i + 1) := rfl
  rw [this]
  exact Nat.le_trans (Nat.pow_le_pow_right (by decide) (show i + 1 ≤ 6 by omega)) (by decide)
theorem step_b {i : Nat} (hi : i < 6) {s : Nat × Nat} (h : s.1 ≤ 1000 ^ i ∧ 1 ≤ s.2 ∧ s.2 ≤ 1000 ^ i) {r : Rat2} (hr : shE r = 0) :
    (s.1 * r.1.natAbs ≤ 1000 ^ (i + 1) ∧ 1 ≤ s.2 * r.2.natAbs ∧ s.2 * r.2.natAbs ≤ 1000 ^ (i + 1)) ∧ 1000 ^ (i + 1) ≤ 1000000000000000000 ∧ s.1 ≤ 1000 ^ (i + 1) ∧
    (s.1 : Int) * r.1 = ((s.1 * r.1.natAbs : Nat) : Int) ∧ (s.2 : Int) * r.2 = ((s.2 * r.2.natAbs : Nat) : Int) := by
  obtain ⟨z1, z2, z3, z4⟩ := shE_zero hr
  have e : 1000 ^ (i + 1) = 1000 ^ i * 1000 := rfl
  have hb := pow_b hi
  refine ⟨⟨?_, ?_, ?_⟩, ?_, ?_, ?_, ?_⟩
  · rw [e]; exact Nat.mul_le_mul h.1 (by omega)
  · exact Nat.mul_le_mul h.2.1 (show 1 ≤ r.2.natAbs by omega)
  · rw [e]; exact Nat.mul_le_mul h.2.2 (by omega)
  · rw [e]; exact hb
  · rw [e]; omega
  · rw [Int.natCast_mul]; congr 1; omega
  · rw [Int.natCast_mul]; congr 1; omega
theorem eff_step (n : Nat) (hn : 500 ≤ n) {ls : List Rat2} (hl : ls.length ≤ 6) {i : Nat} {s : Nat × Nat} {r : Rat2} (hx : ls[i]? = some r) (hi : s.1 ≤ 1000 ^ i ∧ 1 ≤ s.2 ∧ s.2 ≤ 1000 ^ i) :
    F_field_Efficiency_2_L1 n (ls.map encR) ((s.1 : Int), (s.2 : Int), (i : Int)) = if shE r = 0 then some (.inl (((s.1 * r.1.natAbs : Nat) : Int), ((s.2 * r.2.natAbs : Nat) : Int), ((i + 1 : Nat) : Int))) else some (.inr (.inl (shE r))) := by
  have hlt := (List.getElem?_eq_some_iff.1 hx).1
  unfold F_field_Efficiency_2_L1
  dsimp only
  rw [if_pos (lenlt hx), el_enc unR hx, Option.bind_some, ratio_eq hn, Option.bind_some]
  have key : ∀ (e : Int), shE r = firstNZ [ratE r, e] → (if firstNZ [ratE r, e] = 0 then if inI64 ((s.1 : Int) * r.1) then if inI64 ((s.2 : Int) * r.2) then if inI64 ((i : Int) + 1) then some (Sum.inl ((s.1 : Int) * r.1, (s.2 : Int) * r.2, (i : Int) + 1)) else none else none else none else some (Sum.inr (Sum.inl (firstNZ [ratE r, e]))) : Option ((Int × Int × Int) ⊕ (Int ⊕ (Int × Int)))) =
      if shE r = 0 then some (.inl (((s.1 * r.1.natAbs : Nat) : Int), ((s.2 * r.2.natAbs : Nat) : Int), ((i + 1 : Nat) : Int))) else some (.inr (.inl (shE r))) := by
    intro e he
    rw [← he]
    by_cases h : shE r = 0
    · obtain ⟨⟨q1, q2, q3⟩, q4, q5, q6, q7⟩ := step_b (by omega) hi h
      rw [if_pos h, if_pos h, q6, q7, if_pos (by unfold inI64; omega), if_pos (by unfold inI64; omega), if_pos (by unfold inI64; omega)]; rfl
    · rw [if_neg h, if_neg h]
  by_cases h1 : r.1 < 0
  · rw [if_pos h1, show F_field_when_2 n = some 3 from rfl, Option.bind_some, first2 (by omega), Option.bind_some]
    exact key 3 (by unfold shE; rw [if_pos h1])
  · rw [if_neg h1]
    by_cases h2 : r.1 > r.2
    · rw [if_pos h2, show F_field_when_2 n = some 3 from rfl, Option.bind_some, first2 (by omega), Option.bind_some]
      exact key 3 (by unfold shE; rw [if_neg h1, if_pos h2])
    · rw [if_neg h2, when_eq, Option.bind_some, first2 (by omega), Option.bind_some]
      exact key _ (by unfold shE; rw [if_neg h1, if_neg h2])
/-- What the program answers for shares. -/
def effA (ls : List Rat2) : Int × Int × Int :=
  if (ls.length : Int) > 6 then (0, 0, 5)
  else if firstNZ (ls.map shE) = 0 then (((low (prodN ls (1, 1)).1 (prodN ls (1, 1)).2).1 : Int), ((low (prodN ls (1, 1)).1 (prodN ls (1, 1)).2).2 : Int), 0)
  else (0, 0, firstNZ (ls.map shE))
theorem prod_b : ∀ (l : List Rat2) (s : Nat × Nat) (i : Nat), i + l.length ≤ 6 → (s.1 ≤ 1000 ^ i ∧ 1 ≤ s.2 ∧ s.2 ≤ 1000 ^ i) → firstNZ (l.map shE) = 0 → (prodN l s).1 ≤ 1000 ^ (i + l.length) ∧ 1 ≤ (prodN l s).2 ∧ (prodN l s).2 ≤ 1000 ^ (i + l.length)
  | [], s, i, _, h, _ => h
  | r :: l, s, i, hl, h, hz => by
    simp only [List.length_cons] at hl
    have h0 : shE r = 0 := firstNZ_zero hz _ (by simp)
    have hz' : firstNZ (l.map shE) = 0 := by simpa only [List.map_cons, firstNZ, if_pos h0] using hz
    obtain ⟨q1, _⟩ := step_b (by omega) h h0
    have := prod_b l (s.1 * r.1.natAbs, s.2 * r.2.natAbs) (i + 1) (by omega) q1 hz'
    simp only [prodN, List.length_cons]
    rw [show i + (l.length + 1) = i + 1 + l.length by omega]
    exact this
theorem prod_62 {ls : List Rat2} (hl : ls.length ≤ 6) (hz : firstNZ (ls.map shE) = 0) : (prodN ls (1, 1)).1 < 2 ^ 62 ∧ 0 < (prodN ls (1, 1)).2 ∧ (prodN ls (1, 1)).2 < 2 ^ 62 := by
  have h := prod_b ls (1, 1) 0 (by omega) ⟨by decide, by decide, by decide⟩ hz
  have h2 : 1000 ^ (0 + ls.length) ≤ 1000000000000000000 := Nat.le_trans (Nat.pow_le_pow_right (by decide) (show 0 + ls.length ≤ 6 by omega)) (by decide)
  rw [pow62]; omega
theorem eff2_eq {n : Nat} (hn : 500 ≤ n) (ls : List Rat2) : F_field_Efficiency_2 n (ls.map encR) = some (effA ls) := by
  unfold F_field_Efficiency_2 effA
  rw [List.length_map]
  by_cases hl : (ls.length : Int) > 6
  · rw [if_pos hl, if_pos hl]
  · rw [if_neg hl, if_neg hl]
    have := loopF_list0 (step := F_field_Efficiency_2_L1 n (ls.map encR)) gE (fun s => .inr ((s.1 : Int), (s.2 : Int))) (fun i s => ((s.1 : Int), (s.2 : Int), (i : Int))) ls (fun i s => s.1 ≤ 1000 ^ i ∧ 1 ≤ s.2 ∧ s.2 ≤ 1000 ^ i)
      (fun i s r hx hi => by
        have hlt := (List.getElem?_eq_some_iff.1 hx).1
        have he := eff_step n hn (by omega) hx hi
        unfold gE
        by_cases h : shE r = 0
        · rw [if_pos h] at he ⊢
          exact ⟨he, (step_b (by omega) hi h).1⟩
        · rw [if_neg h] at he ⊢
          exact he)
      (fun s _ => by unfold F_field_Efficiency_2_L1; dsimp only; rw [if_neg (by simp)]) (s := (1, 1)) (k := n) ⟨by decide, by decide, by decide⟩ (by omega)
    rw [show ((1 : Int), (1 : Int), (0 : Int)) = (((1 : Nat) : Int), ((1 : Nat) : Int), ((0 : Nat) : Int)) from rfl, this, runL_E, Option.bind_some]
    by_cases h : firstNZ (ls.map shE) = 0
    · obtain ⟨p1, p2, p3⟩ := prod_62 (by omega) h
      rw [if_pos h, if_pos h]
      dsimp only
      rw [lowest_eq hn p2 p1 p3]; rfl
    · rw [if_neg h, if_neg h]
theorem eff0_eq (n : Nat) : F_field_Efficiency n = some (effA []) := by
  have : effA [] = (1, 1, 0) := by decide
  rw [this]; rfl

/-! The reference's shares. -/
def chkA (ls : List Rat2) : Int := if (ls.length : Int) > 6 then 5 else firstNZ (ls.map shE)
theorem chk_eq {n : Nat} (hn : 500 ≤ n) (ls : List Rat2) : F_ref04_CheckShares n (ls.map encR) = some (chkA ls) := by
  unfold F_ref04_CheckShares chkA
  rw [List.length_map]
  by_cases hl : (ls.length : Int) > 6
  · rw [if_pos hl, if_pos hl]
  · rw [if_neg hl, if_neg hl]
    have key : ∀ (l : List Rat2), runL (fun (_ : Unit) (r : Rat2) => (if shE r = 0 then .inl () else .inr (.inl (shE r)) : Unit ⊕ (Int ⊕ Unit))) (fun _ => .inr ()) l () = if firstNZ (l.map shE) = 0 then .inr () else .inl (firstNZ (l.map shE)) := by
      intro l
      induction l with
      | nil => rfl
      | cons p l ih =>
        unfold runL
        by_cases h : shE p = 0
        · rw [if_pos h]; simp only [List.map_cons, firstNZ, if_pos h]; exact ih
        · rw [if_neg h]; simp only [List.map_cons, firstNZ, if_neg h]
    have := loopF_list0 (step := F_ref04_CheckShares_L1 n (ls.map encR)) (fun (_ : Unit) (r : Rat2) => (if shE r = 0 then .inl () else .inr (.inl (shE r)) : Unit ⊕ (Int ⊕ Unit))) (fun _ => .inr ()) (fun i _ => (i : Int)) ls (fun _ _ => True)
      (fun i s r hx _ => by
        have hi := (List.getElem?_eq_some_iff.1 hx).1
        have step : F_ref04_CheckShares_L1 n (ls.map encR) (i : Int) = if shE r = 0 then some (.inl (((i + 1 : Nat)) : Int)) else some (.inr (.inl (shE r))) := by
          have kk : ∀ (e : Int), shE r = firstNZ [ratE r, e] → (if firstNZ [ratE r, e] = 0 then if inI64 ((i : Int) + 1) then some (Sum.inl ((i : Int) + 1)) else none else some (Sum.inr (Sum.inl (firstNZ [ratE r, e]))) : Option (Int ⊕ (Int ⊕ Unit))) = if shE r = 0 then some (.inl (((i + 1 : Nat)) : Int)) else some (.inr (.inl (shE r))) := by
            intro e he
            have hi2 : inI64 ((i : Int) + 1) := by unfold inI64; omega
            rw [← he]
            simp only [if_pos hi2]
            rfl
          unfold F_ref04_CheckShares_L1
          rw [if_pos (lenlt hx), el_enc unR hx, Option.bind_some, refRatio_eq hn, Option.bind_some]
          by_cases h1 : r.1 < 0
          · rw [if_pos h1, show F_ref01_When_2 n = some 3 from rfl, Option.bind_some, refFirst2 (by omega), Option.bind_some]
            exact kk 3 (by unfold shE; rw [if_pos h1])
          · rw [if_neg h1]
            by_cases h2 : r.1 > r.2
            · rw [if_pos h2, show F_ref01_When_2 n = some 3 from rfl, Option.bind_some, refFirst2 (by omega), Option.bind_some]
              exact kk 3 (by unfold shE; rw [if_neg h1, if_pos h2])
            · rw [if_neg h2, refWhen_eq, Option.bind_some, refFirst2 (by omega), Option.bind_some]
              exact kk _ (by unfold shE; rw [if_neg h1, if_neg h2])
        by_cases h : shE r = 0
        · rw [if_pos h] at step ⊢; exact ⟨step, trivial⟩
        · rw [if_neg h] at step ⊢; exact step)
      (fun s _ => by unfold F_ref04_CheckShares_L1; rw [if_neg (by simp)]) (s := ()) (k := n) trivial (by omega)
    rw [show (0 : Int) = ((0 : Nat) : Int) from rfl, this, key]
    by_cases h2 : firstNZ (ls.map shE) = 0
    · rw [if_pos h2, h2]; rfl
    · rw [if_neg h2]; rfl
def gL (s : Nat × Nat) (r : Rat2) : (Nat × Nat) ⊕ (Int × Int) := .inl (low (s.1 * r.1.natAbs) (s.2 * r.2.natAbs))
theorem runL_L : ∀ (l : List Rat2) (t : Nat × Nat), 0 < t.2 → firstNZ (l.map shE) = 0 → runL gL (fun s => ((s.1 : Int), (s.2 : Int))) l (low t.1 t.2) = (((low (prodN l t).1 (prodN l t).2).1 : Int), ((low (prodN l t).1 (prodN l t).2).2 : Int))
  | [], t, _, _ => rfl
  | r :: l, t, ht, hz => by
    have h0 : shE r = 0 := firstNZ_zero hz _ (by simp)
    have hz' : firstNZ (l.map shE) = 0 := by simpa only [List.map_cons, firstNZ, if_pos h0] using hz
    obtain ⟨z1, z2, z3, z4⟩ := shE_zero h0
    unfold runL gL
    dsimp only
    rw [low_step ht]
    exact runL_L l (t.1 * r.1.natAbs, t.2 * r.2.natAbs) (Nat.mul_pos ht (by omega)) hz'
theorem refEff_eq {n : Nat} (hn : 500 ≤ n) (ls : List Rat2) (hl : ls.length ≤ 6) (hz : firstNZ (ls.map shE) = 0) : F_ref04_Efficiency n (ls.map encR) = some (((low (prodN ls (1, 1)).1 (prodN ls (1, 1)).2).1 : Int), ((low (prodN ls (1, 1)).1 (prodN ls (1, 1)).2).2 : Int)) := by
  unfold F_ref04_Efficiency
  have hs : ∀ r, r ∈ ls → shE r = 0 := fun r hr => firstNZ_zero hz _ (List.mem_map.2 ⟨r, hr, rfl⟩)
  have := loopF_list0 (step := F_ref04_Efficiency_L1 n (ls.map encR)) gL (fun s => ((s.1 : Int), (s.2 : Int))) (fun i s => ((i : Int), (s.1 : Int), (s.2 : Int))) ls (fun i s => s.1 ≤ 1000 ^ i ∧ 1 ≤ s.2 ∧ s.2 ≤ 1000 ^ i)
    (fun i s r hx hi => by
      have hlt := (List.getElem?_eq_some_iff.1 hx).1
      have h0 := hs r (List.mem_of_getElem? hx)
      obtain ⟨⟨q1, q2, q3⟩, q4, q5, q6, q7⟩ := step_b (by omega) hi h0
      unfold gL
      dsimp only
      have hle := low_le (s.1 * r.1.natAbs) (s.2 * r.2.natAbs)
      refine ⟨?_, by omega, low_pos (by omega), by omega⟩
      unfold F_ref04_Efficiency_L1
      dsimp only
      rw [if_pos (lenlt hx), el_enc unR hx, Option.bind_some, q6, q7, if_pos (by unfold inI64; omega), if_pos (by unfold inI64; omega), refLowest_eq hn (by omega) (by rw [pow62]; omega) (by rw [pow62]; omega), Option.bind_some, if_pos (by unfold inI64; omega)]; rfl)
    (fun s _ => by unfold F_ref04_Efficiency_L1; dsimp only; rw [if_neg (by simp)]) (s := (1, 1)) (k := n) ⟨by decide, by decide, by decide⟩ (by omega)
  rw [show ((0 : Int), (1 : Int), (1 : Int)) = (((0 : Nat) : Int), ((1 : Nat) : Int), ((1 : Nat) : Int)) from rfl, this]
  have h := runL_L ls (1, 1) (by decide) hz
  rw [show low (1, 1).1 (1, 1).2 = ((1 : Nat), (1 : Nat)) by decide] at h
  rw [h]; rfl

/-! Readings. -/
abbrev Rd3 := Int × Int × Int
def encX (x : Rd3) : D := .agg [I x.1, I x.2.1, I x.2.2]
theorem unX (x : Rd3) : un_Ai3Z (encX x) = some x := rfl
theorem conv_eq {n : Nat} (hn : 500 ≤ n) (a0 : List D) (xs : List Rd3) (hl : xs.length ≤ 257) : loopF (F_law04_FieldShares_L1 n a0 (xs.map encX)) n (0, []) = some (xs.map encX) := by
  have key : ∀ (l : List Rd3) (s : List D), runL (fun (s : List D) (p : Rd3) => (.inl (s ++ [encX p]) : List D ⊕ List D)) id l s = s ++ l.map encX := by
    intro l
    induction l with
    | nil => intro s; simp [runL]
    | cons p l ih => intro s; simp [runL, ih]
  have := loopF_list0 (step := F_law04_FieldShares_L1 n a0 (xs.map encX)) (fun (s : List D) (p : Rd3) => (.inl (s ++ [encX p]) : List D ⊕ List D)) id (fun i s => ((i : Int), s)) xs (fun i s => s.length = i)
    (fun i s x hx hi => by
      have hlt := (List.getElem?_eq_some_iff.1 hx).1
      dsimp only
      refine ⟨?_, by simp [hi]⟩
      unfold F_law04_FieldShares_L1
      dsimp only
      rw [if_pos (lenlt hx), el_enc unX hx, Option.bind_some, if_pos (by unfold roomP; omega), if_pos (by unfold inI64; omega)]
      rfl)
    (fun s _ => by unfold F_law04_FieldShares_L1; dsimp only; rw [if_neg (by simp)]; rfl) (s := []) (k := n) (by rfl) (by omega)
  rw [show ((0 : Int), ([] : List D)) = (((0 : Nat) : Int), []) from rfl, this, key]
  rfl
theorem first3 {n : Nat} (hn : 10 ≤ n) (a b c : Int) : F_field_first n [I a, I b, I c] = some (firstNZ [a, b, c]) := first_eq [a, b, c] (by simp) (by simp; omega)
theorem refFirst3 {n : Nat} (hn : 10 ≤ n) (a b c : Int) : F_ref01_First n [I a, I b, I c] = some (firstNZ [a, b, c]) := refFirst_eq [a, b, c] (by simp) (by simp; omega)
def rdE (x : Rd3) : Int := firstNZ [inR x.2.1 1 64, inR x.1 0 x.2.1, inR x.2.2 0 1000]
theorem rdE_b {x : Rd3} (h : rdE x = 0) : (0 ≤ x.1 * x.2.2 ∧ x.1 * x.2.2 ≤ 64000) ∧ (0 ≤ x.2.1 * x.2.2 ∧ x.2.1 * x.2.2 ≤ 64000) := by
  have h1 := inR_zero (firstNZ_zero h (inR x.2.1 1 64) (by simp))
  have h2 := inR_zero (firstNZ_zero h (inR x.1 0 x.2.1) (by simp))
  have h3 := inR_zero (firstNZ_zero h (inR x.2.2 0 1000) (by simp))
  have a1 := Int.mul_nonneg h2.1 h3.1
  have a2 := Int.mul_nonneg (show 0 ≤ x.2.1 by omega) h3.1
  have a3 := mul_pq (g := x.1) (c := x.2.2) (p := 64) (q := 1000) (by omega) (by omega) (by omega) (by omega)
  have a4 := mul_pq (g := x.2.1) (c := x.2.2) (p := 64) (q := 1000) (by omega) (by omega) (by omega) (by omega)
  omega
def sumN : List Rd3 → Int × Int → Int × Int
  | [], s => s
  | x :: l, s => sumN l (s.1 + x.1 * x.2.2, s.2 + x.2.1 * x.2.2)
def gS (s : Int × Int) (x : Rd3) : (Int × Int) ⊕ (Int ⊕ (Int × Int)) := if rdE x = 0 then .inl (s.1 + x.1 * x.2.2, s.2 + x.2.1 * x.2.2) else .inr (.inl (rdE x))
theorem runL_S : ∀ (l : List Rd3) (s : Int × Int), runL gS (fun s => .inr s) l s = if firstNZ (l.map rdE) = 0 then .inr (sumN l s) else .inl (firstNZ (l.map rdE))
  | [], s => rfl
  | r :: l, s => by
    unfold runL gS
    by_cases h : rdE r = 0
    · rw [if_pos h]; simp only [List.map_cons, firstNZ, if_pos h, sumN]; exact runL_S l _
    · rw [if_neg h]; simp only [List.map_cons, firstNZ, if_neg h]
theorem sum_b : ∀ (l : List Rd3) (s : Int × Int) (i : Nat), ((0 ≤ s.1 ∧ s.1 ≤ 64000 * (i : Int)) ∧ (0 ≤ s.2 ∧ s.2 ≤ 64000 * (i : Int))) → firstNZ (l.map rdE) = 0 → (0 ≤ (sumN l s).1 ∧ (sumN l s).1 ≤ 64000 * ((i + l.length : Nat) : Int)) ∧ (0 ≤ (sumN l s).2 ∧ (sumN l s).2 ≤ 64000 * ((i + l.length : Nat) : Int))
  | [], s, i, h, _ => h
  | r :: l, s, i, h, hz => by
    have h0 : rdE r = 0 := firstNZ_zero hz _ (by simp)
    have hz' : firstNZ (l.map rdE) = 0 := by simpa only [List.map_cons, firstNZ, if_pos h0] using hz
    have hb := rdE_b h0
    have := sum_b l (s.1 + r.1 * r.2.2, s.2 + r.2.1 * r.2.2) (i + 1) (by dsimp only; omega) hz'
    simp only [sumN, List.length_cons]
    rw [show i + (l.length + 1) = i + 1 + l.length by omega]
    exact this
def sumA (xs : List Rd3) : Int × Int × Int :=
  if (sumN xs (0, 0)).2 = 0 then (0, 0, 7)
  else (((low (sumN xs (0, 0)).1.toNat (sumN xs (0, 0)).2.toNat).1 : Int), ((low (sumN xs (0, 0)).1.toNat (sumN xs (0, 0)).2.toNat).2 : Int), 0)
def rdA (xs : List Rd3) : Int := if (xs.length : Int) > 256 then 5 else firstNZ (xs.map rdE)
theorem summed_eq {n : Nat} (hn : 500 ≤ n) (xs : List Rd3) (hl : xs.length ≤ 257) : F_field_Summed n (xs.map encX) = some (if rdA xs = 0 then sumA xs else (0, 0, rdA xs)) := by
  unfold F_field_Summed rdA
  rw [List.length_map]
  by_cases h6 : (xs.length : Int) > 256
  · rw [if_pos h6, if_pos h6]; rfl
  · rw [if_neg h6, if_neg h6]
    have := loopF_list0 (step := F_field_Summed_L1 n (xs.map encX)) gS (fun s => .inr s) (fun i s => (s.1, s.2, (i : Int))) xs (fun i s => (0 ≤ s.1 ∧ s.1 ≤ 64000 * (i : Int)) ∧ (0 ≤ s.2 ∧ s.2 ≤ 64000 * (i : Int)))
      (fun i s x hx hi => by
        have hlt := (List.getElem?_eq_some_iff.1 hx).1
        unfold gS F_field_Summed_L1
        dsimp only at hi ⊢
        by_cases h : rdE x = 0
        · rw [if_pos h]
          have hb := rdE_b h
          refine ⟨?_, by dsimp only; omega⟩
          rw [if_pos (lenlt hx), el_enc unX hx, Option.bind_some, within_eq, Option.bind_some, within_eq, Option.bind_some, within_eq, Option.bind_some, first3 (by omega), Option.bind_some, if_pos (show firstNZ _ = 0 from h), if_pos (by unfold inI64; omega), if_pos (by unfold inI64; omega), if_pos (by unfold inI64; omega), if_pos (by unfold inI64; omega), if_pos (by unfold inI64; omega)]; rfl
        · rw [if_neg h]
          dsimp only
          rw [if_pos (lenlt hx), el_enc unX hx, Option.bind_some, within_eq, Option.bind_some, within_eq, Option.bind_some, within_eq, Option.bind_some, first3 (by omega), Option.bind_some, if_neg (show ¬ firstNZ _ = 0 from h)]; rfl)
      (fun s _ => by unfold F_field_Summed_L1; dsimp only; rw [if_neg (by simp)]) (s := (0, 0)) (k := n) (by simp) (by omega)
    rw [show ((0 : Int), (0 : Int), (0 : Int)) = ((0 : Int), (0 : Int), ((0 : Nat) : Int)) from rfl, this, runL_S, Option.bind_some]
    by_cases h : firstNZ (xs.map rdE) = 0
    · have hb := sum_b xs (0, 0) 0 (by simp) h
      have hl2 : (xs.length : Int) ≤ 256 := by omega
      rw [if_pos h, if_pos h]
      dsimp only
      unfold sumA
      by_cases h0 : (sumN xs (0, 0)).2 = 0
      · rw [if_pos h0, if_pos h0]
      · have e1 : (sumN xs (0, 0)).1 = (((sumN xs (0, 0)).1.toNat : Nat) : Int) := by omega
        have e2 : (sumN xs (0, 0)).2 = (((sumN xs (0, 0)).2.toNat : Nat) : Int) := by omega
        have hq := lowest_eq hn (a := (sumN xs (0, 0)).1.toNat) (b := (sumN xs (0, 0)).2.toNat) (by omega) (by rw [pow62]; omega) (by rw [pow62]; omega)
        rw [← e1, ← e2] at hq
        rw [if_neg h0, if_neg h0, hq]; rfl
    · rw [if_neg h, if_neg h]
theorem readings_eq {n : Nat} (hn : 500 ≤ n) (xs : List Rd3) : F_ref04_CheckReadings n (xs.map encX) = some (rdA xs) := by
  unfold F_ref04_CheckReadings rdA
  rw [List.length_map]
  by_cases hl : (xs.length : Int) > 256
  · rw [if_pos hl, if_pos hl]
  · rw [if_neg hl, if_neg hl]
    have key : ∀ (l : List Rd3), runL (fun (_ : Unit) (r : Rd3) => (if rdE r = 0 then .inl () else .inr (.inl (rdE r)) : Unit ⊕ (Int ⊕ Unit))) (fun _ => .inr ()) l () = if firstNZ (l.map rdE) = 0 then .inr () else .inl (firstNZ (l.map rdE)) := by
      intro l
      induction l with
      | nil => rfl
      | cons p l ih =>
        unfold runL
        by_cases h : rdE p = 0
        · rw [if_pos h]; simp only [List.map_cons, firstNZ, if_pos h]; exact ih
        · rw [if_neg h]; simp only [List.map_cons, firstNZ, if_neg h]
    have := loopF_list0 (step := F_ref04_CheckReadings_L1 n (xs.map encX)) (fun (_ : Unit) (r : Rd3) => (if rdE r = 0 then .inl () else .inr (.inl (rdE r)) : Unit ⊕ (Int ⊕ Unit))) (fun _ => .inr ()) (fun i _ => (i : Int)) xs (fun _ _ => True)
      (fun i s x hx _ => by
        have hi := (List.getElem?_eq_some_iff.1 hx).1
        unfold F_ref04_CheckReadings_L1
        by_cases h : rdE x = 0
        · rw [if_pos h]
          refine ⟨?_, trivial⟩
          rw [if_pos (lenlt hx), el_enc unX hx, Option.bind_some, range_eq, Option.bind_some, range_eq, Option.bind_some, range_eq, Option.bind_some, refFirst3 (by omega), Option.bind_some, if_pos (show firstNZ _ = 0 from h), if_pos (by unfold inI64; omega)]; rfl
        · rw [if_neg h]
          dsimp only
          rw [if_pos (lenlt hx), el_enc unX hx, Option.bind_some, range_eq, Option.bind_some, range_eq, Option.bind_some, range_eq, Option.bind_some, refFirst3 (by omega), Option.bind_some, if_neg (show ¬ firstNZ _ = 0 from h)]; rfl)
      (fun s _ => by unfold F_ref04_CheckReadings_L1; rw [if_neg (by simp)]) (s := ()) (k := n) trivial (by omega)
    rw [show (0 : Int) = ((0 : Nat) : Int) from rfl, this, key]
    by_cases h2 : firstNZ (xs.map rdE) = 0
    · rw [if_pos h2, h2]; rfl
    · rw [if_neg h2]; rfl
theorem refSummed_eq {n : Nat} (hn : 500 ≤ n) (xs : List Rd3) (hl : xs.length ≤ 257) (hz : rdA xs = 0) : F_ref04_Summed n (xs.map encX) = some (sumA xs) := by
  unfold rdA at hz
  by_cases h6 : (xs.length : Int) > 256
  · rw [if_pos h6] at hz; omega
  rw [if_neg h6] at hz
  unfold F_ref04_Summed
  have hs : ∀ r, r ∈ xs → rdE r = 0 := fun r hr => firstNZ_zero hz _ (List.mem_map.2 ⟨r, hr, rfl⟩)
  have key : ∀ (l : List Rd3) (s : Int × Int), runL (fun (s : Int × Int) (x : Rd3) => (.inl (s.1 + x.1 * x.2.2, s.2 + x.2.1 * x.2.2) : (Int × Int) ⊕ (Int × Int))) id l s = sumN l s := by
    intro l
    induction l with
    | nil => intro s; rfl
    | cons p l ih => intro s; unfold runL; simp only [sumN]; exact ih _
  have := loopF_list0 (step := F_ref04_Summed_L1 n (xs.map encX)) (fun (s : Int × Int) (x : Rd3) => (.inl (s.1 + x.1 * x.2.2, s.2 + x.2.1 * x.2.2) : (Int × Int) ⊕ (Int × Int))) id (fun i s => (s.1, s.2, (i : Int))) xs (fun i s => (0 ≤ s.1 ∧ s.1 ≤ 64000 * (i : Int)) ∧ (0 ≤ s.2 ∧ s.2 ≤ 64000 * (i : Int)))
    (fun i s x hx hi => by
      have hlt := (List.getElem?_eq_some_iff.1 hx).1
      have hb := rdE_b (hs x (List.mem_of_getElem? hx))
      unfold F_ref04_Summed_L1
      dsimp only at hi ⊢
      refine ⟨?_, by omega⟩
      rw [if_pos (lenlt hx), el_enc unX hx, Option.bind_some, if_pos (by unfold inI64; omega), if_pos (by unfold inI64; omega), if_pos (by unfold inI64; omega), if_pos (by unfold inI64; omega), if_pos (by unfold inI64; omega)]; rfl)
    (fun s _ => by unfold F_ref04_Summed_L1; dsimp only; rw [if_neg (by simp)]; rfl) (s := (0, 0)) (k := n) (by simp) (by omega)
  rw [show ((0 : Int), (0 : Int), (0 : Int)) = ((0 : Int), (0 : Int), ((0 : Nat) : Int)) from rfl, this, key, Option.bind_some]
  have hb := sum_b xs (0, 0) 0 (by simp) hz
  have hl2 : (xs.length : Int) ≤ 256 := by omega
  unfold sumA
  by_cases h0 : (sumN xs (0, 0)).2 = 0
  · rw [if_pos h0, if_pos h0]
  · have e1 : (sumN xs (0, 0)).1 = (((sumN xs (0, 0)).1.toNat : Nat) : Int) := by omega
    have e2 : (sumN xs (0, 0)).2 = (((sumN xs (0, 0)).2.toNat : Nat) : Int) := by omega
    have hq := refLowest_eq hn (a := (sumN xs (0, 0)).1.toNat) (b := (sumN xs (0, 0)).2.toNat) (by omega) (by rw [pow62]; omega) (by rw [pow62]; omega)
    rw [← e1, ← e2] at hq
    rw [if_neg h0, if_neg h0, hq]; rfl

/-! The law. -/
theorem effA_chk (ls : List Rat2) : effA ls = if chkA ls = 0 then (((low (prodN ls (1, 1)).1 (prodN ls (1, 1)).2).1 : Int), ((low (prodN ls (1, 1)).1 (prodN ls (1, 1)).2).2 : Int), 0) else (0, 0, chkA ls) := by
  unfold effA chkA
  by_cases h : (ls.length : Int) > 6
  · simp [h]
  · rw [if_neg h, if_neg h]
theorem chkA_zero {ls : List Rat2} (h : chkA ls = 0) : ls.length ≤ 6 ∧ firstNZ (ls.map shE) = 0 := by
  unfold chkA at h
  by_cases hl : (ls.length : Int) > 6
  · rw [if_pos hl] at h; omega
  · rw [if_neg hl] at h; exact ⟨by omega, h⟩
theorem law_FieldShares (ls : List Rat2) (xs : List Rd3) : F_law04_FieldShares 1000 (ls.map encR) (xs.map encX) = some true := by
  unfold F_law04_FieldShares
  rw [show F_law04_awake 1000 = some true from rfl, Option.bind_some, if_pos rfl, List.length_map, List.length_map]
  by_cases h8 : (ls.length : Int) > 8
  · rw [if_pos h8]
  rw [if_neg h8]
  by_cases hx : xs.length ≤ 257
  · have hc := conv_eq (n := 1000) (by omega) (ls.map encR) xs hx
    have hs := summed_eq (n := 1000) (by omega) xs hx
    have hr := readings_eq (n := 1000) (by omega) xs
    have hk := chk_eq (n := 1000) (by omega) ls
    have he : (if isNilL (ls.map encR) = true then F_field_Efficiency 1000 else F_field_Efficiency_2 1000 (ls.map encR)) = some (effA ls) := by
      cases ls with
      | nil => exact eff0_eq 1000
      | cons r l => exact eff2_eq (by omega) (r :: l)
    have hR : rdA xs = 0 → F_ref04_Summed 1000 (xs.map encX) = some (sumA xs) := refSummed_eq (by omega) xs hx
    have hE : chkA ls = 0 → F_ref04_Efficiency 1000 (ls.map encR) = some (((low (prodN ls (1, 1)).1 (prodN ls (1, 1)).2).1 : Int), ((low (prodN ls (1, 1)).1 (prodN ls (1, 1)).2).2 : Int)) := fun h => refEff_eq (by omega) ls (chkA_zero h).1 (chkA_zero h).2
    rw [effA_chk] at he
    have hroom : roomP 16 (0 + ls.length) := by unfold roomP; omega
    rw [hc]
    simp only [Option.bind_some, if_pos hroom, hs, hr, hk]
    generalize (((low (prodN ls (1, 1)).1 (prodN ls (1, 1)).2).1 : Nat) : Int) = p at *
    generalize (((low (prodN ls (1, 1)).1 (prodN ls (1, 1)).2).2 : Nat) : Int) = q at *
    generalize sumA xs = S at *
    generalize rdA xs = R at *
    generalize chkA ls = C at *
    have go : ∀ (E : Option (Int × Int × Int)), E = some (if C = 0 then (p, q, 0) else (0, 0, C)) → True := fun _ _ => trivial
    by_cases hn : isNilL (ls.map encR) = true
    · rw [if_pos hn] at he
      simp only [if_pos hn, he, Option.bind_some]
      by_cases hC : C = 0 <;> by_cases hRz : R = 0 <;> simp [hC, hRz, hE, hR]
    · rw [if_neg hn] at he
      simp only [if_neg hn, he, Option.bind_some]
      by_cases hC : C = 0 <;> by_cases hRz : R = 0 <;> simp [hC, hRz, hE, hR]
  · rw [if_pos (by omega), if_neg (by omega)]
end Go.Proofs.YtbjibgaknkaifaaGreatDoor
