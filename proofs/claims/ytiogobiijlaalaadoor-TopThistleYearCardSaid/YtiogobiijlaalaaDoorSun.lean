/-
  Plain lemmas about rays: the greatest common divisor with signs, vectors reduced, whole lengths, normals and frames. An own text.
-/
import Derived.Test.YtiogobiijlaalaaDoorCom3
set_option linter.unusedVariables false
set_option maxRecDepth 20000
namespace Go.Proofs.YtiogobiijlaalaaDoor
open Go.SX

theorem sfirst (n : Nat) (l : List D) : F_sun_first n l = F_field_first n l := rfl
theorem lfirst (n : Nat) (l : List D) : F_light_first n l = F_field_first n l := rfl
theorem sdot (n : Nat) (a b c d e f : Int) : F_sun_dot_4 n a b c d e f = F_field_dot n a b c d e f := rfl
theorem swhen (n : Nat) (b : Bool) (e : Int) : F_sun_when n b e = some (whenI b e) := when_eq n b e
theorem lwhen (n : Nat) (b : Bool) (e : Int) : F_light_when_4 n b e = some (whenI b e) := when_eq n b e
theorem lwithin_eq (n : Nat) (x lo hi : Int) : F_light_within_4 n x lo hi = some (inR x lo hi) := within_eq n x lo hi
theorem swithin_eq (n : Nat) (x lo hi : Int) : F_sun_within n x lo hi = some (inR x lo hi) := within_eq n x lo hi
theorem inR_ok {x lo hi : Int} (h : lo ≤ x ∧ x ≤ hi) : inR x lo hi = 0 := by unfold inR; rw [if_neg (by omega), if_neg (by omega)]

/-! Euclid with signs. -/
theorem euclidS {f : Int × Int → Option ((Int × Int) ⊕ Int)} (hf : ∀ a b : Int, f (a, b) = if b = 0 then some (.inr a) else some (.inl (b, Int.tmod a b))) :
    ∀ (N : Nat) (a b : Int), b.natAbs ≤ a.natAbs → a.natAbs * b.natAbs < 2 ^ N → ∀ k, N + 2 ≤ k → ∃ t : Int, loopF f k (a, b) = some t ∧ t.natAbs = Nat.gcd a.natAbs b.natAbs := by
  intro N
  induction N with
  | zero =>
    intro a b hb hp k hk
    obtain ⟨k, rfl⟩ : ∃ j, k = j + 1 := ⟨k - 1, by omega⟩
    by_cases h0 : b = 0
    · exact ⟨a, loopF_r (by rw [hf, if_pos h0]), by rw [h0]; simp⟩
    · exfalso
      have : 1 * 1 ≤ a.natAbs * b.natAbs := Nat.mul_le_mul (by omega) (by omega)
      simp at hp
      omega
  | succ N ih =>
    intro a b hb hp k hk
    obtain ⟨k, rfl⟩ : ∃ j, k = j + 1 := ⟨k - 1, by omega⟩
    by_cases h0 : b = 0
    · exact ⟨a, loopF_r (by rw [hf, if_pos h0]), by rw [h0]; simp⟩
    · have hne : b.natAbs ≠ 0 := by omega
      rw [loopF_l (s' := (b, Int.tmod a b)) (by rw [hf, if_neg h0])]
      have h1 := Nat.mod_lt a.natAbs (Nat.pos_of_ne_zero hne)
      have h2 := gcd_step hne hb
      have e : (Int.tmod a b).natAbs = a.natAbs % b.natAbs := Int.natAbs_tmod a b
      have h3 : 2 * (b.natAbs * (a.natAbs % b.natAbs)) ≤ a.natAbs * b.natAbs := by
        calc 2 * (b.natAbs * (a.natAbs % b.natAbs)) = b.natAbs * (2 * (a.natAbs % b.natAbs)) := by rw [Nat.mul_left_comm]
          _ ≤ b.natAbs * a.natAbs := Nat.mul_le_mul_left _ (by omega)
          _ = a.natAbs * b.natAbs := Nat.mul_comm _ _
      obtain ⟨t, g1, g2⟩ := ih b (Int.tmod a b) (by rw [e]; omega) (by rw [e]; rw [Nat.pow_succ] at hp; omega) k (by omega)
      refine ⟨t, g1, ?_⟩
      rw [g2, e, Nat.gcd_comm a.natAbs b.natAbs, Nat.gcd_rec b.natAbs a.natAbs, Nat.gcd_comm]
theorem euclidA {f : Int × Int → Option ((Int × Int) ⊕ Int)} (hf : ∀ a b : Int, f (a, b) = if b = 0 then some (.inr a) else some (.inl (b, Int.tmod a b)))
    {N : Nat} {a b : Int} (hp : a.natAbs * b.natAbs < 2 ^ N) {k : Nat} (hk : N + 3 ≤ k) : ∃ t : Int, loopF f k (a, b) = some t ∧ t.natAbs = Nat.gcd a.natAbs b.natAbs := by
  by_cases hb : b.natAbs ≤ a.natAbs
  · exact euclidS hf N a b hb hp k (by omega)
  · obtain ⟨k, rfl⟩ : ∃ j, k = j + 1 := ⟨k - 1, by omega⟩
    have h0 : b ≠ 0 := by intro e; subst e; simp at hb
    have e : (Int.tmod a b).natAbs = a.natAbs := by rw [Int.natAbs_tmod, Nat.mod_eq_of_lt (by omega)]
    rw [loopF_l (s' := (b, Int.tmod a b)) (by rw [hf, if_neg h0])]
    obtain ⟨t, g1, g2⟩ := euclidS hf N b (Int.tmod a b) (by rw [e]; omega) (by rw [e, Nat.mul_comm]; exact hp) k (by omega)
    exact ⟨t, g1, by rw [g2, e, Nat.gcd_comm]⟩
theorem gcd_le_sum (a b : Nat) : Nat.gcd a b ≤ a + b := by
  by_cases h : a = 0
  · subst h; simp
  · have := Nat.gcd_le_left b (Nat.pos_of_ne_zero h); omega
theorem pow120 : (2 : Nat) ^ 120 = 1329227995784915872903807060280344576 := by decide
theorem mul_lt120 {x y : Nat} (hx : x ≤ 1000000000000000000) (hy : y ≤ 1000000000000000000) : x * y < 2 ^ 120 := by
  have := Nat.mul_le_mul hx hy
  rw [pow120]; omega
theorem commonStep (n : Nat) (a b : Int) : F_sun_common_L1 n (a, b) = if b = 0 then some (.inr a) else some (.inl (b, Int.tmod a b)) := by
  unfold F_sun_common_L1
  dsimp only
  by_cases h : b = 0
  · rw [if_pos h, if_pos h]
  · rw [if_neg h, if_neg h, if_pos h]
theorem common_eq {n : Nat} (hn : 200 ≤ n) {a b : Int} (ha : a.natAbs ≤ 1000000000000000000) (hb : b.natAbs ≤ 1000000000000000000) : F_sun_common n a b = some ((Nat.gcd a.natAbs b.natAbs : Nat) : Int) := by
  obtain ⟨t, g1, g2⟩ := euclidA (commonStep n) (N := 120) (a := a) (b := b) (mul_lt120 ha hb) (k := n) (by omega)
  have hg := gcd_le_sum a.natAbs b.natAbs
  unfold F_sun_common
  rw [g1, Option.bind_some, wrapN_eq (by unfold L; omega), ← g2]
  unfold maxI
  congr 1
  split <;> omega

/-! Vectors reduced. -/
def G3 (v : Vec) : Nat := Nat.gcd (Nat.gcd v.1.natAbs v.2.1.natAbs) v.2.2.natAbs
def red (v : Vec) : Vec := if G3 v = 0 then v else (Int.tdiv v.1 (G3 v : Int), Int.tdiv v.2.1 (G3 v : Int), Int.tdiv v.2.2 (G3 v : Int))
theorem G3_dvd (v : Vec) : ((G3 v : Nat) : Int) ∣ v.1 ∧ ((G3 v : Nat) : Int) ∣ v.2.1 ∧ ((G3 v : Nat) : Int) ∣ v.2.2 := by
  unfold G3
  refine ⟨Int.ofNat_dvd_left.2 ?_, Int.ofNat_dvd_left.2 ?_, Int.ofNat_dvd_left.2 ?_⟩
  · exact Nat.dvd_trans (Nat.gcd_dvd_left _ _) (Nat.gcd_dvd_left _ _)
  · exact Nat.dvd_trans (Nat.gcd_dvd_left _ _) (Nat.gcd_dvd_right _ _)
  · exact Nat.gcd_dvd_right _ _
theorem G3_zero {v : Vec} (h : G3 v = 0) : v.1 = 0 ∧ v.2.1 = 0 ∧ v.2.2 = 0 := by
  unfold G3 at h
  rw [Nat.gcd_eq_zero_iff, Nat.gcd_eq_zero_iff] at h
  omega
theorem zeroB_iff {v : Vec} : zeroB v = true ↔ v.1 = 0 ∧ v.2.1 = 0 ∧ v.2.2 = 0 := by
  unfold zeroB
  simp
theorem G3_pos {v : Vec} (h : zeroB v = false) : 0 < G3 v := by
  rcases Nat.eq_zero_or_pos (G3 v) with h0 | h0
  · have := zeroB_iff.2 (G3_zero h0)
    rw [h] at this; cases this
  · exact h0
theorem red_mul {v : Vec} (h : 0 < G3 v) : vtimes (G3 v : Int) (red v) = v := by
  obtain ⟨d1, d2, d3⟩ := G3_dvd v
  unfold red
  rw [if_neg (by omega)]
  unfold vtimes
  dsimp only
  rw [Int.mul_tdiv_cancel' d1, Int.mul_tdiv_cancel' d2, Int.mul_tdiv_cancel' d3]
theorem tdiv_abs (x : Int) (g : Nat) : (Int.tdiv x (g : Int)).natAbs ≤ x.natAbs := by
  rw [Int.natAbs_tdiv]
  exact Nat.div_le_self _ _
theorem Bd.red {m : Int} {v : Vec} (h : Bd m v) : Bd m (red v) := by
  unfold Go.Proofs.YtiogobiijlaalaaDoor.red
  split
  · exact h
  · have h1 := tdiv_abs v.1 (G3 v)
    have h2 := tdiv_abs v.2.1 (G3 v)
    have h3 := tdiv_abs v.2.2 (G3 v)
    unfold Bd at h ⊢
    dsimp only
    omega
theorem red_nz {v : Vec} (h : zeroB v = false) : zeroB (red v) = false := by
  cases hz : zeroB (red v) with
  | false => rfl
  | true =>
    obtain ⟨a, b, c⟩ := zeroB_iff.1 hz
    have := red_mul (G3_pos h)
    unfold vtimes at this
    rw [a, b, c] at this
    simp only [Int.mul_zero] at this
    rw [← this] at h
    cases h
theorem reduced_eq {n : Nat} (hn : 200 ≤ n) {v : Vec} (hb : Bd 1000000000 v) : F_sun_reduced n v.1 v.2.1 v.2.2 = some (red v) := by
  obtain ⟨b1, b2, b3⟩ := hb
  have g1 := gcd_le_sum v.1.natAbs v.2.1.natAbs
  have c1 := common_eq hn (a := 0) (b := v.1) (by decide) (by omega)
  rw [show (0 : Int).natAbs = 0 from rfl, Nat.gcd_zero_left] at c1
  have c2 := common_eq hn (a := ((v.1.natAbs : Nat) : Int)) (b := v.2.1) (by omega) (by omega)
  rw [Int.natAbs_natCast] at c2
  have c3 := common_eq hn (a := ((Nat.gcd v.1.natAbs v.2.1.natAbs : Nat) : Int)) (b := v.2.2) (by omega) (by omega)
  rw [Int.natAbs_natCast] at c3
  unfold F_sun_reduced
  rw [show F_sun_parts_3 n v.1 v.2.1 v.2.2 = some v from rfl, Option.bind_some, c1, Option.bind_some, c2, Option.bind_some, c3, Option.bind_some]
  show (if ((G3 v : Nat) : Int) = 0 then _ else _) = _
  unfold red
  by_cases h : G3 v = 0
  · rw [if_pos (by omega), if_pos h]
  · have h1 := tdiv_abs v.1 (G3 v)
    have h2 := tdiv_abs v.2.1 (G3 v)
    have h3 := tdiv_abs v.2.2 (G3 v)
    rw [if_neg (by omega), if_neg h, if_pos (by show ((G3 v : Nat) : Int) ≠ 0; omega)]
    show (if inI64 (Int.tdiv v.1 (G3 v : Int)) then _ else _) = _
    rw [if_pos (by unfold inI64; omega)]
    show (if inI64 (Int.tdiv v.2.1 (G3 v : Int)) then _ else _) = _
    rw [if_pos (by unfold inI64; omega)]
    show (if inI64 (Int.tdiv v.2.2 (G3 v : Int)) then _ else _) = _
    rw [if_pos (by unfold inI64; omega)]
    rfl

/-! Rays. -/
theorem maxI_le {a b m : Int} (ha : a ≤ m) (hb : b ≤ m) : maxI a b ≤ m := by unfold maxI; split <;> assumption
theorem far_le (n : Nat) {v : Vec} {m : Int} (h : Bd m v) (hm : 0 ≤ m ∧ m ≤ L) : ∃ t, F_sun_far_3 n v.1 v.2.1 v.2.2 = some t ∧ t ≤ m := by
  obtain ⟨b1, b2, b3⟩ := h
  have hl := hm.2
  unfold L at hl
  refine ⟨_, rfl, ?_⟩
  dsimp only
  rw [wrapN_eq (by unfold L; omega), wrapN_eq (by unfold L; omega), wrapN_eq (by unfold L; omega)]
  exact maxI_le (maxI_le (maxI_le (maxI_le (maxI_le (maxI_le hm.1 (by omega)) (by omega)) (by omega)) (by omega)) (by omega)) (by omega)
theorem ray_ok {n : Nat} (hn : 10 ≤ n) {v : Vec} (hb : Bd 4096 v) (hz : zeroB v = false) : F_sun_CheckRay_3 n v.1 v.2.1 v.2.2 = some 0 := by
  obtain ⟨t, h1, h2⟩ := far_le n hb ⟨by decide, by decide⟩
  obtain ⟨b1, b2, b3⟩ := hb
  have hz' : ((v.1 == 0) && ((v.2.1 == 0) && ((v.2.2 == 0) && true))) = false := hz
  unfold F_sun_CheckRay_3 F_light_CheckDirection_3 F_light_CheckVector_3
  rw [lwithin_eq, Option.bind_some, lwithin_eq, Option.bind_some, lwithin_eq, Option.bind_some, inR_ok (by omega), inR_ok (by omega), inR_ok (by omega), lfirst, first3 hn, Option.bind_some, Option.bind_some, lwhen, Option.bind_some, hz', lfirst, first2 hn, Option.bind_some, Option.bind_some,
    h1, Option.bind_some, swhen, Option.bind_some, decide_eq_false (by omega), sfirst, first2 hn]
  rfl
/-! The reference's divisor. -/
theorem divStep1 (n : Nat) (a b : Int) : F_ref01_Divisor_L1 n (a, b) = if b = 0 then some (.inr a) else some (.inl (b, Int.tmod a b)) := commonStep n a b
theorem divStep2 (n : Nat) (a b : Int) : F_ref01_Divisor_L2 n (a, b) = if b = 0 then some (.inr a) else some (.inl (b, Int.tmod a b)) := commonStep n a b
theorem divStep3 (n : Nat) (a b : Int) : F_ref01_Divisor_L3 n (a, b) = if b = 0 then some (.inr a) else some (.inl (b, Int.tmod a b)) := commonStep n a b
theorem divStep4 (n : Nat) (a b : Int) : F_ref01_Divisor_L4 n (a, b) = if b = 0 then some (.inr a) else some (.inl (b, Int.tmod a b)) := commonStep n a b
theorem loop_gcd {f : Int × Int → Option ((Int × Int) ⊕ Int)} (hf : ∀ a b : Int, f (a, b) = if b = 0 then some (.inr a) else some (.inl (b, Int.tmod a b))) {n : Nat} (hn : 200 ≤ n) {a b : Int} (ha : 0 ≤ a ∧ a ≤ 1000000000000000000) (hb : 0 ≤ b ∧ b ≤ 1000000000000000000) : loopF f n (a, b) = some ((Nat.gcd a.natAbs b.natAbs : Nat) : Int) := by
  have := euclid hf (N := 120) (a := a.natAbs) (b := b.natAbs) (mul_lt120 (by omega) (by omega)) (k := n) (by omega)
  rw [show ((a.natAbs : Nat) : Int) = a by omega, show ((b.natAbs : Nat) : Int) = b by omega] at this
  exact this
theorem divisor_eq {n : Nat} (hn : 200 ≤ n) {a b : Int} (ha : a.natAbs ≤ 1000000000000000000) (hb : b.natAbs ≤ 1000000000000000000) (h : ¬ (a = 0 ∧ b = 0)) : F_ref01_Divisor n a b = some ((Nat.gcd a.natAbs b.natAbs : Nat) : Int) := by
  have hg : ¬ ((Nat.gcd a.natAbs b.natAbs : Nat) : Int) = 0 := by
    intro e
    have : Nat.gcd a.natAbs b.natAbs = 0 := by omega
    rw [Nat.gcd_eq_zero_iff] at this
    omega
  have na : (0 - a).natAbs = a.natAbs := by omega
  have nb : (0 - b).natAbs = b.natAbs := by omega
  unfold F_ref01_Divisor
  by_cases h1 : a < 0
  · rw [if_pos h1, if_pos (by unfold inI64; omega)]
    by_cases h2 : b < 0
    · rw [if_pos h2, if_pos (by unfold inI64; omega), loop_gcd (divStep1 n) hn (by omega) (by omega), Option.bind_some, na, nb, if_neg hg]
    · rw [if_neg h2, loop_gcd (divStep2 n) hn (by omega) (by omega), Option.bind_some, na, if_neg hg]
  · rw [if_neg h1]
    by_cases h2 : b < 0
    · rw [if_pos h2, if_pos (by unfold inI64; omega), loop_gcd (divStep3 n) hn (by omega) (by omega), Option.bind_some, nb, if_neg hg]
    · rw [if_neg h2, loop_gcd (divStep4 n) hn (by omega) (by omega), Option.bind_some, if_neg hg]
/-! The normal of two vectors. -/
/-! The frame of a ray. -/
end Go.Proofs.YtiogobiijlaalaaDoor
