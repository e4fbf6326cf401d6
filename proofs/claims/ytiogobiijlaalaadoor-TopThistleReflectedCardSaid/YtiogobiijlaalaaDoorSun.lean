/-
  Plain lemmas about rays: the greatest common divisor with signs, vectors reduced, whole lengths, normals and frames. An own text.
-/
import Derived.Test.YtiogobiijlaalaaDoorCom3
set_option linter.unusedVariables false
set_option linter.unusedSimpArgs false
set_option linter.unnecessarySimpa false
set_option maxRecDepth 20000
namespace Go.Proofs.YtiogobiijlaalaaDoor
open Go.SX

theorem sfirst (n : Nat) (l : List D) : F_sun_first n l = F_field_first n l := rfl
theorem lfirst (n : Nat) (l : List D) : F_light_first n l = F_field_first n l := rfl
theorem sdot (n : Nat) (a b c d e f : Int) : F_sun_dot_4 n a b c d e f = F_field_dot n a b c d e f := rfl
theorem scross (n : Nat) (a b c d e f : Int) : F_sun_cross_2 n a b c d e f = F_field_cross n a b c d e f := rfl
theorem swhen (n : Nat) (b : Bool) (e : Int) : F_sun_when n b e = some (whenI b e) := when_eq n b e
theorem lwhen (n : Nat) (b : Bool) (e : Int) : F_light_when_4 n b e = some (whenI b e) := when_eq n b e
theorem lwithin_eq (n : Nat) (x lo hi : Int) : F_light_within_4 n x lo hi = some (inR x lo hi) := within_eq n x lo hi
theorem swithin_eq (n : Nat) (x lo hi : Int) : F_sun_within n x lo hi = some (inR x lo hi) := within_eq n x lo hi
theorem inR_ok {x lo hi : Int} (h : lo ≤ x ∧ x ≤ hi) : inR x lo hi = 0 := by unfold inR; rw [if_neg (by omega), if_neg (by omega)]

theorem vdot_comm (u v : Vec) : vdot u v = vdot v u := by unfold vdot; grind
theorem f00 {n : Nat} (hn : 10 ≤ n) : F_field_first n [I 0, I 0] = some 0 := first2 hn 0 0
/-! Euclid with signs. -/
theorem euclidS {f : Int × Int → Option ((Int × Int) ⊕ Int)} (hf : ∀ a b : Int, f (a, b) = if b = 0 then some (.inr a) else some (.inl (b, Int.tmod a b))) :
    ∀ (N : Nat) (a b : Int), b.natAbs ≤ a.natAbs → a.natAbs * b.natAbs < 2 ^ N → ∀ k, N + 2 ≤ k → ∃ t : Int, loopF f k (a, b) = some t ∧ t.natAbs = Nat.gcd a.natAbs b.natAbs := by
  intro N
  induction N with
  | zero =>
    intro a b hb hp k hk
    obtain ⟨k, rfl⟩ : ∃ j, k = j + 1 := ⟨k - 1, by omega⟩
    by_cases h0 : b = 0
    · exact ⟨a, loopF_r (by rw [hf, if_pos h0]), by rw [h0]; simp⟩
    · exfalso
      have : 1 * 1 ≤ a.natAbs * b.natAbs := Nat.mul_le_mul (by omega) (by omega)
      simp at hp
      omega
  | succ N ih =>
    intro a b hb hp k hk
    obtain ⟨k, rfl⟩ : ∃ j, k = j + 1 := ⟨k - 1, by omega⟩
    by_cases h0 : b = 0
    · exact ⟨a, loopF_r (by rw [hf, if_pos h0]), by rw [h0]; simp⟩
    · have hne : b.natAbs ≠ 0 := by omega
      rw [loopF_l (s' := (b, Int.tmod a b)) (by rw [hf, if_neg h0])]
      have h1 := Nat.mod_lt a.natAbs (Nat.pos_of_ne_zero hne)
      have h2 := gcd_step hne hb
      have e : (Int.tmod a b).natAbs = a.natAbs % b.natAbs := Int.natAbs_tmod a b
      have h3 : 2 * (b.natAbs * (a.natAbs % b.natAbs)) ≤ a.natAbs * b.natAbs := by
        calc 2 * (b.natAbs * (a.natAbs % b.natAbs)) = b.natAbs * (2 * (a.natAbs % b.natAbs)) := by rw [Nat.mul_left_comm]
          _ ≤ b.natAbs * a.natAbs := Nat.mul_le_mul_left _ (by omega)
          _ = a.natAbs * b.natAbs := Nat.mul_comm _ _
      obtain ⟨t, g1, g2⟩ := ih b (Int.tmod a b) (by rw [e]; omega) (by rw [e]; rw [Nat.pow_succ] at hp; omega) k (by omega)
      refine ⟨t, g1, ?_⟩
      rw [g2, e, Nat.gcd_comm a.natAbs b.natAbs, Nat.gcd_rec b.natAbs a.natAbs, Nat.gcd_comm]
theorem euclidA {f : Int × Int → Option ((Int × Int) ⊕ Int)} (hf : ∀ a b : Int, f (a, b) = if b = 0 then some (.inr a) else some (.inl (b, Int.tmod a b)))
    {N : Nat} {a b : Int} (hp : a.natAbs * b.natAbs < 2 ^ N) {k : Nat} (hk : N + 3 ≤ k) : ∃ t : Int, loopF f k (a, b) = some t ∧ t.natAbs = Nat.gcd a.natAbs b.natAbs := by
  by_cases hb : b.natAbs ≤ a.natAbs
  · exact euclidS hf N a b hb hp k (by omega)
  · obtain ⟨k, rfl⟩ : ∃ j, k = j + 1 := ⟨k - 1, by omega⟩
    have h0 : b ≠ 0 := by intro e; subst e; simp at hb
    have e : (Int.tmod a b).natAbs = a.natAbs := by rw [Int.natAbs_tmod, Nat.mod_eq_of_lt (by omega)]
    rw [loopF_l (s' := (b, Int.tmod a b)) (by rw [hf, if_neg h0])]
    obtain ⟨t, g1, g2⟩ := euclidS hf N b (Int.tmod a b) (by rw [e]; omega) (by rw [e, Nat.mul_comm]; exact hp) k (by omega)
    exact ⟨t, g1, by rw [g2, e, Nat.gcd_comm]⟩
theorem gcd_le_sum (a b : Nat) : Nat.gcd a b ≤ a + b := by
  by_cases h : a = 0
  · subst h; simp
  · have := Nat.gcd_le_left b (Nat.pos_of_ne_zero h); omega
theorem pow120 : (2 : Nat) ^ 120 = 1329227995784915872903807060280344576 := by decide
theorem mul_lt120 {x y : Nat} (hx : x ≤ 1000000000000000000) (hy : y ≤ 1000000000000000000) : x * y < 2 ^ 120 := by
  have := Nat.mul_le_mul hx hy
  rw [pow120]; omega
theorem commonStep (n : Nat) (a b : Int) : F_sun_common_L1 n (a, b) = if b = 0 then some (.inr a) else some (.inl (b, Int.tmod a b)) := by
  unfold F_sun_common_L1
  dsimp only
  by_cases h : b = 0
  · rw [if_pos h, if_pos h]
  · rw [if_neg h, if_neg h, if_pos h]
theorem common_eq {n : Nat} (hn : 200 ≤ n) {a b : Int} (ha : a.natAbs ≤ 1000000000000000000) (hb : b.natAbs ≤ 1000000000000000000) : F_sun_common n a b = some ((Nat.gcd a.natAbs b.natAbs : Nat) : Int) := by
  obtain ⟨t, g1, g2⟩ := euclidA (commonStep n) (N := 120) (a := a) (b := b) (mul_lt120 ha hb) (k := n) (by omega)
  have hg := gcd_le_sum a.natAbs b.natAbs
  unfold F_sun_common
  rw [g1, Option.bind_some, wrapN_eq (by unfold L; omega), ← g2]
  unfold maxI
  congr 1
  split <;> omega

/-! Vectors reduced. -/
def G3 (v : Vec) : Nat := Nat.gcd (Nat.gcd v.1.natAbs v.2.1.natAbs) v.2.2.natAbs
def red (v : Vec) : Vec := if G3 v = 0 then v else (Int.tdiv v.1 (G3 v : Int), Int.tdiv v.2.1 (G3 v : Int), Int.tdiv v.2.2 (G3 v : Int))
theorem G3_dvd (v : Vec) : ((G3 v : Nat) : Int) ∣ v.1 ∧ ((G3 v : Nat) : Int) ∣ v.2.1 ∧ ((G3 v : Nat) : Int) ∣ v.2.2 := by
  unfold G3
  refine ⟨Int.ofNat_dvd_left.2 ?_, Int.ofNat_dvd_left.2 ?_, Int.ofNat_dvd_left.2 ?_⟩
  · exact Nat.dvd_trans (Nat.gcd_dvd_left _ _) (Nat.gcd_dvd_left _ _)
  · exact Nat.dvd_trans (Nat.gcd_dvd_left _ _) (Nat.gcd_dvd_right _ _)
  · exact Nat.gcd_dvd_right _ _
theorem G3_zero {v : Vec} (h : G3 v = 0) : v.1 = 0 ∧ v.2.1 = 0 ∧ v.2.2 = 0 := by
  unfold G3 at h
  rw [Nat.gcd_eq_zero_iff, Nat.gcd_eq_zero_iff] at h
  omega
theorem zeroB_iff {v : Vec} : zeroB v = true ↔ v.1 = 0 ∧ v.2.1 = 0 ∧ v.2.2 = 0 := by
  unfold zeroB
  simp
theorem G3_pos {v : Vec} (h : zeroB v = false) : 0 < G3 v := by
  rcases Nat.eq_zero_or_pos (G3 v) with h0 | h0
  · have := zeroB_iff.2 (G3_zero h0)
    rw [h] at this; cases this
  · exact h0
theorem red_mul {v : Vec} (h : 0 < G3 v) : vtimes (G3 v : Int) (red v) = v := by
  obtain ⟨d1, d2, d3⟩ := G3_dvd v
  unfold red
  rw [if_neg (by omega)]
  unfold vtimes
  dsimp only
  rw [Int.mul_tdiv_cancel' d1, Int.mul_tdiv_cancel' d2, Int.mul_tdiv_cancel' d3]
theorem tdiv_abs (x : Int) (g : Nat) : (Int.tdiv x (g : Int)).natAbs ≤ x.natAbs := by
  rw [Int.natAbs_tdiv]
  exact Nat.div_le_self _ _
theorem Bd.red {m : Int} {v : Vec} (h : Bd m v) : Bd m (red v) := by
  unfold Go.Proofs.YtiogobiijlaalaaDoor.red
  split
  · exact h
  · have h1 := tdiv_abs v.1 (G3 v)
    have h2 := tdiv_abs v.2.1 (G3 v)
    have h3 := tdiv_abs v.2.2 (G3 v)
    unfold Bd at h ⊢
    dsimp only
    omega
theorem red_nz {v : Vec} (h : zeroB v = false) : zeroB (red v) = false := by
  cases hz : zeroB (red v) with
  | false => rfl
  | true =>
    obtain ⟨a, b, c⟩ := zeroB_iff.1 hz
    have := red_mul (G3_pos h)
    unfold vtimes at this
    rw [a, b, c] at this
    simp only [Int.mul_zero] at this
    rw [← this] at h
    cases h
theorem reduced_eq {n : Nat} (hn : 200 ≤ n) {v : Vec} (hb : Bd 1000000000 v) : F_sun_reduced n v.1 v.2.1 v.2.2 = some (red v) := by
  obtain ⟨b1, b2, b3⟩ := hb
  have g1 := gcd_le_sum v.1.natAbs v.2.1.natAbs
  have c1 := common_eq hn (a := 0) (b := v.1) (by decide) (by omega)
  rw [show (0 : Int).natAbs = 0 from rfl, Nat.gcd_zero_left] at c1
  have c2 := common_eq hn (a := ((v.1.natAbs : Nat) : Int)) (b := v.2.1) (by omega) (by omega)
  rw [Int.natAbs_natCast] at c2
  have c3 := common_eq hn (a := ((Nat.gcd v.1.natAbs v.2.1.natAbs : Nat) : Int)) (b := v.2.2) (by omega) (by omega)
  rw [Int.natAbs_natCast] at c3
  unfold F_sun_reduced
  rw [show F_sun_parts_3 n v.1 v.2.1 v.2.2 = some v from rfl, Option.bind_some, c1, Option.bind_some, c2, Option.bind_some, c3, Option.bind_some]
  show (if ((G3 v : Nat) : Int) = 0 then _ else _) = _
  unfold red
  by_cases h : G3 v = 0
  · rw [if_pos (by omega), if_pos h]
  · have h1 := tdiv_abs v.1 (G3 v)
    have h2 := tdiv_abs v.2.1 (G3 v)
    have h3 := tdiv_abs v.2.2 (G3 v)
    rw [if_neg (by omega), if_neg h, if_pos (by show ((G3 v : Nat) : Int) ≠ 0; omega)]
    show (if inI64 (Int.tdiv v.1 (G3 v : Int)) then _ else _) = _
    rw [if_pos (by unfold inI64; omega)]
    show (if inI64 (Int.tdiv v.2.1 (G3 v : Int)) then _ else _) = _
    rw [if_pos (by unfold inI64; omega)]
    show (if inI64 (Int.tdiv v.2.2 (G3 v : Int)) then _ else _) = _
    rw [if_pos (by unfold inI64; omega)]
    rfl

/-! Rays. -/
theorem maxI_le {a b m : Int} (ha : a ≤ m) (hb : b ≤ m) : maxI a b ≤ m := by unfold maxI; split <;> assumption
theorem far_le (n : Nat) {v : Vec} {m : Int} (h : Bd m v) (hm : 0 ≤ m ∧ m ≤ L) : ∃ t, F_sun_far_3 n v.1 v.2.1 v.2.2 = some t ∧ t ≤ m := by
  obtain ⟨b1, b2, b3⟩ := h
  have hl := hm.2
  unfold L at hl
  refine ⟨_, rfl, ?_⟩
  dsimp only
  rw [wrapN_eq (by unfold L; omega), wrapN_eq (by unfold L; omega), wrapN_eq (by unfold L; omega)]
  exact maxI_le (maxI_le (maxI_le (maxI_le (maxI_le (maxI_le hm.1 (by omega)) (by omega)) (by omega)) (by omega)) (by omega)) (by omega)
theorem ray_ok {n : Nat} (hn : 10 ≤ n) {v : Vec} (hb : Bd 4096 v) (hz : zeroB v = false) : F_sun_CheckRay_3 n v.1 v.2.1 v.2.2 = some 0 := by
  obtain ⟨t, h1, h2⟩ := far_le n hb ⟨by decide, by decide⟩
  obtain ⟨b1, b2, b3⟩ := hb
  have hz' : ((v.1 == 0) && ((v.2.1 == 0) && ((v.2.2 == 0) && true))) = false := hz
  unfold F_sun_CheckRay_3 F_light_CheckDirection_3 F_light_CheckVector_3
  rw [lwithin_eq, Option.bind_some, lwithin_eq, Option.bind_some, lwithin_eq, Option.bind_some, inR_ok (by omega), inR_ok (by omega), inR_ok (by omega), lfirst, first3 hn, Option.bind_some, Option.bind_some, lwhen, Option.bind_some, hz', lfirst, first2 hn, Option.bind_some, Option.bind_some,
    h1, Option.bind_some, swhen, Option.bind_some, decide_eq_false (by omega), sfirst, first2 hn]
  rfl
theorem refRay_ok {n : Nat} (hn : 10 ≤ n) {v : Vec} (hb : Bd 4096 v) (hz : zeroB v = false) : F_ref02_CheckRay n v.1 v.2.1 v.2.2 = some 0 := by
  obtain ⟨b1, b2, b3⟩ := hb
  have hz' : ((v.1 == 0) && ((v.2.1 == 0) && ((v.2.2 == 0) && true))) = false := hz
  unfold F_ref02_CheckRay F_ref01_CheckDirection F_ref01_CheckVector F_ref02_within
  rw [range_eq, Option.bind_some, range_eq, Option.bind_some, range_eq, Option.bind_some, inR_ok (by omega), inR_ok (by omega), inR_ok (by omega), refFirst3 hn, Option.bind_some, Option.bind_some, if_pos (show firstNZ [0, 0, 0] = 0 from rfl), refWhen_eq, Option.bind_some, hz', Option.bind_some,
    if_pos (by unfold inI64; omega), range_eq, Option.bind_some, range_eq, Option.bind_some, range_eq, Option.bind_some, inR_ok (by omega), inR_ok (by omega), inR_ok (by omega), refFirst3 hn, Option.bind_some, Option.bind_some, refFirst2 hn]
  rfl
theorem refDir_ok {n : Nat} (hn : 10 ≤ n) {v : Vec} (hb : Bd 1024 v) (hz : zeroB v = false) : F_ref04_CheckDirection n v.1 v.2.1 v.2.2 = some 0 := by
  have hp : pE v 1024 = 0 := by
    obtain ⟨b1, b2, b3⟩ := hb
    unfold pE
    rw [inR_ok (by omega), inR_ok (by omega), inR_ok (by omega)]; rfl
  have hz' : ((v.1 == 0) && ((v.2.1 == 0) && ((v.2.2 == 0) && true))) = false := hz
  unfold F_ref04_CheckDirection
  rw [refParts_eq hn v (by decide), Option.bind_some, refWhen_eq, Option.bind_some, refFirst2 hn, hp, hz']
  rfl

/-! Whole lengths. -/
theorem rootStep (n : Nat) {s low high : Int} (hs : 0 ≤ s ∧ s ≤ 65536) (hl : 0 ≤ low ∧ low ≤ s) (hh : s ≤ high ∧ high ≤ 65536) (hlt : low < high) :
    ∃ l h : Int, F_sun_root_L1 n (s * s) (low, high) = some (.inl (l, h)) ∧ (0 ≤ l ∧ l ≤ s) ∧ (s ≤ h ∧ h ≤ 65536) ∧ h - l < high - low := by
  have e : Int.tdiv (low + high + 1) 2 = (low + high + 1) / 2 := Int.tdiv_eq_ediv_of_nonneg (by omega)
  obtain ⟨m, hm⟩ : ∃ m, m = (low + high + 1) / 2 := ⟨_, rfl⟩
  have hm1 : low < m ∧ m ≤ high := by omega
  have pm := mul_k (g := m) (c := m) (p := 65536) (q := 65536) (by omega) (by omega) rfl (by decide) (by decide)
  unfold F_sun_root_L1
  dsimp only
  rw [e, ← hm, if_pos hlt, if_pos (by unfold inI64; omega), if_pos (by unfold inI64; omega), if_pos (by unfold inI64; omega), if_pos (by unfold inI64; omega)]
  by_cases h : m * m > s * s
  · rw [if_pos h, if_pos (by unfold inI64; omega)]
    have : s < m := by
      rcases Int.lt_or_le s m with h' | h'
      · exact h'
      · have := Int.mul_le_mul h' h' (by omega) (by omega); omega
    exact ⟨low, m - 1, rfl, hl, by omega, by omega⟩
  · rw [if_neg h]
    have : m ≤ s := by
      rcases Int.lt_or_le s m with h' | h'
      · have h2 := Int.mul_le_mul (show s + 1 ≤ m by omega) (show s + 1 ≤ m by omega) (by omega) (by omega)
        have e2 : (s + 1) * (s + 1) = s * s + 2 * s + 1 := by grind
        omega
      · exact h'
    exact ⟨m, high, rfl, by omega, hh, by omega⟩
theorem root_eq {n : Nat} (hn : 65537 ≤ n) {s : Int} (hs : 0 ≤ s ∧ s ≤ 65536) : F_sun_root n (s * s) = some s := by
  have := loopF_meas (step := F_sun_root_L1 n (s * s)) (fun t => (0 ≤ t.1 ∧ t.1 ≤ s) ∧ (s ≤ t.2 ∧ t.2 ≤ 65536)) (fun t => (t.2 - t.1).toNat) (fun r => r = s)
    (fun t ht => by
      obtain ⟨low, high⟩ := t
      obtain ⟨h1, h2⟩ := ht
      dsimp only at h1 h2
      by_cases hlt : low < high
      · left
        obtain ⟨l, h, g1, g2, g3, g4⟩ := rootStep n hs h1 h2 hlt
        exact ⟨(l, h), g1, ⟨g2, g3⟩, by dsimp only; omega⟩
      · right
        refine ⟨low, ?_, by omega⟩
        unfold F_sun_root_L1
        dsimp only
        rw [if_neg hlt]) n (0, 65536) ⟨⟨by decide, hs.1⟩, hs.2, by decide⟩ (by show (65536 - 0 : Int).toNat < n; omega)
  obtain ⟨r, h1, rfl⟩ := this
  unfold F_sun_root
  rw [h1]; rfl
/-- A vector with a whole length. -/
structure Wh (v : Vec) (r : Int) : Prop where
  b : Bd 40 v
  s : 1 ≤ r ∧ r ≤ 36
  d : vdot v v = r * r
theorem Wh.nz {v : Vec} {s : Int} (h : Wh v s) : zeroB v = false := by
  cases hz : zeroB v with
  | false => rfl
  | true =>
    obtain ⟨a, b, c⟩ := zeroB_iff.1 hz
    have := h.d
    unfold vdot at this
    rw [a, b, c] at this
    have h1 := Int.mul_le_mul h.s.1 h.s.1 (by omega) (by have := h.s; omega)
    simp at this
    omega
theorem length_eq {n : Nat} (hn : 65537 ≤ n) {v : Vec} {s : Int} (h : Wh v s) : F_sun_length_3 n v.1 v.2.1 v.2.2 = some (s, true) := by
  have hs := h.s
  have e1 := dot_eq n (h.b.dot h.b (show (40 : Int) * 40 = 1600 by decide) (by decide) (by decide)) (by decide)
  have p := mul_k (g := s) (c := s) (p := 36) (q := 36) (by omega) (by omega) rfl (by decide) (by decide)
  unfold F_sun_length_3
  rw [sdot, e1, Option.bind_some, h.d, root_eq hn (by omega), Option.bind_some, if_pos (by unfold inI64; omega)]
  simp

/-! Whether two vectors are opposite. -/
theorem lagrange (a b : Vec) : vdot a a * vdot b b = vdot a b * vdot a b + vdot (vcross a b) (vcross a b) := by
  obtain ⟨a1, a2, a3⟩ := a
  obtain ⟨b1, b2, b3⟩ := b
  simp only [vdot, vcross]
  grind
theorem dot_nn (v : Vec) : 0 ≤ vdot v v := by
  have h1 := sq_nn v.1
  have h2 := sq_nn v.2.1
  have h3 := sq_nn v.2.2
  unfold vdot; omega
theorem oppo_eq {n : Nat} {a b : Vec} {x y : Int} (ha : Wh a x) (hb : Wh b y) : F_sun_opposite_2 n a.1 a.2.1 a.2.2 b.1 b.2.1 b.2.2 = some (zeroB (vcross a b) && decide (vdot a b < 0)) := by
  have e1 := cross_eq n (ha.b.cross hb.b (show (40 : Int) * 40 = 1600 by decide) (by decide) (by decide)) (by decide)
  have e2 := dot_eq n (ha.b.dot hb.b (show (40 : Int) * 40 = 1600 by decide) (by decide) (by decide)) (by decide)
  unfold F_sun_opposite_2
  rw [scross, e1, Option.bind_some, show F_sun_parts_3 n (vcross a b).1 (vcross a b).2.1 (vcross a b).2.2 = some (vcross a b) from rfl, Option.bind_some]
  show (if zeroB (vcross a b) = true then _ else _) = _
  by_cases h : zeroB (vcross a b) = true
  · rw [if_pos h, sdot, e2, h]; rfl
  · rw [if_neg h]
    have : zeroB (vcross a b) = false := by simpa using h
    rw [this]; rfl
/-- What two vectors that are not opposite have. -/
theorem not_oppo {a b : Vec} {x y : Int} (ha : Wh a x) (hb : Wh b y) (h : ¬ (zeroB (vcross a b) && decide (vdot a b < 0)) = true) : 0 < x * y + vdot a b := by
  have hxy : 0 < x * y := Int.mul_pos (by have := ha.s; omega) (by have := hb.s; omega)
  by_cases hd : vdot a b < 0
  · have hc : zeroB (vcross a b) = false := by
      cases hz : zeroB (vcross a b) with
      | false => rfl
      | true => rw [hz, decide_eq_true hd] at h; exact absurd rfl h
    have hp := zeroB_dot hc
    have hl := lagrange a b
    rw [ha.d, hb.d] at hl
    have e : x * x * (y * y) = (x * y) * (x * y) := by grind
    rw [e] at hl
    rcases Int.lt_or_le (-(vdot a b)) (x * y) with h1 | h1
    · omega
    · exfalso
      have h2 : (x * y) * (x * y) ≤ (-(vdot a b)) * (-(vdot a b)) := Int.mul_le_mul h1 h1 (by omega) (by omega)
      have h3 : (-(vdot a b)) * (-(vdot a b)) = vdot a b * vdot a b := by grind
      omega
  · omega

/-! The reference's reduced vectors. -/
theorem divStep1 (n : Nat) (a b : Int) : F_ref01_Divisor_L1 n (a, b) = if b = 0 then some (.inr a) else some (.inl (b, Int.tmod a b)) := commonStep n a b
theorem divStep2 (n : Nat) (a b : Int) : F_ref01_Divisor_L2 n (a, b) = if b = 0 then some (.inr a) else some (.inl (b, Int.tmod a b)) := commonStep n a b
theorem divStep3 (n : Nat) (a b : Int) : F_ref01_Divisor_L3 n (a, b) = if b = 0 then some (.inr a) else some (.inl (b, Int.tmod a b)) := commonStep n a b
theorem divStep4 (n : Nat) (a b : Int) : F_ref01_Divisor_L4 n (a, b) = if b = 0 then some (.inr a) else some (.inl (b, Int.tmod a b)) := commonStep n a b
theorem loop_gcd {f : Int × Int → Option ((Int × Int) ⊕ Int)} (hf : ∀ a b : Int, f (a, b) = if b = 0 then some (.inr a) else some (.inl (b, Int.tmod a b))) {n : Nat} (hn : 200 ≤ n) {a b : Int} (ha : 0 ≤ a ∧ a ≤ 1000000000000000000) (hb : 0 ≤ b ∧ b ≤ 1000000000000000000) : loopF f n (a, b) = some ((Nat.gcd a.natAbs b.natAbs : Nat) : Int) := by
  have := euclid hf (N := 120) (a := a.natAbs) (b := b.natAbs) (mul_lt120 (by omega) (by omega)) (k := n) (by omega)
  rw [show ((a.natAbs : Nat) : Int) = a by omega, show ((b.natAbs : Nat) : Int) = b by omega] at this
  exact this
theorem divisor_eq {n : Nat} (hn : 200 ≤ n) {a b : Int} (ha : a.natAbs ≤ 1000000000000000000) (hb : b.natAbs ≤ 1000000000000000000) (h : ¬ (a = 0 ∧ b = 0)) : F_ref01_Divisor n a b = some ((Nat.gcd a.natAbs b.natAbs : Nat) : Int) := by
  have hg : ¬ ((Nat.gcd a.natAbs b.natAbs : Nat) : Int) = 0 := by
    intro e
    have : Nat.gcd a.natAbs b.natAbs = 0 := by omega
    rw [Nat.gcd_eq_zero_iff] at this
    omega
  have na : (0 - a).natAbs = a.natAbs := by omega
  have nb : (0 - b).natAbs = b.natAbs := by omega
  unfold F_ref01_Divisor
  by_cases h1 : a < 0
  · rw [if_pos h1, if_pos (by unfold inI64; omega)]
    by_cases h2 : b < 0
    · rw [if_pos h2, if_pos (by unfold inI64; omega), loop_gcd (divStep1 n) hn (by omega) (by omega), Option.bind_some, na, nb, if_neg hg]
    · rw [if_neg h2, loop_gcd (divStep2 n) hn (by omega) (by omega), Option.bind_some, na, if_neg hg]
  · rw [if_neg h1]
    by_cases h2 : b < 0
    · rw [if_pos h2, if_pos (by unfold inI64; omega), loop_gcd (divStep3 n) hn (by omega) (by omega), Option.bind_some, nb, if_neg hg]
    · rw [if_neg h2, loop_gcd (divStep4 n) hn (by omega) (by omega), Option.bind_some, if_neg hg]
theorem divisor_any {n : Nat} (hn : 200 ≤ n) {a b : Int} (ha : a.natAbs ≤ 1000000000000000000) (hb : b.natAbs ≤ 1000000000000000000) : ∃ t, F_ref01_Divisor n a b = some t := by
  by_cases h : a = 0 ∧ b = 0
  · obtain ⟨rfl, rfl⟩ := h
    unfold F_ref01_Divisor
    rw [if_neg (by decide), if_neg (by decide), loop_gcd (divStep4 n) hn (by decide) (by decide), Option.bind_some]
    exact ⟨1, rfl⟩
  · exact ⟨_, divisor_eq hn ha hb h⟩
theorem refRed_eq {n : Nat} (hn : 200 ≤ n) {v : Vec} (hb : Bd 1000000000 v) (hz : zeroB v = false) : F_ref02_Reduced n v.1 v.2.1 v.2.2 = some (red v) := by
  obtain ⟨b1, b2, b3⟩ := hb
  have hp := G3_pos hz
  have fin : (if ((G3 v : Nat) : Int) ≠ 0 then if inI64 (Int.tdiv v.1 (G3 v : Int)) then if inI64 (Int.tdiv v.2.1 (G3 v : Int)) then if inI64 (Int.tdiv v.2.2 (G3 v : Int)) then some (Int.tdiv v.1 (G3 v : Int), Int.tdiv v.2.1 (G3 v : Int), Int.tdiv v.2.2 (G3 v : Int)) else none else none else none else none : Option (Int × Int × Int)) = some (red v) := by
    have h1 := tdiv_abs v.1 (G3 v)
    have h2 := tdiv_abs v.2.1 (G3 v)
    have h3 := tdiv_abs v.2.2 (G3 v)
    rw [if_pos (by omega), if_pos (by unfold inI64; omega), if_pos (by unfold inI64; omega), if_pos (by unfold inI64; omega)]
    unfold red
    rw [if_neg (by omega)]
  have g1 := gcd_le_sum v.1.natAbs v.2.1.natAbs
  obtain ⟨t0, ht0⟩ := divisor_any hn (a := v.2.2) (b := 0) (by omega) (by decide)
  have two : ∀ (h : ¬ (v.1 = 0 ∧ v.2.1 = 0)), (F_ref01_Divisor n v.1 v.2.1) = some ((Nat.gcd v.1.natAbs v.2.1.natAbs : Nat) : Int) ∧ F_ref01_Divisor n ((Nat.gcd v.1.natAbs v.2.1.natAbs : Nat) : Int) v.2.2 = some ((G3 v : Nat) : Int) := fun h => by
    refine ⟨divisor_eq hn (by omega) (by omega) h, ?_⟩
    have := divisor_eq hn (a := ((Nat.gcd v.1.natAbs v.2.1.natAbs : Nat) : Int)) (b := v.2.2) (by omega) (by omega) (fun e => h (by
      have : Nat.gcd v.1.natAbs v.2.1.natAbs = 0 := by omega
      rw [Nat.gcd_eq_zero_iff] at this
      omega))
    rw [Int.natAbs_natCast] at this
    exact this
  unfold F_ref02_Reduced
  rw [ht0, Option.bind_some]
  by_cases h1 : v.1 = 0
  · rw [if_pos h1]
    by_cases h2 : v.2.1 = 0
    · rw [if_pos h2]
      have h3 : v.2.2 ≠ 0 := fun h3 => by rw [zeroB_iff.2 ⟨h1, h2, h3⟩] at hz; cases hz
      have e := divisor_eq hn (a := v.2.2) (b := 0) (by omega) (by decide) (fun e => h3 e.1)
      rw [e] at ht0
      cases ht0
      have eg : Nat.gcd v.2.2.natAbs (0 : Int).natAbs = G3 v := by
        unfold G3
        rw [h1, h2]
        simp
      rw [eg]
      exact fin
    · rw [if_neg h2]
      obtain ⟨p1, p2⟩ := two (fun e => h2 e.2)
      rw [p1, Option.bind_some, p2, Option.bind_some]
      exact fin
  · rw [if_neg h1]
    obtain ⟨p1, p2⟩ := two (fun e => h1 e.1)
    rw [p1, Option.bind_some, p2, Option.bind_some]
    exact fin
/-- Opposite vectors are so when they are reduced. -/
theorem part_oppo {a b : Int} {p q : Nat} (hp : (p : Int) ∣ a) (hq : (q : Int) ∣ b) (hs : a * b ≤ 0) (h : p * b.natAbs = q * a.natAbs) (hp0 : 0 < p) (hq0 : 0 < q) : Int.tdiv a (p : Int) = Int.tdiv b (q : Int) * -1 := by
  obtain ⟨a', rfl⟩ := hp
  obtain ⟨b', rfl⟩ := hq
  rw [Int.mul_tdiv_cancel_left a' (by omega), Int.mul_tdiv_cancel_left b' (by omega)]
  rw [Int.natAbs_mul, Int.natAbs_mul, Int.natAbs_natCast, Int.natAbs_natCast] at h
  have h1 : a'.natAbs = b'.natAbs := by
    have e : p * (q * b'.natAbs) = (p * q) * b'.natAbs := (Nat.mul_assoc p q _).symm
    have e' : q * (p * a'.natAbs) = (p * q) * a'.natAbs := by rw [← Nat.mul_assoc, Nat.mul_comm q p]
    rw [e, e'] at h
    exact (Nat.eq_of_mul_eq_mul_left (Nat.mul_pos hp0 hq0) h).symm
  have h2 : a' * b' ≤ 0 := by
    rcases Int.lt_or_le 0 (a' * b') with h3 | h3
    · exfalso
      have e : (p : Int) * a' * ((q : Int) * b') = ((p : Int) * q) * (a' * b') := by grind
      rw [e] at hs
      have := Int.mul_pos (Int.mul_pos (show (0 : Int) < p by omega) (show (0 : Int) < q by omega)) h3
      omega
    · exact h3
  rcases Int.natAbs_eq_natAbs_iff.1 h1 with e | e
  · subst e
    have := sq_nn a'
    have h0 : a' * a' = 0 := by omega
    have : a' = 0 := by
      rcases Int.mul_eq_zero.1 h0 with h | h <;> exact h
    rw [this]; rfl
  · rw [e]; omega
theorem red_oppo {a b : Vec} (ha : zeroB a = false) (hb : zeroB b = false) (hc : zeroB (vcross a b) = true) (hd : vdot a b < 0) : red a = vtimes (-1) (red b) := by
  obtain ⟨c1, c2, c3⟩ := zeroB_iff.1 hc
  have ga := G3_pos ha
  have gb := G3_pos hb
  obtain ⟨a1, a2, a3⟩ := a
  obtain ⟨b1, b2, b3⟩ := b
  unfold vcross at c1 c2 c3
  unfold vdot at hd
  dsimp only at c1 c2 c3 hd
  -- the products of parts that belong together
  have e23 : a2 * b3 = a3 * b2 := by omega
  have e31 : a3 * b1 = a1 * b3 := by omega
  have e12 : a1 * b2 = a2 * b1 := by omega
  have key : ∀ x y : Int, x * b1 = a1 * y → x * b2 = a2 * y → x * b3 = a3 * y → x * y ≤ 0 := by
    intro x y h1 h2 h3
    rcases Int.lt_or_le 0 (x * y) with h | h
    · exfalso
      have q1 : (x * y) * (a1 * b1) = (x * b1) * (x * b1) := by
        calc (x * y) * (a1 * b1) = (x * b1) * (a1 * y) := by grind
          _ = (x * b1) * (x * b1) := by rw [← h1]
      have q2 : (x * y) * (a2 * b2) = (x * b2) * (x * b2) := by
        calc (x * y) * (a2 * b2) = (x * b2) * (a2 * y) := by grind
          _ = (x * b2) * (x * b2) := by rw [← h2]
      have q3 : (x * y) * (a3 * b3) = (x * b3) * (x * b3) := by
        calc (x * y) * (a3 * b3) = (x * b3) * (a3 * y) := by grind
          _ = (x * b3) * (x * b3) := by rw [← h3]
      have s1 := sq_nn (x * b1)
      have s2 := sq_nn (x * b2)
      have s3 := sq_nn (x * b3)
      have : (x * y) * (a1 * b1 + a2 * b2 + a3 * b3) < 0 := Int.mul_neg_of_pos_of_neg h hd
      have e : (x * y) * (a1 * b1 + a2 * b2 + a3 * b3) = (x * y) * (a1 * b1) + (x * y) * (a2 * b2) + (x * y) * (a3 * b3) := by grind
      omega
    · exact h
  have gcdE : ∀ x y : Int, x * b1 = a1 * y → x * b2 = a2 * y → x * b3 = a3 * y → G3 (a1, a2, a3) * y.natAbs = G3 (b1, b2, b3) * x.natAbs := by
    intro x y h1 h2 h3
    unfold G3
    dsimp only
    rw [← Nat.gcd_mul_right, ← Nat.gcd_mul_right, ← Nat.gcd_mul_right, ← Nat.gcd_mul_right, ← Int.natAbs_mul, ← Int.natAbs_mul, ← Int.natAbs_mul, ← Int.natAbs_mul, ← Int.natAbs_mul, ← Int.natAbs_mul, ← h1, ← h2, ← h3, Int.mul_comm x b1, Int.mul_comm x b2, Int.mul_comm x b3]
  obtain ⟨d1, d2, d3⟩ := G3_dvd (a1, a2, a3)
  obtain ⟨f1, f2, f3⟩ := G3_dvd (b1, b2, b3)
  unfold red
  rw [if_neg (by omega), if_neg (by omega)]
  unfold vtimes
  dsimp only at d1 d2 d3 f1 f2 f3 ⊢
  have r1 := part_oppo d1 f1 (key a1 b1 rfl (by omega) (by omega)) (gcdE a1 b1 rfl (by omega) (by omega)) ga gb
  have r2 := part_oppo d2 f2 (key a2 b2 (by omega) rfl (by omega)) (gcdE a2 b2 (by omega) rfl (by omega)) ga gb
  have r3 := part_oppo d3 f3 (key a3 b3 (by omega) (by omega) rfl) (gcdE a3 b3 (by omega) (by omega) rfl) ga gb
  rw [r1, r2, r3]
  simp only [Int.mul_comm _ (-1 : Int)]
theorem refOppo_eq {n : Nat} (hn : 200 ≤ n) {a b : Vec} {x y : Int} (ha : Wh a x) (hb : Wh b y) (hc : zeroB (vcross a b) = true) (hd : vdot a b < 0) : F_ref02_Opposite n a.1 a.2.1 a.2.2 b.1 b.2.1 b.2.2 = some true := by
  have hr := red_oppo ha.nz hb.nz hc hd
  have bb := (hb.b.mono (show (40 : Int) ≤ 40 by decide)).red
  obtain ⟨b1, b2, b3⟩ := bb
  unfold F_ref02_Opposite
  rw [refRed_eq hn (ha.b.mono (by decide)) ha.nz, Option.bind_some, refRed_eq hn (hb.b.mono (by decide)) hb.nz, Option.bind_some]
  unfold F_ref02_Times
  rw [if_pos (by unfold inI64; omega), if_pos (by unfold inI64; omega), if_pos (by unfold inI64; omega), Option.bind_some, hr]
  unfold vtimes
  simp only [Int.mul_comm (-1 : Int)]
  simp

/-! The normal of two vectors. -/
def sumV (a b : Vec) (x y : Int) : Vec := vplus (vtimes y a) (vtimes x b)
structure Nrm (a b n : Vec) (x y : Int) : Prop where
  bd : Bd 2880 n
  nz : zeroB n = false
  m : ∃ h : Int, 0 < h ∧ vtimes h n = sumV a b x y
theorem sum_eq (n : Nat) {a b : Vec} {x y : Int} (ha : Wh a x) (hb : Wh b y) : F_sun_sum n y a.1 a.2.1 a.2.2 x b.1 b.2.1 b.2.2 = some (sumV a b x y) ∧ Bd 2880 (sumV a b x y) := by
  have u := ha.b.times (k := y) (K := 36) (by have := hb.s; omega) (show (36 : Int) * 40 = 1440 by decide) (by decide) (by decide)
  have v := hb.b.times (k := x) (K := 36) (by have := ha.s; omega) (show (36 : Int) * 40 = 1440 by decide) (by decide) (by decide)
  refine ⟨?_, (u.plus v).mono (by decide)⟩
  obtain ⟨u1, u2, u3⟩ := u
  obtain ⟨v1, v2, v3⟩ := v
  unfold vtimes at u1 u2 u3 v1 v2 v3
  dsimp only at u1 u2 u3 v1 v2 v3
  unfold F_sun_sum
  iterate 9 rw [if_pos (by unfold inI64; omega)]
  rfl
theorem vdot_plus (u a b : Vec) : vdot u (vplus a b) = vdot u a + vdot u b := by simp only [vdot, vplus]; grind
theorem vdot_times (u a : Vec) (k : Int) : vdot u (vtimes k a) = k * vdot u a := by simp only [vdot, vtimes]; grind
theorem sum_dot_a {a b : Vec} {x y : Int} (ha : Wh a x) : vdot (sumV a b x y) a = x * (x * y + vdot a b) := by
  rw [vdot_comm]
  unfold sumV
  rw [vdot_plus, vdot_times, vdot_times, ha.d]
  grind
theorem sum_dot_b {a b : Vec} {x y : Int} (hb : Wh b y) : vdot (sumV a b x y) b = y * (x * y + vdot a b) := by
  rw [vdot_comm]
  unfold sumV
  rw [vdot_plus, vdot_times, vdot_times, hb.d, vdot_comm b a]
  grind
theorem normal_ok {n : Nat} (hn : 65537 ≤ n) {a b : Vec} {x y : Int} (ha : Wh a x) (hb : Wh b y) :
    (zeroB (vcross a b) = true ∧ vdot a b < 0 ∧ F_sun_Normal_2 n a.1 a.2.1 a.2.2 b.1 b.2.1 b.2.2 = some (0, 0, 0, 6)) ∨
    (0 < x * y + vdot a b ∧ ∃ v, F_sun_Normal_2 n a.1 a.2.1 a.2.2 b.1 b.2.1 b.2.2 = some (v.1, v.2.1, v.2.2, 0) ∧ Nrm a b v x y) := by
  obtain ⟨e1, bs⟩ := sum_eq n ha hb
  by_cases h : (zeroB (vcross a b) && decide (vdot a b < 0)) = true
  · left
    have h' := h
    simp only [Bool.and_eq_true, decide_eq_true_eq] at h'
    refine ⟨h'.1, h'.2, ?_⟩
    unfold F_sun_Normal_2
    rw [ray_ok (by omega) (ha.b.mono (by decide)) ha.nz, Option.bind_some, ray_ok (by omega) (hb.b.mono (by decide)) hb.nz, Option.bind_some, sfirst, f00 (by omega), Option.bind_some, if_pos rfl,
      length_eq hn ha, Option.bind_some, length_eq hn hb, Option.bind_some]
    dsimp only
    rw [if_pos rfl, swhen, Option.bind_some, oppo_eq ha hb, Option.bind_some, h, swhen, Option.bind_some, sfirst, first2 (by omega), Option.bind_some, if_neg (by decide)]
    rfl
  · right
    have hp := not_oppo ha hb h
    have hx := ha.s
    have hnz : zeroB (sumV a b x y) = false := by
      cases hz : zeroB (sumV a b x y) with
      | false => rfl
      | true =>
        obtain ⟨q1, q2, q3⟩ := zeroB_iff.1 hz
        have := sum_dot_a (b := b) (y := y) ha
        unfold vdot at this
        rw [q1, q2, q3] at this
        have p := Int.mul_pos (show 0 < x by omega) hp
        unfold vdot at p
        simp at this
        omega
    refine ⟨hp, red (sumV a b x y), ?_, bs.red, red_nz hnz, ⟨(G3 (sumV a b x y) : Int), by have := G3_pos hnz; omega, red_mul (G3_pos hnz)⟩⟩
    obtain ⟨t, t1, t2⟩ := far_le n bs.red ⟨by decide, by decide⟩
    have h' : (zeroB (vcross a b) && decide (vdot a b < 0)) = false := by simpa using h
    unfold F_sun_Normal_2
    rw [ray_ok (by omega) (ha.b.mono (by decide)) ha.nz, Option.bind_some, ray_ok (by omega) (hb.b.mono (by decide)) hb.nz, Option.bind_some, sfirst, f00 (by omega), Option.bind_some, if_pos rfl,
      length_eq hn ha, Option.bind_some, length_eq hn hb, Option.bind_some]
    dsimp only
    rw [if_pos rfl, swhen, Option.bind_some, oppo_eq ha hb, Option.bind_some, h', swhen, Option.bind_some, sfirst, first2 (by omega), Option.bind_some, if_pos (by rfl), e1, Option.bind_some]
    unfold F_sun_small
    rw [reduced_eq (by omega) (bs.mono (by decide)), Option.bind_some, t1, Option.bind_some, if_neg (by omega)]
    rfl

/-! The frame of a ray. -/
def zV : Vec := (0, 0, 1)
def xV : Vec := (1, 0, 0)
def sideV (v : Vec) : Vec := if zeroB (vcross zV v) = true then xV else red (vcross zV v)
def upV (v : Vec) : Vec := red (vcross v (sideV v))
structure Frm (n u w : Vec) : Prop where
  bu : Bd 2880 u
  bw : Bd 16588800 w
  al : ∃ g k : Int, 0 < g ∧ 0 < k ∧ vtimes g (vcross u w) = vtimes k n
theorem cross_side (n s : Vec) (h : vdot s n = 0) : vcross s (vcross n s) = vtimes (vdot s s) n := by
  obtain ⟨n1, n2, n3⟩ := n
  obtain ⟨s1, s2, s3⟩ := s
  simp only [vdot, vcross, vtimes] at h ⊢
  refine Prod.ext ?_ (Prod.ext ?_ ?_)
  · show s2 * (n1 * s2 - n2 * s1) - s3 * (n3 * s1 - n1 * s3) = (s1 * s1 + s2 * s2 + s3 * s3) * n1
    have : s1 * (s1 * n1 + s2 * n2 + s3 * n3) = 0 := by rw [h]; simp
    grind
  · show s3 * (n2 * s3 - n3 * s2) - s1 * (n1 * s2 - n2 * s1) = (s1 * s1 + s2 * s2 + s3 * s3) * n2
    have : s2 * (s1 * n1 + s2 * n2 + s3 * n3) = 0 := by rw [h]; simp
    grind
  · show s1 * (n3 * s1 - n1 * s3) - s2 * (n2 * s3 - n3 * s2) = (s1 * s1 + s2 * s2 + s3 * s3) * n3
    have : s3 * (s1 * n1 + s2 * n2 + s3 * n3) = 0 := by rw [h]; simp
    grind
theorem cross_times (s v : Vec) (k : Int) : vcross s (vtimes k v) = vtimes k (vcross s v) := by
  obtain ⟨v1, v2, v3⟩ := v
  obtain ⟨s1, s2, s3⟩ := s
  simp only [vcross, vtimes]
  refine Prod.ext ?_ (Prod.ext ?_ ?_) <;> dsimp only <;> grind
theorem side_ok {v : Vec} (hb : Bd 2880 v) : Bd 2880 (sideV v) ∧ zeroB (sideV v) = false ∧ vdot (sideV v) v = 0 := by
  have e : vcross zV v = (-v.2.1, v.1, 0) := by unfold vcross zV; dsimp only; refine Prod.ext ?_ (Prod.ext ?_ ?_) <;> dsimp only <;> omega
  obtain ⟨b1, b2, b3⟩ := hb
  have bc : Bd 2880 (vcross zV v) := by rw [e]; unfold Bd; dsimp only; omega
  unfold sideV
  by_cases h : zeroB (vcross zV v) = true
  · rw [if_pos h]
    obtain ⟨q1, q2, q3⟩ := zeroB_iff.1 h
    rw [e] at q1 q2
    dsimp only at q1 q2
    refine ⟨by unfold Bd xV; dsimp only; omega, rfl, ?_⟩
    unfold vdot xV
    dsimp only
    omega
  · rw [if_neg h]
    have h' : zeroB (vcross zV v) = false := by simpa using h
    have hp := G3_pos h'
    refine ⟨bc.red, red_nz h', ?_⟩
    have h1 : vdot v (vtimes (G3 (vcross zV v) : Int) (red (vcross zV v))) = 0 := by
      rw [red_mul hp, e]
      unfold vdot
      dsimp only
      grind
    rw [vdot_times] at h1
    rw [vdot_comm]
    rcases Int.mul_eq_zero.1 h1 with h2 | h2
    · omega
    · exact h2
theorem frame_ok {n : Nat} (hn : 200 ≤ n) {v : Vec} (hb : Bd 2880 v) (hz : zeroB v = false) :
    F_sun_Frame n v.1 v.2.1 v.2.2 = some ((sideV v).1, (sideV v).2.1, (sideV v).2.2, (upV v).1, (upV v).2.1, (upV v).2.2, 0) ∧ Frm v (sideV v) (upV v) := by
  obtain ⟨s1, s2, s3⟩ := side_ok hb
  have bz : Bd 1 zV := ⟨by decide, by decide, by decide⟩
  have c0 := cross_eq n (bz.cross hb (show (1 : Int) * 2880 = 2880 by decide) (by decide) (by decide)) (by decide)
  have c1 := hb.cross s1 (show (2880 : Int) * 2880 = 8294400 by decide) (by decide) (by decide)
  have c2 := cross_eq n c1 (by decide)
  have bc := (c1.val).mono (show (2 : Int) * 8294400 ≤ 16588800 by decide)
  have hcn : zeroB (vcross v (sideV v)) = false := by
    cases h : zeroB (vcross v (sideV v)) with
    | false => rfl
    | true =>
      obtain ⟨q1, q2, q3⟩ := zeroB_iff.1 h
      have hl := lagrange v (sideV v)
      rw [vdot_comm v (sideV v), s3] at hl
      have e0 : vdot (vcross v (sideV v)) (vcross v (sideV v)) = 0 := by unfold vdot; rw [q1, q2, q3]; rfl
      rw [e0] at hl
      have := Int.mul_pos (zeroB_dot hz) (zeroB_dot s2)
      omega
  have hp := G3_pos hcn
  refine ⟨?_, ⟨s1, bc.red, (G3 (vcross v (sideV v)) : Int), vdot (sideV v) (sideV v), by omega, zeroB_dot s2, ?_⟩⟩
  · have r1 := reduced_eq hn (bc.mono (show (16588800 : Int) ≤ 1000000000 by decide))
    unfold F_sun_Frame
    rw [ray_ok (by omega) (hb.mono (by decide)) hz, Option.bind_some, if_pos rfl, scross]
    have c0' : F_field_cross n 0 0 1 v.1 v.2.1 v.2.2 = some (vcross zV v) := c0
    rw [c0', Option.bind_some]
    show (if zeroB (vcross zV v) = true then _ else _) = _
    by_cases h : zeroB (vcross zV v) = true
    · have es : sideV v = xV := by unfold sideV; rw [if_pos h]
      unfold upV
      rw [es] at c2 r1 ⊢
      rw [if_pos h, scross]
      have c2' : F_field_cross n v.1 v.2.1 v.2.2 1 0 0 = some (vcross v xV) := c2
      rw [c2', Option.bind_some, r1]
      rfl
    · have es : sideV v = red (vcross zV v) := by unfold sideV; rw [if_neg h]
      have r0 := reduced_eq hn (v := vcross zV v) (by
        have := (bz.cross hb (show (1 : Int) * 2880 = 2880 by decide) (by decide) (by decide)).val
        exact this.mono (by decide))
      unfold upV
      rw [es] at c2 r1 ⊢
      rw [if_neg h, r0, Option.bind_some, scross, c2, Option.bind_some, r1]
      rfl
  · unfold upV
    rw [← cross_times, red_mul hp, cross_side _ _ s3]
end Go.Proofs.YtiogobiijlaalaaDoor
