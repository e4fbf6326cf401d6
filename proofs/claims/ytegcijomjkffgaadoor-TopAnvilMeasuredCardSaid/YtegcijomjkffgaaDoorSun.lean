/-
  Plain lemmas on reduced vectors, and on where a ray meets a plane. An own text.
-/
import Derived.Test.YtegcijomjkffgaaDoorCom2
set_option linter.unusedVariables false
set_option linter.unusedSimpArgs false
set_option linter.unnecessarySimpa false
set_option maxRecDepth 20000
namespace Go.Proofs.YtegcijomjkffgaaDoor
open Go.SX

theorem pair_awake : F_top_anvilPair 5000 = some true := by kernel_rfl

theorem common_loop {n M : Nat} : ∀ (k : Nat) (a b : Int), b.natAbs < k → a.natAbs ≤ M → b.natAbs ≤ M → ∃ r, loopF (F_sun_common_L1 n) k (a, b) = some r ∧ r.natAbs = Int.gcd a b ∧ r.natAbs ≤ M
  | 0, a, b, h, _, _ => by omega
  | k + 1, a, b, h, ha, hb => by
    by_cases h0 : b = 0
    · subst h0
      refine ⟨a, ?_, by simp [Int.gcd], ha⟩
      refine loopF_r ?_
      unfold F_sun_common_L1
      rw [if_pos rfl]
    · have hm : (Int.tmod a b).natAbs = a.natAbs % b.natAbs := Int.natAbs_tmod a b
      have hlt : a.natAbs % b.natAbs < b.natAbs := Nat.mod_lt _ (by omega)
      have key : F_sun_common_L1 n (a, b) = some (.inl (b, Int.tmod a b)) := by
        unfold F_sun_common_L1
        rw [if_neg h0, if_pos h0]
      obtain ⟨r, r1, r2, r3⟩ := common_loop (n := n) (M := M) k b (Int.tmod a b) (by omega) hb (by omega)
      refine ⟨r, by rw [loopF_l key]; exact r1, ?_, r3⟩
      rw [r2]
      unfold Int.gcd
      rw [hm, Nat.gcd_comm, ← Nat.gcd_rec, Nat.gcd_comm]
theorem common_eq {n M : Nat} {a b : Int} (hn : b.natAbs < n) (ha : a.natAbs ≤ M) (hb : b.natAbs ≤ M) (hM : M ≤ 1000000000) : F_sun_common n a b = some ((Int.gcd a b : Nat) : Int) := by
  unfold F_sun_common
  obtain ⟨r, r1, r2, r3⟩ := common_loop (n := n) (M := M) n a b hn ha hb
  rw [r1, Option.bind_some, wrap64 (by unfold inI64; omega), ← r2]
  congr 1
  unfold maxI
  split <;> omega

theorem lwithin0 {n : Nat} {x : Int} (h1 : -1048576 ≤ x) (h2 : x ≤ 1048576) : F_light_within_4 n x (-1048576) 1048576 = some 0 := by
  unfold F_light_within_4
  rw [if_neg (by omega), decide_eq_false (by omega)]
  rfl
theorem swithin0 {n : Nat} {x : Int} (h1 : -1048576 ≤ x) (h2 : x ≤ 1048576) : F_sun_within n x (-1048576) 1048576 = some 0 := by
  unfold F_sun_within
  rw [if_neg (by omega), decide_eq_false (by omega)]
  rfl
theorem lfirst3 : F_light_first 5000 [I 0, I 0, I 0] = some 0 := by kernel_rfl
theorem lfirst2 : F_light_first 5000 [I 0, I 0] = some 0 := by kernel_rfl
theorem sfirst2 : F_sun_first 5000 [I 0, I 0] = some 0 := by kernel_rfl
theorem sfirst3 : F_sun_first 5000 [I 0, I 0, I 0] = some 0 := by kernel_rfl
theorem sfirst4 : F_sun_first 5000 [I 0, I 0, I 0, I 0] = some 0 := by kernel_rfl
structure Near (x y : Int) : Prop where
  x0 : 1 ≤ x
  x1 : x ≤ 1000
  y0 : -3000 ≤ y
  y1 : y ≤ 3000
theorem dir0 {x y : Int} (h : Near x y) : F_light_CheckDirection_2 5000 x y 0 = some 0 := by
  obtain ⟨x0, x1, y0, y1⟩ := h
  have hx : (x == 0) = false := by simpa using (by omega : ¬ x = 0)
  unfold F_light_CheckDirection_2 F_light_CheckVector_2
  rw [lwithin0 (by omega) (by omega), Option.bind_some, lwithin0 (by omega) (by omega), Option.bind_some, lwithin0 (by decide) (by decide), Option.bind_some, lfirst3, Option.bind_some, Option.bind_some, hx, Bool.false_and]
  show (F_light_when_4 5000 false 6).bind _ = _
  rw [show F_light_when_4 5000 false 6 = some 0 from rfl, Option.bind_some, lfirst2]
  rfl
theorem ray0 {x y : Int} (h : Near x y) : F_sun_CheckRay 5000 x y 0 = some 0 := by
  have hd := dir0 h
  obtain ⟨x0, x1, y0, y1⟩ := h
  have hf : F_sun_far 5000 x y 0 = some (maxI (maxI (maxI (maxI (maxI (maxI 0 x) (-x)) y) (-y)) 0) 0) := by
    unfold F_sun_far F_sun_parts_2
    rw [Option.bind_some]
    dsimp only
    rw [wrap64 (by unfold inI64; omega), wrap64 (by unfold inI64; omega), wrap64 (by decide), show 0 - x = -x by omega, show 0 - y = -y by omega]
    rfl
  have hm : ¬ maxI (maxI (maxI (maxI (maxI (maxI 0 x) (-x)) y) (-y)) 0) 0 > 4096 := by
    unfold maxI
    (repeat' split) <;> omega
  unfold F_sun_CheckRay
  rw [hd, Option.bind_some, hf, Option.bind_some, decide_eq_false hm, show F_sun_when_2 5000 false 3 = some 0 from rfl, Option.bind_some, sfirst2]
  rfl
theorem place0 {x : Int} (h1 : -1048576 ≤ x) (h2 : x ≤ 1048576) : F_sun_checkPlace 5000 x 0 0 = some 0 := by
  unfold F_sun_checkPlace F_sun_parts_2 F_sun_mapped_g
  rw [Option.bind_some]
  dsimp only
  have hl : ∀ y, y ∈ [x, 0, 0] → -1048576 ≤ y ∧ y ≤ 1048576 := by
    intro y hy
    simp only [List.mem_cons, List.not_mem_nil, or_false] at hy
    omega
  have := loop_acc (step := F_sun_mapped_g_L1 5000 ([x, 0, 0].map I)) (fun out => out) [x, 0, 0] (fun _ => [I 0]) (fun _ => Nat.le_refl _) (fun i out y hy ho => by
      have hi := ixlt hy
      have hb := hl y (List.mem_of_getElem? hy)
      simp only [List.length_cons, List.length_nil] at hi
      unfold F_sun_mapped_g_L1 F_sun_checkPlace_c1
      dsimp only
      rw [if_pos (lenlt hy), el_enc (enc := I) un_iI hy, Option.bind_some, swithin0 hb.1 hb.2, Option.bind_some, Option.bind_some, if_pos (by unfold roomP; omega), if_pos (by unfold inI64; omega)]
      rfl)
    (fun out _ => by
      unfold F_sun_mapped_g_L1
      rw [if_neg notlt]) (k := 5000) (by simp)
  have e : ([x, 0, 0].map I) = [I x, I 0, I 0] := rfl
  rw [e] at this
  rw [this, Option.bind_some, Option.bind_some]
  show (F_sun_first 5000 [I 0, I 0, I 0]).bind _ = _
  rw [sfirst3]
  rfl
theorem placeO : F_sun_checkPlace 5000 0 0 0 = some 0 := place0 (by decide) (by decide)
theorem rayX : F_sun_CheckRay 5000 1 0 0 = some 0 := ray0 ⟨by decide, by decide, by decide, by decide⟩

/-- A vector reduced, and the plane met. -/
theorem reduced_hit {away at' : Int} (h : Near away at') : ∃ G q y : Int, 1 ≤ G ∧ G ≤ away ∧ Near q y ∧ q ≤ away ∧ away = G * q ∧ at' = G * y ∧
    F_sun_Reduced_2 5000 away at' 0 = some (q, y, 0, 0) ∧ F_sun_Hit 5000 0 0 0 q y 0 away 0 0 1 0 0 = some (G, 1, 0) := by
  have hd := dir0 h
  obtain ⟨x0, x1, y0, y1⟩ := h
  have c1 : F_sun_common 5000 0 away = some away := by
    rw [common_eq (M := 3000) (by omega) (by decide) (by omega) (by decide)]
    congr 1
    have : Int.gcd 0 away = away.natAbs := by simp [Int.gcd]
    rw [this]; omega
  have c2 : F_sun_common 5000 away at' = some ((Int.gcd away at' : Nat) : Int) := common_eq (M := 3000) (by omega) (by omega) (by omega) (by decide)
  obtain ⟨q, hq⟩ := Int.gcd_dvd_left (a := away) (b := at')
  obtain ⟨y, hy⟩ := Int.gcd_dvd_right (a := away) (b := at')
  have hle : Int.gcd away at' ≤ away.natAbs := Nat.le_of_dvd (by omega) (Nat.gcd_dvd_left _ _)
  have hpos : 0 < Int.gcd away at' := Nat.gcd_pos_of_pos_left _ (by omega)
  generalize hG : Int.gcd away at' = G at *
  have c3 : F_sun_common 5000 (G : Int) 0 = some (G : Int) := by
    rw [common_eq (M := 3000) (by decide) (by omega) (by decide) (by decide)]
    congr 1
    have : Int.gcd (G : Int) 0 = G := by simp [Int.gcd]
    rw [this]
  have hq0 : 1 ≤ q := by
    rcases Int.lt_or_le q 1 with hlt | hge
    · have : (G : Int) * q ≤ 0 := Int.mul_nonpos_of_nonneg_of_nonpos (by omega) (by omega)
      omega
    · exact hge
  have hqn : q.natAbs ≤ away.natAbs := by
    rw [hq, Int.natAbs_mul]
    exact Nat.le_mul_of_pos_left _ (by omega)
  have hyn : y.natAbs ≤ at'.natAbs := by
    rw [hy, Int.natAbs_mul]
    exact Nat.le_mul_of_pos_left _ (by omega)
  have hn : Near q y := ⟨hq0, by omega, by omega, by omega⟩
  have t1 : Int.tdiv away G = q := by rw [hq]; exact Int.mul_tdiv_cancel_left q (by omega)
  have t2 : Int.tdiv at' G = y := by rw [hy]; exact Int.mul_tdiv_cancel_left y (by omega)
  have t3 : Int.tdiv 0 (G : Int) = 0 := Int.zero_tdiv _
  refine ⟨G, q, y, by omega, by omega, hn, by omega, hq, hy, ?_, ?_⟩
  · unfold F_sun_Reduced_2 F_sun_reduced_2 F_sun_parts_2 F_sun_vector
    rw [hd, Option.bind_some, if_pos rfl, Option.bind_some]
    dsimp only
    rw [c1, Option.bind_some, c2, Option.bind_some, c3, Option.bind_some, if_neg (by omega), if_pos (by omega), t1, t2, t3, if_pos (by unfold inI64; omega), if_pos (by unfold inI64; omega), if_pos (by decide)]
    rfl
  · have d1 : F_sun_dot 5000 q y 0 1 0 0 = some q := by
      unfold F_sun_dot
      simp only [Int.mul_one, Int.mul_zero, Int.add_zero]
      rw [if_pos (by unfold inI64; omega), if_pos (by decide), if_pos (by unfold inI64; omega), if_pos (by decide), if_pos (by unfold inI64; omega)]
    have d2 : F_sun_sum 5000 1 away 0 0 (-1) 0 0 0 = some (away, 0, 0) := by
      unfold F_sun_sum
      simp only [Int.one_mul, Int.mul_zero, Int.add_zero]
      have e : inI64 away := by unfold inI64; omega
      have e0 : inI64 0 := by decide
      simp only [if_pos e, if_pos e0]
    have d3 : F_sun_dot 5000 away 0 0 1 0 0 = some away := by
      unfold F_sun_dot
      simp only [Int.mul_one, Int.mul_zero, Int.add_zero]
      rw [if_pos (by unfold inI64; omega), if_pos (by decide), if_pos (by unfold inI64; omega), if_pos (by decide), if_pos (by unfold inI64; omega)]
    have c4 : F_sun_common 5000 away q = some q := by
      rw [common_eq (M := 3000) (by omega) (by omega) (by omega) (by decide)]
      congr 1
      have : Int.gcd away q = q.natAbs := by
        rw [hq]
        unfold Int.gcd
        rw [Int.natAbs_mul, Nat.gcd_mul_left_left]
      rw [this]; omega
    have t4 : Int.tdiv away q = G := by rw [hq]; exact Int.mul_tdiv_cancel _ (by omega)
    have t5 : Int.tdiv q q = 1 := Int.tdiv_self (by omega)
    unfold F_sun_Hit
    rw [placeO, Option.bind_some, ray0 hn, Option.bind_some, place0 (by omega) (by omega), Option.bind_some, rayX, Option.bind_some, sfirst4, Option.bind_some, if_pos rfl, d1, Option.bind_some, if_neg (by omega), d2, Option.bind_some]
    dsimp only
    rw [d3, Option.bind_some]
    unfold F_sun_ratio
    rw [if_neg (by omega), c4, Option.bind_some, if_pos (by omega), t4, t5, if_pos (by unfold inI64; omega), if_pos (by decide)]
    rfl
end Go.Proofs.YtegcijomjkffgaaDoor
