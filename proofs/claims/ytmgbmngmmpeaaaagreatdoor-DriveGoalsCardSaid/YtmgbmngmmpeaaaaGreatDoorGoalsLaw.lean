/-
  The plain law of DriveGoals: a track's ends, steps and ticks; the vote of two encoders that agree. An own text.
-/
import Derived.Test.YtmgbmngmmpeaaaaGreatDoorGoals1
import Derived.Test.YtmgbmngmmpeaaaaGreatDoorTracksLaw
import Derived.Test.YtmgbmngmmpeaaaaGreatDoorVotesLaw
set_option linter.unusedVariables false
set_option linter.unusedSimpArgs false
set_option linter.unnecessarySimpa false
set_option maxRecDepth 20000
namespace Go.Proofs.YtmgbmngmmpeaaaaGreatDoor
open Go.SX

/-! The places of a track. -/
def traj (x t r : Int) : Nat → Int
  | 0 => x
  | k + 1 => stepP (traj x t r k) t r
theorem farP_sub {x t r : Int} (hr : 1 ≤ r) : farP (stepP x t r) t = farP x t - r.toNat := by
  unfold farP stepP minI maxI
  (repeat' split) <;> omega
theorem farP_traj {x t r : Int} (hr : 1 ≤ r) : ∀ k, farP (traj x t r k) t = farP x t - k * r.toNat
  | 0 => by simp [traj]
  | k + 1 => by
    show farP (stepP (traj x t r k) t r) t = _
    rw [farP_sub hr, farP_traj hr k, Nat.succ_mul]; omega
theorem farP_zero {x t : Int} : farP x t = 0 ↔ x = t := by unfold farP; omega
theorem traj_b {x t r : Int} (hr : 1 ≤ r) (hx : -1000 ≤ x ∧ x ≤ 1000) (ht : -1000 ≤ t ∧ t ≤ 1000) : ∀ k, -1000 ≤ traj x t r k ∧ traj x t r k ≤ 1000
  | 0 => hx
  | k + 1 => by
    rcases stepP_b (r := r) (traj_b hr hx ht k) ht with h | h
    · exact h
    · omega
/-- The ticks that a motor needs. -/
def ceilD (x t r : Int) : Nat := (farP x t + r.toNat - 1) / r.toNat
theorem ceilD_iff {x t r : Int} (hr : 1 ≤ r) (k : Nat) : ceilD x t r ≤ k ↔ traj x t r k = t := by
  rw [← farP_zero, farP_traj hr]
  unfold ceilD
  have h0 : 0 < r.toNat := by omega
  rw [Nat.div_le_iff_le_mul_add_pred h0, Nat.mul_comm r.toNat k]
  omega
theorem tdiv_is {x t r : Int} (hr : 1 ≤ r) : Int.tdiv (maxI (t - x) (x - t) + r - 1) r = (ceilD x t r : Int) := by
  unfold ceilD
  have e : maxI (t - x) (x - t) + r - 1 = ((farP x t + r.toNat - 1 : Nat) : Int) := by
    unfold farP maxI; split <;> omega
  have e2 : r = ((r.toNat : Nat) : Int) := by omega
  rw [e, Int.tdiv_eq_ediv_of_nonneg (by omega)]
  conv => lhs; rw [e2]
  rw [Int.toNat_natCast]
  exact (Int.natCast_ediv _ _).symm
theorem ceilD_le {x t r : Int} (hr : 1 ≤ r) (hx : -1000 ≤ x ∧ x ≤ 1000) (ht : -1000 ≤ t ∧ t ≤ 1000) : ceilD x t r ≤ 2000 := by
  rw [ceilD_iff hr, ← farP_zero, farP_traj hr]
  have h1 : farP x t ≤ 2000 := by unfold farP; omega
  have h2 : 2000 * 1 ≤ 2000 * r.toNat := Nat.mul_le_mul_left _ (by omega)
  omega
def posK (a0 a1 a2 a3 a4 a5 : Int) (k : Nat) : Int × Int := (traj a0 a2 a4 k, traj a1 a3 a5 k)
def listK (a0 a1 a2 a3 a4 a5 : Int) (m : Nat) : List (Int × Int) := (List.range m).map (posK a0 a1 a2 a3 a4 a5)
theorem listK_succ (a0 a1 a2 a3 a4 a5 : Int) (m : Nat) : listK a0 a1 a2 a3 a4 a5 (m + 1) = listK a0 a1 a2 a3 a4 a5 m ++ [posK a0 a1 a2 a3 a4 a5 m] := by
  unfold listK; rw [List.range_succ, List.map_append]; rfl
theorem listK_len (a0 a1 a2 a3 a4 a5 : Int) (m : Nat) : (listK a0 a1 a2 a3 a4 a5 m).length = m := by simp [listK]
theorem listK_at {a0 a1 a2 a3 a4 a5 : Int} {m k : Nat} (h : k < m) : (listK a0 a1 a2 a3 a4 a5 m)[k]? = some (posK a0 a1 a2 a3 a4 a5 k) := by
  unfold listK; rw [List.getElem?_map, List.getElem?_range h]; rfl
theorem listK_at' {a0 a1 a2 a3 a4 a5 : Int} {m k : Nat} (h : k < m) : (listK a0 a1 a2 a3 a4 a5 m)[k]? = some (traj a0 a2 a4 k, traj a1 a3 a5 k) := listK_at h
theorem track_go {n : Nat} {a0 a1 a2 a3 a4 a5 : Int} (hr : Rng a0 a1 a2 a3 a4 a5) (N : Nat) (hN : N = max (ceilD a0 a2 a4) (ceilD a1 a3 a5)) :
    ∀ (j k : Nat), k + j = N → OnTrack a2 a3 (traj a0 a2 a4 k) (traj a1 a3 a5 k) ((listK a0 a1 a2 a3 a4 a5 (k + 1)).map enc_Ai2Z) → ∀ fuel, j < fuel →
      loopF (F_drive_Track_2_L1 n a0 a1 a2 a3 a4 a5) fuel (.inr (traj a0 a2 a4 k, traj a1 a3 a5 k, (listK a0 a1 a2 a3 a4 a5 (k + 1)).map enc_Ai2Z)) = some (.inr ((listK a0 a1 a2 a3 a4 a5 (N + 1)).map enc_Ai2Z))
  | 0, k, hk, ho, fuel, hf => by
    obtain ⟨fuel, rfl⟩ : ∃ m, fuel = m + 1 := ⟨fuel - 1, by omega⟩
    have e1 : traj a0 a2 a4 k = a2 := (ceilD_iff hr.l4 k).1 (by omega)
    have e2 : traj a1 a3 a5 k = a3 := (ceilD_iff hr.l5 k).1 (by omega)
    rw [e1, e2] at ho ⊢
    rw [loopF_r (ends_step (n := n) (a0 := a0) (a1 := a1) (a4 := a4) (a5 := a5) ho).1, show k = N by omega]
  | j + 1, k, hk, ho, fuel, hf => by
    obtain ⟨fuel, rfl⟩ : ∃ m, fuel = m + 1 := ⟨fuel - 1, by omega⟩
    have hne : ¬ (traj a0 a2 a4 k = a2 ∧ traj a1 a3 a5 k = a3) := by
      rintro ⟨q1, q2⟩
      have := (ceilD_iff hr.l4 k).2 q1
      have := (ceilD_iff hr.l5 k).2 q2
      omega
    have hs := (onTrack_step hr ho hne).1
    have hd := drive_step (n := n) hr ho hne
    have el : (listK a0 a1 a2 a3 a4 a5 (k + 1)).map enc_Ai2Z ++ [.agg [I (stepP (traj a0 a2 a4 k) a2 a4), I (stepP (traj a1 a3 a5 k) a3 a5)]] = (listK a0 a1 a2 a3 a4 a5 (k + 1 + 1)).map enc_Ai2Z := by
      rw [listK_succ a0 a1 a2 a3 a4 a5 (k + 1), List.map_append]; rfl
    rw [el] at hs hd
    rw [loopF_l hd]
    exact track_go hr N hN j (k + 1) (by omega) hs fuel (by omega)
theorem track_is {n : Nat} (hn : 5000 ≤ n) {a0 a1 a2 a3 a4 a5 : Int} (hr : Rng a0 a1 a2 a3 a4 a5) (he : trackE a0 a1 a2 a3 a4 a5 = 0) :
    F_drive_Track_2 n a0 a1 a2 a3 a4 a5 = some ((listK a0 a1 a2 a3 a4 a5 (max (ceilD a0 a2 a4) (ceilD a1 a3 a5) + 1)).map enc_Ai2Z, 0) := by
  obtain ⟨n, rfl⟩ : ∃ m, n = m + 1 := ⟨n - 1, by omega⟩
  have hx : -1000 ≤ a0 ∧ a0 ≤ 1000 := ⟨hr.l0, hr.u0⟩
  have hy : -1000 ≤ a1 ∧ a1 ≤ 1000 := ⟨hr.l1, hr.u1⟩
  have hd : F_drive_Track_2 (n + 1) a0 a1 a2 a3 a4 a5 = (loopF (F_drive_Track_2_L1 (n + 1) a0 a1 a2 a3 a4 a5) (n + 1) (.inl ())).bind fun t9 => match t9 with
      | (.inl _) => some (([.agg [I a0, I a1]] : List D), (0 : Int))
      | (.inr t9) => some (t9, (0 : Int)) := by
    unfold F_drive_Track_2 F_drive_Track_c1_4
    simp only [within_eq, Option.bind_some, first6 (n := n + 1) (by omega)]
    unfold trackE at he
    rw [if_pos he]
    rfl
  rw [hd]
  have h0 : farP a0 a2 + farP a1 a3 ≤ 4000 := by
    have := hr.l0; have := hr.u0; have := hr.l1; have := hr.u1; have := hr.l2; have := hr.u2; have := hr.l3; have := hr.u3
    unfold farP; omega
  have ht : OnTrack a2 a3 a0 a1 [.agg [I a0, I a1]] := ⟨[], rfl, by simpa using (by omega : farP a0 a2 + farP a1 a3 ≤ 4100), hx, hy⟩
  have hc0 := ceilD_le hr.l4 hx ⟨hr.l2, hr.u2⟩
  have hc1 := ceilD_le hr.l5 hy ⟨hr.l3, hr.u3⟩
  generalize hN : max (ceilD a0 a2 a4) (ceilD a1 a3 a5) = N
  by_cases hne : a0 = a2 ∧ a1 = a3
  · have q1 := (ceilD_iff (x := a0) (t := a2) hr.l4 0).2 hne.1
    have q2 := (ceilD_iff (x := a1) (t := a3) hr.l5 0).2 hne.2
    have hN0 : N = 0 := by omega
    subst hN0
    rw [loopF_r (e := .inl ())]
    · rfl
    · unfold F_drive_Track_2_L1
      dsimp only
      rw [if_pos (beq2.2 hne)]
  · obtain ⟨s1, s2⟩ := onTrack_step hr ht hne
    have hN1 : 1 ≤ N := by
      rcases Nat.eq_zero_or_pos N with h | h
      · exfalso
        apply hne
        exact ⟨(ceilD_iff (x := a0) (t := a2) hr.l4 0).1 (by omega), (ceilD_iff (x := a1) (t := a3) hr.l5 0).1 (by omega)⟩
      · exact h
    rw [loopF_l (s' := .inr (stepP a0 a2 a4, stepP a1 a3 a5, [.agg [I a0, I a1], .agg [I (stepP a0 a2 a4), I (stepP a1 a3 a5)]]))]
    · have := track_go (n := n + 1) hr N hN.symm (N - 1) 1 (by omega) s1 n (by omega)
      have this' : loopF (F_drive_Track_2_L1 (n + 1) a0 a1 a2 a3 a4 a5) n (.inr (stepP a0 a2 a4, stepP a1 a3 a5, [.agg [I a0, I a1], .agg [I (stepP a0 a2 a4), I (stepP a1 a3 a5)]])) = some (.inr ((listK a0 a1 a2 a3 a4 a5 (N + 1)).map enc_Ai2Z)) := this
      rw [this']; rfl
    · have e1 : inI64 (a2 - a0) := by have := hr.l2; have := hr.u2; unfold inI64; omega
      have e2 : inI64 (a3 - a1) := by have := hr.l3; have := hr.u3; unfold inI64; omega
      unfold F_drive_Track_2_L1
      dsimp only
      rw [neg_wrap ⟨hr.l4, hr.u4⟩, neg_wrap ⟨hr.l5, hr.u5⟩, if_neg (fun h => hne (beq2.1 h)), if_pos e1, if_pos (stepP_in hx ⟨hr.l4, hr.u4⟩), if_pos e2, if_pos (stepP_in hy ⟨hr.l5, hr.u5⟩)]
      rfl

/-! Each step. -/
theorem step_sign {x t r : Int} (hx : -1000 ≤ x ∧ x ≤ 1000) (ht : -1000 ≤ t ∧ t ≤ 1000) (hr : 1 ≤ r ∧ r ≤ 100) : (stepP x t r - x) * (t - x) ≥ 0 ∧ (stepP x t r - x) * (t - x) ≤ 200000 := by
  have hs : stepP x t r - x = maxI (-r) (minI r (t - x)) := by unfold stepP; omega
  rw [hs]
  have hdd : -2000 ≤ t - x ∧ t - x ≤ 2000 := by omega
  generalize t - x = d at *
  by_cases hd : 0 ≤ d
  · have h1 : 0 ≤ maxI (-r) (minI r d) ∧ maxI (-r) (minI r d) ≤ 100 := by unfold maxI minI; (repeat' split) <;> omega
    have hd2 : d ≤ 2000 := by omega
    refine ⟨Int.mul_nonneg h1.1 hd, ?_⟩
    have := Int.mul_le_mul h1.2 hd2 hd (by omega)
    omega
  · have h1 : maxI (-r) (minI r d) ≤ 0 ∧ -100 ≤ maxI (-r) (minI r d) := by unfold maxI minI; (repeat' split) <;> omega
    have e : maxI (-r) (minI r d) * d = (-(maxI (-r) (minI r d))) * (-d) := by rw [Int.neg_mul_neg]
    rw [e]
    have hd2 : -d ≤ 2000 := by omega
    refine ⟨Int.mul_nonneg (by omega) (by omega), ?_⟩
    have := Int.mul_le_mul (show -(maxI (-r) (minI r d)) ≤ 100 by omega) hd2 (by omega) (by omega)
    omega
theorem step_size {x t r : Int} (hr : 1 ≤ r) : maxI (stepP x t r - x) (-(stepP x t r - x)) = minI r (maxI (t - x) (-(t - x))) := by
  unfold stepP maxI minI
  (repeat' split) <;> omega
theorem check_loop {n : Nat} {a0 a1 a2 a3 a4 a5 a6 a7 a8 a9 e : Int} (hr : Rng a0 a1 a2 a3 a4 a5) {m : Nat} (hm : m ≤ 4000) : ∀ (k i : Nat), 1 ≤ i → i ≤ m → m < i + k →
    loopF (F_law03_DriveGoals_L1 n a2 a3 a4 a5 a6 a7 a8 a9 ((listK a0 a1 a2 a3 a4 a5 m).map enc_Ai2Z, e)) k (i : Int) = some (.inr ())
  | 0, i, _, h, hk => by omega
  | k + 1, i, h1, h, hk => by
    by_cases hi : i < m
    · have hx := traj_b hr.l4 ⟨hr.l0, hr.u0⟩ ⟨hr.l2, hr.u2⟩ (i - 1)
      have hy := traj_b hr.l5 ⟨hr.l1, hr.u1⟩ ⟨hr.l3, hr.u3⟩ (i - 1)
      have hx' := traj_b hr.l4 ⟨hr.l0, hr.u0⟩ ⟨hr.l2, hr.u2⟩ i
      have hy' := traj_b hr.l5 ⟨hr.l1, hr.u1⟩ ⟨hr.l3, hr.u3⟩ i
      have ex : traj a0 a2 a4 i = stepP (traj a0 a2 a4 (i - 1)) a2 a4 := by
        conv => lhs; rw [show i = i - 1 + 1 by omega]
        rfl
      have ey : traj a1 a3 a5 i = stepP (traj a1 a3 a5 (i - 1)) a3 a5 := by
        conv => lhs; rw [show i = i - 1 + 1 by omega]
        rfl
      have sx := step_sign hx ⟨hr.l2, hr.u2⟩ ⟨hr.l4, hr.u4⟩
      have sy := step_sign hy ⟨hr.l3, hr.u3⟩ ⟨hr.l5, hr.u5⟩
      have zx := step_size (x := traj a0 a2 a4 (i - 1)) (t := a2) hr.l4
      have zy := step_size (x := traj a1 a3 a5 (i - 1)) (t := a3) hr.l5
      rw [← ex] at sx zx
      rw [← ey] at sy zy
      have b2 := hr.l2; have b3 := hr.u2; have b4 := hr.l3; have b5 := hr.u3
      have w1 : IntKind.wrap .i64 (0 - (traj a0 a2 a4 i - traj a0 a2 a4 (i - 1))) = -(traj a0 a2 a4 i - traj a0 a2 a4 (i - 1)) := by rw [wrap64 (by unfold inI64; omega)]; omega
      have w2 : IntKind.wrap .i64 (0 - (a2 - traj a0 a2 a4 (i - 1))) = -(a2 - traj a0 a2 a4 (i - 1)) := by rw [wrap64 (by unfold inI64; omega)]; omega
      have w3 : IntKind.wrap .i64 (0 - (traj a1 a3 a5 i - traj a1 a3 a5 (i - 1))) = -(traj a1 a3 a5 i - traj a1 a3 a5 (i - 1)) := by rw [wrap64 (by unfold inI64; omega)]; omega
      have w4 : IntKind.wrap .i64 (0 - (a3 - traj a1 a3 a5 (i - 1))) = -(a3 - traj a1 a3 a5 (i - 1)) := by rw [wrap64 (by unfold inI64; omega)]; omega
      have q1 : maxI (traj a0 a2 a4 i - traj a0 a2 a4 (i - 1)) (IntKind.wrap .i64 (0 - (traj a0 a2 a4 i - traj a0 a2 a4 (i - 1)))) = minI a4 (maxI (a2 - traj a0 a2 a4 (i - 1)) (IntKind.wrap .i64 (0 - (a2 - traj a0 a2 a4 (i - 1))))) := by rw [w1, w2]; exact zx
      have q2 : maxI (traj a1 a3 a5 i - traj a1 a3 a5 (i - 1)) (IntKind.wrap .i64 (0 - (traj a1 a3 a5 i - traj a1 a3 a5 (i - 1)))) = minI a5 (maxI (a3 - traj a1 a3 a5 (i - 1)) (IntKind.wrap .i64 (0 - (a3 - traj a1 a3 a5 (i - 1))))) := by rw [w3, w4]; exact zy
      have key : F_law03_DriveGoals_L1 n a2 a3 a4 a5 a6 a7 a8 a9 ((listK a0 a1 a2 a3 a4 a5 m).map enc_Ai2Z, e) (i : Int) = some (.inl ((i + 1 : Nat) : Int)) := by
        unfold F_law03_DriveGoals_L1
        dsimp only
        rw [if_pos (by rw [List.length_map, listK_len]; omega), el_enc un_enc2 (listK_at' hi), Option.bind_some, if_pos (by unfold inI64; omega), show (i : Int) - 1 = ((i - 1 : Nat) : Int) by omega, el_enc un_enc2 (listK_at' (show i - 1 < m by omega)), Option.bind_some]
        dsimp only
        rw [if_pos (by unfold inI64; omega), if_pos (by unfold inI64; omega), if_pos (by unfold inI64; omega), if_neg (by omega), if_pos q1, if_pos (by unfold inI64; omega), if_pos (by unfold inI64; omega), if_pos (by unfold inI64; omega), if_neg (by omega), if_pos q2, if_pos (by unfold inI64; omega)]
        rfl
      rw [loopF_l key]
      exact check_loop hr hm k (i + 1) (by omega) hi (by omega)
    · refine loopF_r ?_
      unfold F_law03_DriveGoals_L1
      dsimp only
      rw [if_neg (by rw [List.length_map, listK_len]; omega)]

/-! The vote of two that agree. -/
theorem vote_of {a0 a1 a2 lim lo md hi : Int} (hmn : mnV a0 a1 a2 = lo) (hmx : mxV a0 a1 a2 = hi) (hs : a0 + a1 + a2 = lo + md + hi) :
    voteE a0 a1 a2 lim = if md - lo ≤ lim then if hi - md ≤ lim then (md, -1, 0) else (md, idxV a0 a1 a2 hi, 0) else if hi - md ≤ lim then (md, idxV a0 a1 a2 lo, 0) else (0, 0, 7) := by
  have hmd : mdV a0 a1 a2 = md := by unfold mdV; omega
  unfold voteE
  rw [hmd, hmn, hmx]
def away (p q : Int) : Int := maxI (p - q) (q - p)
theorem votE_of {a0 a1 a2 lim : Int} (h0 : -1000 ≤ a0 ∧ a0 ≤ 1000) (h1 : -1000 ≤ a1 ∧ a1 ≤ 1000) (h2 : -1000 ≤ a2 ∧ a2 ≤ 1000) (h3 : 0 ≤ lim ∧ lim ≤ 1000) : votE a0 a1 a2 lim = voteE a0 a1 a2 lim := by
  have q : ∀ x lo hi : Int, lo ≤ x → x ≤ hi → inR x lo hi = 0 := fun x lo hi u v => by unfold inR; rw [if_neg (by omega), if_neg (by omega)]
  unfold votE
  rw [if_pos (q _ _ _ h0.1 h0.2), if_pos (q _ _ _ h1.1 h1.2), if_pos (q _ _ _ h2.1 h2.2), if_pos (q _ _ _ h3.1 h3.2)]
theorem vote0 {p q lim : Int} (hp : -1000 ≤ p ∧ p ≤ 1000) (hq : -1000 ≤ q ∧ q ≤ 1000) (hl : 0 ≤ lim ∧ lim ≤ 1000) : votE q p p lim = (p, if away p q ≤ lim then -1 else 0, 0) := by
  rw [votE_of hq hp hp hl]
  rcases Int.le_total q p with h | h
  · rw [vote_of (lo := q) (md := p) (hi := p) (by unfold mnV minI; (repeat' split) <;> omega) (by unfold mxV maxI; (repeat' split) <;> omega) (by omega)]
    have e : away p q = p - q := by unfold away maxI; split <;> omega
    rw [e]
    by_cases c : p - q ≤ lim
    · rw [if_pos c, if_pos (by omega), if_pos c]
    · rw [if_neg c, if_pos (by omega), if_neg c]; simp [idxV]
  · rw [vote_of (lo := p) (md := p) (hi := q) (by unfold mnV minI; (repeat' split) <;> omega) (by unfold mxV maxI; (repeat' split) <;> omega) (by omega)]
    have e : away p q = q - p := by unfold away maxI; split <;> omega
    rw [e]
    by_cases c : q - p ≤ lim
    · rw [if_pos (by omega), if_pos c, if_pos c]
    · rw [if_pos (by omega), if_neg c, if_neg c]; simp [idxV]
theorem vote1 {p q lim : Int} (hp : -1000 ≤ p ∧ p ≤ 1000) (hq : -1000 ≤ q ∧ q ≤ 1000) (hl : 0 ≤ lim ∧ lim ≤ 1000) : votE p q p lim = (p, if away p q ≤ lim then -1 else 1, 0) := by
  rw [votE_of hp hq hp hl]
  rcases Int.le_total q p with h | h
  · rw [vote_of (lo := q) (md := p) (hi := p) (by unfold mnV minI; (repeat' split) <;> omega) (by unfold mxV maxI; (repeat' split) <;> omega) (by omega)]
    have e : away p q = p - q := by unfold away maxI; split <;> omega
    rw [e]
    by_cases c : p - q ≤ lim
    · rw [if_pos c, if_pos (by omega), if_pos c]
    · rw [if_neg c, if_pos (by omega), if_neg c]
      have : ¬ p = q := by omega
      simp [idxV, this]
  · rw [vote_of (lo := p) (md := p) (hi := q) (by unfold mnV minI; (repeat' split) <;> omega) (by unfold mxV maxI; (repeat' split) <;> omega) (by omega)]
    have e : away p q = q - p := by unfold away maxI; split <;> omega
    rw [e]
    by_cases c : q - p ≤ lim
    · rw [if_pos (by omega), if_pos c, if_pos c]
    · rw [if_pos (by omega), if_neg c, if_neg c]
      have : ¬ p = q := by omega
      simp [idxV, this]
theorem vote2 {p q lim : Int} (hp : -1000 ≤ p ∧ p ≤ 1000) (hq : -1000 ≤ q ∧ q ≤ 1000) (hl : 0 ≤ lim ∧ lim ≤ 1000) : votE p p q lim = (p, if away p q ≤ lim then -1 else 2, 0) := by
  rw [votE_of hp hp hq hl]
  rcases Int.le_total q p with h | h
  · rw [vote_of (lo := q) (md := p) (hi := p) (by unfold mnV minI; (repeat' split) <;> omega) (by unfold mxV maxI; (repeat' split) <;> omega) (by omega)]
    have e : away p q = p - q := by unfold away maxI; split <;> omega
    rw [e]
    by_cases c : p - q ≤ lim
    · rw [if_pos c, if_pos (by omega), if_pos c]
    · rw [if_neg c, if_pos (by omega), if_neg c]
      have : ¬ p = q := by omega
      simp [idxV, this]
  · rw [vote_of (lo := p) (md := p) (hi := q) (by unfold mnV minI; (repeat' split) <;> omega) (by unfold mxV maxI; (repeat' split) <;> omega) (by omega)]
    have e : away p q = q - p := by unfold away maxI; split <;> omega
    rw [e]
    by_cases c : q - p ≤ lim
    · rw [if_pos (by omega), if_pos c, if_pos c]
    · rw [if_pos (by omega), if_neg c, if_neg c]
      have : ¬ p = q := by omega
      simp [idxV, this]
theorem tmod_b (a : Int) : -1000 ≤ Int.tmod a 1001 ∧ Int.tmod a 1001 ≤ 1000 := by
  have key : ∀ b : Int, 0 ≤ b → 0 ≤ Int.tmod b 1001 ∧ Int.tmod b 1001 ≤ 1000 := by
    intro b hb
    have h1 := Int.tmod_lt_of_pos b (show (0 : Int) < 1001 by decide)
    have h2 := Int.tmod_nonneg 1001 hb
    omega
  rcases Int.le_total 0 a with h | h
  · have := key a h
    omega
  · have := key (-a) (by omega)
    rw [Int.neg_tmod] at this
    omega
theorem tail_ok {n : Nat} {p q lim k : Int} (hk : 0 ≤ k ∧ k ≤ 2) (hp : -1000 ≤ p ∧ p ≤ 1000) (hq : -1000 ≤ q ∧ q ≤ 1000) (hw : F_law03_awake n = some true) :
    (if (if away p q ≤ lim then (-1 : Int) else k) = -1 then if inI64 (p - q) then if inI64 (q - p) then if ((decide (maxI (p - q) (q - p) > lim)) == ((if away p q ≤ lim then (-1 : Int) else k) == k)) = true then (F_law03_awake n).bind fun t => some t else none else none else none
      else if (if away p q ≤ lim then (-1 : Int) else k) = k then if inI64 (p - q) then if inI64 (q - p) then if ((decide (maxI (p - q) (q - p) > lim)) == ((if away p q ≤ lim then (-1 : Int) else k) == k)) = true then (F_law03_awake n).bind fun t => some t else none else none else none else none) = some true := by
  have e1 : inI64 (p - q) := by unfold inI64; omega
  have e2 : inI64 (q - p) := by unfold inI64; omega
  have ea : maxI (p - q) (q - p) = away p q := rfl
  rw [ea]
  by_cases c : away p q ≤ lim
  · have d1 : decide (away p q > lim) = false := decide_eq_false (by omega)
    have d2 : ((-1 : Int) == k) = false := by simp; omega
    rw [if_pos c, if_pos rfl, if_pos e1, if_pos e2, d1, d2, if_pos (by rfl), hw]; rfl
  · have d1 : decide (away p q > lim) = true := decide_eq_true (by omega)
    rw [if_neg c, if_neg (by omega), if_pos rfl, if_pos e1, if_pos e2, d1, beq_self_eq_true, if_pos (by rfl), hw]; rfl
theorem law_DriveGoals (a0 a1 a2 a3 a4 a5 a6 a7 a8 a9 : Int) (h6 : -32768 ≤ a6 ∧ a6 ≤ 32767) (h7 : -32768 ≤ a7 ∧ a7 ≤ 32767) (h8 : 0 ≤ a8 ∧ a8 ≤ 255) (h9 : 0 ≤ a9 ∧ a9 ≤ 65535) : F_law03_DriveGoals 5000 a0 a1 a2 a3 a4 a5 a6 a7 a8 a9 = some true := by
  unfold F_law03_DriveGoals
  rw [refTrackE (by omega), Option.bind_some]
  by_cases he : trackE a0 a1 a2 a3 a4 a5 = 0
  · have hr := trackE_zero he
    have hx : -1000 ≤ a0 ∧ a0 ≤ 1000 := ⟨hr.l0, hr.u0⟩
    have hy : -1000 ≤ a1 ∧ a1 ≤ 1000 := ⟨hr.l1, hr.u1⟩
    have hz : -1000 ≤ a2 ∧ a2 ≤ 1000 := ⟨hr.l2, hr.u2⟩
    have hu : -1000 ≤ a3 ∧ a3 ≤ 1000 := ⟨hr.l3, hr.u3⟩
    have hr4 : 1 ≤ a4 ∧ a4 ≤ 100 := ⟨hr.l4, hr.u4⟩
    have hr5 : 1 ≤ a5 ∧ a5 ≤ 100 := ⟨hr.l5, hr.u5⟩
    have hc0 := ceilD_le hr.l4 hx hz
    have hc1 := ceilD_le hr.l5 hy hu
    have m1 : -2000 ≤ maxI (a2 - a0) (a0 - a2) ∧ maxI (a2 - a0) (a0 - a2) ≤ 2000 := by unfold maxI; split <;> omega
    have m2 : -2000 ≤ maxI (a3 - a1) (a1 - a3) ∧ maxI (a3 - a1) (a1 - a3) ≤ 2000 := by unfold maxI; split <;> omega
    rw [if_pos he, track_is (Nat.le_refl _) hr he, Option.bind_some]
    rw [if_pos (by unfold inI64; omega), if_pos (by unfold inI64; omega), if_pos (by unfold inI64; omega), if_pos (by unfold inI64; omega), if_pos (by omega), tdiv_is hr.l4, if_pos (by unfold inI64; omega), if_pos (by unfold inI64; omega), if_pos (by unfold inI64; omega), if_pos (by unfold inI64; omega), if_pos (by unfold inI64; omega), if_pos (by omega), tdiv_is hr.l5, if_pos (by unfold inI64; omega)]
    have eN : maxI (maxI 0 (ceilD a0 a2 a4 : Int)) (ceilD a1 a3 a5 : Int) = ((max (ceilD a0 a2 a4) (ceilD a1 a3 a5) : Nat) : Int) := by
      unfold maxI
      (repeat' split) <;> omega
    rw [eN]
    have hN : max (ceilD a0 a2 a4) (ceilD a1 a3 a5) ≤ 2000 := by omega
    have hl4 : ceilD a0 a2 a4 ≤ max (ceilD a0 a2 a4) (ceilD a1 a3 a5) := by omega
    have hl5 : ceilD a1 a3 a5 ≤ max (ceilD a0 a2 a4) (ceilD a1 a3 a5) := by omega
    generalize max (ceilD a0 a2 a4) (ceilD a1 a3 a5) = N at *
    have f0 : el un_Ai2Z ((listK a0 a1 a2 a3 a4 a5 (N + 1)).map enc_Ai2Z) 0 = some (a0, a1) := el_enc un_enc2 (listK_at (show 0 < N + 1 by omega))
    have fN : el un_Ai2Z ((listK a0 a1 a2 a3 a4 a5 (N + 1)).map enc_Ai2Z) (N : Int) = some (a2, a3) := by
      have := el_enc un_enc2 (listK_at (a0 := a0) (a1 := a1) (a2 := a2) (a3 := a3) (a4 := a4) (a5 := a5) (show N < N + 1 by omega))
      unfold posK at this
      rw [(ceilD_iff hr.l4 N).1 hl4, (ceilD_iff hr.l5 N).1 hl5] at this
      exact this
    have hck := check_loop (n := 5000) (a6 := a6) (a7 := a7) (a8 := a8) (a9 := a9) (e := 0) hr (show N + 1 ≤ 4000 by omega) 5000 1 (Nat.le_refl _) (by omega) (by omega)
    dsimp only
    rw [if_pos rfl, if_pos (by unfold inI64; omega), List.length_map, listK_len, if_pos (by omega), f0, Option.bind_some, if_pos (beq2.2 ⟨rfl, rfl⟩), if_pos (by unfold inI64; omega), show ((N + 1 : Nat) : Int) - 1 = (N : Int) by omega, fN, Option.bind_some, if_pos (beq2.2 ⟨rfl, rfl⟩)]
    rw [show (((1 : Nat) : Int)) = 1 from rfl] at hck
    rw [hck, Option.bind_some]
    dsimp only
    have w6 : IntKind.wrap .i64 a6 = a6 := wrap64 (by unfold inI64; omega)
    have w7 : IntKind.wrap .i64 a7 = a7 := wrap64 (by unfold inI64; omega)
    have w8 : IntKind.wrap .i64 a8 = a8 := wrap64 (by unfold inI64; omega)
    have w9 : IntKind.wrap .i64 a9 = a9 := wrap64 (by unfold inI64; omega)
    rw [w6, w7, w8, w9]
    have hp := tmod_b a6
    have hq := tmod_b a7
    have hl : 0 ≤ Int.tmod a9 1001 ∧ Int.tmod a9 1001 ≤ 1000 := ⟨Int.tmod_nonneg _ h9.1, (tmod_b a9).2⟩
    have h3 : 0 ≤ Int.tmod a8 3 ∧ Int.tmod a8 3 < 3 := ⟨Int.tmod_nonneg _ h8.1, Int.tmod_lt_of_pos _ (by decide)⟩
    generalize Int.tmod a6 1001 = p at *
    generalize Int.tmod a7 1001 = q at *
    generalize Int.tmod a9 1001 = lim at *
    generalize Int.tmod a8 3 = k at *
    by_cases c0 : k = 0
    · rw [if_pos c0, voted_eq, vote0 hp hq hl, Option.bind_some, c0]
      dsimp only
      rw [if_pos rfl, if_pos rfl]
      exact tail_ok (by omega) hp hq awake5
    · rw [if_neg c0]
      by_cases c1 : k = 1
      · rw [if_pos c1, voted_eq, vote1 hp hq hl, Option.bind_some, c1]
        dsimp only
        rw [if_pos rfl, if_pos rfl]
        exact tail_ok (by omega) hp hq awake5
      · have c2 : k = 2 := by omega
        rw [if_neg c1, if_pos c2, voted_eq, vote2 hp hq hl, Option.bind_some, c2]
        dsimp only
        rw [if_pos rfl, if_pos rfl]
        exact tail_ok (by omega) hp hq awake5
  · rw [if_neg he, awake5]
    rfl
end Go.Proofs.YtmgbmngmmpeaaaaGreatDoor
