/-
  The plain law of DriveTracks: both ways of making a track agree. An own text.
-/
import Derived.Test.YtmgbmngmmpeaaaaGreatDoorTracks1
import Derived.Test.YtmgbmngmmpeaaaaGreatDoorCom
set_option linter.unusedVariables false
set_option linter.unusedSimpArgs false
set_option linter.unnecessarySimpa false
set_option maxRecDepth 20000
namespace Go.Proofs.YtmgbmngmmpeaaaaGreatDoor
open Go.SX

theorem awake5 : F_law03_awake 5000 = some true := by kernel_rfl
theorem wrap64 {m : Int} (h : inI64 m) : IntKind.wrap .i64 m = m := by
  unfold inI64 at h
  rw [IntKind.wrap_i64]; omega
theorem maxI_le {a b c : Int} : maxI a b ≤ c ↔ a ≤ c ∧ b ≤ c := by unfold maxI; split <;> omega
theorem first6 {n : Nat} (hn : 10 ≤ n) (a b c d e f : Int) : F_drive_first n [I a, I b, I c, I d, I e, I f] = some (firstNZ [a, b, c, d, e, f]) := first_eq [a, b, c, d, e, f] (by simp) (by simp; omega)
theorem refFirst6 {n : Nat} (hn : 10 ≤ n) (a b c d e f : Int) : F_ref01_First n [I a, I b, I c, I d, I e, I f] = some (firstNZ [a, b, c, d, e, f]) := refFirst_eq [a, b, c, d, e, f] (by simp) (by simp; omega)

def trackE (a0 a1 a2 a3 a4 a5 : Int) : Int := firstNZ [inR a0 (-1000) 1000, inR a1 (-1000) 1000, inR a2 (-1000) 1000, inR a3 (-1000) 1000, inR a4 1 100, inR a5 1 100]
theorem refTrackE {n : Nat} (hn : 10 ≤ n) (a0 a1 a2 a3 a4 a5 : Int) : F_ref03_CheckTrack n a0 a1 a2 a3 a4 a5 = some (trackE a0 a1 a2 a3 a4 a5) := by
  unfold F_ref03_CheckTrack
  simp only [range_eq, Option.bind_some, refFirst6 hn]
  rfl
theorem firstNZ_zero : ∀ {l : List Int}, firstNZ l = 0 → ∀ x, x ∈ l → x = 0
  | [], _, x, hx => by cases hx
  | y :: l, h, x, hx => by
    unfold firstNZ at h
    by_cases hy : y = 0
    · rw [if_pos hy] at h
      rcases List.mem_cons.1 hx with rfl | hx
      · exact hy
      · exact firstNZ_zero h x hx
    · rw [if_neg hy] at h; exact absurd h hy
structure Rng (a0 a1 a2 a3 a4 a5 : Int) : Prop where
  l0 : -1000 ≤ a0
  u0 : a0 ≤ 1000
  l1 : -1000 ≤ a1
  u1 : a1 ≤ 1000
  l2 : -1000 ≤ a2
  u2 : a2 ≤ 1000
  l3 : -1000 ≤ a3
  u3 : a3 ≤ 1000
  l4 : 1 ≤ a4
  u4 : a4 ≤ 100
  l5 : 1 ≤ a5
  u5 : a5 ≤ 100
theorem trackE_zero {a0 a1 a2 a3 a4 a5 : Int} (h : trackE a0 a1 a2 a3 a4 a5 = 0) : Rng a0 a1 a2 a3 a4 a5 := by
  have hz := firstNZ_zero h
  have h0 := inR_zero (hz (inR a0 (-1000) 1000) (by simp))
  have h1 := inR_zero (hz (inR a1 (-1000) 1000) (by simp))
  have h2 := inR_zero (hz (inR a2 (-1000) 1000) (by simp))
  have h3 := inR_zero (hz (inR a3 (-1000) 1000) (by simp))
  have h4 := inR_zero (hz (inR a4 1 100) (by simp))
  have h5 := inR_zero (hz (inR a5 1 100) (by simp))
  exact ⟨h0.1, h0.2, h1.1, h1.2, h2.1, h2.2, h3.1, h3.2, h4.1, h4.2, h5.1, h5.2⟩

/-- One step of a count to its goal. -/
def stepP (x t r : Int) : Int := x + maxI (-r) (minI r (t - x))
theorem near_eq {n : Nat} {x t r : Int} (hx : -1000 ≤ x ∧ x ≤ 1000) (hr : 1 ≤ r ∧ r ≤ 100) : F_ref03_nearer n x t r = some (stepP x t r) := by
  unfold F_ref03_nearer stepP
  by_cases h : x < t
  · rw [if_pos h, if_pos (by unfold inI64; omega)]
    congr 1
    unfold minI maxI
    repeat' split
    all_goals omega
  · rw [if_neg h, if_pos (by unfold inI64; omega)]
    congr 1
    unfold minI maxI
    repeat' split
    all_goals omega
theorem stepP_b {x t r : Int} (hx : -1000 ≤ x ∧ x ≤ 1000) (ht : -1000 ≤ t ∧ t ≤ 1000) : -1000 ≤ stepP x t r ∧ stepP x t r ≤ 1000 ∨ r < 0 := by
  unfold stepP minI maxI
  repeat' split
  all_goals omega
/-- How far it is. -/
def farP (x t : Int) : Nat := (x - t).natAbs
theorem farP_step {x t r : Int} (hr : 1 ≤ r) (h : x ≠ t) : farP (stepP x t r) t < farP x t := by
  unfold farP stepP minI maxI
  repeat' split
  all_goals omega
theorem farP_same {t r : Int} (hr : 1 ≤ r) : stepP t t r = t := by
  unfold stepP minI maxI
  repeat' split
  all_goals omega
theorem farP_le {x t r : Int} (hr : 1 ≤ r) : farP (stepP x t r) t ≤ farP x t := by
  by_cases h : x = t
  · rw [h, farP_same hr]; exact Nat.le_refl _
  · exact Nat.le_of_lt (farP_step hr h)
theorem beq2 {x y a b : Int} : ((x == a) && ((y == b) && true)) = true ↔ x = a ∧ y = b := by simp

/-- A track so far: the poses, the last one where the motors are. -/
def OnTrack (a2 a3 : Int) (x y : Int) (out : List D) : Prop := ∃ ps : List (Int × Int), out = (ps ++ [(x, y)]).map enc_Ai2Z ∧ ps.length + (farP x a2 + farP y a3) ≤ 4100 ∧ (-1000 ≤ x ∧ x ≤ 1000) ∧ (-1000 ≤ y ∧ y ≤ 1000)
theorem onTrack_step {a0 a1 a2 a3 a4 a5 x y : Int} {out : List D} (hr : Rng a0 a1 a2 a3 a4 a5) (h : OnTrack a2 a3 x y out) (hne : ¬ (x = a2 ∧ y = a3)) :
    OnTrack a2 a3 (stepP x a2 a4) (stepP y a3 a5) (out ++ [.agg [I (stepP x a2 a4), I (stepP y a3 a5)]]) ∧ farP (stepP x a2 a4) a2 + farP (stepP y a3 a5) a3 < farP x a2 + farP y a3 := by
  obtain ⟨ps, h1, h2, h3, h4⟩ := h
  have q1 := farP_le (x := x) (t := a2) hr.l4
  have q2 := farP_le (x := y) (t := a3) hr.l5
  have q3 : farP (stepP x a2 a4) a2 + farP (stepP y a3 a5) a3 < farP x a2 + farP y a3 := by
    by_cases hx : x = a2
    · have hy : y ≠ a3 := fun hy => hne ⟨hx, hy⟩
      have := farP_step hr.l5 hy; omega
    · have := farP_step hr.l4 hx; omega
  refine ⟨⟨ps ++ [(x, y)], ?_, ?_, ?_, ?_⟩, q3⟩
  · rw [h1, List.map_append (l₁ := ps ++ [(x, y)])]; rfl
  · simp; omega
  · rcases stepP_b (r := a4) h3 ⟨hr.l2, hr.u2⟩ with h | h
    · exact h
    · have := hr.l4; omega
  · rcases stepP_b (r := a5) h4 ⟨hr.l3, hr.u3⟩ with h | h
    · exact h
    · have := hr.l5; omega
theorem onTrack_last {a2 a3 x y : Int} {out : List D} (h : OnTrack a2 a3 x y out) : (out.length : Int) ≤ 5000 ∧ 0 < (out.length : Int) ∧ (nth out (Int.toNat ((out.length : Int) - 1))).bind un_Ai2Z = some (x, y) := by
  obtain ⟨ps, rfl, h2, _⟩ := h
  refine ⟨by simp; omega, by simp, ?_⟩
  rw [nth_get?]
  have : Int.toNat ((((ps ++ [(x, y)]).map enc_Ai2Z).length : Int) - 1) = ps.length := by simp
  rw [this]
  simp [un_Ai2Z, enc_Ai2Z, un_int]

theorem neg_wrap {r : Int} (h : 1 ≤ r ∧ r ≤ 100) : IntKind.wrap .i64 (0 - r) = -r := by
  rw [wrap64 (by unfold inI64; omega)]; omega
theorem stepP_in {x t r : Int} (hx : -1000 ≤ x ∧ x ≤ 1000) (hr : 1 ≤ r ∧ r ≤ 100) : inI64 (x + maxI (-r) (minI r (t - x))) := by
  unfold inI64 minI maxI
  repeat' split
  all_goals omega
theorem drive_step {n : Nat} {a0 a1 a2 a3 a4 a5 x y : Int} {out : List D} (hr : Rng a0 a1 a2 a3 a4 a5) (h : OnTrack a2 a3 x y out) (hne : ¬ (x = a2 ∧ y = a3)) :
    F_drive_Track_2_L1 n a0 a1 a2 a3 a4 a5 (.inr (x, y, out)) = some (.inl (.inr (stepP x a2 a4, stepP y a3 a5, out ++ [.agg [I (stepP x a2 a4), I (stepP y a3 a5)]]))) := by
  have h2 := onTrack_last h
  obtain ⟨ps, _, _, hx, hy⟩ := h
  have e1 : inI64 (a2 - x) := by have := hr.l2; have := hr.u2; unfold inI64; omega
  have e2 : inI64 (a3 - y) := by have := hr.l3; have := hr.u3; unfold inI64; omega
  have e3 : roomP 16 (out.length + 1) := by unfold roomP; omega
  unfold F_drive_Track_2_L1
  dsimp only
  rw [neg_wrap ⟨hr.l4, hr.u4⟩, neg_wrap ⟨hr.l5, hr.u5⟩, if_neg (fun h => hne (beq2.1 h)), if_pos e1, if_pos (stepP_in hx ⟨hr.l4, hr.u4⟩), if_pos e2, if_pos (stepP_in hy ⟨hr.l5, hr.u5⟩), if_pos e3]
  rfl
theorem ref_step {n : Nat} {a0 a1 a2 a3 a4 a5 x y : Int} {out : List D} (hr : Rng a0 a1 a2 a3 a4 a5) (h : OnTrack a2 a3 x y out) (hne : ¬ (x = a2 ∧ y = a3)) :
    F_ref03_Track_L1 n a0 a1 a2 a3 a4 a5 (.inr out) = some (.inl (.inr (out ++ [.agg [I (stepP x a2 a4), I (stepP y a3 a5)]]))) := by
  obtain ⟨q1, q2, q3⟩ := onTrack_last h
  obtain ⟨ps, _, _, hx, hy⟩ := h
  have e1 : inI64 ((out.length : Int) - 1) := by unfold inI64; omega
  have e2 : 0 ≤ (out.length : Int) - 1 ∧ (out.length : Int) - 1 < (out.length : Int) := by omega
  have e3 : roomP 16 (out.length + 1) := by unfold roomP; omega
  unfold F_ref03_Track_L1
  dsimp only
  rw [if_pos e1, if_pos e2, q3, Option.bind_some, if_neg (fun h => hne (beq2.1 h)), near_eq hx ⟨hr.l4, hr.u4⟩, Option.bind_some, near_eq hy ⟨hr.l5, hr.u5⟩, Option.bind_some, if_pos e3]
theorem ends_step {n : Nat} {a0 a1 a2 a3 a4 a5 : Int} {out : List D} (h : OnTrack a2 a3 a2 a3 out) :
    F_drive_Track_2_L1 n a0 a1 a2 a3 a4 a5 (.inr (a2, a3, out)) = some (.inr (.inr out)) ∧ F_ref03_Track_L1 n a0 a1 a2 a3 a4 a5 (.inr out) = some (.inr (.inr out)) := by
  obtain ⟨q1, q2, q3⟩ := onTrack_last h
  have e1 : inI64 ((out.length : Int) - 1) := by unfold inI64; omega
  have e2 : 0 ≤ (out.length : Int) - 1 ∧ (out.length : Int) - 1 < (out.length : Int) := by omega
  constructor
  · unfold F_drive_Track_2_L1
    dsimp only
    rw [if_pos (beq2.2 ⟨rfl, rfl⟩)]
  · unfold F_ref03_Track_L1
    dsimp only
    rw [if_pos e1, if_pos e2, q3, Option.bind_some, if_pos (beq2.2 ⟨rfl, rfl⟩)]
/-- Both loops in step, from a place on the track on. -/
theorem tracks_go {n : Nat} {a0 a1 a2 a3 a4 a5 : Int} (hr : Rng a0 a1 a2 a3 a4 a5) {k : Nat} {x y : Int} {out : List D} (h : OnTrack a2 a3 x y out) (hk : farP x a2 + farP y a3 < k) :
    ∃ ps : List (Int × Int), ps.length ≤ 4900 ∧ loopF (F_drive_Track_2_L1 n a0 a1 a2 a3 a4 a5) k (.inr (x, y, out)) = some (.inr (ps.map enc_Ai2Z)) ∧ loopF (F_ref03_Track_L1 n a0 a1 a2 a3 a4 a5) k (.inr out) = some (.inr (ps.map enc_Ai2Z)) := by
  induction k generalizing x y out with
  | zero => omega
  | succ k ih =>
    by_cases hne : x = a2 ∧ y = a3
    · obtain ⟨rfl, rfl⟩ := hne
      have := ends_step (n := n) (a0 := a0) (a1 := a1) (a4 := a4) (a5 := a5) h
      obtain ⟨ps, rfl, h2, _⟩ := h
      exact ⟨ps ++ [(x, y)], by simp; omega, loopF_r this.1, loopF_r this.2⟩
    · obtain ⟨s1, s2⟩ := onTrack_step hr h hne
      rw [loopF_l (drive_step hr h hne), loopF_l (ref_step hr h hne)]
      exact ih s1 (by omega)
theorem tracks_eq {n : Nat} (hn : 5000 ≤ n) {a0 a1 a2 a3 a4 a5 : Int} (hr : Rng a0 a1 a2 a3 a4 a5) (he : trackE a0 a1 a2 a3 a4 a5 = 0) :
    ∃ ps : List (Int × Int), ps.length ≤ 4900 ∧ F_drive_Track_2 n a0 a1 a2 a3 a4 a5 = some (ps.map enc_Ai2Z, 0) ∧ F_ref03_Track n a0 a1 a2 a3 a4 a5 = some (ps.map enc_Ai2Z) := by
  obtain ⟨n, rfl⟩ : ∃ m, n = m + 1 := ⟨n - 1, by omega⟩
  have hd : F_drive_Track_2 (n + 1) a0 a1 a2 a3 a4 a5 = (loopF (F_drive_Track_2_L1 (n + 1) a0 a1 a2 a3 a4 a5) (n + 1) (.inl ())).bind fun t9 => match t9 with
      | (.inl _) => some (([.agg [I a0, I a1]] : List D), (0 : Int))
      | (.inr t9) => some (t9, (0 : Int)) := by
    unfold F_drive_Track_2 F_drive_Track_c1_4
    simp only [within_eq, Option.bind_some, first6 (n := n + 1) (by omega)]
    unfold trackE at he
    rw [if_pos he]
    rfl
  rw [hd]
  unfold F_ref03_Track
  have h0 : farP a0 a2 + farP a1 a3 ≤ 4000 := by
    have := hr.l0; have := hr.u0; have := hr.l1; have := hr.u1; have := hr.l2; have := hr.u2; have := hr.l3; have := hr.u3
    unfold farP; omega
  have hx : -1000 ≤ a0 ∧ a0 ≤ 1000 := ⟨hr.l0, hr.u0⟩
  have hy : -1000 ≤ a1 ∧ a1 ≤ 1000 := ⟨hr.l1, hr.u1⟩
  have ht : OnTrack a2 a3 a0 a1 [.agg [I a0, I a1]] := ⟨[], rfl, by simpa using (by omega : farP a0 a2 + farP a1 a3 ≤ 4100), hx, hy⟩
  by_cases hne : a0 = a2 ∧ a1 = a3
  · refine ⟨[(a0, a1)], by simp, ?_, ?_⟩
    · rw [loopF_r (e := .inl ())]
      · rfl
      · unfold F_drive_Track_2_L1
        dsimp only
        rw [if_pos (beq2.2 hne)]
    · rw [loopF_r (e := .inl ())]
      · rfl
      · unfold F_ref03_Track_L1
        dsimp only
        rw [if_pos (beq2.2 hne)]
  · obtain ⟨s1, s2⟩ := onTrack_step hr ht hne
    obtain ⟨ps, p1, p2, p3⟩ := tracks_go (n := n + 1) hr (k := n) s1 (by omega)
    refine ⟨ps, p1, ?_, ?_⟩
    · rw [loopF_l (s' := .inr (stepP a0 a2 a4, stepP a1 a3 a5, [.agg [I a0, I a1], .agg [I (stepP a0 a2 a4), I (stepP a1 a3 a5)]]))]
      · have p2' : loopF (F_drive_Track_2_L1 (n + 1) a0 a1 a2 a3 a4 a5) n (.inr (stepP a0 a2 a4, stepP a1 a3 a5, [.agg [I a0, I a1], .agg [I (stepP a0 a2 a4), I (stepP a1 a3 a5)]])) = some (.inr (ps.map enc_Ai2Z)) := p2
        rw [p2']; rfl
      · have e1 : inI64 (a2 - a0) := by have := hr.l2; have := hr.u2; unfold inI64; omega
        have e2 : inI64 (a3 - a1) := by have := hr.l3; have := hr.u3; unfold inI64; omega
        unfold F_drive_Track_2_L1
        dsimp only
        rw [neg_wrap ⟨hr.l4, hr.u4⟩, neg_wrap ⟨hr.l5, hr.u5⟩, if_neg (fun h => hne (beq2.1 h)), if_pos e1, if_pos (stepP_in hx ⟨hr.l4, hr.u4⟩), if_pos e2, if_pos (stepP_in hy ⟨hr.l5, hr.u5⟩)]
        rfl
    · rw [loopF_l (s' := .inr [.agg [I a0, I a1], .agg [I (stepP a0 a2 a4), I (stepP a1 a3 a5)]])]
      · have p3' : loopF (F_ref03_Track_L1 (n + 1) a0 a1 a2 a3 a4 a5) n (.inr [.agg [I a0, I a1], .agg [I (stepP a0 a2 a4), I (stepP a1 a3 a5)]]) = some (.inr (ps.map enc_Ai2Z)) := p3
        rw [p3']; rfl
      · unfold F_ref03_Track_L1
        dsimp only
        rw [if_neg (fun h => hne (beq2.1 h)), near_eq hx ⟨hr.l4, hr.u4⟩, Option.bind_some, near_eq hy ⟨hr.l5, hr.u5⟩, Option.bind_some]

theorem un_enc2 (x : Int × Int) : un_Ai2Z (enc_Ai2Z x) = some x := by simp [un_Ai2Z, enc_Ai2Z, un_int]
theorem samePoses_eq {n : Nat} (ps : List (Int × Int)) (hl : ps.length < n) (h63 : ps.length < 9223372036854775807) : F_ref03_SamePoses n (ps.map enc_Ai2Z) (ps.map enc_Ai2Z) = some true := by
  unfold F_ref03_SamePoses
  rw [if_pos rfl]
  have := loopF_list0 (step := F_ref03_SamePoses_L1 n (ps.map enc_Ai2Z) (ps.map enc_Ai2Z)) (E := Unit ⊕ Unit) (fun (_ : Unit) (_ : Int × Int) => .inl ()) (fun _ => .inr ()) (fun i _ => (i : Int)) ps (fun _ _ => True)
    (fun i s x hx _ => by
      refine ⟨?_, trivial⟩
      unfold F_ref03_SamePoses_L1
      have hi : i < ps.length := (List.getElem?_eq_some_iff.1 hx).1
      rw [if_pos (by simp; omega), el_enc un_enc2 hx, Option.bind_some, Option.bind_some, if_pos (beq2.2 ⟨rfl, rfl⟩), if_pos (by unfold inI64; omega)]
      rfl)
    (fun s _ => by
      unfold F_ref03_SamePoses_L1
      rw [if_neg (by simp)])
    (k := n) (s := ()) trivial hl
  have e : ∀ l : List (Int × Int), runL (E := Unit ⊕ Unit) (fun (_ : Unit) (_ : Int × Int) => .inl ()) (fun _ => .inr ()) l () = .inr () := by
    intro l; induction l with
    | nil => rfl
    | cons x l ih => exact ih
  rw [e] at this
  rw [show ((0 : Nat) : Int) = 0 from rfl] at this
  rw [this]
  rfl
theorem law_DriveTracks (a0 a1 a2 a3 a4 a5 : Int) : F_law03_DriveTracks 5000 a0 a1 a2 a3 a4 a5 = some true := by
  unfold F_law03_DriveTracks
  rw [refTrackE (by omega)]
  by_cases he : trackE a0 a1 a2 a3 a4 a5 = 0
  · obtain ⟨ps, p1, p2, p3⟩ := tracks_eq (n := 5000) (Nat.le_refl _) (trackE_zero he) he
    rw [p2, Option.bind_some, Option.bind_some, if_pos he, p3, Option.bind_some]
    have hs : F_ref03_SamePoses 5000 (ps.map enc_Ai2Z) (ps.map enc_Ai2Z) = some true := samePoses_eq ps (by omega) (by omega)
    rw [hs, Option.bind_some, if_pos rfl, if_pos he.symm, awake5]
    rfl
  · have hd : F_drive_Track_2 5000 a0 a1 a2 a3 a4 a5 = some ([], trackE a0 a1 a2 a3 a4 a5) := by
      unfold F_drive_Track_2 F_drive_Track_c1_4
      simp only [within_eq, Option.bind_some, first6 (n := 5000) (by omega)]
      unfold trackE at he ⊢
      rw [if_neg he]
    rw [hd, Option.bind_some, Option.bind_some, if_neg he]
    have hs : F_ref03_SamePoses 5000 [] [] = some true := samePoses_eq [] (by simp) (by simp)
    rw [hs, Option.bind_some, if_pos rfl, if_pos rfl, awake5]
    rfl
end Go.Proofs.YtmgbmngmmpeaaaaGreatDoor
