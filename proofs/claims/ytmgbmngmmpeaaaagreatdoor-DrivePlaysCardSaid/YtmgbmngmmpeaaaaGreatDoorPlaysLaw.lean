/-
  The plain law of DrivePlays: the mirror is where it is followed to. An own text.
-/
import Derived.Test.YtmgbmngmmpeaaaaGreatDoorPlays1
import Derived.Test.YtmgbmngmmpeaaaaGreatDoorMovesLaw
import Derived.Test.YtmgbmngmmpeaaaaGreatDoorSxTwentyFive
set_option linter.unusedVariables false
set_option linter.unusedSimpArgs false
set_option linter.unnecessarySimpa false
set_option maxRecDepth 20000
namespace Go.Proofs.YtmgbmngmmpeaaaaGreatDoor
open Go.SX

theorem wrap64 {m : Int} (h : inI64 m) : IntKind.wrap .i64 m = m := by
  unfold inI64 at h
  rw [IntKind.wrap_i64]; omega
theorem inR_of {x lo hi : Int} (h1 : lo ≤ x) (h2 : x ≤ hi) : inR x lo hi = 0 := by
  unfold inR; rw [if_neg (by omega), if_neg (by omega)]
structure StOk (a0 a1 a2 a3 a4 a5 : Int) : Prop where
  l0 : -1000 ≤ a0
  l1 : a0 ≤ a1
  l2 : a1 ≤ 1000
  p0 : 0 ≤ a2
  p1 : a2 ≤ 50
  m0 : a0 ≤ a3
  m1 : a3 ≤ a1
  s0 : a3 - a2 ≤ a4
  s1 : a4 ≤ a5
  s2 : a5 ≤ a3
theorem stateE_of {a0 a1 a2 a3 a4 a5 : Int} (h : StOk a0 a1 a2 a3 a4 a5) : stateE a0 a1 a2 a3 a4 a5 = 0 := by
  obtain ⟨l0, l1, l2, p0, p1, m0, m1, s0, s1, s2⟩ := h
  have e1 : axisE a0 a1 a2 = 0 := by
    unfold axisE
    rw [inR_of l0 (by omega), inR_of (by omega) l2, inR_of p0 p1, decide_eq_false (by omega)]
    rfl
  unfold stateE
  rw [e1, inR_of m0 m1, decide_eq_false (by omega), if_pos (by rfl), if_neg (by omega), decide_eq_false (by omega)]
  rfl
theorem stateE_ok {a0 a1 a2 a3 a4 a5 : Int} (h : stateE a0 a1 a2 a3 a4 a5 = 0) : StOk a0 a1 a2 a3 a4 a5 := by
  obtain ⟨⟨h1, h2, h3, h4, h5⟩, h6, h7⟩ := stateE_zero h
  have e1 : axisE a0 a1 a2 = 0 := by
    unfold axisE
    rw [inR_of h1 (by omega), inR_of (by omega) h3, inR_of h4 h5, decide_eq_false (by omega)]
    rfl
  unfold stateE at h
  rw [e1, inR_of h6 h7] at h
  by_cases q1 : a4 > a5
  · rw [decide_eq_true q1, show firstNZ [0, 0, whenI true 11] = 11 from rfl, if_neg (by decide)] at h
    cases h
  · rw [decide_eq_false q1, if_pos (by rfl)] at h
    by_cases q2 : a4 < a3 - a2
    · rw [if_pos q2] at h; cases h
    · rw [if_neg q2] at h
      have q3 := whenI_zero (by decide) h
      simp only [decide_eq_false_iff_not] at q3
      exact ⟨h1, h2, h3, h4, h5, h6, h7, by omega, by omega, by omega⟩

def keepE (a2 motor x : Int) : Int := minI motor (maxI (motor - a2) x)
def stepQ (a0 a1 motor x : Int) : Int := maxI (a0 - motor) (minI (a1 - motor) x)
theorem stepQ_b {a0 a1 motor x : Int} (h : a0 ≤ a1) : a0 - motor ≤ stepQ a0 a1 motor x ∧ stepQ a0 a1 motor x ≤ a1 - motor := by
  unfold stepQ maxI minI
  repeat' split
  all_goals omega
/-- The mirror, pushed along. -/
def follow (a0 a1 a2 : Int) : List Int → Int → Int → List Int → Int × Int × List Int
  | [], mi, mo, st => (mi, mo, st)
  | x :: l, mi, mo, st => follow a0 a1 a2 l (keepE a2 (mo + stepQ a0 a1 mo x) mi) (mo + stepQ a0 a1 mo x) (st ++ [stepQ a0 a1 mo x])
theorem follow_steps (a0 a1 a2 : Int) : ∀ (l : List Int) (mi mo : Int) (st : List Int), ∃ r, (follow a0 a1 a2 l mi mo st).2.2 = st ++ r ∧ r.length = l.length ∧ ∀ lo hi, a0 ≤ a1 → 0 ≤ a2 → mo - a2 ≤ lo → lo ≤ mi → mi ≤ hi → hi ≤ mo → a0 ≤ mo → mo ≤ a1 →
    ∃ lo' hi', movedE a0 a1 a2 r mo lo hi = some ((follow a0 a1 a2 l mi mo st).2.1, lo', hi') ∧ (follow a0 a1 a2 l mi mo st).2.1 - a2 ≤ lo' ∧ lo' ≤ (follow a0 a1 a2 l mi mo st).1 ∧ (follow a0 a1 a2 l mi mo st).1 ≤ hi' ∧ hi' ≤ (follow a0 a1 a2 l mi mo st).2.1 ∧
      a0 ≤ (follow a0 a1 a2 l mi mo st).2.1 ∧ (follow a0 a1 a2 l mi mo st).2.1 ≤ a1
  | [], mi, mo, st => ⟨[], by simp [follow], rfl, fun lo hi _ _ h1 h2 h3 h4 h5 h6 => ⟨lo, hi, rfl, h1, h2, h3, h4, h5, h6⟩⟩
  | x :: l, mi, mo, st => by
    obtain ⟨r, r1, r2, r3⟩ := follow_steps a0 a1 a2 l (keepE a2 (mo + stepQ a0 a1 mo x) mi) (mo + stepQ a0 a1 mo x) (st ++ [stepQ a0 a1 mo x])
    refine ⟨stepQ a0 a1 mo x :: r, ?_, by simp [r2], ?_⟩
    · show (follow a0 a1 a2 l (keepE a2 (mo + stepQ a0 a1 mo x) mi) (mo + stepQ a0 a1 mo x) (st ++ [stepQ a0 a1 mo x])).2.2 = _
      rw [r1, List.append_assoc]; rfl
    · intro lo hi h0 hp h1 h2 h3 h4 h5 h6
      have hb := stepQ_b (motor := mo) (x := x) h0
      have key := r3 (keepE a2 (mo + stepQ a0 a1 mo x) lo) (keepE a2 (mo + stepQ a0 a1 mo x) hi) h0 hp
        (by unfold keepE minI maxI; (repeat' split) <;> omega) (by unfold keepE minI maxI; (repeat' split) <;> omega) (by unfold keepE minI maxI; (repeat' split) <;> omega) (by unfold keepE minI; split <;> omega) (by omega) (by omega)
      obtain ⟨lo', hi', k1, k2⟩ := key
      refine ⟨lo', hi', ?_, k2⟩
      unfold movedE
      rw [if_neg (by omega)]
      exact k1
theorem un_enc8 (x : Int) : un_i28 (.v (.int .i8 x)) = some x := by simp [un_i28, un_int]
theorem follow_loop {n : Nat} {a0 a1 a2 a3 a4 a5 : Int} (hb : -1000 ≤ a0 ∧ a0 ≤ a1 ∧ a1 ≤ 1000 ∧ 0 ≤ a2 ∧ a2 ≤ 50) (xs : List Int) (hx : ∀ x, x ∈ xs → -128 ≤ x ∧ x ≤ 127) (hl : xs.length < 1000) :
    ∀ (k i : Nat) (mi mo : Int) (st : List Int), a0 ≤ mo → mo ≤ a1 → st.length ≤ i → i ≤ xs.length → xs.length < i + k →
      loopF (F_law03_DrivePlays_L1 n a0 a1 a2 a3 a4 a5 (xs.map fun x => .v (.int .i8 x))) k (mi, mo, (i : Int), st.map I) = some ((follow a0 a1 a2 (xs.drop i) mi mo st).1, (follow a0 a1 a2 (xs.drop i) mi mo st).2.1, ((follow a0 a1 a2 (xs.drop i) mi mo st).2.2).map I)
  | 0, i, mi, mo, st, _, _, _, h, hk => by omega
  | k + 1, i, mi, mo, st, h1, h2, h3, h, hk => by
    by_cases hi : i < xs.length
    · have hxi := List.getElem?_eq_getElem hi
      rw [List.drop_eq_getElem_cons hi]
      have hxb := hx xs[i] (List.getElem_mem hi)
      have hq := stepQ_b (motor := mo) (x := xs[i]) hb.2.1
      have hw : IntKind.wrap .i64 xs[i] = xs[i] := wrap64 (by unfold inI64; omega)
      have key : F_law03_DrivePlays_L1 n a0 a1 a2 a3 a4 a5 (xs.map fun x => .v (.int .i8 x)) (mi, mo, (i : Int), st.map I) = some (.inl (keepE a2 (mo + stepQ a0 a1 mo xs[i]) mi, mo + stepQ a0 a1 mo xs[i], ((i + 1 : Nat) : Int), (st ++ [stepQ a0 a1 mo xs[i]]).map I)) := by
        have e1 : inI64 (a0 - mo) := by unfold inI64; omega
        have e2 : inI64 (a1 - mo) := by unfold inI64; omega
        have e3 : roomP 8 ((st.map I).length + 1) := by unfold roomP; rw [List.length_map]; omega
        have e4 : inI64 (mo + stepQ a0 a1 mo xs[i]) := by unfold inI64; omega
        have e5 : inI64 (mo + stepQ a0 a1 mo xs[i] - a2) := by unfold inI64; omega
        have e6 : inI64 ((i : Int) + 1) := by unfold inI64; omega
        have e7 : (i : Int) < ((xs.map fun x => (.v (.int .i8 x) : D)).length : Int) := by simp; omega
        unfold F_law03_DrivePlays_L1
        dsimp only
        rw [if_pos e7, el_enc (enc := fun x => .v (.int .i8 x)) un_enc8 hxi, Option.bind_some, hw]
        unfold stepQ at e4 e5 ⊢
        generalize maxI (a0 - mo) (minI (a1 - mo) xs[i]) = q0 at *
        rw [if_pos e1, if_pos e2, if_pos e3, if_pos e4, List.map_append]
        by_cases q : mi > mo + q0
        · have ek : keepE a2 (mo + q0) mi = mo + q0 := by unfold keepE minI maxI; (repeat' split) <;> omega
          rw [if_pos q, if_pos e5, if_neg (by omega), if_pos e6, ek]
          rfl
        · rw [if_neg q, if_pos e5]
          by_cases q2 : mi < mo + q0 - a2
          · have ek : keepE a2 (mo + q0) mi = mo + q0 - a2 := by unfold keepE minI maxI; (repeat' split) <;> omega
            rw [if_pos q2, if_pos e6, ek]
            rfl
          · have ek : keepE a2 (mo + q0) mi = mi := by unfold keepE minI maxI; (repeat' split) <;> omega
            rw [if_neg q2, if_pos e6, ek]
            rfl
      rw [Go.SX.loopF_l key]
      exact follow_loop hb xs hx hl k (i + 1) _ _ _ (by omega) (by omega) (by simp; omega) hi (by omega)
    · rw [List.drop_eq_nil_of_le (by omega)]
      rw [Go.SX.loopF_r (e := (mi, mo, st.map I))]
      · rfl
      · unfold F_law03_DrivePlays_L1
        rw [if_neg (by simp; omega)]
theorem mv_ok {n : Nat} (hn : 1000 ≤ n) {a0 a1 a2 a3 a4 a5 : Int} (h : StOk a0 a1 a2 a3 a4 a5) (ms : List Int) (hl : ms.length ≤ 256) : F_drive_Moved n a0 a1 a2 a3 a4 a5 (ms.map I) = some (resE (movedE a0 a1 a2 ms a3 a4 a5)) := by
  rw [moved_eq hn _ _ _ _ _ _ ms (by omega)]
  unfold mvE
  rw [stateE_of h, decide_eq_false (by omega), if_pos (by rfl)]
theorem back_b {a m : Int} (ha : -128 ≤ a ∧ a ≤ 127) (hm : 0 < m) : 0 ≤ Int.tmod (a + 128) m ∧ Int.tmod (a + 128) m < m := by
  rw [Int.tmod_eq_emod_of_nonneg (by omega)]
  exact ⟨Int.emod_nonneg _ (by omega), Int.emod_lt_of_pos _ hm⟩
theorem ref_run {a0 a1 a2 m lo hi : Int} (hp : 0 ≤ a2) (h0 : a0 ≤ m) (h1 : m ≤ a1) (hq : a0 + a2 ≤ a1) : movedE a0 a1 a2 [a0 - m, a2] m lo hi = some (a0 + a2, a0, a0) := by
  have e : m + (a0 - m) = a0 := by omega
  rw [movedE, if_neg (by omega), movedE, e, if_neg (by omega), movedE]
  have k : ∀ z, minI (a0 + a2) (maxI (a0 + a2 - a2) (minI a0 (maxI (a0 - a2) z))) = a0 := by
    intro z
    unfold minI maxI
    (repeat' split) <;> omega
  rw [k, k]
theorem up_run {a0 a1 a2 up : Int} (hp : 0 ≤ a2) (h0 : 0 ≤ up) (h1 : up ≤ a1 - (a0 + a2)) : movedE a0 a1 a2 [up] (a0 + a2) a0 a0 = some (a0 + a2 + up, a0 + up, a0 + up) := by
  rw [movedE, if_neg (by omega), movedE]
  have k : minI (a0 + a2 + up) (maxI (a0 + a2 + up - a2) a0) = a0 + up := by
    unfold minI maxI
    (repeat' split) <;> omega
  rw [k]
theorem back_run {a0 a1 a2 up back : Int} (hp : 0 ≤ a2) (h0 : 0 ≤ up) (h1 : up ≤ a1 - (a0 + a2)) (h2 : 0 ≤ back) (h3 : back ≤ a2) : movedE a0 a1 a2 [up, -back] (a0 + a2) a0 a0 = some (a0 + a2 + up + -back, a0 + up, a0 + up) := by
  rw [movedE, if_neg (by omega), movedE, if_neg (by omega), movedE]
  have k : minI (a0 + a2 + up) (maxI (a0 + a2 + up - a2) a0) = a0 + up := by
    unfold minI maxI
    (repeat' split) <;> omega
  rw [k]
  have k2 : minI (a0 + a2 + up + -back) (maxI (a0 + a2 + up + -back - a2) (a0 + up)) = a0 + up := by
    unfold minI maxI
    (repeat' split) <;> omega
  rw [k2]

theorem law_DrivePlays (a0 a1 a2 a3 a4 a5 : Int) (xs : List Int) (hx : ∀ x, x ∈ xs → -128 ≤ x ∧ x ≤ 127) : F_law03_DrivePlays 1000 a0 a1 a2 a3 a4 a5 (xs.map fun x => .v (.int .i8 x)) = some true := by
  unfold F_law03_DrivePlays
  rw [refState_eq (by omega), Option.bind_some]
  by_cases hS : stateE a0 a1 a2 a3 a4 a5 = 0
  · rw [if_pos hS, List.length_map]
    by_cases hl1 : (xs.length : Int) < 1
    · rw [if_pos hl1, axis_awake]; rfl
    · rw [if_neg hl1]
      by_cases hl2 : (xs.length : Int) > 8
      · rw [if_pos hl2, axis_awake]; rfl
      · rw [if_neg hl2]
        have hok := stateE_ok hS
        obtain ⟨l0, l1, l2, p0, p1, m0, m1, s0, s1, s2⟩ := hok
        have h0 : 0 < xs.length := by omega
        have hf := List.getElem?_eq_getElem h0
        have hfb := hx xs[0] (List.getElem_mem h0)
        have hlast := List.getElem?_eq_getElem (show xs.length - 1 < xs.length by omega)
        have hlb := hx (xs[xs.length - 1]'(by omega)) (List.getElem_mem _)
        generalize xs[0] = f at *
        generalize xs[xs.length - 1]'(by omega) = g at *
        have e0 : el un_i28 (xs.map fun x => .v (.int .i8 x)) 0 = some f := el_enc (enc := fun x => .v (.int .i8 x)) un_enc8 hf
        have e9 : el un_i28 (xs.map fun x => .v (.int .i8 x)) ((xs.length : Int) - 1) = some g := by
          rw [show (xs.length : Int) - 1 = ((xs.length - 1 : Nat) : Int) by omega]
          exact el_enc (enc := fun x => .v (.int .i8 x)) un_enc8 hlast
        have wf : IntKind.wrap .i64 f = f := wrap64 (by unfold inI64; omega)
        have wg : IntKind.wrap .i64 g = g := wrap64 (by unfold inI64; omega)
        have b1 := back_b hfb (show 0 < a5 - a4 + 1 by omega)
        have b2 := back_b hfb (show (0 : Int) < 30 by omega)
        have b3 := back_b hlb (show (0 : Int) < 51 by omega)
        rw [e0, Option.bind_some, wf, if_pos (by unfold inI64; omega), if_pos (by unfold inI64; omega), if_pos (by unfold inI64; omega), if_pos (by omega), if_pos (by unfold inI64; omega)]
        generalize hmi : a4 + Int.tmod (f + 128) (a5 - a4 + 1) = mi at *
        have hfol := follow_loop (n := 1000) (a3 := a3) (a4 := a4) (a5 := a5) ⟨l0, l1, l2, p0, p1⟩ xs hx (by omega) 1000 0 mi a3 [] m0 m1 (by simp) (by omega) (by omega)
        rw [List.drop_zero, List.map_nil, show ((0 : Nat) : Int) = 0 from rfl] at hfol
        rw [hfol, Option.bind_some]
        obtain ⟨r, r1, r2, r3⟩ := follow_steps a0 a1 a2 xs mi a3 []
        obtain ⟨lo, hi, k1, k2, k3, k4, k5, k6, k7⟩ := r3 a4 a5 l1 p0 s0 (by omega) (by omega) s2 m0 m1
        rw [List.nil_append] at r1
        rw [r1]
        generalize follow a0 a1 a2 xs mi a3 [] = F at *
        obtain ⟨mi', mo', st'⟩ := F
        simp only at r1 k1 k2 k3 k4 k5 k6 k7 ⊢
        have hints : F_law03_ints 1000 (r.map I) = some (r.map I) := ints_eq _ _ (by rw [List.length_map]; omega)
        have hmv := mv_ok (n := 1000) (Nat.le_refl _) ⟨l0, l1, l2, p0, p1, m0, m1, s0, s1, s2⟩ r (by omega)
        rw [k1] at hmv
        have hst2 : StOk a0 a1 a2 mo' lo hi := ⟨l0, l1, l2, p0, p1, k6, k7, k2, by omega, k5⟩
        have hcs : F_drive_CheckState 1000 a0 a1 a2 mo' lo hi = some 0 := by rw [posed_eq (by omega), stateE_of hst2]
        have hrf := referenced_eq (n := 1000) (Nat.le_refl _) a0 a1 a2 mo' lo hi
        rw [hints, Option.bind_some, hmv, Option.bind_some]
        have n1 : ¬ mi' < lo := by omega
        have n2 : ¬ mi' > hi := by omega
        have n3 : inI64 (a0 + a2) := by unfold inI64; omega
        simp only [resE, if_true, if_neg n1, if_neg n2, hcs, hrf, Option.bind_some, if_pos n3]
        unfold drefE
        rw [if_pos (stateE_of hst2)]
        by_cases hq : a0 + a2 > a1
        · rw [if_pos hq, (moved_ref ⟨l0, l1, l2, p0, p1⟩ k6 k7).1 hq]
          simp only [if_true, axis_awake, Option.bind_some]
        · rw [if_neg hq, ref_run p0 k6 k7 (by omega)]
          have hi2 : F_law03_ints 1000 [I (a0 - mo'), I a2] = some [I (a0 - mo'), I a2] := ints_eq _ _ (by simp)
          have hm2 := mv_ok (n := 1000) (Nat.le_refl _) hst2 [a0 - mo', a2] (by simp)
          rw [ref_run p0 k6 k7 (by omega)] at hm2
          have hst3 : StOk a0 a1 a2 (a0 + a2) a0 a0 := ⟨l0, l1, l2, p0, p1, by omega, by omega, by omega, by omega, by omega⟩
          generalize hup : minI (a1 - (a0 + a2)) (Int.tmod (f + 128) 30) = up
          have hu0 : 0 ≤ up ∧ up ≤ a1 - (a0 + a2) := by rw [← hup]; unfold minI; split <;> omega
          generalize hbk : minI a2 (Int.tmod (g + 128) 51) = back
          have hb0 : 0 ≤ back ∧ back ≤ a2 := by rw [← hbk]; unfold minI; split <;> omega
          have hm3 := mv_ok (n := 1000) (Nat.le_refl _) hst3 [up] (by simp)
          rw [up_run p0 hu0.1 hu0.2] at hm3
          have hm4 := mv_ok (n := 1000) (Nat.le_refl _) hst3 [up, -back] (by simp)
          rw [back_run p0 hu0.1 hu0.2 hb0.1 hb0.2] at hm4
          have hwb : IntKind.wrap .i64 (0 - back) = -back := by rw [wrap64 (by unfold inI64; omega)]; omega
          have hwb' : IntKind.wrap .i64 (-back) = -back := wrap64 (by unfold inI64; omega)
          have c1 : inI64 (a0 - mo') := by unfold inI64; omega
          have c2 : inI64 (a1 - (a0 + a2)) := by unfold inI64; omega
          have c3 : inI64 ((xs.length : Int) - 1) := by unfold inI64; omega
          have c4 : inI64 (g + 128) := by unfold inI64; omega
          have c5 : inI64 (a0 + up) := by unfold inI64; omega
          have hs2 : F_ref01_SameInts 1000 [I (a0 - mo'), I a2] [I (a0 - mo'), I a2] = some true := same2 (by omega) _ _
          have hm2' : F_drive_Moved 1000 a0 a1 a2 mo' lo hi [I (a0 - mo'), I a2] = some (resE (some (a0 + a2, a0, a0))) := hm2
          have hm3' : F_drive_Moved 1000 a0 a1 a2 (a0 + a2) a0 a0 [I up] = some (resE (some (a0 + a2 + up, a0 + up, a0 + up))) := hm3
          have hm4' : F_drive_Moved 1000 a0 a1 a2 (a0 + a2) a0 a0 [I up, I (-back)] = some (resE (some (a0 + a2 + up + -back, a0 + up, a0 + up))) := hm4
          simp [c1, c2, c3, c4, c5, hs2, hi2, hm2', hm3', hm4', e9, wg, hwb, hwb', resE, axis_awake, hup, hbk]
  · rw [if_neg hS, axis_awake]; rfl
end Go.Proofs.YtmgbmngmmpeaaaaGreatDoor
