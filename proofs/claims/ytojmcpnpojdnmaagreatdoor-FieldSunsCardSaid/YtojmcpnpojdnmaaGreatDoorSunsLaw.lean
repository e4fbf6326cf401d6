/-
  FieldSuns, the plain law: Cosine and Shadow answer as the reference does. An own text.
-/
import Derived.Test.YtojmcpnpojdnmaaGreatDoorLowLaw
import Derived.Test.YtojmcpnpojdnmaaGreatDoorMirLaw
set_option linter.unusedVariables false
set_option linter.unusedSimpArgs false
set_option linter.unnecessarySimpa false
set_option maxRecDepth 20000
namespace Go.Proofs.YtojmcpnpojdnmaaGreatDoor
open Go.SX

/-! The cosine. -/
def cmpI (a b : Int) : Int := if a < b then -1 else if a > b then 1 else 0
theorem compare_eq (n : Nat) (a b : Int) : F_cmp_Compare_g n a b = some (cmpI a b) := by
  unfold F_cmp_Compare_g F_cmp_isNaN_g cmpI
  rw [Option.bind_some, Option.bind_some, if_neg (by simp), if_neg (by simp)]
  split
  · rfl
  · split <;> rfl
theorem sq_nn (x : Int) : 0 ≤ x * x := by
  rcases Int.le_total 0 x with h | h
  · exact Int.mul_nonneg h h
  · exact Int.mul_nonneg_of_nonpos_of_nonpos h h
theorem sq_pos {x : Int} (h : x ≠ 0) : 0 < x * x := by
  rcases Int.lt_trichotomy x 0 with h1 | h1 | h1
  · exact Int.mul_pos_of_neg_of_neg h1 h1
  · exact absurd h1 h
  · exact Int.mul_pos h1 h1
theorem zeroB_dot {v : Vec} (h : zeroB v = false) : 0 < vdot v v := by
  unfold vdot
  have a := sq_nn v.1
  have b := sq_nn v.2.1
  have c := sq_nn v.2.2
  by_cases h1 : v.1 = 0
  · by_cases h2 : v.2.1 = 0
    · by_cases h3 : v.2.2 = 0
      · unfold zeroB at h; simp [h1, h2, h3] at h
      · have := sq_pos h3; omega
    · have := sq_pos h2; omega
  · have := sq_pos h1; omega
theorem mirE_nz {m : Mir} (h : mirE m = 0) : zeroB m.nrm = false := by
  unfold mirE at h
  split at h
  · unfold whenI at h
    cases hz : zeroB m.nrm with
    | true => rw [hz] at h; simp at h
    | false => rfl
  · rename_i h1; exact absurd h h1
theorem dirE_nz {v : Vec} {k : Int} (h : dirE v k = 0) : zeroB v = false := by
  have := firstNZ_zero h (whenI (zeroB v) 6) (by simp)
  unfold whenI at this
  cases hz : zeroB v with
  | true => rw [hz] at this; simp at this
  | false => rfl
structure CB (m : Mir) (d : Vec) : Prop where
  p : -25165824 ≤ vdot m.nrm d ∧ vdot m.nrm d ≤ 25165824
  pp : 0 ≤ vdot m.nrm d * vdot m.nrm d ∧ vdot m.nrm d * vdot m.nrm d ≤ 25165824 * 25165824
  nn : 1 ≤ vdot m.nrm m.nrm ∧ vdot m.nrm m.nrm ≤ 201326592
  dd : 1 ≤ vdot d d ∧ vdot d d ≤ 3145728
  q : 1 ≤ vdot m.nrm m.nrm * vdot d d ∧ vdot m.nrm m.nrm * vdot d d ≤ 201326592 * 3145728
theorem CB.of {m : Mir} {d : Vec} (h1 : mirE m = 0) (h2 : dirE d 1024 = 0) : CB m d := by
  have hm := (mirE_zero h1).nrm
  have hd := dirE_zero h2
  have p := (hm.dot hd (show (8192 : Int) * 1024 = 8388608 by decide) (by decide) (by decide)).val
  have nn := (hm.dot hm (show (8192 : Int) * 8192 = 67108864 by decide) (by decide) (by decide)).val
  have dd := (hd.dot hd (show (1024 : Int) * 1024 = 1048576 by decide) (by decide) (by decide)).val
  have n1 := zeroB_dot (mirE_nz h1)
  have d1 := zeroB_dot (dirE_nz h2)
  have pp := mul_k (g := vdot m.nrm d) (c := vdot m.nrm d) (p := 25165824) (q := 25165824) (by omega) (by omega) rfl (by decide) (by decide)
  refine ⟨by omega, ⟨sq_nn _, pp.2⟩, by omega, by omega, ?_, ?_⟩
  · have := Int.mul_pos (a := vdot m.nrm m.nrm) (b := vdot d d) (by omega) (by omega)
    omega
  · exact Int.mul_le_mul (by omega) (by omega) (by omega) (by decide)
def cosA (m : Mir) (d : Vec) : Int × Int × Int :=
  (cmpI (vdot m.nrm d) 0, ((low (vdot m.nrm d * vdot m.nrm d).toNat (vdot m.nrm m.nrm * vdot d d).toNat).1 : Int), ((low (vdot m.nrm d * vdot m.nrm d).toNat (vdot m.nrm m.nrm * vdot d d).toNat).2 : Int))
theorem cos_low {m : Mir} {d : Vec} (b : CB m d) {n : Nat} (hn : 500 ≤ n) : F_field_lowest n (vdot m.nrm d * vdot m.nrm d) (vdot m.nrm m.nrm * vdot d d) = some (cosA m d).2 ∧ F_ref01_Lowest n (vdot m.nrm d * vdot m.nrm d) (vdot m.nrm m.nrm * vdot d d) = some (cosA m d).2 := by
  obtain ⟨p, pp, nn, dd, q⟩ := b
  have h1 := lowest_eq hn (a := (vdot m.nrm d * vdot m.nrm d).toNat) (b := (vdot m.nrm m.nrm * vdot d d).toNat) (by omega) (by rw [pow62]; omega) (by rw [pow62]; omega)
  have h2 := refLowest_eq hn (a := (vdot m.nrm d * vdot m.nrm d).toNat) (b := (vdot m.nrm m.nrm * vdot d d).toNat) (by omega) (by rw [pow62]; omega) (by rw [pow62]; omega)
  rw [Int.toNat_of_nonneg pp.1, Int.toNat_of_nonneg (by omega)] at h1 h2
  exact ⟨h1, h2⟩
theorem cosine_eq {n : Nat} (hn : 500 ≤ n) {m : Mir} (hz : m.name.size < n) (d : Vec) :
    F_field_Cosine n m.name m.c.1 m.c.2.1 m.c.2.2 m.u.1 m.u.2.1 m.u.2.2 m.v.1 m.v.2.1 m.v.2.2 d.1 d.2.1 d.2.2 =
      some (if firstNZ [mirE m, dirE d 1024] = 0 then ((cosA m d).1, (cosA m d).2.1, (cosA m d).2.2, 0) else (0, 0, 0, firstNZ [mirE m, dirE d 1024])) := by
  unfold F_field_Cosine
  rw [check_eq (by omega) hz, Option.bind_some, dir_eq (by omega) d (by decide), Option.bind_some, first2 (by omega), Option.bind_some]
  by_cases h : firstNZ [mirE m, dirE d 1024] = 0
  · have h1 := firstNZ_zero h (mirE m) (by simp)
    have h2 := firstNZ_zero h (dirE d 1024) (by simp)
    have b := CB.of h1 h2
    have hm := (mirE_zero h1).nrm
    have hd := dirE_zero h2
    rw [if_pos h, if_pos h, normal_eq n (mirE_zero h1), Option.bind_some, dot_eq n (hm.dot hd (show (8192 : Int) * 1024 = 8388608 by decide) (by decide) (by decide)) (by decide), Option.bind_some, compare_eq, Option.bind_some,
      if_pos (by have := b.pp; unfold inI64; omega), dot_eq n (hm.dot hm (show (8192 : Int) * 8192 = 67108864 by decide) (by decide) (by decide)) (by decide), Option.bind_some,
      dot_eq n (hd.dot hd (show (1024 : Int) * 1024 = 1048576 by decide) (by decide) (by decide)) (by decide), Option.bind_some, if_pos (by have := b.q; unfold inI64; omega), (cos_low b hn).1]
    rfl
  · rw [if_neg h, if_neg h]
theorem refCosine_eq {n : Nat} (hn : 500 ≤ n) {m : Mir} {d : Vec} (h1 : mirE m = 0) (h2 : dirE d 1024 = 0) :
    F_ref04_Cosine n m.name m.c.1 m.c.2.1 m.c.2.2 m.u.1 m.u.2.1 m.u.2.2 m.v.1 m.v.2.1 m.v.2.2 d.1 d.2.1 d.2.2 = some (cosA m d) := by
  have b := CB.of h1 h2
  have hm := (mirE_zero h1).nrm
  have hd := dirE_zero h2
  have e1 := refDot_eq n (hm.dot hd (show (8192 : Int) * 1024 = 8388608 by decide) (by decide) (by decide)) (by decide)
  have e2 := refDot_eq n (hm.dot hm (show (8192 : Int) * 8192 = 67108864 by decide) (by decide) (by decide)) (by decide)
  have e3 := refDot_eq n (hd.dot hd (show (1024 : Int) * 1024 = 1048576 by decide) (by decide) (by decide)) (by decide)
  have e4 := (cos_low b hn).2
  have i1 : inI64 (vdot m.nrm d * vdot m.nrm d) := by have := b.pp; unfold inI64; omega
  have i2 : inI64 (vdot m.nrm m.nrm * vdot d d) := by have := b.q; unfold inI64; omega
  have hc : (cosA m d) = (cmpI (vdot m.nrm d) 0, (cosA m d).2.1, (cosA m d).2.2) := rfl
  unfold F_ref04_Cosine
  rw [refNormal_eq n (mirE_zero h1), Option.bind_some, e1, Option.bind_some]
  rw [hc]
  unfold cmpI
  by_cases hp : vdot m.nrm d > 0
  · rw [if_pos hp, if_neg (by omega), if_pos i1, e2, Option.bind_some, e3, Option.bind_some, if_pos i2, e4, Option.bind_some, if_neg (by omega), if_pos hp]
  · rw [if_neg hp]
    by_cases hq : vdot m.nrm d < 0
    · rw [if_pos hq, if_pos i1, e2, Option.bind_some, e3, Option.bind_some, if_pos i2, e4, Option.bind_some, if_pos hq]
    · rw [if_neg hq, if_pos i1, e2, Option.bind_some, e3, Option.bind_some, if_pos i2, e4, Option.bind_some, if_neg hq, if_neg hp]

/-! Corners, as in the law of mirrors. -/
def corA (m : Mir) (a b : Int) : Vec := vplus m.c (vplus (vtimes a m.u) (vtimes b m.v))
theorem one_times (v : Vec) : vtimes 1 v = v := by unfold vtimes; simp
theorem cor_b {m : Mir} (hm : m.Ok) {a b : Int} (ha : -1 ≤ a ∧ a ≤ 1) (hb : -1 ≤ b ∧ b ≤ 1) : Bd 64 (vtimes a m.u) ∧ Bd 64 (vtimes b m.v) ∧ Bd 128 (vplus (vtimes a m.u) (vtimes b m.v)) ∧ Bd 4224 (corA m a b) := by
  have u : Bd 64 (vtimes a m.u) := Bd.times (K := 1) (by omega) hm.u (by decide) (by decide) (by decide)
  have v : Bd 64 (vtimes b m.v) := Bd.times (K := 1) (by omega) hm.v (by decide) (by decide) (by decide)
  have s := (u.plus v).mono (show (64 : Int) + 64 ≤ 128 by decide)
  exact ⟨u, v, s, (hm.c.plus s).mono (by decide)⟩
abbrev V12 := Int × Int × Int × Int × Int × Int × Int × Int × Int × Int × Int × Int
def cor12 (m : Mir) : V12 :=
  ((corA m (-1) (-1)).1, (corA m (-1) (-1)).2.1, (corA m (-1) (-1)).2.2, (corA m 1 (-1)).1, (corA m 1 (-1)).2.1, (corA m 1 (-1)).2.2, (corA m 1 1).1, (corA m 1 1).2.1, (corA m 1 1).2.2, (corA m (-1) 1).1, (corA m (-1) 1).2.1, (corA m (-1) 1).2.2)
theorem refCorners_eq (n : Nat) {m : Mir} (hm : m.Ok) : F_ref04_Corners n m.name m.c.1 m.c.2.1 m.c.2.2 m.u.1 m.u.2.1 m.u.2.2 m.v.1 m.v.2.1 m.v.2.2 = some (cor12 m) := by
  obtain ⟨u1, v1, s1, t1⟩ := cor_b hm (a := -1) (b := -1) (by decide) (by decide)
  obtain ⟨_, _, s2, t2⟩ := cor_b hm (a := 1) (b := 1) (by decide) (by decide)
  obtain ⟨_, _, s3, t3⟩ := cor_b hm (a := 1) (b := -1) (by decide) (by decide)
  obtain ⟨_, _, s4, t4⟩ := cor_b hm (a := -1) (b := 1) (by decide) (by decide)
  have t2' := t2
  have t3' := t3
  have t4' := t4
  unfold corA at t2' t3' t4'
  rw [one_times, one_times] at s2 t2'
  rw [one_times] at s3 t3' s4 t4'
  unfold F_ref04_Corners
  rw [refTimes_eq n u1 (by decide), Option.bind_some, refTimes_eq n v1 (by decide), Option.bind_some, refPlus_eq n s1 (by decide), Option.bind_some, refPlus_eq n (v := vplus (vtimes (-1) m.u) (vtimes (-1) m.v)) t1 (by decide), Option.bind_some,
    refPlus_eq n s3 (by decide), Option.bind_some, refPlus_eq n t3' (by decide), Option.bind_some, refPlus_eq n s2 (by decide), Option.bind_some, refPlus_eq n t2' (by decide), Option.bind_some,
    refPlus_eq n s4 (by decide), Option.bind_some, refPlus_eq n t4' (by decide), Option.bind_some]
  unfold cor12 corA
  simp only [one_times]

/-! Points on the ground. -/
abbrev Pt := Int × Int
def encP (p : Pt) : D := .agg [I p.1, I p.2]
theorem unP (p : Pt) : un_Ai2Z (encP p) = some p := rfl
def prj (s x : Vec) : Pt := (x.1 * s.2.2 - x.2.2 * s.1, x.2.1 * s.2.2 - x.2.2 * s.2.1)
structure PB (s x : Vec) : Prop where
  a : -4325376 ≤ x.1 * s.2.2 ∧ x.1 * s.2.2 ≤ 4325376
  b : -4325376 ≤ x.2.2 * s.1 ∧ x.2.2 * s.1 ≤ 4325376
  c : -4325376 ≤ x.2.1 * s.2.2 ∧ x.2.1 * s.2.2 ≤ 4325376
  d : -4325376 ≤ x.2.2 * s.2.1 ∧ x.2.2 * s.2.1 ≤ 4325376
theorem PB.of {s x : Vec} (hs : Bd 1024 s) (hx : Bd 4224 x) : PB s x :=
  ⟨mul_k hx.1 hs.2.2 (by decide) (by decide) (by decide), mul_k hx.2.2 hs.1 (by decide) (by decide) (by decide), mul_k hx.2.1 hs.2.2 (by decide) (by decide) (by decide), mul_k hx.2.2 hs.2.1 (by decide) (by decide) (by decide)⟩
def PBd (p : Pt) : Prop := (-8650752 ≤ p.1 ∧ p.1 ≤ 8650752) ∧ (-8650752 ≤ p.2 ∧ p.2 ≤ 8650752)
theorem PB.p {s x : Vec} (h : PB s x) : PBd (prj s x) := by
  obtain ⟨a, b, c, d⟩ := h
  unfold PBd prj
  dsimp only
  omega
def leftP (a b c : Pt) : Int := (b.1 - a.1) * (c.2 - a.2) - (b.2 - a.2) * (c.1 - a.1)
theorem left_eq (n : Nat) {a b c : Pt} (ha : PBd a) (hb : PBd b) (hc : PBd c) : F_field_left n a.1 a.2 b.1 b.2 c.1 c.2 = some (leftP a b c) := by
  obtain ⟨a1, a2⟩ := ha
  obtain ⟨b1, b2⟩ := hb
  obtain ⟨c1, c2⟩ := hc
  have p1 := mul_k (g := b.1 - a.1) (c := c.2 - a.2) (p := 17301504) (q := 17301504) (by omega) (by omega) rfl (by decide) (by decide)
  have p2 := mul_k (g := b.2 - a.2) (c := c.1 - a.1) (p := 17301504) (q := 17301504) (by omega) (by omega) rfl (by decide) (by decide)
  unfold F_field_left leftP
  rw [if_pos (by unfold inI64; omega), if_pos (by unfold inI64; omega)]
  generalize (b.1 - a.1) * (c.2 - a.2) = x at *
  rw [if_pos (by unfold inI64; omega), if_pos (by unfold inI64; omega), if_pos (by unfold inI64; omega)]
  generalize (b.2 - a.2) * (c.1 - a.1) = y at *
  rw [if_pos (by unfold inI64; omega), if_pos (by unfold inI64; omega)]
def shoe (a b c e : Pt) : Int := 0 + a.1 * b.2 - a.2 * b.1 + b.1 * c.2 - b.2 * c.1 + c.1 * e.2 - c.2 * e.1 + e.1 * a.2 - e.2 * a.1
theorem shoe_left {a b c e : Pt} (h1 : a.1 + c.1 = b.1 + e.1) (h2 : a.2 + c.2 = b.2 + e.2) : shoe a b c e = 2 * leftP a b c := by
  obtain ⟨a1, a2⟩ := a
  obtain ⟨b1, b2⟩ := b
  obtain ⟨c1, c2⟩ := c
  obtain ⟨e1, e2⟩ := e
  unfold shoe leftP
  dsimp only at *
  grind
theorem left_flip {a b c e : Pt} (h1 : a.1 + c.1 = b.1 + e.1) (h2 : a.2 + c.2 = b.2 + e.2) : leftP a e c = -(leftP a b c) := by
  obtain ⟨a1, a2⟩ := a
  obtain ⟨b1, b2⟩ := b
  obtain ⟨c1, c2⟩ := c
  obtain ⟨e1, e2⟩ := e
  unfold leftP
  dsimp only at *
  grind
theorem area_step {n : Nat} {l : List D} {s i j : Int} {x y : Pt} (hi : i < (l.length : Int)) (hj : i + 1 = j) (hjb : j ≤ 100) (hi0 : 0 ≤ i) (hx : el un_Ai2Z l i = some x) (hy : F_ref04_next n l i = some y) (bx : PBd x) (bY : PBd y) (hs : -1000000000000000 ≤ s ∧ s ≤ 1000000000000000) :
    F_ref04_Area_L1 n l (s, i) = some (.inl (s + x.1 * y.2 - x.2 * y.1, j)) := by
  have p1 := mul_k (g := x.1) (c := y.2) (p := 8650752) (q := 8650752) (by have := bx.1; omega) (by have := bY.2; omega) rfl (by decide) (by decide)
  have p2 := mul_k (g := x.2) (c := y.1) (p := 8650752) (q := 8650752) (by have := bx.2; omega) (by have := bY.1; omega) rfl (by decide) (by decide)
  unfold F_ref04_Area_L1
  dsimp only
  rw [if_pos hi, hy, Option.bind_some, hx, Option.bind_some]
  generalize x.1 * y.2 = u at *
  generalize x.2 * y.1 = w at *
  rw [if_pos (by unfold inI64; omega), if_pos (by unfold inI64; omega), if_pos (by unfold inI64; omega), if_pos (by unfold inI64; omega), if_pos (by unfold inI64; omega), hj]
theorem area4 {n : Nat} (hn : 10 ≤ n) {a b c e : Pt} (ha : PBd a) (hb : PBd b) (hc : PBd c) (he : PBd e) : F_ref04_Area n [encP a, encP b, encP c, encP e] = some (shoe a b c e) := by
  obtain ⟨k, rfl⟩ : ∃ k, n = k + 5 := ⟨n - 5, by omega⟩
  have q : ∀ {x y : Pt}, PBd x → PBd y → (-74835510165504 ≤ x.1 * y.2 ∧ x.1 * y.2 ≤ 74835510165504) ∧ (-74835510165504 ≤ x.2 * y.1 ∧ x.2 * y.1 ≤ 74835510165504) := fun {x y} hx hy =>
    ⟨mul_k (g := x.1) (c := y.2) (p := 8650752) (q := 8650752) hx.1 hy.2 (by decide) (by decide) (by decide), mul_k (g := x.2) (c := y.1) (p := 8650752) (q := 8650752) hx.2 hy.1 (by decide) (by decide) (by decide)⟩
  have q1 := q ha hb
  have q2 := q hb hc
  have q3 := q hc he
  have q4 := q he ha
  have s1 := area_step (n := k + 5) (l := [encP a, encP b, encP c, encP e]) (s := 0) (i := 0) (j := 1) (x := a) (y := b) (by show (0 : Int) < 4; decide) rfl (by decide) (by decide) rfl rfl ha hb (by omega)
  have s2 := area_step (n := k + 5) (l := [encP a, encP b, encP c, encP e]) (s := 0 + a.1 * b.2 - a.2 * b.1) (i := 1) (j := 2) (x := b) (y := c) (by show (1 : Int) < 4; decide) rfl (by decide) (by decide) rfl rfl hb hc (by omega)
  have s3 := area_step (n := k + 5) (l := [encP a, encP b, encP c, encP e]) (s := 0 + a.1 * b.2 - a.2 * b.1 + b.1 * c.2 - b.2 * c.1) (i := 2) (j := 3) (x := c) (y := e) (by show (2 : Int) < 4; decide) rfl (by decide) (by decide) rfl rfl hc he (by omega)
  have s4 := area_step (n := k + 5) (l := [encP a, encP b, encP c, encP e]) (s := 0 + a.1 * b.2 - a.2 * b.1 + b.1 * c.2 - b.2 * c.1 + c.1 * e.2 - c.2 * e.1) (i := 3) (j := 4) (x := e) (y := a) (by show (3 : Int) < 4; decide) rfl (by decide) (by decide) rfl (by kernel_rfl) he ha (by omega)
  unfold F_ref04_Area
  rw [loopF_l s1, loopF_l s2, loopF_l s3, loopF_l s4, loopF_r (e := shoe a b c e) rfl]; rfl
theorem sameP {n : Nat} (l : List Pt) (hl : l.length ≤ 64) (hn : 100 ≤ n) : F_ref04_SamePoints n (l.map encP) (l.map encP) = some true := by
  unfold F_ref04_SamePoints
  rw [if_pos rfl]
  have key : ∀ (l : List Pt), runL (fun (_ : Unit) (_ : Pt) => (.inl () : Unit ⊕ (Unit ⊕ Unit))) (fun _ => .inr ()) l () = .inr () := by
    intro l
    induction l with
    | nil => rfl
    | cons p l ih => unfold runL; exact ih
  have := loopF_list0 (step := F_ref04_SamePoints_L1 n (l.map encP) (l.map encP)) (fun (_ : Unit) (_ : Pt) => (.inl () : Unit ⊕ (Unit ⊕ Unit))) (fun _ => .inr ()) (fun i _ => (i : Int)) l (fun _ _ => True)
    (fun k s x hx _ => by
      have hk := (List.getElem?_eq_some_iff.1 hx).1
      refine ⟨?_, trivial⟩
      unfold F_ref04_SamePoints_L1
      rw [if_pos (lenlt (f := encP) hx), el_enc unP hx, Option.bind_some, Option.bind_some, if_pos (by simp), if_pos (by unfold inI64; omega)]; rfl)
    (fun s _ => by unfold F_ref04_SamePoints_L1; rw [if_neg (by simp)]) (s := ()) (k := n) trivial (by omega)
  rw [show (0 : Int) = ((0 : Nat) : Int) from rfl, this, key, Option.bind_some]

/-! The shadow. -/
def shR (a b c e : Pt) : List Pt × Int := if leftP a b c = 0 then ([], 17) else if leftP a b c < 0 then ([a, e, c, b], 0) else ([a, b, c, e], 0)
def shA (m : Mir) (s : Vec) : List Pt × Int := shR (prj s (corA m (-1) (-1))) (prj s (corA m 1 (-1))) (prj s (corA m 1 1)) (prj s (corA m (-1) 1))
theorem not_flat {m : Mir} (h : zeroB m.nrm = false) : ¬ ((((corA m (-1) (-1)).1 == 0) && (((corA m (-1) (-1)).2.1 == 0) && (((corA m (-1) (-1)).2.2 == 0) && true))) && ((((corA m 1 (-1)).1 == 0) && (((corA m 1 (-1)).2.1 == 0) && (((corA m 1 (-1)).2.2 == 0) && true))) && ((((corA m 1 1).1 == 0) && (((corA m 1 1).2.1 == 0) && (((corA m 1 1).2.2 == 0) && true))) && ((((corA m (-1) 1).1 == 0) && (((corA m (-1) 1).2.1 == 0) && (((corA m (-1) 1).2.2 == 0) && true))) && true)))) = true := by
  intro hh
  simp only [Bool.and_eq_true, beq_iff_eq] at hh
  obtain ⟨⟨p1, p2, p3, _⟩, ⟨q1, q2, q3, _⟩, _⟩ := hh
  unfold corA vplus vtimes at p1 p2 p3 q1 q2 q3
  dsimp only at p1 p2 p3 q1 q2 q3
  have u1 : m.u.1 = 0 := by omega
  have u2 : m.u.2.1 = 0 := by omega
  have u3 : m.u.2.2 = 0 := by omega
  unfold zeroB Mir.nrm vcross at h
  simp [u1, u2, u3] at h
theorem shadow_body {n : Nat} {m : Mir} (hm : m.Ok) (hz : zeroB m.nrm = false) {s : Vec} (hs : Bd 1024 s) (hn : 100 ≤ n) (hsz : m.name.size < n) (hd : firstNZ [mirE m, dirE s 1024, whenI (decide (s.2.2 < 1)) 21] = 0) :
    F_field_Shadow n m.name m.c.1 m.c.2.1 m.c.2.2 m.u.1 m.u.2.1 m.u.2.2 m.v.1 m.v.2.1 m.v.2.2 s.1 s.2.1 s.2.2 = some ((shA m s).1.map encP, (shA m s).2) := by
  obtain ⟨u1, v1, s1, t1⟩ := cor_b hm (a := -1) (b := -1) (by decide) (by decide)
  obtain ⟨u2, v2, s2, t2⟩ := cor_b hm (a := 1) (b := 1) (by decide) (by decide)
  obtain ⟨_, _, s3, t3⟩ := cor_b hm (a := 1) (b := -1) (by decide) (by decide)
  obtain ⟨_, _, s4, t4⟩ := cor_b hm (a := -1) (b := 1) (by decide) (by decide)
  unfold F_field_Shadow
  rw [check_eq hn hsz, Option.bind_some, dir_eq (by omega) s (by decide), Option.bind_some, when_eq, Option.bind_some, first3 (by omega), Option.bind_some, if_pos hd]
  rw [times_eq n u1 (by decide), Option.bind_some, times_eq n v1 (by decide), Option.bind_some, plus_eq n s1 (by decide), Option.bind_some, plus_eq n (v := vplus (vtimes (-1) m.u) (vtimes (-1) m.v)) t1 (by decide), Option.bind_some,
    times_eq n u2 (by decide), Option.bind_some, plus_eq n s3 (by decide), Option.bind_some, plus_eq n (v := vplus (vtimes 1 m.u) (vtimes (-1) m.v)) t3 (by decide), Option.bind_some,
    times_eq n v2 (by decide), Option.bind_some, plus_eq n s2 (by decide), Option.bind_some, plus_eq n (v := vplus (vtimes 1 m.u) (vtimes 1 m.v)) t2 (by decide), Option.bind_some,
    plus_eq n s4 (by decide), Option.bind_some, plus_eq n (v := vplus (vtimes (-1) m.u) (vtimes 1 m.v)) t4 (by decide), Option.bind_some]
  rw [show vplus m.c (vplus (vtimes (-1) m.u) (vtimes (-1) m.v)) = corA m (-1) (-1) from rfl, show vplus m.c (vplus (vtimes 1 m.u) (vtimes (-1) m.v)) = corA m 1 (-1) from rfl, show vplus m.c (vplus (vtimes 1 m.u) (vtimes 1 m.v)) = corA m 1 1 from rfl, show vplus m.c (vplus (vtimes (-1) m.u) (vtimes 1 m.v)) = corA m (-1) 1 from rfl]
  rw [if_neg (not_flat hz)]
  unfold shA
  generalize corA m (-1) (-1) = A at *
  generalize corA m 1 (-1) = B at *
  generalize corA m 1 1 = C at *
  generalize corA m (-1) 1 = E at *
  have bA := PB.of hs t1
  have bB := PB.of hs t3
  have bC := PB.of hs t2
  have bE := PB.of hs t4
  obtain ⟨x1, x2, x3, x4⟩ := bA
  obtain ⟨x5, x6, x7, x8⟩ := bB
  obtain ⟨y1, y2, y3, y4⟩ := bC
  obtain ⟨y5, y6, y7, y8⟩ := bE
  iterate 24 rw [if_pos (by unfold inI64; omega)]
  have hl := left_eq n (PB.of hs t1).p (PB.of hs t3).p (PB.of hs t2).p
  unfold prj at hl
  dsimp only at hl
  rw [hl, Option.bind_some]
  unfold shR
  show (if leftP (prj s A) (prj s B) (prj s C) = 0 then _ else _) = _
  by_cases h1 : leftP (prj s A) (prj s B) (prj s C) = 0
  · rw [if_pos h1, if_pos h1]; rfl
  · rw [if_neg h1, if_neg h1]
    show (if leftP (prj s A) (prj s B) (prj s C) < 0 then _ else _) = _
    by_cases h2 : leftP (prj s A) (prj s B) (prj s C) < 0
    · rw [if_pos h2, if_pos h2]; rfl
    · rw [if_neg h2, if_neg h2]; rfl
theorem refShadow_eq {n : Nat} {m : Mir} (hm : m.Ok) {s : Vec} (hs : Bd 1024 s) (hn : 100 ≤ n) :
    F_ref04_Shadow n m.name m.c.1 m.c.2.1 m.c.2.2 m.u.1 m.u.2.1 m.u.2.2 m.v.1 m.v.2.1 m.v.2.2 s.1 s.2.1 s.2.2 = some ((shA m s).1.map encP, (shA m s).2) := by
  obtain ⟨_, _, _, t1⟩ := cor_b hm (a := -1) (b := -1) (by decide) (by decide)
  obtain ⟨_, _, _, t2⟩ := cor_b hm (a := 1) (b := 1) (by decide) (by decide)
  obtain ⟨_, _, _, t3⟩ := cor_b hm (a := 1) (b := -1) (by decide) (by decide)
  obtain ⟨_, _, _, t4⟩ := cor_b hm (a := -1) (b := 1) (by decide) (by decide)
  have r1 : (corA m (-1) (-1)).1 + (corA m 1 1).1 = (corA m 1 (-1)).1 + (corA m (-1) 1).1 := by unfold corA vplus vtimes; dsimp only; omega
  have r2 : (corA m (-1) (-1)).2.1 + (corA m 1 1).2.1 = (corA m 1 (-1)).2.1 + (corA m (-1) 1).2.1 := by unfold corA vplus vtimes; dsimp only; omega
  have r3 : (corA m (-1) (-1)).2.2 + (corA m 1 1).2.2 = (corA m 1 (-1)).2.2 + (corA m (-1) 1).2.2 := by unfold corA vplus vtimes; dsimp only; omega
  unfold F_ref04_Shadow
  rw [refCorners_eq n hm, Option.bind_some]
  unfold cor12 shA
  dsimp only
  generalize corA m (-1) (-1) = A at *
  generalize corA m 1 (-1) = B at *
  generalize corA m 1 1 = C at *
  generalize corA m (-1) 1 = E at *
  have bA := PB.of hs t1
  have bB := PB.of hs t3
  have bC := PB.of hs t2
  have bE := PB.of hs t4
  have pA := bA.p
  have pB := bB.p
  have pC := bC.p
  have pE' := bE.p
  have e1 : (prj s A).1 + (prj s C).1 = (prj s B).1 + (prj s E).1 := by
    unfold prj
    dsimp only
    have k1 : (A.1 + C.1) * s.2.2 = (B.1 + E.1) * s.2.2 := by rw [r1]
    have k2 : (A.2.2 + C.2.2) * s.1 = (B.2.2 + E.2.2) * s.1 := by rw [r3]
    simp only [Int.add_mul] at k1 k2
    omega
  have e2 : (prj s A).2 + (prj s C).2 = (prj s B).2 + (prj s E).2 := by
    unfold prj
    dsimp only
    have k1 : (A.2.1 + C.2.1) * s.2.2 = (B.2.1 + E.2.1) * s.2.2 := by rw [r2]
    have k2 : (A.2.2 + C.2.2) * s.2.1 = (B.2.2 + E.2.2) * s.2.1 := by rw [r3]
    simp only [Int.add_mul] at k1 k2
    omega
  obtain ⟨x1, x2, x3, x4⟩ := bA
  obtain ⟨x5, x6, x7, x8⟩ := bB
  obtain ⟨y1, y2, y3, y4⟩ := bC
  obtain ⟨y5, y6, y7, y8⟩ := bE
  iterate 24 rw [if_pos (by unfold inI64; omega)]
  have a1 := area4 (n := n) (by omega) pA pB pC pE'
  have a2 := area4 (n := n) (by omega) pA pE' pC pB
  have z1 := shoe_left e1 e2
  have z2 := shoe_left (a := prj s A) (b := prj s E) (c := prj s C) (e := prj s B) (by omega) (by omega)
  have z3 := left_flip e1 e2
  show (F_ref04_Area n [encP (prj s A), encP (prj s B), encP (prj s C), encP (prj s E)]).bind _ = _
  rw [a1, Option.bind_some, z1]
  unfold shR
  by_cases h1 : leftP (prj s A) (prj s B) (prj s C) = 0
  · rw [if_pos h1, if_neg (by omega), if_pos (by omega)]; rfl
  · rw [if_neg h1]
    by_cases h2 : leftP (prj s A) (prj s B) (prj s C) < 0
    · rw [if_pos h2, if_pos (by omega)]
      show (F_ref04_Area n [encP (prj s A), encP (prj s E), encP (prj s C), encP (prj s B)]).bind _ = _
      rw [a2, Option.bind_some, z2, z3, if_neg (by omega)]; rfl
    · rw [if_neg h2, if_neg (by omega), if_neg (by omega)]; rfl
theorem shR_len (a b c e : Pt) : (shR a b c e).1.length ≤ 4 ∧ (¬ (shR a b c e).2 = 0 → (shR a b c e).1 = []) := by
  unfold shR
  split
  · exact ⟨by simp, fun _ => rfl⟩
  · split
    · exact ⟨by simp, fun h => absurd rfl h⟩
    · exact ⟨by simp, fun h => absurd rfl h⟩
theorem outline_bad (n : Nat) {e : Int} (h : ¬ e = 0) : F_law04_outline n [] e e [] = some true := by
  unfold F_law04_outline
  rw [if_pos rfl, if_neg h, if_pos (by simp)]
theorem outline_ok {n : Nat} (l : List Pt) (e : Int) (hl : l.length ≤ 4) (he : ¬ e = 0 → l = []) (hn : 100 ≤ n) : F_law04_outline n (l.map encP) e e (l.map encP) = some true := by
  by_cases h : e = 0
  · unfold F_law04_outline
    rw [if_pos rfl, if_pos h, sameP l (by omega) hn]; rfl
  · rw [he h]; exact outline_bad n h
theorem first_two (a b c : Int) : firstNZ [firstNZ [a, b], c] = firstNZ [a, b, c] := by
  simp only [firstNZ]
  repeat' split
  all_goals omega
theorem law_suns (m : Mir) (s : Vec) :
    F_law04_FieldSuns 1000 m.name m.c.1 m.c.2.1 m.c.2.2 m.u.1 m.u.2.1 m.u.2.2 m.v.1 m.v.2.1 m.v.2.2 s.1 s.2.1 s.2.2 = some true := by
  unfold F_law04_FieldSuns
  rw [show F_law04_awake 1000 = some true from rfl, Option.bind_some, if_pos rfl, show F_ref04_ShortMirror 1000 m.name m.c.1 m.c.2.1 m.c.2.2 m.u.1 m.u.2.1 m.u.2.2 m.v.1 m.v.2.1 m.v.2.2 = some (decide ((m.name.size : Int) ≤ 40)) from rfl, Option.bind_some]
  by_cases h1 : decide ((m.name.size : Int) ≤ 40) = true
  · rw [if_pos h1]
    have hz : m.name.size < 1000 := by have := of_decide_eq_true h1; omega
    have c3 : F_ref04_CheckDirection 1000 s.1 s.2.1 s.2.2 = some (dirE s 1024) := by
      unfold F_ref04_CheckDirection
      rw [refParts_eq (by omega) s (by decide), Option.bind_some, refWhen_eq, Option.bind_some, refFirst2 (by omega)]; rfl
    rw [cosine_eq (by omega) hz s, Option.bind_some, refCheck_eq (by omega), c3, refWhen_eq]
    simp only [Option.bind_some, refFirst2 (show 10 ≤ 1000 by omega), first_two]
    have hsh : ¬ firstNZ [mirE m, dirE s 1024, whenI (decide (s.2.2 < 1)) 21] = 0 → F_field_Shadow 1000 m.name m.c.1 m.c.2.1 m.c.2.2 m.u.1 m.u.2.1 m.u.2.2 m.v.1 m.v.2.1 m.v.2.2 s.1 s.2.1 s.2.2 = some ([], firstNZ [mirE m, dirE s 1024, whenI (decide (s.2.2 < 1)) 21]) := fun h => by
      unfold F_field_Shadow
      rw [check_eq (by omega) hz, Option.bind_some, dir_eq (by omega) s (by decide), Option.bind_some, when_eq, Option.bind_some, first3 (by omega), Option.bind_some, if_neg h]
    by_cases hP : firstNZ [mirE m, dirE s 1024] = 0
    · have g1 := firstNZ_zero hP (mirE m) (by simp)
      have g2 := firstNZ_zero hP (dirE s 1024) (by simp)
      have e1 := refCosine_eq (n := 1000) (by omega) g1 g2
      rw [if_pos hP, e1]
      by_cases hQ : firstNZ [mirE m, dirE s 1024, whenI (decide (s.2.2 < 1)) 21] = 0
      · have e2 := shadow_body (n := 1000) (mirE_zero g1) (mirE_nz g1) (dirE_zero g2) (by omega) hz hQ
        have e3 := refShadow_eq (n := 1000) (mirE_zero g1) (dirE_zero g2) (by omega)
        have e4 := shR_len (prj s (corA m (-1) (-1))) (prj s (corA m 1 (-1))) (prj s (corA m 1 1)) (prj s (corA m (-1) 1))
        have e5 := outline_ok (n := 1000) (shA m s).1 (shA m s).2 e4.1 e4.2 (by omega)
        simp [hP, hQ, e2, e3, e5]
      · have e2 := hsh hQ
        simp [hP, hQ, e2, outline_bad _ hQ]
    · have hQ : ¬ firstNZ [mirE m, dirE s 1024, whenI (decide (s.2.2 < 1)) 21] = 0 := fun h => hP (by
        have a := firstNZ_zero h (mirE m) (by simp)
        have b := firstNZ_zero h (dirE s 1024) (by simp)
        rw [a, b]; rfl)
      have e2 := hsh hQ
      simp [hP, hQ, e2, outline_bad _ hQ]
  · rw [if_neg h1]
theorem law_FieldSuns (a0 : ByteArray) (a1 a2 a3 a4 a5 a6 a7 a8 a9 a10 a11 a12 : Int) :
    F_law04_FieldSuns 1000 a0 a1 a2 a3 a4 a5 a6 a7 a8 a9 a10 a11 a12 = some true :=
  law_suns ⟨a0, (a1, a2, a3), (a4, a5, a6), (a7, a8, a9)⟩ (a10, a11, a12)
end Go.Proofs.YtojmcpnpojdnmaaGreatDoor
