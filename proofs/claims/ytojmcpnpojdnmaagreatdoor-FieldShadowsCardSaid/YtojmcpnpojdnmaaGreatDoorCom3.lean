/-
  Plain lemmas of chapter 4, as in the laws of the field. An own text.
-/
import Derived.Test.YtojmcpnpojdnmaaGreatDoorCom2
set_option linter.unusedVariables false
set_option maxRecDepth 20000
namespace Go.Proofs.YtojmcpnpojdnmaaGreatDoor
open Go.SX

theorem pow62 : (2 : Nat) ^ 62 = 4611686018427387904 := by decide
theorem tdiv_nat (a b : Nat) : Int.tdiv (a : Int) (b : Int) = ((a / b : Nat) : Int) := Int.ofNat_tdiv a b
theorem lowest_eq {n : Nat} (hn : 500 ≤ n) {a b : Nat} (hb : 0 < b) (ha : a < 2 ^ 62) (hb2 : b < 2 ^ 62) : F_field_lowest n (a : Int) (b : Int) = some (((low a b).1 : Int), ((low a b).2 : Int)) := by
  unfold F_field_lowest
  have hg : 0 < Nat.gcd a b := Nat.gcd_pos_of_pos_right _ hb
  have hp : a * b < 2 ^ 124 := by
    calc a * b < 2 ^ 62 * 2 ^ 62 := Nat.mul_lt_mul'' ha hb2
      _ = 2 ^ 124 := by decide
  rw [euclid (f := F_field_lowest_L1 n (a : Int) (b : Int)) (fun x y => by
    unfold F_field_lowest_L1
    dsimp only
    by_cases h : y = 0
    · rw [if_pos h, if_pos h]
    · rw [if_neg h, if_neg h, if_pos h]) hp (by omega), Option.bind_some, if_pos (by omega), tdiv_nat, tdiv_nat]
  have h1 := (low_le a b).1
  have h2 := (low_le a b).2
  unfold low at h1 h2 ⊢
  dsimp only at h1 h2 ⊢
  generalize a / Nat.gcd a b = x at *
  generalize b / Nat.gcd a b = y at *
  rw [pow62] at ha hb2
  rw [if_pos (by unfold inI64; omega), if_pos (by unfold inI64; omega)]
def cmpI (a b : Int) : Int := if a < b then -1 else if a > b then 1 else 0
theorem compare_eq (n : Nat) (a b : Int) : F_cmp_Compare_g n a b = some (cmpI a b) := by
  unfold F_cmp_Compare_g F_cmp_isNaN_g cmpI
  rw [Option.bind_some, Option.bind_some, if_neg (by simp), if_neg (by simp)]
  split
  · rfl
  · split <;> rfl
theorem sq_nn (x : Int) : 0 ≤ x * x := by
  rcases Int.le_total 0 x with h | h
  · exact Int.mul_nonneg h h
  · exact Int.mul_nonneg_of_nonpos_of_nonpos h h
theorem sq_pos {x : Int} (h : x ≠ 0) : 0 < x * x := by
  rcases Int.lt_trichotomy x 0 with h1 | h1 | h1
  · exact Int.mul_pos_of_neg_of_neg h1 h1
  · exact absurd h1 h
  · exact Int.mul_pos h1 h1
theorem zeroB_dot {v : Vec} (h : zeroB v = false) : 0 < vdot v v := by
  unfold vdot
  have a := sq_nn v.1
  have b := sq_nn v.2.1
  have c := sq_nn v.2.2
  by_cases h1 : v.1 = 0
  · by_cases h2 : v.2.1 = 0
    · by_cases h3 : v.2.2 = 0
      · unfold zeroB at h; simp [h1, h2, h3] at h
      · have := sq_pos h3; omega
    · have := sq_pos h2; omega
  · have := sq_pos h1; omega
theorem mirE_nz {m : Mir} (h : mirE m = 0) : zeroB m.nrm = false := by
  unfold mirE at h
  split at h
  · unfold whenI at h
    cases hz : zeroB m.nrm with
    | true => rw [hz] at h; simp at h
    | false => rfl
  · rename_i h1; exact absurd h h1
theorem dirE_nz {v : Vec} {k : Int} (h : dirE v k = 0) : zeroB v = false := by
  have := firstNZ_zero h (whenI (zeroB v) 6) (by simp)
  unfold whenI at this
  cases hz : zeroB v with
  | true => rw [hz] at this; simp at this
  | false => rfl
structure CB (m : Mir) (d : Vec) : Prop where
  p : -25165824 ≤ vdot m.nrm d ∧ vdot m.nrm d ≤ 25165824
  pp : 0 ≤ vdot m.nrm d * vdot m.nrm d ∧ vdot m.nrm d * vdot m.nrm d ≤ 25165824 * 25165824
  nn : 1 ≤ vdot m.nrm m.nrm ∧ vdot m.nrm m.nrm ≤ 201326592
  dd : 1 ≤ vdot d d ∧ vdot d d ≤ 3145728
  q : 1 ≤ vdot m.nrm m.nrm * vdot d d ∧ vdot m.nrm m.nrm * vdot d d ≤ 201326592 * 3145728
theorem CB.of {m : Mir} {d : Vec} (h1 : mirE m = 0) (h2 : dirE d 1024 = 0) : CB m d := by
  have hm := (mirE_zero h1).nrm
  have hd := dirE_zero h2
  have p := (hm.dot hd (show (8192 : Int) * 1024 = 8388608 by decide) (by decide) (by decide)).val
  have nn := (hm.dot hm (show (8192 : Int) * 8192 = 67108864 by decide) (by decide) (by decide)).val
  have dd := (hd.dot hd (show (1024 : Int) * 1024 = 1048576 by decide) (by decide) (by decide)).val
  have n1 := zeroB_dot (mirE_nz h1)
  have d1 := zeroB_dot (dirE_nz h2)
  have pp := mul_k (g := vdot m.nrm d) (c := vdot m.nrm d) (p := 25165824) (q := 25165824) (by omega) (by omega) rfl (by decide) (by decide)
  refine ⟨by omega, ⟨sq_nn _, pp.2⟩, by omega, by omega, ?_, ?_⟩
  · have := Int.mul_pos (a := vdot m.nrm m.nrm) (b := vdot d d) (by omega) (by omega)
    omega
  · exact Int.mul_le_mul (by omega) (by omega) (by omega) (by decide)
abbrev Pt := Int × Int
def encP (p : Pt) : D := .agg [I p.1, I p.2]
def prj (s x : Vec) : Pt := (x.1 * s.2.2 - x.2.2 * s.1, x.2.1 * s.2.2 - x.2.2 * s.2.1)
structure PB (s x : Vec) : Prop where
  a : -4325376 ≤ x.1 * s.2.2 ∧ x.1 * s.2.2 ≤ 4325376
  b : -4325376 ≤ x.2.2 * s.1 ∧ x.2.2 * s.1 ≤ 4325376
  c : -4325376 ≤ x.2.1 * s.2.2 ∧ x.2.1 * s.2.2 ≤ 4325376
  d : -4325376 ≤ x.2.2 * s.2.1 ∧ x.2.2 * s.2.1 ≤ 4325376
theorem PB.of {s x : Vec} (hs : Bd 1024 s) (hx : Bd 4224 x) : PB s x :=
  ⟨mul_k hx.1 hs.2.2 (by decide) (by decide) (by decide), mul_k hx.2.2 hs.1 (by decide) (by decide) (by decide), mul_k hx.2.1 hs.2.2 (by decide) (by decide) (by decide), mul_k hx.2.2 hs.2.1 (by decide) (by decide) (by decide)⟩
def PBd (p : Pt) : Prop := (-8650752 ≤ p.1 ∧ p.1 ≤ 8650752) ∧ (-8650752 ≤ p.2 ∧ p.2 ≤ 8650752)
theorem PB.p {s x : Vec} (h : PB s x) : PBd (prj s x) := by
  obtain ⟨a, b, c, d⟩ := h
  unfold PBd prj
  dsimp only
  omega
def leftP (a b c : Pt) : Int := (b.1 - a.1) * (c.2 - a.2) - (b.2 - a.2) * (c.1 - a.1)
theorem left_eq (n : Nat) {a b c : Pt} (ha : PBd a) (hb : PBd b) (hc : PBd c) : F_field_left n a.1 a.2 b.1 b.2 c.1 c.2 = some (leftP a b c) := by
  obtain ⟨a1, a2⟩ := ha
  obtain ⟨b1, b2⟩ := hb
  obtain ⟨c1, c2⟩ := hc
  have p1 := mul_k (g := b.1 - a.1) (c := c.2 - a.2) (p := 17301504) (q := 17301504) (by omega) (by omega) rfl (by decide) (by decide)
  have p2 := mul_k (g := b.2 - a.2) (c := c.1 - a.1) (p := 17301504) (q := 17301504) (by omega) (by omega) rfl (by decide) (by decide)
  unfold F_field_left leftP
  rw [if_pos (by unfold inI64; omega), if_pos (by unfold inI64; omega)]
  generalize (b.1 - a.1) * (c.2 - a.2) = x at *
  rw [if_pos (by unfold inI64; omega), if_pos (by unfold inI64; omega), if_pos (by unfold inI64; omega)]
  generalize (b.2 - a.2) * (c.1 - a.1) = y at *
  rw [if_pos (by unfold inI64; omega), if_pos (by unfold inI64; omega)]
def shR (a b c e : Pt) : List Pt × Int := if leftP a b c = 0 then ([], 17) else if leftP a b c < 0 then ([a, e, c, b], 0) else ([a, b, c, e], 0)
def shA (m : Mir) (s : Vec) : List Pt × Int := shR (prj s (corA m (-1) (-1))) (prj s (corA m 1 (-1))) (prj s (corA m 1 1)) (prj s (corA m (-1) 1))
theorem not_flat {m : Mir} (h : zeroB m.nrm = false) : ¬ ((((corA m (-1) (-1)).1 == 0) && (((corA m (-1) (-1)).2.1 == 0) && (((corA m (-1) (-1)).2.2 == 0) && true))) && ((((corA m 1 (-1)).1 == 0) && (((corA m 1 (-1)).2.1 == 0) && (((corA m 1 (-1)).2.2 == 0) && true))) && ((((corA m 1 1).1 == 0) && (((corA m 1 1).2.1 == 0) && (((corA m 1 1).2.2 == 0) && true))) && ((((corA m (-1) 1).1 == 0) && (((corA m (-1) 1).2.1 == 0) && (((corA m (-1) 1).2.2 == 0) && true))) && true)))) = true := by
  intro hh
  simp only [Bool.and_eq_true, beq_iff_eq] at hh
  obtain ⟨⟨p1, p2, p3, _⟩, ⟨q1, q2, q3, _⟩, _⟩ := hh
  unfold corA vplus vtimes at p1 p2 p3 q1 q2 q3
  dsimp only at p1 p2 p3 q1 q2 q3
  have u1 : m.u.1 = 0 := by omega
  have u2 : m.u.2.1 = 0 := by omega
  have u3 : m.u.2.2 = 0 := by omega
  unfold zeroB Mir.nrm vcross at h
  simp [u1, u2, u3] at h
theorem shadow_body {n : Nat} {m : Mir} (hm : m.Ok) (hz : zeroB m.nrm = false) {s : Vec} (hs : Bd 1024 s) (hn : 100 ≤ n) (hsz : m.name.size < n) (hd : firstNZ [mirE m, dirE s 1024, whenI (decide (s.2.2 < 1)) 21] = 0) :
    F_field_Shadow n m.name m.c.1 m.c.2.1 m.c.2.2 m.u.1 m.u.2.1 m.u.2.2 m.v.1 m.v.2.1 m.v.2.2 s.1 s.2.1 s.2.2 = some ((shA m s).1.map encP, (shA m s).2) := by
  obtain ⟨u1, v1, s1, t1⟩ := cor_b hm (a := -1) (b := -1) (by decide) (by decide)
  obtain ⟨u2, v2, s2, t2⟩ := cor_b hm (a := 1) (b := 1) (by decide) (by decide)
  obtain ⟨_, _, s3, t3⟩ := cor_b hm (a := 1) (b := -1) (by decide) (by decide)
  obtain ⟨_, _, s4, t4⟩ := cor_b hm (a := -1) (b := 1) (by decide) (by decide)
  unfold F_field_Shadow
  rw [check_eq hn hsz, Option.bind_some, dir_eq (by omega) s (by decide), Option.bind_some, when_eq, Option.bind_some, first3 (by omega), Option.bind_some, if_pos hd]
  rw [times_eq n u1 (by decide), Option.bind_some, times_eq n v1 (by decide), Option.bind_some, plus_eq n s1 (by decide), Option.bind_some, plus_eq n (v := vplus (vtimes (-1) m.u) (vtimes (-1) m.v)) t1 (by decide), Option.bind_some,
    times_eq n u2 (by decide), Option.bind_some, plus_eq n s3 (by decide), Option.bind_some, plus_eq n (v := vplus (vtimes 1 m.u) (vtimes (-1) m.v)) t3 (by decide), Option.bind_some,
    times_eq n v2 (by decide), Option.bind_some, plus_eq n s2 (by decide), Option.bind_some, plus_eq n (v := vplus (vtimes 1 m.u) (vtimes 1 m.v)) t2 (by decide), Option.bind_some,
    plus_eq n s4 (by decide), Option.bind_some, plus_eq n (v := vplus (vtimes (-1) m.u) (vtimes 1 m.v)) t4 (by decide), Option.bind_some]
  rw [show vplus m.c (vplus (vtimes (-1) m.u) (vtimes (-1) m.v)) = corA m (-1) (-1) from rfl, show vplus m.c (vplus (vtimes 1 m.u) (vtimes (-1) m.v)) = corA m 1 (-1) from rfl, show vplus m.c (vplus (vtimes 1 m.u) (vtimes 1 m.v)) = corA m 1 1 from rfl, show vplus m.c (vplus (vtimes (-1) m.u) (vtimes 1 m.v)) = corA m (-1) 1 from rfl]
  rw [if_neg (not_flat hz)]
  unfold shA
  generalize corA m (-1) (-1) = A at *
  generalize corA m 1 (-1) = B at *
  generalize corA m 1 1 = C at *
  generalize corA m (-1) 1 = E at *
  have bA := PB.of hs t1
  have bB := PB.of hs t3
  have bC := PB.of hs t2
  have bE := PB.of hs t4
  obtain ⟨x1, x2, x3, x4⟩ := bA
  obtain ⟨x5, x6, x7, x8⟩ := bB
  obtain ⟨y1, y2, y3, y4⟩ := bC
  obtain ⟨y5, y6, y7, y8⟩ := bE
  iterate 24 rw [if_pos (by unfold inI64; omega)]
  have hl := left_eq n (PB.of hs t1).p (PB.of hs t3).p (PB.of hs t2).p
  unfold prj at hl
  dsimp only at hl
  rw [hl, Option.bind_some]
  unfold shR
  show (if leftP (prj s A) (prj s B) (prj s C) = 0 then _ else _) = _
  by_cases h1 : leftP (prj s A) (prj s B) (prj s C) = 0
  · rw [if_pos h1, if_pos h1]; rfl
  · rw [if_neg h1, if_neg h1]
    show (if leftP (prj s A) (prj s B) (prj s C) < 0 then _ else _) = _
    by_cases h2 : leftP (prj s A) (prj s B) (prj s C) < 0
    · rw [if_pos h2, if_pos h2]; rfl
    · rw [if_neg h2, if_neg h2]; rfl
def litG (d b : Nat × Nat → Bool) (s : Int × Int × Int) (p : Nat × Nat) : Int × Int × Int :=
  if d p = true then (s.1 + 1, s.2.1, s.2.2) else if b p = true then (s.1, s.2.1 + 1, s.2.2) else (s.1, s.2.1, s.2.2 + 1)
structure Le3 (s : Int × Int × Int) (i : Nat) : Prop where
  a : 0 ≤ s.1 ∧ s.1 ≤ (i : Int)
  b : 0 ≤ s.2.1 ∧ s.2.1 ≤ (i : Int)
  c : 0 ≤ s.2.2 ∧ s.2.2 ≤ (i : Int)
theorem Le3.step {s : Int × Int × Int} {i : Nat} (h : Le3 s i) (d b : Nat × Nat → Bool) (p : Nat × Nat) : Le3 (litG d b s p) (i + 1) := by
  obtain ⟨h1, h2, h3⟩ := h
  unfold litG
  split
  · exact ⟨by dsimp only; omega, by dsimp only; omega, by dsimp only; omega⟩
  · split
    · exact ⟨by dsimp only; omega, by dsimp only; omega, by dsimp only; omega⟩
    · exact ⟨by dsimp only; omega, by dsimp only; omega, by dsimp only; omega⟩
theorem Le3.fold (d b : Nat × Nat → Bool) : ∀ (l : List (Nat × Nat)) (s : Int × Int × Int) (i : Nat), Le3 s i → Le3 (l.foldl (litG d b) s) (i + l.length)
  | [], s, i, h => h
  | p :: l, s, i, h => by
    have := Le3.fold d b l _ (i + 1) (h.step d b p)
    rw [List.foldl_cons, List.length_cons, show i + (l.length + 1) = i + 1 + l.length by omega]
    exact this
def litR (d b : Nat × Nat → Bool) (k : Nat) : Int × Int × Int := (allS k).foldl (litG d b) (0, 0, 0)
theorem litR_le (d b : Nat × Nat → Bool) (k : Nat) : Le3 (litR d b k) (k * k) := by
  have := Le3.fold d b (allS k) (0, 0, 0) 0 ⟨by decide, by decide, by decide⟩
  rw [Nat.zero_add, allS_len] at this
  exact this
theorem elB {l : List (Nat × Nat)} {f : Nat × Nat → Bool} {i : Nat} {p : Nat × Nat} (h : l[i]? = some p) : el un_b (l.map fun p => encB (f p)) (i : Int) = some (f p) := by
  have := el_enc (un := un_b) (enc := B) (fun _ => rfl) (l := l.map f) (i := i) (x := f p) (by rw [List.getElem?_map, h]; rfl)
  rw [List.map_map] at this
  exact this
theorem lit_loop {n : Nat} (hn : 100 ≤ n) {k : Nat} (hk : k ≤ 8) (d b : Nat × Nat → Bool) :
    loopF (F_field_lit_L1 n ((allS k).map fun p => encB (b p)) ((allS k).map fun p => encB (d p))) n (0, 0, 0, 0) = some (litR d b k) := by
  have hq := sq_le hk
  have hl := allS_len k
  have := loopF_list0 (step := F_field_lit_L1 n ((allS k).map fun p => encB (b p)) ((allS k).map fun p => encB (d p))) (fun (s : Int × Int × Int) (p : Nat × Nat) => (.inl (litG d b s p) : (Int × Int × Int) ⊕ (Int × Int × Int))) id
    (fun i s => ((i : Int), s.1, s.2.1, s.2.2)) (allS k) (fun i s => Le3 s i)
    (fun i s x hx hi => by
      have hlt := (List.getElem?_eq_some_iff.1 hx).1
      obtain ⟨h1, h2, h3⟩ := hi
      dsimp only
      refine ⟨?_, Le3.step ⟨h1, h2, h3⟩ d b x⟩
      unfold F_field_lit_L1 litG
      dsimp only
      rw [if_pos (lenlt (f := fun p => encB (d p)) hx), elB (f := d) hx, Option.bind_some]
      by_cases hd : d x = true
      · rw [if_pos hd, if_pos hd, if_pos (by unfold inI64; omega), if_pos (by unfold inI64; omega)]; rfl
      · rw [if_neg hd, if_neg hd, elB (f := b) hx, Option.bind_some]
        by_cases hb : b x = true
        · rw [if_pos hb, if_pos hb, if_pos (by unfold inI64; omega), if_pos (by unfold inI64; omega)]; rfl
        · rw [if_neg hb, if_neg hb, if_pos (by unfold inI64; omega), if_pos (by unfold inI64; omega)]; rfl)
    (fun s _ => by unfold F_field_lit_L1; dsimp only; rw [if_neg (by simp)]; rfl) (s := (0, 0, 0)) (k := n) ⟨by decide, by decide, by decide⟩ (by omega)
  rw [runL_inl] at this
  exact this
def litM (ms : List Mir) (k : Nat) (sun t : Vec) (m : Mir) (q : Nat) : Int × Int × Int := litR (darkB ms (q : Int) (k : Int) m sun) (blockB ms q k m t) k
theorem lit_eq {n : Nat} {ms : List Mir} {q k : Nat} {m : Mir} (h : Asked ms q k m) (hn : 100 ≤ n) {sun t : Vec} (hs : Bd 1024 sun) (ht : Bd 4096 t) :
    F_field_lit n (ms.map encM) (q : Int) sun.1 sun.2.1 sun.2.2 t.1 t.2.1 t.2.2 (k : Int) = some (litM ms k sun t m q) := by
  unfold F_field_lit
  rw [block_eq h hn ht, Option.bind_some, dark_eq h hn hs, Option.bind_some, lit_loop hn h.k.2, Option.bind_some]; rfl
end Go.Proofs.YtojmcpnpojdnmaaGreatDoor
