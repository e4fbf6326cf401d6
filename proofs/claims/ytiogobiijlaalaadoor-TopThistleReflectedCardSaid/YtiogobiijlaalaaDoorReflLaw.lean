/-
  Plain law of TopThistleReflected: the mirror's normal leads the sun to the target. An own text.
-/
import Derived.Test.YtiogobiijlaalaaDoorSun
set_option linter.unusedVariables false
set_option linter.unusedSimpArgs false
set_option linter.unnecessarySimpa false
set_option maxRecDepth 20000
namespace Go.Proofs.YtiogobiijlaalaaDoor
open Go.SX

/-! Quotients in lowest terms. -/
theorem lowK_mul {g : Nat} (hg : 0 < g) (a b : Nat) : low (g * a) (g * b) = low a b := by
  unfold low
  rw [Nat.gcd_mul_left, Nat.mul_div_mul_left _ _ hg, Nat.mul_div_mul_left _ _ hg]
def lowI (p q : Int) : Int × Int := (((low p.toNat q.toNat).1 : Int), ((low p.toNat q.toNat).2 : Int))
theorem lowI_mul {k p q : Int} (hk : 0 < k) (hp : 0 ≤ p) (hq : 0 ≤ q) : lowI (k * p) (k * q) = lowI p q := by
  unfold lowI
  rw [Int.toNat_mul (by omega) hp, Int.toNat_mul (by omega) hq, lowK_mul (by omega)]
theorem lowI_same {k1 k2 p1 q1 p2 q2 : Int} (h1 : 0 < k1) (h2 : 0 < k2) (a1 : 0 ≤ p1) (b1 : 0 ≤ q1) (a2 : 0 ≤ p2) (b2 : 0 ≤ q2) (hp : k1 * p1 = k2 * p2) (hq : k1 * q1 = k2 * q2) : lowI p1 q1 = lowI p2 q2 := by
  rw [← lowI_mul h1 a1 b1, hp, hq, lowI_mul h2 a2 b2]
theorem fieldCos_eq {n : Nat} (hn : 500 ≤ n) {m : Mir} (hz : m.name.size < n) {d : Vec} (h1 : mirE m = 0) (h2 : dirE d 1024 = 0) :
    F_field_Cosine n m.name m.c.1 m.c.2.1 m.c.2.2 m.u.1 m.u.2.1 m.u.2.2 m.v.1 m.v.2.1 m.v.2.2 d.1 d.2.1 d.2.2 = some (cmpI (vdot m.nrm d) 0, (lowI (vdot m.nrm d * vdot m.nrm d) (vdot m.nrm m.nrm * vdot d d)).1, (lowI (vdot m.nrm d * vdot m.nrm d) (vdot m.nrm m.nrm * vdot d d)).2, 0) := by
  have b := CB.of h1 h2
  have hm := (mirE_zero h1).nrm
  have hd := dirE_zero h2
  have hl := lowest_eq hn (a := (vdot m.nrm d * vdot m.nrm d).toNat) (b := (vdot m.nrm m.nrm * vdot d d).toNat) (by have := b.q; omega) (by have := b.pp; rw [pow62]; omega) (by have := b.q; rw [pow62]; omega)
  rw [Int.toNat_of_nonneg b.pp.1, Int.toNat_of_nonneg (by have := b.q; omega)] at hl
  unfold F_field_Cosine
  rw [check_eq (by omega) hz, Option.bind_some, dir_eq (by omega) d (by decide), Option.bind_some, first2 (by omega), Option.bind_some, if_pos (by rw [h1, h2]; rfl),
    normal_eq n (mirE_zero h1), Option.bind_some, dot_eq n (hm.dot hd (show (8192 : Int) * 1024 = 8388608 by decide) (by decide) (by decide)) (by decide), Option.bind_some, compare_eq, Option.bind_some,
    if_pos (by have := b.pp; unfold inI64; omega), dot_eq n (hm.dot hm (show (8192 : Int) * 8192 = 67108864 by decide) (by decide) (by decide)) (by decide), Option.bind_some,
    dot_eq n (hd.dot hd (show (1024 : Int) * 1024 = 1048576 by decide) (by decide) (by decide)) (by decide), Option.bind_some, if_pos (by have := b.q; unfold inI64; omega), hl]
  rfl
theorem sign_pos (n : Nat) {x : Int} (h : 0 < x) : F_sun_sign n x = some 1 := by unfold F_sun_sign; rw [if_pos h]
theorem ratio_eq {n : Nat} (hn : 200 ≤ n) {p q : Int} (hp : 0 ≤ p ∧ p ≤ 1000000000000000000) (hq : 0 < q ∧ q ≤ 1000000000000000000) : F_sun_ratio n p q = some (lowI p q) := by
  obtain ⟨a, rfl⟩ : ∃ a : Nat, p = (a : Int) := ⟨p.toNat, by omega⟩
  obtain ⟨b, rfl⟩ : ∃ b : Nat, q = (b : Int) := ⟨q.toNat, by omega⟩
  have hg : 0 < Nat.gcd a b := Nat.gcd_pos_of_pos_right _ (by omega)
  have d1 := Nat.div_le_self a (Nat.gcd a b)
  have d2 := Nat.div_le_self b (Nat.gcd a b)
  have c := common_eq hn (a := (a : Int)) (b := (b : Int)) (by omega) (by omega)
  rw [Int.natAbs_natCast, Int.natAbs_natCast] at c
  unfold F_sun_ratio
  rw [if_neg (by omega), c, Option.bind_some, if_pos (by omega), tdiv_nat, tdiv_nat]
  generalize hA : a / Nat.gcd a b = A at *
  generalize hB : b / Nat.gcd a b = B at *
  rw [if_pos (by unfold inI64; omega), if_pos (by unfold inI64; omega)]
  unfold lowI low
  simp only [Int.toNat_natCast, hA, hB]
theorem sunCos_eq {n : Nat} (hn : 200 ≤ n) {v a : Vec} {x : Int} (hv : Bd 2880 v) (hz : zeroB v = false) (ha : Wh a x) (hp : 0 < vdot v a) :
    F_sun_Cosine n v.1 v.2.1 v.2.2 a.1 a.2.1 a.2.2 = some (1, (lowI (vdot v a * vdot v a) (vdot v v * vdot a a)).1, (lowI (vdot v a * vdot v a) (vdot v v * vdot a a)).2, 0) := by
  have b1 := hv.dot ha.b (show (2880 : Int) * 40 = 115200 by decide) (by decide) (by decide)
  have b2 := hv.dot hv (show (2880 : Int) * 2880 = 8294400 by decide) (by decide) (by decide)
  have b3 := ha.b.dot ha.b (show (40 : Int) * 40 = 1600 by decide) (by decide) (by decide)
  have c1 := b1.val
  have c2 := b2.val
  have c3 := b3.val
  have p1 := mul_k (g := vdot v a) (c := vdot v a) (p := 345600) (q := 345600) (by omega) (by omega) rfl (by decide) (by decide)
  have p2 := mul_k (g := vdot v v) (c := vdot a a) (p := 24883200) (q := 4800) (by omega) (by omega) rfl (by decide) (by decide)
  have z1 := zeroB_dot hz
  have z2 := zeroB_dot ha.nz
  have z3 := Int.mul_pos z1 z2
  have z4 := sq_nn (vdot v a)
  unfold F_sun_Cosine
  rw [ray_ok (by omega) (hv.mono (by decide)) hz, Option.bind_some, ray_ok (by omega) (ha.b.mono (by decide)) ha.nz, Option.bind_some, sfirst, f00 (by omega), Option.bind_some, if_pos rfl,
    sdot, dot_eq n b1 (by decide), Option.bind_some, sign_pos n hp, Option.bind_some, if_pos (by unfold inI64; omega), sdot, dot_eq n b2 (by decide), Option.bind_some, sdot, dot_eq n b3 (by decide), Option.bind_some, if_pos (by unfold inI64; omega),
    ratio_eq hn (by omega) (by omega)]
  rfl

/-! Whole vectors. -/
theorem tmod_b (x : Int) : -3 ≤ Int.tmod x 4 ∧ Int.tmod x 4 ≤ 3 := by
  have h : (Int.tmod x 4).natAbs = x.natAbs % 4 := Int.natAbs_tmod x 4
  omega
theorem wrap_id {x : Int} (h : 0 ≤ x ∧ x ≤ 255) : IntKind.wrap .i64 x = x := by
  have := wrapN_eq (x := -x) (by unfold L; omega)
  rw [show (0 : Int) - -x = x by omega] at this
  rw [this]; omega
def wholeV (a b c d : Int) : Vec := (a * a + b * b - c * c - d * d, 2 * (a * d + b * c), 2 * (b * d - a * c))
theorem mapped_eq {n : Nat} (hn : 10 ≤ n) (l : List Int) (hl : l.length ≤ 4) : F_sun_mapped_g n (l.map I) = some (l.map fun x => I (inR x (-32) 32)) := by
  have := loopF_list0 (step := F_sun_mapped_g_L1 n (l.map I)) (fun (s : List D) (x : Int) => (.inl (s ++ [I (inR x (-32) 32)]) : List D ⊕ List D)) id (fun i s => ((i : Int), s)) l (fun i s => s.length = i)
    (fun i s x hx hi => by
      have hlt := (List.getElem?_eq_some_iff.1 hx).1
      dsimp only
      refine ⟨?_, by simp [hi]⟩
      unfold F_sun_mapped_g_L1 F_sun_Whole_c1
      dsimp only
      rw [if_pos (lenlt (f := I) hx), el_map hx, Option.bind_some, swithin_eq, Option.bind_some, Option.bind_some, if_pos (by unfold roomP; omega), if_pos (by unfold inI64; omega)]; rfl)
    (fun s _ => by unfold F_sun_mapped_g_L1; dsimp only; rw [if_neg (by simp)]; rfl) (s := []) (k := n) rfl (by omega)
  rw [runL_app] at this
  unfold F_sun_mapped_g
  rw [show ((0 : Int), ([] : List D)) = (((0 : Nat) : Int), []) from rfl, this]; rfl
theorem whole_ok {n : Nat} (hn : 10 ≤ n) {a b c d : Int} (ha : -3 ≤ a ∧ a ≤ 3) (hb : -3 ≤ b ∧ b ≤ 3) (hc : -3 ≤ c ∧ c ≤ 3) (hd : -3 ≤ d ∧ d ≤ 3) (hs : ¬ 0 + a * a + b * b + c * c + d * d = 0) :
    F_sun_Whole n a b c d = some ((wholeV a b c d).1, (wholeV a b c d).2.1, (wholeV a b c d).2.2, 0) ∧ Wh (wholeV a b c d) (a * a + b * b + c * c + d * d) := by
  have hz : ((a == 0) && ((b == 0) && ((c == 0) && ((d == 0) && true)))) = false := by
    cases h : ((a == 0) && ((b == 0) && ((c == 0) && ((d == 0) && true)))) with
    | false => rfl
    | true =>
      simp only [Bool.and_eq_true, beq_iff_eq] at h
      obtain ⟨rfl, rfl, rfl, rfl, _⟩ := h
      exact absurd rfl hs
  have hm := mapped_eq hn [a, b, c, d] (by simp)
  have n1 := sq_nn a
  have n2 := sq_nn b
  have n3 := sq_nn c
  have n4 := sq_nn d
  have q : ∀ {x y : Int}, -3 ≤ x ∧ x ≤ 3 → -3 ≤ y ∧ y ≤ 3 → -9 ≤ x * y ∧ x * y ≤ 9 := fun h1 h2 => mul_k h1 h2 rfl (by decide) (by decide)
  have m1 := q ha ha
  have m2 := q hb hb
  have m3 := q hc hc
  have m4 := q hd hd
  have m5 := q ha hd
  have m6 := q hb hc
  have m7 := q hb hd
  have m8 := q ha hc
  constructor
  · unfold F_sun_Whole
    rw [show ([I a, I b, I c, I d] : List D) = [a, b, c, d].map I from rfl, hm, Option.bind_some, sfirst]
    have hf : F_field_first n (([a, b, c, d] : List Int).map fun x => I (inR x (-32) 32)) = some 0 := by
      have := first4 (n := n) hn (inR a (-32) 32) (inR b (-32) 32) (inR c (-32) 32) (inR d (-32) 32)
      rw [inR_ok (by omega), inR_ok (by omega), inR_ok (by omega), inR_ok (by omega)] at this
      show F_field_first n [I (inR a (-32) 32), I (inR b (-32) 32), I (inR c (-32) 32), I (inR d (-32) 32)] = some 0
      rw [inR_ok (by omega), inR_ok (by omega), inR_ok (by omega), inR_ok (by omega), this]; rfl
    rw [hf, Option.bind_some, swhen, Option.bind_some, hz, sfirst, first2 hn, Option.bind_some, if_pos (show firstNZ [0, whenI false 6] = 0 from rfl)]
    iterate 15 rw [if_pos (by unfold inI64; omega)]
    rfl
  · refine ⟨?_, by omega, ?_⟩
    · unfold Bd wholeV
      dsimp only
      omega
    · simp only [vdot, wholeV]
      grind

/-! Mirrors that share their halves. -/
theorem tf_eq {n : Nat} (ms : List Mir) (hn : ms.length < n) (hl : ms.length ≤ 100) : F_top_thistleField n (ms.map encM) = some (ms.map encM) := by
  unfold F_top_thistleField
  have := loopF_list0 (step := F_top_thistleField_L1 n (ms.map encM)) (fun (s : List D) (m : Mir) => (.inl (s ++ [encM m]) : List D ⊕ List D)) id (fun i s => ((i : Int), s)) ms (fun i s => s.length = i)
    (fun i s x hx hi => by
      have hlt := (List.getElem?_eq_some_iff.1 hx).1
      dsimp only
      refine ⟨?_, by simp [hi]⟩
      unfold F_top_thistleField_L1
      dsimp only
      rw [if_pos (lenlt (f := encM) hx), elM hx, Option.bind_some, if_pos (by unfold roomP; omega), if_pos (by unfold inI64; omega)]; rfl)
    (fun s _ => by unfold F_top_thistleField_L1; dsimp only; rw [if_neg (by simp)]; rfl) (s := []) (k := n) rfl (by omega)
  rw [show ((0 : Int), ([] : List D)) = (((0 : Nat) : Int), []) from rfl, this, runL_app]
  rfl
theorem met1 (m : Mir) (k : Int) (f al : Vec) (e : Bool) : metB [m] ((0 : Nat) : Int) k f al e = false := by
  cases h : metB [m] ((0 : Nat) : Int) k f al e with
  | false => rfl
  | true =>
    obtain ⟨i, x, h1, h2, _⟩ := metB_iff.1 h
    cases i with
    | zero => exact absurd rfl h2
    | succ i => simp at h1
theorem met2 (m x : Mir) (k : Int) (f al : Vec) (e : Bool) : metB [m, x] ((0 : Nat) : Int) k f al e = meetV x k f al e := by
  rw [Bool.eq_iff_iff, metB_iff]
  constructor
  · rintro ⟨i, y, h1, h2, h3⟩
    cases i with
    | zero => exact absurd rfl h2
    | succ i =>
      cases i with
      | zero => simp at h1; subst h1; exact h3
      | succ i => simp at h1
  · intro h
    exact ⟨1, x, rfl, by decide, h⟩
theorem fc1 (m : Mir) : fc m ((1 : Nat) : Int) (0, 0) = m.c := by
  obtain ⟨nm, ⟨c1, c2, c3⟩, ⟨u1, u2, u3⟩, ⟨v1, v2, v3⟩⟩ := m
  simp only [fc, vplus, vtimes]
  refine Prod.ext ?_ (Prod.ext ?_ ?_) <;> dsimp only <;> simp
theorem meet_hit {x : Mir} {f al z : Vec} {r s : Int} {e : Bool} (hal : al = vtimes r z) (hre : vplus f (vtimes (-1) x.c) = vtimes (-s) z) (hz : 0 < vdot x.nrm z) (hr : 0 < r) (hs : 0 < s) (he : e = false ∨ s < r) : meetV x ((1 : Nat) : Int) f al e = true := by
  have h1 : 0 < r * vdot x.nrm z := Int.mul_pos hr hz
  have h2 : 0 < s * vdot x.nrm z := Int.mul_pos hs hz
  have hc : vcross (vtimes r z) (vtimes (-s) z) = (0, 0, 0) := by
    obtain ⟨z1, z2, z3⟩ := z
    simp only [vcross, vtimes]
    refine Prod.ext ?_ (Prod.ext ?_ ?_) <;> dsimp only <;> grind
  have hv : ∀ y : Vec, absI (vdot ((0 : Int), (0 : Int), (0 : Int)) y) = 0 := fun y => by unfold vdot absI maxI; simp
  have hn : -(vdot x.nrm (vtimes (-s) z)) = s * vdot x.nrm z := by rw [vdot_times]; grind
  unfold meetV
  rw [show -((1 : Nat) : Int) = -1 from rfl, hre, hal, hc]
  dsimp only
  rw [hv, hv, hn, vdot_times, if_neg (by omega), if_neg (by omega)]
  have h3 : e = false ∨ s * vdot x.nrm z < r * vdot x.nrm z := he.imp id fun h => Int.mul_lt_mul_of_pos_right h hz
  simp only [Bool.and_eq_true, Bool.not_eq_true', decide_eq_true_eq, decide_eq_false_iff_not, Bool.or_eq_true]
  refine ⟨⟨⟨⟨by omega, h2⟩, ?_⟩, by omega⟩, by omega⟩
  rcases h3 with h | h
  · left; rw [h]
  · right; exact h
theorem meet_miss {x : Mir} {f al : Vec} {e : Bool} (h1 : 0 < vdot x.nrm al) (h2 : 0 < vdot x.nrm (vplus f (vtimes (-1) x.c))) : meetV x ((1 : Nat) : Int) f al e = false := by
  unfold meetV
  rw [show -((1 : Nat) : Int) = -1 from rfl]
  dsimp only
  rw [if_neg (show ¬ vdot x.nrm al < 0 by omega), decide_eq_false (show ¬ 0 < -(vdot x.nrm (vplus f (vtimes (-1) x.c))) by omega)]
  simp
def lit1 (d b : Bool) : Int × Int × Int := if d = true then (1, 0, 0) else if b = true then (0, 1, 0) else (0, 0, 1)
theorem litM1 (ms : List Mir) (sun t : Vec) (m : Mir) : litM ms 1 sun t m 0 = lit1 (darkB ms ((0 : Nat) : Int) ((1 : Nat) : Int) m sun (0, 0)) (blockB ms 0 1 m t (0, 0)) := rfl

/-! The statement. -/
def encA (s : ByteArray) (c u w : Vec) : D := .agg [.v (.string s), I c.1, I c.2.1, I c.2.2, I u.1, I u.2.1, I u.2.2, I w.1, I w.2.1, I w.2.2]
theorem along_eq (n : Nat) {p v : Vec} {k r : Int} (h : Bd r (vtimes k v)) (h2 : Bd (r + 500) (vplus p (vtimes k v))) (hr : r ≤ 1000000000) : F_top_thistleAlong n p.1 p.2.1 p.2.2 v.1 v.2.1 v.2.2 k = some (vplus p (vtimes k v)) := by
  obtain ⟨a1, a2, a3⟩ := h
  obtain ⟨b1, b2, b3⟩ := h2
  unfold vplus vtimes at b1 b2 b3
  unfold vtimes at a1 a2 a3
  dsimp only at a1 a2 a3 b1 b2 b3
  unfold F_top_thistleAlong
  iterate 6 rw [if_pos (by unfold inI64; omega)]
  rfl
theorem maxI_gt {a b m : Int} (h : ¬ m < maxI a b) : a ≤ m ∧ b ≤ m := by unfold maxI at h; split at h <;> omega
theorem pE_of {v : Vec} {m : Int} (h : Bd m v) : pE v m = 0 := by
  obtain ⟨a, b, c⟩ := h
  unfold pE
  rw [inR_ok a, inR_ok b, inR_ok c]; rfl
theorem dirE_of {v : Vec} {m : Int} (h : Bd m v) (hz : zeroB v = false) : dirE v m = 0 := by
  unfold dirE
  rw [pE_of h, hz]; rfl
def cV : Vec := (0, 0, 500)
theorem mir_ok {s : ByteArray} (hs : nameB s = true) {c u w : Vec} (hc : Bd 4096 c) (hu : Bd 64 u) (hw : Bd 64 w) (hz : zeroB (vcross u w) = false) : mirE ⟨s, c, u, w⟩ = 0 := by
  unfold mirE
  dsimp only
  rw [hs, pE_of hc, pE_of hu, pE_of hw]
  show (if _ then (whenI (zeroB (vcross u w)) 17) else _) = 0
  rw [hz]
  rfl
/-- The halves of a mirror, a vector to the sun and one to the target, as the frame gives them. -/
structure Set1 (a b n u w : Vec) (x y : Int) : Prop where
  wa : Wh a x
  wb : Wh b y
  q : 0 < x * y + vdot a b
  nr : Nrm a b n x y
  fr : Frm n u w
theorem pos_of {k z : Int} (hk : 0 < k) (h : 0 < k * z) : 0 < z := by
  rcases Int.lt_or_le 0 z with h1 | h1
  · exact h1
  · have := Int.mul_le_mul_of_nonneg_left h1 (show 0 ≤ k by omega)
    rw [Int.mul_zero] at this
    omega
theorem Set1.na {a b n u w : Vec} {x y : Int} (h : Set1 a b n u w x y) : 0 < vdot n a ∧ 0 < vdot n b ∧ x * vdot n b = y * vdot n a := by
  obtain ⟨k, k1, k2⟩ := h.nr.m
  have hx := h.wa.s
  have hy := h.wb.s
  have e1 : k * vdot n a = x * (x * y + vdot a b) := by rw [← sum_dot_a (b := b) (y := y) h.wa, ← k2, vdot_comm (vtimes k n) a, vdot_times, vdot_comm]
  have e2 : k * vdot n b = y * (x * y + vdot a b) := by rw [← sum_dot_b (a := a) (x := x) h.wb, ← k2, vdot_comm (vtimes k n) b, vdot_times, vdot_comm]
  have p1 := Int.mul_pos (show 0 < x by omega) h.q
  have p2 := Int.mul_pos (show 0 < y by omega) h.q
  refine ⟨pos_of k1 (by rw [e1]; exact p1), pos_of k1 (by rw [e2]; exact p2), ?_⟩
  have : k * (x * vdot n b) = k * (y * vdot n a) := by
    calc k * (x * vdot n b) = x * (k * vdot n b) := by grind
      _ = y * (k * vdot n a) := by rw [e1, e2]; grind
      _ = k * (y * vdot n a) := by grind
  exact Int.eq_of_mul_eq_mul_left (by omega) this
theorem Set1.al {a b n u w : Vec} {x y : Int} (h : Set1 a b n u w x y) {z : Vec} (hz : 0 < vdot n z) : 0 < vdot (vcross u w) z := by
  obtain ⟨g, k, g1, k1, e⟩ := h.fr.al
  have : g * vdot (vcross u w) z = k * vdot n z := by
    rw [vdot_comm (vcross u w) z, ← vdot_times, e, vdot_times, vdot_comm]
  exact pos_of g1 (by rw [this]; exact Int.mul_pos k1 hz)
theorem Set1.nz {a b n u w : Vec} {x y : Int} (h : Set1 a b n u w x y) : zeroB (vcross u w) = false := by
  cases hz : zeroB (vcross u w) with
  | false => rfl
  | true =>
    obtain ⟨q1, q2, q3⟩ := zeroB_iff.1 hz
    have := h.al h.na.1
    unfold vdot at this
    rw [q1, q2, q3] at this
    simp at this
theorem Set1.cos {a b n u w : Vec} {x y : Int} (h : Set1 a b n u w x y) :
    lowI (vdot (vcross u w) a * vdot (vcross u w) a) (vdot (vcross u w) (vcross u w) * vdot a a) = lowI (vdot n a * vdot n a) (vdot n n * vdot a a) ∧
    lowI (vdot (vcross u w) b * vdot (vcross u w) b) (vdot (vcross u w) (vcross u w) * vdot b b) = lowI (vdot n a * vdot n a) (vdot n n * vdot a a) := by
  obtain ⟨g, k, g1, k1, e⟩ := h.fr.al
  obtain ⟨_, _, exy⟩ := h.na
  have hx := h.wa.s
  have hy := h.wb.s
  have ez : ∀ z : Vec, g * vdot (vcross u w) z = k * vdot n z := fun z => by
    rw [vdot_comm (vcross u w) z, ← vdot_times, e, vdot_times, vdot_comm]
  have en : (g * g) * vdot (vcross u w) (vcross u w) = (k * k) * vdot n n := by
    calc (g * g) * vdot (vcross u w) (vcross u w) = g * (g * vdot (vcross u w) (vcross u w)) := by grind
      _ = g * (k * vdot n (vcross u w)) := by rw [ez]
      _ = k * (g * vdot (vcross u w) n) := by rw [vdot_comm n]; grind
      _ = (k * k) * vdot n n := by rw [ez]; grind
  have gg := Int.mul_pos g1 g1
  have kk := Int.mul_pos k1 k1
  have xx := Int.mul_pos (show 0 < x by omega) (show 0 < x by omega)
  have yy := Int.mul_pos (show 0 < y by omega) (show 0 < y by omega)
  have nn : ∀ z t : Vec, 0 ≤ vdot z z * vdot t t := fun z t => Int.mul_nonneg (dot_nn z) (dot_nn t)
  have ea := ez a
  have eb := ez b
  have da := h.wa.d
  have db := h.wb.d
  have hNN := dot_nn (vcross u w)
  generalize vdot (vcross u w) (vcross u w) = NN at *
  refine ⟨lowI_same gg kk (sq_nn _) (Int.mul_nonneg hNN (dot_nn a)) (sq_nn _) (nn n a) ?_ ?_, lowI_same (Int.mul_pos gg xx) (Int.mul_pos kk yy) (sq_nn _) (Int.mul_nonneg hNN (dot_nn b)) (sq_nn _) (nn n a) ?_ ?_⟩
  · calc (g * g) * (vdot (vcross u w) a * vdot (vcross u w) a) = (g * vdot (vcross u w) a) * (g * vdot (vcross u w) a) := by grind
      _ = (k * k) * (vdot n a * vdot n a) := by rw [ea]; grind
  · calc (g * g) * (NN * vdot a a) = ((g * g) * NN) * vdot a a := by grind
      _ = (k * k) * (vdot n n * vdot a a) := by rw [en]; grind
  · calc (g * g * (x * x)) * (vdot (vcross u w) b * vdot (vcross u w) b) = (x * x) * ((g * vdot (vcross u w) b) * (g * vdot (vcross u w) b)) := by grind
      _ = (k * k) * ((x * vdot n b) * (x * vdot n b)) := by rw [eb]; grind
      _ = (k * k * (y * y)) * (vdot n a * vdot n a) := by rw [exy]; grind
  · rw [da, db]
    calc (g * g * (x * x)) * (NN * (y * y)) = ((g * g) * NN) * (x * x) * (y * y) := by grind
      _ = (k * k * (y * y)) * (vdot n n * (x * x)) := by rw [en]; grind

theorem lits {a b n u w : Vec} {x y : Int} (h : Set1 a b n u w x y) (hu : Bd 64 u) (hw : Bd 64 w) {s1 s2 : ByteArray} (st : Int) (hst : 1 ≤ st ∧ st ≤ 20) :
    litM [⟨s1, cV, u, w⟩] 1 a (vplus cV (vtimes (2 * st) b)) ⟨s1, cV, u, w⟩ 0 = (0, 0, 1) ∧
    (litM [⟨s1, cV, u, w⟩, ⟨s2, vplus cV (vtimes st b), u, w⟩] 1 a (vplus cV (vtimes (2 * st) b)) ⟨s1, cV, u, w⟩ 0 = (1, 0, 0) ∨ litM [⟨s1, cV, u, w⟩, ⟨s2, vplus cV (vtimes st b), u, w⟩] 1 a (vplus cV (vtimes (2 * st) b)) ⟨s1, cV, u, w⟩ 0 = (0, 1, 0)) ∧
    litM [⟨s1, cV, u, w⟩, ⟨s2, vplus cV (vtimes st a), u, w⟩] 1 a (vplus cV (vtimes (2 * st) b)) ⟨s1, cV, u, w⟩ 0 = (1, 0, 0) ∧
    litM [⟨s1, cV, u, w⟩, ⟨s2, vplus cV (vtimes (-1) n), u, w⟩] 1 a (vplus cV (vtimes (2 * st) b)) ⟨s1, cV, u, w⟩ 0 = (0, 0, 1) := by
  obtain ⟨na, nb, _⟩ := h.na
  have Na := h.al na
  have Nb := h.al nb
  have Nn := h.al (zeroB_dot h.nr.nz)
  have alE : alo ⟨s1, cV, u, w⟩ ((1 : Nat) : Int) (vplus cV (vtimes (2 * st) b)) (0, 0) = vtimes (2 * st) b := by
    unfold alo
    rw [fc1]
    obtain ⟨b1, b2, b3⟩ := b
    simp only [vplus, vtimes, cV]
    refine Prod.ext ?_ (Prod.ext ?_ ?_) <;> dsimp only <;> omega
  have Nal : 0 < vdot (vcross u w) (vtimes (2 * st) b) := by rw [vdot_times]; exact Int.mul_pos (by omega) Nb
  have rest : ∀ (k : Int) (z : Vec), vplus cV (vtimes (-1) (vplus cV (vtimes k z))) = vtimes (-k) z := fun k z => by
    obtain ⟨z1, z2, z3⟩ := z
    simp only [vplus, vtimes, cV]
    have e : ∀ t : Int, -k * t = -(k * t) := fun t => Int.neg_mul k t
    refine Prod.ext ?_ (Prod.ext ?_ ?_) <;> dsimp only <;> rw [e] <;> omega
  have dk : ∀ ms : List Mir, darkB ms ((0 : Nat) : Int) ((1 : Nat) : Int) ⟨s1, cV, u, w⟩ a (0, 0) = metB ms ((0 : Nat) : Int) ((1 : Nat) : Int) cV a false := fun ms => by
    unfold darkB
    rw [fc1]
    exact if_pos Na
  have bk : ∀ ms : List Mir, blockB ms ((0 : Nat) : Int) ((1 : Nat) : Int) ⟨s1, cV, u, w⟩ (vplus cV (vtimes (2 * st) b)) (0, 0) = metB ms ((0 : Nat) : Int) ((1 : Nat) : Int) cV (vtimes (2 * st) b) true := fun ms => by
    unfold blockB
    rw [alE, fc1]
    exact if_neg (show ¬ vdot (vcross u w) (vtimes (2 * st) b) ≤ 0 by omega)
  refine ⟨?_, ?_, ?_, ?_⟩
  · rw [litM1, dk]
    have := bk [⟨s1, cV, u, w⟩]
    rw [show blockB [⟨s1, cV, u, w⟩] 0 1 ⟨s1, cV, u, w⟩ (vplus cV (vtimes (2 * st) b)) (0, 0) = _ from this, met1, met1]; rfl
  · rw [litM1, dk]
    have := bk [⟨s1, cV, u, w⟩, ⟨s2, vplus cV (vtimes st b), u, w⟩]
    rw [show blockB [⟨s1, cV, u, w⟩, ⟨s2, vplus cV (vtimes st b), u, w⟩] 0 1 ⟨s1, cV, u, w⟩ (vplus cV (vtimes (2 * st) b)) (0, 0) = _ from this, met2, met2,
      meet_hit (x := ⟨s2, vplus cV (vtimes st b), u, w⟩) (f := cV) (al := vtimes (2 * st) b) (z := b) (r := 2 * st) (s := st) (e := true) rfl (rest st b) Nb (by omega) (by omega) (.inr (by omega))]
    cases meetV ⟨s2, vplus cV (vtimes st b), u, w⟩ ((1 : Nat) : Int) cV a false
    · right; rfl
    · left; rfl
  · rw [litM1, dk, met2, meet_hit (x := ⟨s2, vplus cV (vtimes st a), u, w⟩) (f := cV) (al := a) (z := a) (r := 1) (s := st) (e := false) (by unfold vtimes; simp) (rest st a) Na (by omega) (by omega) (.inl rfl)]
    rfl
  · have hr : vplus cV (vtimes (-1) (vplus cV (vtimes (-1) n))) = n := by
      rw [rest]
      unfold vtimes
      simp
    rw [litM1, dk]
    have := bk [⟨s1, cV, u, w⟩, ⟨s2, vplus cV (vtimes (-1) n), u, w⟩]
    rw [show blockB [⟨s1, cV, u, w⟩, ⟨s2, vplus cV (vtimes (-1) n), u, w⟩] 0 1 ⟨s1, cV, u, w⟩ (vplus cV (vtimes (2 * st) b)) (0, 0) = _ from this, met2, met2,
      meet_miss (x := ⟨s2, vplus cV (vtimes (-1) n), u, w⟩) (f := cV) (al := a) Na (by rw [hr]; exact Nn),
      meet_miss (x := ⟨s2, vplus cV (vtimes (-1) n), u, w⟩) (f := cV) (al := vtimes (2 * st) b) Nal (by rw [hr]; exact Nn)]
    rfl
theorem pair_ok {s1 s2 : ByteArray} {c u w : Vec} (h1 : mirE ⟨s1, cV, u, w⟩ = 0) (h2 : mirE ⟨s2, c, u, w⟩ = 0) (hs : s1 ≠ s2) : chkM [⟨s1, cV, u, w⟩, ⟨s2, c, u, w⟩] = 0 := by
  rw [chkM_iff]
  refine ⟨by simp, fun m hm => ?_, by simpa using hs⟩
  simp at hm
  rcases hm with rfl | rfl
  · exact h1
  · exact h2
theorem one_ok {s1 : ByteArray} {u w : Vec} (h1 : mirE ⟨s1, cV, u, w⟩ = 0) : chkM [⟨s1, cV, u, w⟩] = 0 := by
  rw [chkM_iff]
  refine ⟨by simp, fun m hm => ?_, by simp⟩
  simp at hm
  subst hm
  exact h1
theorem lit_two {n : Nat} (hn : 100 ≤ n) {s1 s2 : ByteArray} {c u w : Vec} (h1 : mirE ⟨s1, cV, u, w⟩ = 0) (h2 : mirE ⟨s2, c, u, w⟩ = 0) (hs : s1 ≠ s2) (z1 : s1.size < n) (z2 : s2.size < n) {sun t : Vec} (hd : dirE sun 1024 = 0) (ht : pE t 4096 = 0) :
    F_field_Lit n [encM ⟨s1, cV, u, w⟩, encM ⟨s2, c, u, w⟩] 0 sun.1 sun.2.1 sun.2.2 t.1 t.2.1 t.2.2 1 = some ((litM [⟨s1, cV, u, w⟩, ⟨s2, c, u, w⟩] 1 sun t ⟨s1, cV, u, w⟩ 0).1, (litM [⟨s1, cV, u, w⟩, ⟨s2, c, u, w⟩] 1 sun t ⟨s1, cV, u, w⟩ 0).2.1, (litM [⟨s1, cV, u, w⟩, ⟨s2, c, u, w⟩] 1 sun t ⟨s1, cV, u, w⟩ 0).2.2, 0) := by
  have hc := pair_ok h1 h2 hs
  obtain ⟨g3, g4⟩ := chkM_ok hc
  exact litP_eq (q := 0) (k := 1) hn ⟨rfl, g3, g4, by decide⟩ (fun x hx => by
    simp at hx
    rcases hx with rfl | rfl
    · exact z1
    · exact z2) hc hd ht
theorem lit_one {n : Nat} (hn : 100 ≤ n) {s1 : ByteArray} {u w : Vec} (h1 : mirE ⟨s1, cV, u, w⟩ = 0) (z1 : s1.size < n) {sun t : Vec} (hd : dirE sun 1024 = 0) (ht : pE t 4096 = 0) :
    F_field_Lit n [encM ⟨s1, cV, u, w⟩] 0 sun.1 sun.2.1 sun.2.2 t.1 t.2.1 t.2.2 1 = some ((litM [⟨s1, cV, u, w⟩] 1 sun t ⟨s1, cV, u, w⟩ 0).1, (litM [⟨s1, cV, u, w⟩] 1 sun t ⟨s1, cV, u, w⟩ 0).2.1, (litM [⟨s1, cV, u, w⟩] 1 sun t ⟨s1, cV, u, w⟩ 0).2.2, 0) := by
  have hc := one_ok h1
  obtain ⟨g3, g4⟩ := chkM_ok hc
  exact litP_eq (q := 0) (k := 1) hn ⟨rfl, g3, g4, by decide⟩ (fun x hx => by
    simp at hx
    subst hx
    exact z1) hc hd ht
theorem far_chain {u w : Vec} (h : ¬ (Bd 64 u ∧ Bd 64 w)) (hu : Bd 1000000000 u) (hw : Bd 1000000000 w) :
    64 < maxI (maxI (maxI (maxI (maxI (maxI (maxI (maxI (maxI (maxI (maxI u.1 (IntKind.wrap .i64 (0 - u.1))) u.2.1) (IntKind.wrap .i64 (0 - u.2.1))) u.2.2) (IntKind.wrap .i64 (0 - u.2.2))) w.1) (IntKind.wrap .i64 (0 - w.1))) w.2.1) (IntKind.wrap .i64 (0 - w.2.1))) w.2.2) (IntKind.wrap .i64 (0 - w.2.2)) := by
  obtain ⟨u1, u2, u3⟩ := hu
  obtain ⟨w1, w2, w3⟩ := hw
  rw [wrapN_eq (by unfold L; omega), wrapN_eq (by unfold L; omega), wrapN_eq (by unfold L; omega), wrapN_eq (by unfold L; omega), wrapN_eq (by unfold L; omega), wrapN_eq (by unfold L; omega)]
  rcases Int.lt_or_le 64 (maxI (maxI (maxI (maxI (maxI (maxI (maxI (maxI (maxI (maxI (maxI u.1 (-u.1)) u.2.1) (-u.2.1)) u.2.2) (-u.2.2)) w.1) (-w.1)) w.2.1) (-w.2.1)) w.2.2) (-w.2.2)) with h1 | h1
  · exact h1
  · exfalso
    have h1 := Int.not_lt.2 h1
    obtain ⟨h1, a1⟩ := maxI_gt h1
    obtain ⟨h1, a2⟩ := maxI_gt (Int.not_lt.2 h1)
    obtain ⟨h1, a3⟩ := maxI_gt (Int.not_lt.2 h1)
    obtain ⟨h1, a4⟩ := maxI_gt (Int.not_lt.2 h1)
    obtain ⟨h1, a5⟩ := maxI_gt (Int.not_lt.2 h1)
    obtain ⟨h1, a6⟩ := maxI_gt (Int.not_lt.2 h1)
    obtain ⟨h1, a7⟩ := maxI_gt (Int.not_lt.2 h1)
    obtain ⟨h1, a8⟩ := maxI_gt (Int.not_lt.2 h1)
    obtain ⟨h1, a9⟩ := maxI_gt (Int.not_lt.2 h1)
    obtain ⟨h1, a10⟩ := maxI_gt (Int.not_lt.2 h1)
    obtain ⟨h1, a11⟩ := maxI_gt (Int.not_lt.2 h1)
    refine h ⟨?_, ?_⟩
    · unfold Bd; omega
    · unfold Bd; omega
theorem bnd {α β : Type} {x : Option α} {a : α} {f : α → Option β} {r : Option β} (h : x = some a) (k : f a = r) : x.bind f = r := by rw [h]; exact k
theorem ift {α : Type} {p : Prop} [Decidable p] {x y r : α} (h : p) (k : x = r) : (if p then x else y) = r := by rw [if_pos h]; exact k
theorem iff_ {α : Type} {p : Prop} [Decidable p] {x y r : α} (h : ¬ p) (k : y = r) : (if p then x else y) = r := by rw [if_neg h]; exact k
def nM : ByteArray := ⟨#[109]⟩
def nHalf : ByteArray := ⟨#[104, 97, 108, 102]⟩
def nShade : ByteArray := ⟨#[115, 104, 97, 100, 101]⟩
def nBehind : ByteArray := ⟨#[98, 101, 104, 105, 110, 100]⟩
theorem level_ok : F_top_thistleLevel 100000 = some true := by kernel_rfl
theorem bC : Bd 500 cV := ⟨by decide, by decide, by decide⟩
theorem atB {r : Int} {v : Vec} (h : Bd r v) : Bd (r + 500) (vplus cV v) := (bC.plus h).mono (by omega)
theorem law_TopThistleReflected (a0 a1 a2 a3 a4 a5 a6 a7 a8 : Int) (h8 : 0 ≤ a8 ∧ a8 ≤ 255) : F_top_TopThistleReflected 100000 a0 a1 a2 a3 a4 a5 a6 a7 a8 = some true := by
  unfold F_top_TopThistleReflected
  rw [wrap_id h8]
  have b0 := tmod_b (IntKind.wrap .i64 a0)
  have b1 := tmod_b (IntKind.wrap .i64 a1)
  have b2 := tmod_b (IntKind.wrap .i64 a2)
  have b3 := tmod_b (IntKind.wrap .i64 a3)
  have b4 := tmod_b (IntKind.wrap .i64 a4)
  have b5 := tmod_b (IntKind.wrap .i64 a5)
  have b6 := tmod_b (IntKind.wrap .i64 a6)
  have b7 := tmod_b (IntKind.wrap .i64 a7)
  generalize Int.tmod (IntKind.wrap .i64 a0) 4 = l0 at *
  generalize Int.tmod (IntKind.wrap .i64 a1) 4 = l1 at *
  generalize Int.tmod (IntKind.wrap .i64 a2) 4 = l2 at *
  generalize Int.tmod (IntKind.wrap .i64 a3) 4 = l3 at *
  generalize Int.tmod (IntKind.wrap .i64 a4) 4 = l4 at *
  generalize Int.tmod (IntKind.wrap .i64 a5) 4 = l5 at *
  generalize Int.tmod (IntKind.wrap .i64 a6) 4 = l6 at *
  generalize Int.tmod (IntKind.wrap .i64 a7) 4 = l7 at *
  have q : ∀ {z : Int}, -3 ≤ z ∧ z ≤ 3 → -9 ≤ z * z ∧ z * z ≤ 9 := fun h => mul_k h h rfl (by decide) (by decide)
  have q0 := q b0
  have q1 := q b1
  have q2 := q b2
  have q3 := q b3
  have q4 := q b4
  have q5 := q b5
  have q6 := q b6
  have q7 := q b7
  iterate 16 refine ift (by unfold inI64; omega) ?_
  refine bnd level_ok ?_
  refine ift rfl ?_
  by_cases h1 : (((0 + l0 * l0) + l1 * l1) + l2 * l2) + l3 * l3 = 0
  · exact ift h1 rfl
  refine iff_ h1 ?_
  by_cases h2 : (((0 + l4 * l4) + l5 * l5) + l6 * l6) + l7 * l7 = 0
  · exact ift h2 rfl
  refine iff_ h2 ?_
  obtain ⟨w1, va⟩ := whole_ok (n := 100000) (by decide) b0 b1 b2 b3 h1
  obtain ⟨w2, vb⟩ := whole_ok (n := 100000) (by decide) b4 b5 b6 b7 h2
  refine bnd w1 (bnd w2 ?_)
  generalize wholeV l0 l1 l2 l3 = a at *
  generalize wholeV l4 l5 l6 l7 = b at *
  generalize l0 * l0 + l1 * l1 + l2 * l2 + l3 * l3 = x at *
  generalize l4 * l4 + l5 * l5 + l6 * l6 + l7 * l7 = y at *
  refine ift rfl (ift rfl ?_)
  refine bnd (refRay_ok (by decide) (va.b.mono (by decide)) va.nz) (ift rfl ?_)
  refine bnd (refRay_ok (by decide) (vb.b.mono (by decide)) vb.nz) (ift rfl ?_)
  refine bnd (refDir_ok (by decide) (va.b.mono (by decide)) va.nz) (ift rfl ?_)
  refine bnd (refDir_ok (by decide) (vb.b.mono (by decide)) vb.nz) (ift rfl ?_)
  rcases normal_ok (n := 100000) (by decide) va vb with ⟨c1, c2, e⟩ | ⟨hq, v, e, N⟩
  · refine bnd e (iff_ (by decide) (ift rfl ?_))
    exact bnd (refOppo_eq (by decide) va vb c1 c2) rfl
  refine bnd e (ift rfl ?_)
  obtain ⟨f1, fr⟩ := frame_ok (n := 100000) (by decide) N.bd N.nz
  refine bnd f1 (ift rfl ?_)
  generalize sideV v = u at *
  generalize upV v = w at *
  have S : Set1 a b v u w x y := ⟨va, vb, hq, N, fr⟩
  refine bnd (refCheck_eq (n := 100000) (by decide) ⟨nM, cV, u, w⟩) ?_
  by_cases hb : Bd 64 u ∧ Bd 64 w
  case neg =>
    refine iff_ (fun e => hb ⟨(mirE_zero e).u, (mirE_zero e).v⟩) ?_
    exact congrArg some (decide_eq_true (far_chain hb (fr.bu.mono (by decide)) (fr.bw.mono (by decide))))
  obtain ⟨hu, hw⟩ := hb
  have hm := mir_ok (s := nM) (c := cV) (by kernel_rfl) (bC.mono (by decide)) hu hw S.nz
  refine ift hm ?_
  obtain ⟨na, nb, _⟩ := S.na
  obtain ⟨cosa, cosb⟩ := S.cos
  have da := dirE_of (va.b.mono (show (40 : Int) ≤ 1024 by decide)) va.nz
  have db := dirE_of (vb.b.mono (show (40 : Int) ≤ 1024 by decide)) vb.nz
  refine bnd (sunCos_eq (by decide) N.bd N.nz va na) ?_
  refine bnd (fieldCos_eq (n := 100000) (m := ⟨nM, cV, u, w⟩) (by decide) (show nM.size < 100000 by decide) hm da) ?_
  refine bnd (fieldCos_eq (n := 100000) (m := ⟨nM, cV, u, w⟩) (by decide) (show nM.size < 100000 by decide) hm db) ?_
  have s1 : cmpI (vdot (vcross u w) a) 0 = 1 := by
    have := S.al na
    unfold cmpI
    rw [if_neg (by omega), if_pos (by omega)]
  have s2 : cmpI (vdot (vcross u w) b) 0 = 1 := by
    have := S.al nb
    unfold cmpI
    rw [if_neg (by omega), if_pos (by omega)]
  refine ift rfl (ift rfl (ift rfl (ift rfl (ift s1 (ift s2 ?_)))))
  refine ift (by show ((_ == _) && ((_ == _) && true)) = true; simp only [Mir.nrm, cosa, beq_self_eq_true, Bool.and_self]) ?_
  refine ift (by show ((_ == _) && ((_ == _) && true)) = true; simp only [Mir.nrm, cosb, beq_self_eq_true, Bool.and_self]) ?_
  have t1 : 0 ≤ Int.tmod a8 20 := Int.tmod_nonneg _ h8.1
  have t2 : Int.tmod a8 20 < 20 := Int.tmod_lt_of_pos _ (by decide)
  obtain ⟨st, hst⟩ : ∃ st, st = 1 + Int.tmod a8 20 := ⟨_, rfl⟩
  rw [← hst]
  have hsb : 1 ≤ st ∧ st ≤ 20 := by omega
  refine ift (by unfold inI64; omega) (ift (by unfold inI64; omega) ?_)
  have k2 := vb.b.times (k := 2 * st) (K := 40) (by omega) (show (40 : Int) * 40 = 1600 by decide) (by decide) (by decide)
  have k1 := vb.b.times (k := st) (K := 20) (by omega) (show (20 : Int) * 40 = 800 by decide) (by decide) (by decide)
  have ka := va.b.times (k := st) (K := 20) (by omega) (show (20 : Int) * 40 = 800 by decide) (by decide) (by decide)
  have kn := N.bd.times (k := -1) (K := 1) (by omega) (show (1 : Int) * 2880 = 2880 by decide) (by decide) (by decide)
  have m1 := mir_ok (s := nHalf) (c := vplus cV (vtimes st b)) (by kernel_rfl) ((atB k1).mono (by decide)) hu hw S.nz
  have m2 := mir_ok (s := nShade) (c := vplus cV (vtimes st a)) (by kernel_rfl) ((atB ka).mono (by decide)) hu hw S.nz
  have m3 := mir_ok (s := nBehind) (c := vplus cV (vtimes (-1) v)) (by kernel_rfl) ((atB kn).mono (by decide)) hu hw S.nz
  have ht := pE_of ((atB k2).mono (show (1600 : Int) + 500 ≤ 4096 by decide))
  obtain ⟨r1, _, _, _⟩ := lits S hu hw (s1 := nM) (s2 := nHalf) st hsb
  obtain ⟨_, r2, _, _⟩ := lits S hu hw (s1 := nM) (s2 := nHalf) st hsb
  obtain ⟨_, _, r3, _⟩ := lits S hu hw (s1 := nM) (s2 := nShade) st hsb
  obtain ⟨_, _, _, r4⟩ := lits S hu hw (s1 := nM) (s2 := nBehind) st hsb
  have L1 := lit_one (n := 100000) (by decide) hm (by decide) da ht
  have L2 := lit_two (n := 100000) (by decide) hm m1 (by decide) (by decide) (by decide) da ht
  have L3 := lit_two (n := 100000) (by decide) hm m2 (by decide) (by decide) (by decide) da ht
  have L4 := lit_two (n := 100000) (by decide) hm m3 (by decide) (by decide) (by decide) da ht
  rw [r1] at L1
  rw [r3] at L3
  rw [r4] at L4
  refine bnd (along_eq 100000 (p := cV) k2 (atB k2) (by decide)) ?_
  refine bnd (tf_eq (n := 100000) [⟨nM, cV, u, w⟩] (show 1 < 100000 by decide) (show 1 ≤ 100 by decide)) (bnd L1 ?_)
  refine bnd (along_eq 100000 (p := cV) k1 (atB k1) (by decide)) ?_
  refine bnd (tf_eq (n := 100000) [⟨nM, cV, u, w⟩, ⟨nHalf, vplus cV (vtimes st b), u, w⟩] (show 2 < 100000 by decide) (show 2 ≤ 100 by decide)) (bnd L2 ?_)
  refine bnd (along_eq 100000 (p := cV) ka (atB ka) (by decide)) ?_
  refine bnd (tf_eq (n := 100000) [⟨nM, cV, u, w⟩, ⟨nShade, vplus cV (vtimes st a), u, w⟩] (show 2 < 100000 by decide) (show 2 ≤ 100 by decide)) (bnd L3 ?_)
  refine bnd (along_eq 100000 (p := cV) kn (atB kn) (by decide)) ?_
  refine bnd (tf_eq (n := 100000) [⟨nM, cV, u, w⟩, ⟨nBehind, vplus cV (vtimes (-1) v), u, w⟩] (show 2 < 100000 by decide) (show 2 ≤ 100 by decide)) (bnd L4 ?_)
  refine ift rfl (ift rfl (ift rfl (ift rfl (ift (by decide) ?_))))
  rcases r2 with r2 | r2
  · rw [r2]
    exact ift rfl (ift (by decide) (ift rfl (ift (by decide) rfl)))
  · rw [r2]
    exact ift rfl (ift (by decide) (ift rfl (ift (by decide) rfl)))
end Go.Proofs.YtiogobiijlaalaaDoor
