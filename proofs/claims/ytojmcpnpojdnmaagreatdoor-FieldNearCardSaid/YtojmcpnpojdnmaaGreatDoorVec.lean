/-
  Plain lemmas of chapter 4: vectors, and whether a ray meets a mirror. An own text.
-/
import Derived.Test.YtojmcpnpojdnmaaGreatDoorFCom
set_option linter.unusedVariables false
set_option linter.unusedSimpArgs false
set_option linter.unnecessarySimpa false
set_option maxRecDepth 20000
namespace Go.Proofs.YtojmcpnpojdnmaaGreatDoor
open Go.SX

abbrev Vec := Int × Int × Int
def vdot (u v : Vec) : Int := u.1 * v.1 + u.2.1 * v.2.1 + u.2.2 * v.2.2
def vcross (u v : Vec) : Vec := (u.2.1 * v.2.2 - u.2.2 * v.2.1, u.2.2 * v.1 - u.1 * v.2.2, u.1 * v.2.1 - u.2.1 * v.1)
def vplus (u v : Vec) : Vec := (u.1 + v.1, u.2.1 + v.2.1, u.2.2 + v.2.2)
def vtimes (k : Int) (v : Vec) : Vec := (k * v.1, k * v.2.1, k * v.2.2)
def Bd (m : Int) (v : Vec) : Prop := (-m ≤ v.1 ∧ v.1 ≤ m) ∧ (-m ≤ v.2.1 ∧ v.2.1 ≤ m) ∧ (-m ≤ v.2.2 ∧ v.2.2 ≤ m)
theorem Bd.mono {m n : Int} {v : Vec} (h : Bd m v) (hmn : m ≤ n) : Bd n v := by unfold Bd at h ⊢; omega
theorem mul_k {g c p q r : Int} (hg : -p ≤ g ∧ g ≤ p) (hc : -q ≤ c ∧ c ≤ q) (hr : p * q = r) (hp : 0 ≤ p) (hq : 0 ≤ q) : -r ≤ g * c ∧ g * c ≤ r := by
  subst hr; exact mul_pq hp hg hq hc
theorem Bd.times {k K m r : Int} {v : Vec} (hk : -K ≤ k ∧ k ≤ K) (h : Bd m v) (hr : K * m = r) (hK : 0 ≤ K) (hm : 0 ≤ m) : Bd r (vtimes k v) :=
  ⟨mul_k hk h.1 hr hK hm, mul_k hk h.2.1 hr hK hm, mul_k hk h.2.2 hr hK hm⟩
theorem Bd.plus {m n : Int} {u v : Vec} (h : Bd m u) (k : Bd n v) : Bd (m + n) (vplus u v) := by unfold Bd vplus at *; dsimp only; omega
structure DotB (r : Int) (u v : Vec) : Prop where
  x : -r ≤ u.1 * v.1 ∧ u.1 * v.1 ≤ r
  y : -r ≤ u.2.1 * v.2.1 ∧ u.2.1 * v.2.1 ≤ r
  z : -r ≤ u.2.2 * v.2.2 ∧ u.2.2 * v.2.2 ≤ r
theorem Bd.dot {m n r : Int} {u v : Vec} (h : Bd m u) (k : Bd n v) (hr : m * n = r) (hm : 0 ≤ m) (hn : 0 ≤ n) : DotB r u v :=
  ⟨mul_k h.1 k.1 hr hm hn, mul_k h.2.1 k.2.1 hr hm hn, mul_k h.2.2 k.2.2 hr hm hn⟩
theorem DotB.val {r : Int} {u v : Vec} (h : DotB r u v) : -(3 * r) ≤ vdot u v ∧ vdot u v ≤ 3 * r := by
  obtain ⟨h1, h2, h3⟩ := h
  unfold vdot; omega
structure CrossB (r : Int) (u v : Vec) : Prop where
  a : -r ≤ u.2.1 * v.2.2 ∧ u.2.1 * v.2.2 ≤ r
  b : -r ≤ u.2.2 * v.2.1 ∧ u.2.2 * v.2.1 ≤ r
  c : -r ≤ u.2.2 * v.1 ∧ u.2.2 * v.1 ≤ r
  d : -r ≤ u.1 * v.2.2 ∧ u.1 * v.2.2 ≤ r
  e : -r ≤ u.1 * v.2.1 ∧ u.1 * v.2.1 ≤ r
  f : -r ≤ u.2.1 * v.1 ∧ u.2.1 * v.1 ≤ r
theorem Bd.cross {m n r : Int} {u v : Vec} (h : Bd m u) (k : Bd n v) (hr : m * n = r) (hm : 0 ≤ m) (hn : 0 ≤ n) : CrossB r u v :=
  ⟨mul_k h.2.1 k.2.2 hr hm hn, mul_k h.2.2 k.2.1 hr hm hn, mul_k h.2.2 k.1 hr hm hn, mul_k h.1 k.2.2 hr hm hn, mul_k h.1 k.2.1 hr hm hn, mul_k h.2.1 k.1 hr hm hn⟩
theorem CrossB.val {r : Int} {u v : Vec} (h : CrossB r u v) : Bd (2 * r) (vcross u v) := by
  obtain ⟨h1, h2, h3, h4, h5, h6⟩ := h
  unfold Bd vcross; dsimp only; omega
def L : Int := 2000000000000000000

theorem times_eq (n : Nat) {k : Int} {v : Vec} {r : Int} (h : Bd r (vtimes k v)) (hr : r ≤ L) : F_field_times n k v.1 v.2.1 v.2.2 = some (vtimes k v) := by
  obtain ⟨h1, h2, h3⟩ := h
  unfold vtimes at *
  dsimp only at h1 h2 h3
  unfold L at hr
  unfold F_field_times
  rw [if_pos (by unfold inI64; omega), if_pos (by unfold inI64; omega), if_pos (by unfold inI64; omega)]
theorem refTimes_eq (n : Nat) {k : Int} {v : Vec} {r : Int} (h : Bd r (vtimes k v)) (hr : r ≤ L) : F_ref04_times n k v.1 v.2.1 v.2.2 = some (vtimes k v) := by
  obtain ⟨h1, h2, h3⟩ := h
  unfold vtimes at *
  dsimp only at h1 h2 h3
  unfold L at hr
  unfold F_ref04_times
  rw [if_pos (by unfold inI64; omega), if_pos (by unfold inI64; omega), if_pos (by unfold inI64; omega)]
theorem plus_eq (n : Nat) {u v : Vec} {r : Int} (h : Bd r (vplus u v)) (hr : r ≤ L) : F_field_plus n u.1 u.2.1 u.2.2 v.1 v.2.1 v.2.2 = some (vplus u v) := by
  obtain ⟨h1, h2, h3⟩ := h
  unfold vplus at *
  dsimp only at h1 h2 h3
  unfold L at hr
  unfold F_field_plus
  rw [if_pos (by unfold inI64; omega), if_pos (by unfold inI64; omega), if_pos (by unfold inI64; omega)]
theorem refPlus_eq (n : Nat) {u v : Vec} {r : Int} (h : Bd r (vplus u v)) (hr : r ≤ L) : F_ref04_plus n u.1 u.2.1 u.2.2 v.1 v.2.1 v.2.2 = some (vplus u v) := by
  obtain ⟨h1, h2, h3⟩ := h
  unfold vplus at *
  dsimp only at h1 h2 h3
  unfold L at hr
  unfold F_ref04_plus
  rw [if_pos (by unfold inI64; omega), if_pos (by unfold inI64; omega), if_pos (by unfold inI64; omega)]
theorem dot_eq (n : Nat) {u v : Vec} {r : Int} (h : DotB r u v) (hr : r ≤ L) : F_field_dot n u.1 u.2.1 u.2.2 v.1 v.2.1 v.2.2 = some (vdot u v) := by
  obtain ⟨h1, h2, h3⟩ := h
  unfold L at hr
  unfold F_field_dot vdot
  generalize u.1 * v.1 = x at *
  generalize u.2.1 * v.2.1 = y at *
  generalize u.2.2 * v.2.2 = z at *
  rw [if_pos (by unfold inI64; omega), if_pos (by unfold inI64; omega), if_pos (by unfold inI64; omega), if_pos (by unfold inI64; omega), if_pos (by unfold inI64; omega)]
theorem refDot_eq (n : Nat) {u v : Vec} {r : Int} (h : DotB r u v) (hr : r ≤ L) : F_ref04_Dot n u.1 u.2.1 u.2.2 v.1 v.2.1 v.2.2 = some (vdot u v) := by
  obtain ⟨h1, h2, h3⟩ := h
  unfold L at hr
  unfold F_ref04_Dot vdot
  generalize u.1 * v.1 = x at *
  generalize u.2.1 * v.2.1 = y at *
  generalize u.2.2 * v.2.2 = z at *
  rw [if_pos (by unfold inI64; omega), if_pos (by unfold inI64; omega), if_pos (by unfold inI64; omega), if_pos (by unfold inI64; omega), if_pos (by unfold inI64; omega)]
theorem cross_eq (n : Nat) {u v : Vec} {r : Int} (h : CrossB r u v) (hr : r ≤ L) : F_field_cross n u.1 u.2.1 u.2.2 v.1 v.2.1 v.2.2 = some (vcross u v) := by
  obtain ⟨h1, h2, h3, h4, h5, h6⟩ := h
  unfold L at hr
  unfold F_field_cross vcross
  generalize u.2.1 * v.2.2 = a at *
  generalize u.2.2 * v.2.1 = b at *
  generalize u.2.2 * v.1 = c at *
  generalize u.1 * v.2.2 = d at *
  generalize u.1 * v.2.1 = e at *
  generalize u.2.1 * v.1 = f at *
  repeat rw [if_pos (by unfold inI64; omega)]
theorem refCross_eq (n : Nat) {u v : Vec} {r : Int} (h : CrossB r u v) (hr : r ≤ L) : F_ref04_Cross n u.1 u.2.1 u.2.2 v.1 v.2.1 v.2.2 = some (vcross u v) := by
  obtain ⟨h1, h2, h3, h4, h5, h6⟩ := h
  unfold L at hr
  unfold F_ref04_Cross vcross
  generalize u.2.1 * v.2.2 = a at *
  generalize u.2.2 * v.2.1 = b at *
  generalize u.2.2 * v.1 = c at *
  generalize u.1 * v.2.2 = d at *
  generalize u.1 * v.2.1 = e at *
  generalize u.2.1 * v.1 = f at *
  repeat rw [if_pos (by unfold inI64; omega)]

/-! Mirrors. -/
structure Mir where
  name : ByteArray
  c : Vec
  u : Vec
  v : Vec
def wrapN (x : Int) : Int := IntKind.wrap .i64 (0 - x)
theorem wrapN_eq {x : Int} (h : -L ≤ x ∧ x ≤ L) : IntKind.wrap .i64 (0 - x) = -x := by
  unfold L at h
  rw [IntKind.wrap_i64]; omega
def Mir.nrm (m : Mir) : Vec := vcross m.u m.v
structure Mir.Ok (m : Mir) : Prop where
  c : Bd 4096 m.c
  u : Bd 64 m.u
  v : Bd 64 m.v
theorem Mir.Ok.nrm {m : Mir} (h : m.Ok) : Bd 8192 m.nrm := (h.u.cross h.v rfl (by decide) (by decide)).val
def absI (x : Int) : Int := maxI x (-x)
theorem absI_neg (x : Int) : absI (-x) = absI x := by unfold absI maxI; split <;> split <;> omega
def meetV (m : Mir) (k : Int) (f al : Vec) (ends : Bool) : Bool :=
  let d0 := vdot m.nrm al
  let n0 := -(vdot m.nrm (vplus f (vtimes (-k) m.c)))
  let t := vcross al (vplus f (vtimes (-k) m.c))
  let a := absI (vdot t m.v)
  let b := absI (vdot t m.u)
  let d := if d0 < 0 then -d0 else d0
  let n := if d0 < 0 then -n0 else n0
  !(decide (d0 = 0)) && decide (0 < n) && (!ends || decide (n < d)) && decide (a ≤ k * d) && decide (b ≤ k * d)
theorem vdot_comm (u v : Vec) : vdot u v = vdot v u := by
  unfold vdot; rw [Int.mul_comm u.1, Int.mul_comm u.2.1, Int.mul_comm u.2.2]
def vneg (v : Vec) : Vec := (-v.1, -v.2.1, -v.2.2)
theorem vdot_neg (u v : Vec) : vdot u (vneg v) = -(vdot u v) := by
  unfold vdot vneg; simp only [Int.mul_neg]; omega
theorem vdot_negl (u v : Vec) : vdot (vneg u) v = -(vdot u v) := by rw [vdot_comm, vdot_neg, vdot_comm]
theorem vcross_neg (u v : Vec) : vcross u (vneg v) = vneg (vcross u v) := by
  unfold vcross vneg
  simp only [Int.mul_neg, Prod.mk.injEq]
  refine ⟨?_, ?_, ?_⟩ <;> omega
theorem way_eq (k : Int) (f c : Vec) : vplus (vtimes k c) (vtimes (-1) f) = vneg (vplus f (vtimes (-k) c)) := by
  unfold vplus vtimes vneg
  simp only [Int.neg_mul, Int.one_mul, Prod.mk.injEq]
  refine ⟨?_, ?_, ?_⟩ <;> omega
theorem normal_eq (n : Nat) {m : Mir} (h : m.Ok) : F_field_Mirror_normal n m.name m.c.1 m.c.2.1 m.c.2.2 m.u.1 m.u.2.1 m.u.2.2 m.v.1 m.v.2.1 m.v.2.2 = some m.nrm := by
  unfold F_field_Mirror_normal
  rw [cross_eq n (h.u.cross h.v rfl (by decide) (by decide)) (by decide)]
  rfl
/-- What is known of the numbers of a ray and a mirror. -/
structure MB (m : Mir) (k : Int) (f al : Vec) : Prop where
  t : Bd 32768 (vtimes (-k) m.c)
  p : Bd 163840 (vplus f (vtimes (-k) m.c))
  d : DotB 1073741824 m.nrm al
  w : DotB 1342177280 m.nrm (vplus f (vtimes (-k) m.c))
  c : CrossB 21474836480 al (vplus f (vtimes (-k) m.c))
  a : DotB 2748779069440 (vcross al (vplus f (vtimes (-k) m.c))) m.v
  b : DotB 2748779069440 (vcross al (vplus f (vtimes (-k) m.c))) m.u
theorem MB.of {m : Mir} (hm : m.Ok) {k : Int} (hk : 1 ≤ k ∧ k ≤ 8) {f al : Vec} (hf : Bd 131072 f) (ha : Bd 131072 al) : MB m k f al := by
  have b1 : Bd 32768 (vtimes (-k) m.c) := Bd.times (K := 8) (by omega) hm.c (by decide) (by decide) (by decide)
  have b2 : Bd 163840 (vplus f (vtimes (-k) m.c)) := (hf.plus b1).mono (by decide)
  have c1 : CrossB 21474836480 al (vplus f (vtimes (-k) m.c)) := ha.cross b2 (by decide) (by decide) (by decide)
  exact ⟨b1, b2, hm.nrm.dot ha (by decide) (by decide) (by decide), hm.nrm.dot b2 (by decide) (by decide) (by decide), c1, c1.val.dot hm.v (by decide) (by decide) (by decide), c1.val.dot hm.u (by decide) (by decide) (by decide)⟩
theorem meets_eq {n : Nat} {m : Mir} (hm : m.Ok) {k : Int} (hk : 1 ≤ k ∧ k ≤ 8) {f al : Vec} (hf : Bd 131072 f) (ha : Bd 131072 al) (e : Bool) :
    F_field_Mirror_meets n m.name m.c.1 m.c.2.1 m.c.2.2 m.u.1 m.u.2.1 m.u.2.2 m.v.1 m.v.2.1 m.v.2.2 k f.1 f.2.1 f.2.2 al.1 al.2.1 al.2.2 e = some (meetV m k f al e) := by
  obtain ⟨b1, b2, d1, d2, c1, d3, d4⟩ := MB.of hm hk hf ha
  unfold F_field_Mirror_meets
  rw [wrapN_eq (x := k) (by unfold L; omega), times_eq n b1 (by decide), Option.bind_some, plus_eq n b2 (by decide), Option.bind_some, normal_eq n hm, Option.bind_some, dot_eq n d1 (by decide), Option.bind_some, dot_eq n d2 (by decide), Option.bind_some]
  simp only [cross_eq n c1 (by decide), dot_eq n d3 (by decide), dot_eq n d4 (by decide), Option.bind_some]
  have v1 := d1.val
  have v2 := d2.val
  have v3 := d3.val
  have v4 := d4.val
  unfold meetV absI
  dsimp only
  generalize vdot m.nrm al = d at *
  generalize vdot m.nrm (vplus f (vtimes (-k) m.c)) = w at *
  generalize vdot (vcross al (vplus f (vtimes (-k) m.c))) m.v = a at *
  generalize vdot (vcross al (vplus f (vtimes (-k) m.c))) m.u = b at *
  have w1 := wrapN_eq (x := d) (by unfold L; omega)
  have w2 := wrapN_eq (x := w) (by unfold L; omega)
  have w3 := wrapN_eq (x := -w) (by unfold L; omega)
  have w4 := wrapN_eq (x := a) (by unfold L; omega)
  have w5 := wrapN_eq (x := b) (by unfold L; omega)
  simp only [w1, w2, w3, w4, w5]
  have k1 := mul_k (g := k) (c := d) (p := 8) (q := 3221225472) (by omega) (by omega) rfl (by decide) (by decide)
  have k2 : k * -d = -(k * d) := Int.mul_neg k d
  rw [k2]
  have i1 : inI64 (k * d) := by unfold inI64; omega
  have i2 : inI64 (-(k * d)) := by unfold inI64; omega
  simp only [if_pos i1, if_pos i2]
  by_cases hd : d < 0
  · simp only [if_pos hd, k2, Int.neg_neg]
    rw [if_neg (show ¬ -d = 0 by omega)]
    have hd0 : ¬ d = 0 := by omega
    by_cases h1 : w ≤ 0
    · rw [if_pos h1]
      have : ¬ 0 < w := by omega
      simp [this]
    · rw [if_neg h1]
      have : 0 < w := by omega
      cases e with
      | true =>
        simp only [if_true]
        by_cases h2 : w ≥ -d
        · rw [if_pos h2]
          have : ¬ w < -d := by omega
          simp [this]
        · rw [if_neg h2]
          have h3 : w < -d := by omega
          by_cases h4 : maxI a (-a) ≤ -(k * d)
          · rw [if_pos h4]; simp [hd0, this, h3, h4]
          · rw [if_neg h4]; simp [h4]
      | false =>
        simp only [Bool.false_eq_true, if_false]
        by_cases h4 : maxI a (-a) ≤ -(k * d)
        · rw [if_pos h4]; simp [hd0, this, h4]
        · rw [if_neg h4]; simp [h4]
  · simp only [if_neg hd]
    by_cases hd0 : d = 0
    · rw [if_pos hd0]; simp [hd0]
    rw [if_neg hd0]
    by_cases h1 : -w ≤ 0
    · rw [if_pos h1]
      have : ¬ w < 0 := by omega
      simp [this]
    · rw [if_neg h1]
      have : w < 0 := by omega
      cases e with
      | true =>
        simp only [if_true]
        by_cases h2 : -w ≥ d
        · rw [if_pos h2]
          have : ¬ -w < d := by omega
          simp [this]
        · rw [if_neg h2]
          have h3 : -w < d := by omega
          by_cases h4 : maxI a (-a) ≤ k * d
          · rw [if_pos h4]; simp [hd0, this, h3, h4]
          · rw [if_neg h4]; simp [h4]
      | false =>
        simp only [Bool.false_eq_true, if_false]
        by_cases h4 : maxI a (-a) ≤ k * d
        · rw [if_pos h4]; simp [hd0, this, h4]
        · rw [if_neg h4]; simp [h4]

/-! The reference. -/
theorem refNormal_eq (n : Nat) {m : Mir} (h : m.Ok) : F_ref04_Normal n m.name m.c.1 m.c.2.1 m.c.2.2 m.u.1 m.u.2.1 m.u.2.2 m.v.1 m.v.2.1 m.v.2.2 = some m.nrm := by
  unfold F_ref04_Normal
  rw [refCross_eq n (h.u.cross h.v rfl (by decide) (by decide)) (by decide)]
  rfl
end Go.Proofs.YtojmcpnpojdnmaaGreatDoor
