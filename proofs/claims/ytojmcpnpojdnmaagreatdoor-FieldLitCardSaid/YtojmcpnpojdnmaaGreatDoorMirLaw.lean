/-
  Own texts, merged: Vec, NameLaw, MirLaw.
-/
import Derived.Test.YtojmcpnpojdnmaaGreatDoorFCom
set_option linter.unusedVariables false
set_option linter.unusedSimpArgs false
set_option linter.unnecessarySimpa false
/-
  Plain lemmas of chapter 4: vectors, and whether a ray meets a mirror. An own text.
-/
set_option maxRecDepth 20000
namespace Go.Proofs.YtojmcpnpojdnmaaGreatDoor
open Go.SX

abbrev Vec := Int × Int × Int
def vdot (u v : Vec) : Int := u.1 * v.1 + u.2.1 * v.2.1 + u.2.2 * v.2.2
def vcross (u v : Vec) : Vec := (u.2.1 * v.2.2 - u.2.2 * v.2.1, u.2.2 * v.1 - u.1 * v.2.2, u.1 * v.2.1 - u.2.1 * v.1)
def vplus (u v : Vec) : Vec := (u.1 + v.1, u.2.1 + v.2.1, u.2.2 + v.2.2)
def vtimes (k : Int) (v : Vec) : Vec := (k * v.1, k * v.2.1, k * v.2.2)
def Bd (m : Int) (v : Vec) : Prop := (-m ≤ v.1 ∧ v.1 ≤ m) ∧ (-m ≤ v.2.1 ∧ v.2.1 ≤ m) ∧ (-m ≤ v.2.2 ∧ v.2.2 ≤ m)
theorem Bd.mono {m n : Int} {v : Vec} (h : Bd m v) (hmn : m ≤ n) : Bd n v := by unfold Bd at h ⊢; omega
theorem mul_k {g c p q r : Int} (hg : -p ≤ g ∧ g ≤ p) (hc : -q ≤ c ∧ c ≤ q) (hr : p * q = r) (hp : 0 ≤ p) (hq : 0 ≤ q) : -r ≤ g * c ∧ g * c ≤ r := by
  subst hr; exact mul_pq hp hg hq hc
theorem Bd.times {k K m r : Int} {v : Vec} (hk : -K ≤ k ∧ k ≤ K) (h : Bd m v) (hr : K * m = r) (hK : 0 ≤ K) (hm : 0 ≤ m) : Bd r (vtimes k v) :=
  ⟨mul_k hk h.1 hr hK hm, mul_k hk h.2.1 hr hK hm, mul_k hk h.2.2 hr hK hm⟩
theorem Bd.plus {m n : Int} {u v : Vec} (h : Bd m u) (k : Bd n v) : Bd (m + n) (vplus u v) := by unfold Bd vplus at *; dsimp only; omega
structure DotB (r : Int) (u v : Vec) : Prop where
  x : -r ≤ u.1 * v.1 ∧ u.1 * v.1 ≤ r
  y : -r ≤ u.2.1 * v.2.1 ∧ u.2.1 * v.2.1 ≤ r
  z : -r ≤ u.2.2 * v.2.2 ∧ u.2.2 * v.2.2 ≤ r
theorem Bd.dot {m n r : Int} {u v : Vec} (h : Bd m u) (k : Bd n v) (hr : m * n = r) (hm : 0 ≤ m) (hn : 0 ≤ n) : DotB r u v :=
  ⟨mul_k h.1 k.1 hr hm hn, mul_k h.2.1 k.2.1 hr hm hn, mul_k h.2.2 k.2.2 hr hm hn⟩
theorem DotB.val {r : Int} {u v : Vec} (h : DotB r u v) : -(3 * r) ≤ vdot u v ∧ vdot u v ≤ 3 * r := by
  obtain ⟨h1, h2, h3⟩ := h
  unfold vdot; omega
structure CrossB (r : Int) (u v : Vec) : Prop where
  a : -r ≤ u.2.1 * v.2.2 ∧ u.2.1 * v.2.2 ≤ r
  b : -r ≤ u.2.2 * v.2.1 ∧ u.2.2 * v.2.1 ≤ r
  c : -r ≤ u.2.2 * v.1 ∧ u.2.2 * v.1 ≤ r
  d : -r ≤ u.1 * v.2.2 ∧ u.1 * v.2.2 ≤ r
  e : -r ≤ u.1 * v.2.1 ∧ u.1 * v.2.1 ≤ r
  f : -r ≤ u.2.1 * v.1 ∧ u.2.1 * v.1 ≤ r
theorem Bd.cross {m n r : Int} {u v : Vec} (h : Bd m u) (k : Bd n v) (hr : m * n = r) (hm : 0 ≤ m) (hn : 0 ≤ n) : CrossB r u v :=
  ⟨mul_k h.2.1 k.2.2 hr hm hn, mul_k h.2.2 k.2.1 hr hm hn, mul_k h.2.2 k.1 hr hm hn, mul_k h.1 k.2.2 hr hm hn, mul_k h.1 k.2.1 hr hm hn, mul_k h.2.1 k.1 hr hm hn⟩
theorem CrossB.val {r : Int} {u v : Vec} (h : CrossB r u v) : Bd (2 * r) (vcross u v) := by
  obtain ⟨h1, h2, h3, h4, h5, h6⟩ := h
  unfold Bd vcross; dsimp only; omega
def L : Int := 2000000000000000000

theorem times_eq (n : Nat) {k : Int} {v : Vec} {r : Int} (h : Bd r (vtimes k v)) (hr : r ≤ L) : F_field_times n k v.1 v.2.1 v.2.2 = some (vtimes k v) := by
  obtain ⟨h1, h2, h3⟩ := h
  unfold vtimes at *
  dsimp only at h1 h2 h3
  unfold L at hr
  unfold F_field_times
  rw [if_pos (by unfold inI64; omega), if_pos (by unfold inI64; omega), if_pos (by unfold inI64; omega)]
theorem refTimes_eq (n : Nat) {k : Int} {v : Vec} {r : Int} (h : Bd r (vtimes k v)) (hr : r ≤ L) : F_ref04_times n k v.1 v.2.1 v.2.2 = some (vtimes k v) := by
  obtain ⟨h1, h2, h3⟩ := h
  unfold vtimes at *
  dsimp only at h1 h2 h3
  unfold L at hr
  unfold F_ref04_times
  rw [if_pos (by unfold inI64; omega), if_pos (by unfold inI64; omega), if_pos (by unfold inI64; omega)]
theorem plus_eq (n : Nat) {u v : Vec} {r : Int} (h : Bd r (vplus u v)) (hr : r ≤ L) : F_field_plus n u.1 u.2.1 u.2.2 v.1 v.2.1 v.2.2 = some (vplus u v) := by
  obtain ⟨h1, h2, h3⟩ := h
  unfold vplus at *
  dsimp only at h1 h2 h3
  unfold L at hr
  unfold F_field_plus
  rw [if_pos (by unfold inI64; omega), if_pos (by unfold inI64; omega), if_pos (by unfold inI64; omega)]
theorem refPlus_eq (n : Nat) {u v : Vec} {r : Int} (h : Bd r (vplus u v)) (hr : r ≤ L) : F_ref04_plus n u.1 u.2.1 u.2.2 v.1 v.2.1 v.2.2 = some (vplus u v) := by
  obtain ⟨h1, h2, h3⟩ := h
  unfold vplus at *
  dsimp only at h1 h2 h3
  unfold L at hr
  unfold F_ref04_plus
  rw [if_pos (by unfold inI64; omega), if_pos (by unfold inI64; omega), if_pos (by unfold inI64; omega)]
theorem dot_eq (n : Nat) {u v : Vec} {r : Int} (h : DotB r u v) (hr : r ≤ L) : F_field_dot n u.1 u.2.1 u.2.2 v.1 v.2.1 v.2.2 = some (vdot u v) := by
  obtain ⟨h1, h2, h3⟩ := h
  unfold L at hr
  unfold F_field_dot vdot
  generalize u.1 * v.1 = x at *
  generalize u.2.1 * v.2.1 = y at *
  generalize u.2.2 * v.2.2 = z at *
  rw [if_pos (by unfold inI64; omega), if_pos (by unfold inI64; omega), if_pos (by unfold inI64; omega), if_pos (by unfold inI64; omega), if_pos (by unfold inI64; omega)]
theorem refDot_eq (n : Nat) {u v : Vec} {r : Int} (h : DotB r u v) (hr : r ≤ L) : F_ref04_Dot n u.1 u.2.1 u.2.2 v.1 v.2.1 v.2.2 = some (vdot u v) := by
  obtain ⟨h1, h2, h3⟩ := h
  unfold L at hr
  unfold F_ref04_Dot vdot
  generalize u.1 * v.1 = x at *
  generalize u.2.1 * v.2.1 = y at *
  generalize u.2.2 * v.2.2 = z at *
  rw [if_pos (by unfold inI64; omega), if_pos (by unfold inI64; omega), if_pos (by unfold inI64; omega), if_pos (by unfold inI64; omega), if_pos (by unfold inI64; omega)]
theorem cross_eq (n : Nat) {u v : Vec} {r : Int} (h : CrossB r u v) (hr : r ≤ L) : F_field_cross n u.1 u.2.1 u.2.2 v.1 v.2.1 v.2.2 = some (vcross u v) := by
  obtain ⟨h1, h2, h3, h4, h5, h6⟩ := h
  unfold L at hr
  unfold F_field_cross vcross
  generalize u.2.1 * v.2.2 = a at *
  generalize u.2.2 * v.2.1 = b at *
  generalize u.2.2 * v.1 = c at *
  generalize u.1 * v.2.2 = d at *
  generalize u.1 * v.2.1 = e at *
  generalize u.2.1 * v.1 = f at *
  repeat rw [if_pos (by unfold inI64; omega)]
theorem refCross_eq (n : Nat) {u v : Vec} {r : Int} (h : CrossB r u v) (hr : r ≤ L) : F_ref04_Cross n u.1 u.2.1 u.2.2 v.1 v.2.1 v.2.2 = some (vcross u v) := by
  obtain ⟨h1, h2, h3, h4, h5, h6⟩ := h
  unfold L at hr
  unfold F_ref04_Cross vcross
  generalize u.2.1 * v.2.2 = a at *
  generalize u.2.2 * v.2.1 = b at *
  generalize u.2.2 * v.1 = c at *
  generalize u.1 * v.2.2 = d at *
  generalize u.1 * v.2.1 = e at *
  generalize u.2.1 * v.1 = f at *
  repeat rw [if_pos (by unfold inI64; omega)]

/-! Mirrors. -/
structure Mir where
  name : ByteArray
  c : Vec
  u : Vec
  v : Vec
def wrapN (x : Int) : Int := IntKind.wrap .i64 (0 - x)
theorem wrapN_eq {x : Int} (h : -L ≤ x ∧ x ≤ L) : IntKind.wrap .i64 (0 - x) = -x := by
  unfold L at h
  rw [IntKind.wrap_i64]; omega
def Mir.nrm (m : Mir) : Vec := vcross m.u m.v
structure Mir.Ok (m : Mir) : Prop where
  c : Bd 4096 m.c
  u : Bd 64 m.u
  v : Bd 64 m.v
theorem Mir.Ok.nrm {m : Mir} (h : m.Ok) : Bd 8192 m.nrm := (h.u.cross h.v rfl (by decide) (by decide)).val
def absI (x : Int) : Int := maxI x (-x)
theorem absI_neg (x : Int) : absI (-x) = absI x := by unfold absI maxI; split <;> split <;> omega
def meetV (m : Mir) (k : Int) (f al : Vec) (ends : Bool) : Bool :=
  let d0 := vdot m.nrm al
  let n0 := -(vdot m.nrm (vplus f (vtimes (-k) m.c)))
  let t := vcross al (vplus f (vtimes (-k) m.c))
  let a := absI (vdot t m.v)
  let b := absI (vdot t m.u)
  let d := if d0 < 0 then -d0 else d0
  let n := if d0 < 0 then -n0 else n0
  !(decide (d0 = 0)) && decide (0 < n) && (!ends || decide (n < d)) && decide (a ≤ k * d) && decide (b ≤ k * d)
theorem vdot_comm (u v : Vec) : vdot u v = vdot v u := by
  unfold vdot; rw [Int.mul_comm u.1, Int.mul_comm u.2.1, Int.mul_comm u.2.2]
def vneg (v : Vec) : Vec := (-v.1, -v.2.1, -v.2.2)
theorem vdot_neg (u v : Vec) : vdot u (vneg v) = -(vdot u v) := by
  unfold vdot vneg; simp only [Int.mul_neg]; omega
theorem vdot_negl (u v : Vec) : vdot (vneg u) v = -(vdot u v) := by rw [vdot_comm, vdot_neg, vdot_comm]
theorem vcross_neg (u v : Vec) : vcross u (vneg v) = vneg (vcross u v) := by
  unfold vcross vneg
  simp only [Int.mul_neg, Prod.mk.injEq]
  refine ⟨?_, ?_, ?_⟩ <;> omega
theorem way_eq (k : Int) (f c : Vec) : vplus (vtimes k c) (vtimes (-1) f) = vneg (vplus f (vtimes (-k) c)) := by
  unfold vplus vtimes vneg
  simp only [Int.neg_mul, Int.one_mul, Prod.mk.injEq]
  refine ⟨?_, ?_, ?_⟩ <;> omega
theorem normal_eq (n : Nat) {m : Mir} (h : m.Ok) : F_field_Mirror_normal n m.name m.c.1 m.c.2.1 m.c.2.2 m.u.1 m.u.2.1 m.u.2.2 m.v.1 m.v.2.1 m.v.2.2 = some m.nrm := by
  unfold F_field_Mirror_normal
  rw [cross_eq n (h.u.cross h.v rfl (by decide) (by decide)) (by decide)]
  rfl
/-- What is known of the numbers of a ray and a mirror. -/
structure MB (m : Mir) (k : Int) (f al : Vec) : Prop where
  t : Bd 32768 (vtimes (-k) m.c)
  p : Bd 163840 (vplus f (vtimes (-k) m.c))
  d : DotB 1073741824 m.nrm al
  w : DotB 1342177280 m.nrm (vplus f (vtimes (-k) m.c))
  c : CrossB 21474836480 al (vplus f (vtimes (-k) m.c))
  a : DotB 2748779069440 (vcross al (vplus f (vtimes (-k) m.c))) m.v
  b : DotB 2748779069440 (vcross al (vplus f (vtimes (-k) m.c))) m.u
theorem MB.of {m : Mir} (hm : m.Ok) {k : Int} (hk : 1 ≤ k ∧ k ≤ 8) {f al : Vec} (hf : Bd 131072 f) (ha : Bd 131072 al) : MB m k f al := by
  have b1 : Bd 32768 (vtimes (-k) m.c) := Bd.times (K := 8) (by omega) hm.c (by decide) (by decide) (by decide)
  have b2 : Bd 163840 (vplus f (vtimes (-k) m.c)) := (hf.plus b1).mono (by decide)
  have c1 : CrossB 21474836480 al (vplus f (vtimes (-k) m.c)) := ha.cross b2 (by decide) (by decide) (by decide)
  exact ⟨b1, b2, hm.nrm.dot ha (by decide) (by decide) (by decide), hm.nrm.dot b2 (by decide) (by decide) (by decide), c1, c1.val.dot hm.v (by decide) (by decide) (by decide), c1.val.dot hm.u (by decide) (by decide) (by decide)⟩
theorem meets_eq {n : Nat} {m : Mir} (hm : m.Ok) {k : Int} (hk : 1 ≤ k ∧ k ≤ 8) {f al : Vec} (hf : Bd 131072 f) (ha : Bd 131072 al) (e : Bool) :
    F_field_Mirror_meets n m.name m.c.1 m.c.2.1 m.c.2.2 m.u.1 m.u.2.1 m.u.2.2 m.v.1 m.v.2.1 m.v.2.2 k f.1 f.2.1 f.2.2 al.1 al.2.1 al.2.2 e = some (meetV m k f al e) := by
  obtain ⟨b1, b2, d1, d2, c1, d3, d4⟩ := MB.of hm hk hf ha
  unfold F_field_Mirror_meets
  rw [wrapN_eq (x := k) (by unfold L; omega), times_eq n b1 (by decide), Option.bind_some, plus_eq n b2 (by decide), Option.bind_some, normal_eq n hm, Option.bind_some, dot_eq n d1 (by decide), Option.bind_some, dot_eq n d2 (by decide), Option.bind_some]
  simp only [cross_eq n c1 (by decide), dot_eq n d3 (by decide), dot_eq n d4 (by decide), Option.bind_some]
  have v1 := d1.val
  have v2 := d2.val
  have v3 := d3.val
  have v4 := d4.val
  unfold meetV absI
  dsimp only
  generalize vdot m.nrm al = d at *
  generalize vdot m.nrm (vplus f (vtimes (-k) m.c)) = w at *
  generalize vdot (vcross al (vplus f (vtimes (-k) m.c))) m.v = a at *
  generalize vdot (vcross al (vplus f (vtimes (-k) m.c))) m.u = b at *
  have w1 := wrapN_eq (x := d) (by unfold L; omega)
  have w2 := wrapN_eq (x := w) (by unfold L; omega)
  have w3 := wrapN_eq (x := -w) (by unfold L; omega)
  have w4 := wrapN_eq (x := a) (by unfold L; omega)
  have w5 := wrapN_eq (x := b) (by unfold L; omega)
  simp only [w1, w2, w3, w4, w5]
  have k1 := mul_k (g := k) (c := d) (p := 8) (q := 3221225472) (by omega) (by omega) rfl (by decide) (by decide)
  have k2 : k * -d = -(k * d) := Int.mul_neg k d
  rw [k2]
  have i1 : inI64 (k * d) := by unfold inI64; omega
  have i2 : inI64 (-(k * d)) := by unfold inI64; omega
  simp only [if_pos i1, if_pos i2]
  by_cases hd : d < 0
  · simp only [if_pos hd, k2, Int.neg_neg]
    rw [if_neg (show ¬ -d = 0 by omega)]
    have hd0 : ¬ d = 0 := by omega
    by_cases h1 : w ≤ 0
    · rw [if_pos h1]
      have : ¬ 0 < w := by omega
      simp [this]
    · rw [if_neg h1]
      have : 0 < w := by omega
      cases e with
      | true =>
        simp only [if_true]
        by_cases h2 : w ≥ -d
        · rw [if_pos h2]
          have : ¬ w < -d := by omega
          simp [this]
        · rw [if_neg h2]
          have h3 : w < -d := by omega
          by_cases h4 : maxI a (-a) ≤ -(k * d)
          · rw [if_pos h4]; simp [hd0, this, h3, h4]
          · rw [if_neg h4]; simp [h4]
      | false =>
        simp only [Bool.false_eq_true, if_false]
        by_cases h4 : maxI a (-a) ≤ -(k * d)
        · rw [if_pos h4]; simp [hd0, this, h4]
        · rw [if_neg h4]; simp [h4]
  · simp only [if_neg hd]
    by_cases hd0 : d = 0
    · rw [if_pos hd0]; simp [hd0]
    rw [if_neg hd0]
    by_cases h1 : -w ≤ 0
    · rw [if_pos h1]
      have : ¬ w < 0 := by omega
      simp [this]
    · rw [if_neg h1]
      have : w < 0 := by omega
      cases e with
      | true =>
        simp only [if_true]
        by_cases h2 : -w ≥ d
        · rw [if_pos h2]
          have : ¬ -w < d := by omega
          simp [this]
        · rw [if_neg h2]
          have h3 : -w < d := by omega
          by_cases h4 : maxI a (-a) ≤ k * d
          · rw [if_pos h4]; simp [hd0, this, h3, h4]
          · rw [if_neg h4]; simp [h4]
      | false =>
        simp only [Bool.false_eq_true, if_false]
        by_cases h4 : maxI a (-a) ≤ k * d
        · rw [if_pos h4]; simp [hd0, this, h4]
        · rw [if_neg h4]; simp [h4]

/-! The reference. -/
theorem refNormal_eq (n : Nat) {m : Mir} (h : m.Ok) : F_ref04_Normal n m.name m.c.1 m.c.2.1 m.c.2.2 m.u.1 m.u.2.1 m.u.2.2 m.v.1 m.v.2.1 m.v.2.2 = some m.nrm := by
  unfold F_ref04_Normal
  rw [refCross_eq n (h.u.cross h.v rfl (by decide) (by decide)) (by decide)]
  rfl
end Go.Proofs.YtojmcpnpojdnmaaGreatDoor
/-
  Names: the program ranges over runes, the reference over bytes; both say the same. An own text.
-/
set_option maxRecDepth 20000
namespace Go.Proofs.YtojmcpnpojdnmaaGreatDoor
open Go.SX

def byteAt (s : ByteArray) (i : Nat) : Nat := (s.get! i).toNat
def OkAt (p c : Nat) : Prop := (97 ≤ c ∧ c ≤ 122) ∨ (65 ≤ c ∧ c ≤ 90) ∨ (p ≠ 0 ∧ (c = 95 ∨ (48 ≤ c ∧ c ≤ 57)))
instance (p c : Nat) : Decidable (OkAt p c) := by unfold OkAt; infer_instance
def okFrom (s : ByteArray) : Nat → Nat → Bool
  | 0, _ => true
  | m + 1, p => decide (OkAt p (byteAt s p)) && okFrom s m (p + 1)
theorem decode_low {s : ByteArray} {p : Nat} (h : byteAt s p < 128) : Utf8.decode s p = (byteAt s p, 1) := by
  unfold byteAt at h ⊢
  unfold Utf8.decode
  simp only [Nat.add_zero]
  rw [if_pos h]
theorem decode_high {s : ByteArray} {p : Nat} (h : ¬ byteAt s p < 128) : 128 ≤ (Utf8.decode s p).1 := by
  unfold byteAt at h
  unfold Utf8.decode
  simp only [Nat.add_zero]
  rw [if_neg h]
  have hr : 128 ≤ Utf8.runeError := by decide
  repeat' split
  all_goals first | exact hr | (simp only [Bool.and_eq_true, decide_eq_true_eq, ge_iff_le] at *; omega)
theorem stepP (n : Nat) {s : ByteArray} {p : Nat} (h : p < s.size) : F_light_IsName_L1 n s p = if OkAt p (byteAt s p) then some (.inl (p + 1)) else some (.inr (.inl ())) := by
  unfold F_light_IsName_L1
  rw [if_pos h]
  by_cases hb : byteAt s p < 128
  · rw [decode_low hb]
    dsimp only
    generalize byteAt s p = c at hb ⊢
    by_cases hk : OkAt p c
    · rw [if_pos hk]
      unfold OkAt at hk
      repeat' split
      all_goals first | rfl | (exfalso; omega)
    · rw [if_neg hk]
      unfold OkAt at hk
      repeat' split
      all_goals first | rfl | (exfalso; omega)
  · have hd := decode_high hb
    have hno : ¬ OkAt p (byteAt s p) := by unfold OkAt; omega
    rw [if_neg hno]
    generalize (Utf8.decode s p).1 = c at hd ⊢
    repeat' split
    all_goals first | rfl | (exfalso; omega)
theorem loopP (n : Nat) {s : ByteArray} : ∀ (m k p : Nat), p + m = s.size → m < k → loopF (F_light_IsName_L1 n s) k p = some (if okFrom s m p = true then .inr () else .inl ())
  | m, 0, p, _, h => by omega
  | 0, k + 1, p, hp, _ => by
    rw [loopF_r (e := .inr ()) (by unfold F_light_IsName_L1; rw [if_neg (by omega)])]; rfl
  | m + 1, k + 1, p, hp, hk => by
    have hs := stepP n (s := s) (p := p) (by omega)
    by_cases h : OkAt p (byteAt s p)
    · rw [if_pos h] at hs
      rw [loopF_l hs, loopP n m k (p + 1) (by omega) (by omega)]
      simp [okFrom, h]
    · rw [if_neg h] at hs
      rw [loopF_r hs]
      simp [okFrom, h]
def nameB (s : ByteArray) : Bool := decide (s.size ≠ 0) && decide (s.size ≤ 24) && okFrom s s.size 0
theorem loop_len (s : ByteArray) : ∀ (m i : Nat) (r : List UInt8), i + m = s.size → (ByteArray.toList.loop s i r).length = r.length + m
  | 0, i, r, h => by rw [ByteArray.toList.loop, if_neg (by omega), List.length_reverse]; rfl
  | m + 1, i, r, h => by rw [ByteArray.toList.loop, if_pos (by omega), loop_len s m (i + 1) _ (by omega), List.length_cons]; omega
theorem toList_len (s : ByteArray) : s.toList.length = s.size := by
  unfold ByteArray.toList
  rw [loop_len s s.size 0 [] (by omega)]; simp
theorem nil_iff (s : ByteArray) : (s.toList == (⟨#[]⟩ : ByteArray).toList) = decide (s.size = 0) := by
  rw [Bool.eq_iff_iff, beq_iff_eq, decide_eq_true_eq]
  constructor
  · intro h
    have h1 : s.toList.length = 0 := by rw [h, toList_len]; rfl
    rw [toList_len] at h1
    exact h1
  · intro h
    have h1 : s.toList.length = 0 := by rw [toList_len]; exact h
    have h2 : (⟨#[]⟩ : ByteArray).toList.length = 0 := by rw [toList_len]; rfl
    rw [List.eq_nil_of_length_eq_zero h1, List.eq_nil_of_length_eq_zero h2]
theorem isName_eq {n : Nat} {s : ByteArray} (h : s.size < n) : F_light_IsName n s = some (nameB s) := by
  unfold F_light_IsName
  rw [show loopF (F_light_IsName_L1 n s) n 0 = _ from loopP n s.size n 0 (by omega) h, Option.bind_some]
  unfold nameB
  by_cases h1 : okFrom s s.size 0 = true
  · rw [if_pos h1, h1]
    dsimp only
    rw [nil_iff]
    by_cases h2 : s.size = 0
    · simp [h2]
    · simp [h2]; omega
  · rw [if_neg h1]
    simp only [Bool.not_eq_true] at h1
    rw [h1]; simp

/-! The reference. -/
theorem strAt_eq {s : ByteArray} {p : Nat} (h : p < s.size) : strAt s (p : Int) = some ((byteAt s p : Nat) : Int) := by
  have e : s[p]? = some (s.get! p) := by
    have h1 : s[p]? = some s[p] := by simp [h]
    rw [h1]
    congr 1
    cases s with
    | mk d =>
      have hd : p < d.size := h
      show d[p] = d[p]!
      simp [hd]
  unfold strAt byteAt
  rw [if_pos (Int.natCast_nonneg p), Int.toNat_natCast, e]
theorem stepR (n : Nat) {s : ByteArray} {p : Nat} (h : p < s.size) (hp : p < 1000) : F_ref01_IsName_L1 n s (p : Int) = if OkAt p (byteAt s p) then some (.inl (((p + 1 : Nat) : Int))) else some (.inr (.inl ())) := by
  unfold F_ref01_IsName_L1
  have hi : inI64 ((p : Int) + 1) := by unfold inI64; omega
  rw [if_pos (by omega), strAt_eq h, Option.bind_some]
  simp only [if_pos hi]
  generalize byteAt s p = c
  have e : ((p : Int) + 1) = ((p + 1 : Nat) : Int) := rfl
  rw [← e]
  by_cases hk : OkAt p c
  · rw [if_pos hk]
    unfold OkAt at hk
    repeat' split
    all_goals first | rfl | (exfalso; omega)
  · rw [if_neg hk]
    unfold OkAt at hk
    repeat' split
    all_goals first | rfl | (exfalso; omega)
theorem loopR (n : Nat) {s : ByteArray} : ∀ (m k p : Nat), p + m = s.size → s.size < 1000 → m < k → loopF (F_ref01_IsName_L1 n s) k (p : Int) = some (if okFrom s m p = true then .inr () else .inl ())
  | m, 0, p, _, _, h => by omega
  | 0, k + 1, p, hp, _, _ => by
    rw [loopF_r (e := .inr ()) (by unfold F_ref01_IsName_L1; rw [if_neg (by omega)])]; rfl
  | m + 1, k + 1, p, hp, hz, hk => by
    have hs := stepR n (s := s) (p := p) (by omega) (by omega)
    by_cases h : OkAt p (byteAt s p)
    · rw [if_pos h] at hs
      rw [loopF_l hs, loopR n m k (p + 1) (by omega) hz (by omega)]
      simp [okFrom, h]
    · rw [if_neg h] at hs
      rw [loopF_r hs]
      simp [okFrom, h]
theorem refName_eq {n : Nat} (hn : 100 ≤ n) (s : ByteArray) : F_ref01_IsName n s = some (nameB s) := by
  unfold F_ref01_IsName nameB
  rw [nil_iff]
  by_cases h1 : s.size = 0
  · simp [h1]
  rw [if_neg (by simpa using h1)]
  by_cases h2 : (s.size : Int) > 24
  · rw [if_pos h2]
    have : ¬ s.size ≤ 24 := by omega
    simp [this]
  · rw [if_neg h2]
    have h3 : s.size ≤ 24 := by omega
    rw [show loopF (F_ref01_IsName_L1 n s) n 0 = _ from loopR n s.size n 0 (by omega) (by omega) (by omega), Option.bind_some]
    by_cases h4 : okFrom s s.size 0 = true
    · rw [if_pos h4, h4]; simp [h1, h3]
    · rw [if_neg h4]
      simp only [Bool.not_eq_true] at h4
      rw [h4]; simp
end Go.Proofs.YtojmcpnpojdnmaaGreatDoor
/-
  Plain lemmas of chapter 4: what the checks of mirrors answer. An own text.
-/
set_option maxRecDepth 20000
namespace Go.Proofs.YtojmcpnpojdnmaaGreatDoor
open Go.SX

theorem first3 {n : Nat} (hn : 10 ≤ n) (a b c : Int) : F_field_first n [I a, I b, I c] = some (firstNZ [a, b, c]) := first_eq [a, b, c] (by simp) (by simp; omega)
theorem first4 {n : Nat} (hn : 10 ≤ n) (a b c d : Int) : F_field_first n [I a, I b, I c, I d] = some (firstNZ [a, b, c, d]) := first_eq [a, b, c, d] (by simp) (by simp; omega)
theorem refFirst3 {n : Nat} (hn : 10 ≤ n) (a b c : Int) : F_ref01_First n [I a, I b, I c] = some (firstNZ [a, b, c]) := refFirst_eq [a, b, c] (by simp) (by simp; omega)
theorem refFirst4 {n : Nat} (hn : 10 ≤ n) (a b c d : Int) : F_ref01_First n [I a, I b, I c, I d] = some (firstNZ [a, b, c, d]) := refFirst_eq [a, b, c, d] (by simp) (by simp; omega)

def pE (v : Vec) (m : Int) : Int := firstNZ [inR v.1 (-m) m, inR v.2.1 (-m) m, inR v.2.2 (-m) m]
theorem parts_eq {n : Nat} (hn : 10 ≤ n) (v : Vec) {m : Int} (h : 0 ≤ m ∧ m ≤ L) : F_field_checkParts n v.1 v.2.1 v.2.2 m = some (pE v m) := by
  have hw := wrapN_eq (x := m) (by unfold L at *; omega)
  unfold F_field_checkParts
  rw [hw, within_eq, Option.bind_some, within_eq, Option.bind_some, within_eq, Option.bind_some, first3 hn]; rfl
theorem refParts_eq {n : Nat} (hn : 10 ≤ n) (v : Vec) {m : Int} (h : 0 ≤ m ∧ m ≤ L) : F_ref04_checkParts n v.1 v.2.1 v.2.2 m = some (pE v m) := by
  unfold F_ref04_checkParts
  unfold L at h
  rw [if_pos (by unfold inI64; omega), Int.zero_sub, range_eq, Option.bind_some, range_eq, Option.bind_some, range_eq, Option.bind_some, refFirst3 hn]; rfl
theorem pE_zero {v : Vec} {m : Int} (h : pE v m = 0) : Bd m v :=
  ⟨inR_zero (firstNZ_zero h _ (by simp)), inR_zero (firstNZ_zero h _ (by simp)), inR_zero (firstNZ_zero h _ (by simp))⟩
def zeroB (v : Vec) : Bool := (v.1 == 0) && ((v.2.1 == 0) && ((v.2.2 == 0) && true))
def mirE (m : Mir) : Int :=
  if firstNZ [whenI (!nameB m.name) 8, pE m.c 4096, pE m.u 64, pE m.v 64] = 0 then whenI (zeroB m.nrm) 17
  else firstNZ [whenI (!nameB m.name) 8, pE m.c 4096, pE m.u 64, pE m.v 64]
theorem ok_of {m : Mir} (h : firstNZ [whenI (!nameB m.name) 8, pE m.c 4096, pE m.u 64, pE m.v 64] = 0) : m.Ok :=
  ⟨pE_zero (firstNZ_zero h (pE m.c 4096) (by simp)), pE_zero (firstNZ_zero h (pE m.u 64) (by simp)), pE_zero (firstNZ_zero h (pE m.v 64) (by simp))⟩
theorem mirE_zero {m : Mir} (h : mirE m = 0) : m.Ok := by
  unfold mirE at h
  by_cases h1 : firstNZ [whenI (!nameB m.name) 8, pE m.c 4096, pE m.u 64, pE m.v 64] = 0
  · exact ok_of h1
  · rw [if_neg h1] at h; exact absurd h h1
theorem check_eq {n : Nat} (hn : 100 ≤ n) {m : Mir} (hz : m.name.size < n) : F_field_Mirror_check n m.name m.c.1 m.c.2.1 m.c.2.2 m.u.1 m.u.2.1 m.u.2.2 m.v.1 m.v.2.1 m.v.2.2 = some (mirE m) := by
  unfold F_field_Mirror_check mirE
  rw [isName_eq hz, Option.bind_some, when_eq, Option.bind_some, parts_eq (by omega) m.c (by decide), Option.bind_some, parts_eq (by omega) m.u (by decide), Option.bind_some, parts_eq (by omega) m.v (by decide), Option.bind_some, first4 (by omega), Option.bind_some]
  by_cases h : firstNZ [whenI (!nameB m.name) 8, pE m.c 4096, pE m.u 64, pE m.v 64] = 0
  · rw [if_pos h, if_pos h, normal_eq n (ok_of h), Option.bind_some, when_eq]; rfl
  · rw [if_neg h, if_neg h]
theorem refCheck_eq {n : Nat} (hn : 100 ≤ n) (m : Mir) : F_ref04_CheckMirror n m.name m.c.1 m.c.2.1 m.c.2.2 m.u.1 m.u.2.1 m.u.2.2 m.v.1 m.v.2.1 m.v.2.2 = some (mirE m) := by
  unfold F_ref04_CheckMirror F_ref01_CheckName mirE
  rw [refName_eq hn, Option.bind_some, refWhen_eq, Option.bind_some, Option.bind_some, refParts_eq (by omega) m.c (by decide), Option.bind_some, refParts_eq (by omega) m.u (by decide), Option.bind_some, refParts_eq (by omega) m.v (by decide), Option.bind_some, refFirst4 (by omega), Option.bind_some]
  by_cases h : firstNZ [whenI (!nameB m.name) 8, pE m.c 4096, pE m.u 64, pE m.v 64] = 0
  · rw [if_pos h, if_pos h, refCross_eq n ((ok_of h).u.cross (ok_of h).v rfl (by decide) (by decide)) (by decide), Option.bind_some, refWhen_eq]; rfl
  · rw [if_neg h, if_neg h]
def dirE (v : Vec) (m : Int) : Int := firstNZ [pE v m, whenI (zeroB v) 6]
theorem dir_eq {n : Nat} (hn : 10 ≤ n) (v : Vec) {m : Int} (h : 0 ≤ m ∧ m ≤ L) : F_field_checkDirection n v.1 v.2.1 v.2.2 m = some (dirE v m) := by
  unfold F_field_checkDirection
  rw [parts_eq hn v h, Option.bind_some, when_eq, Option.bind_some, first2 hn]; rfl
theorem dirE_zero {v : Vec} {m : Int} (h : dirE v m = 0) : Bd m v := pE_zero (firstNZ_zero h (pE v m) (by simp))
end Go.Proofs.YtojmcpnpojdnmaaGreatDoor
