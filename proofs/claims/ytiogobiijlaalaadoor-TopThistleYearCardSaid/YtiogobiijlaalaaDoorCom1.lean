/-
  Plain lemmas about fields of mirrors. An own text.
-/
import Derived.Test.YtiogobiijlaalaaDoorYear4
import Derived.Test.YtiogobiijlaalaaDoorSxTwentyFive
import Derived.Test.YtiogobiijlaalaaDoorSxTwentySix
set_option linter.unusedVariables false
set_option maxRecDepth 20000
namespace Go.Proofs.YtiogobiijlaalaaDoor
open Go.SX

def firstNZ : List Int → Int
  | [] => 0
  | x :: l => if x = 0 then firstNZ l else x
theorem lenlt {α β : Type} {f : α → β} {l : List α} {i : Nat} {x : α} (h : l[i]? = some x) : (i : Int) < ((l.map f).length : Int) := by
  have := (List.getElem?_eq_some_iff.1 h).1
  simp; omega
theorem el_map {ms : List Int} {i : Nat} {x : Int} (h : ms[i]? = some x) : el un_i (ms.map I) (i : Int) = some x := el_enc (un := un_i) (enc := I) (fun _ => rfl) h
def fG (_ : Unit) (x : Int) : Unit ⊕ (Int ⊕ Unit) := if x = 0 then .inl () else .inr (.inl x)
theorem runL_first : ∀ (l : List Int), runL fG (fun _ => .inr ()) l () = if firstNZ l = 0 then .inr () else .inl (firstNZ l)
  | [] => rfl
  | x :: l => by
    unfold runL fG
    by_cases h : x = 0
    · rw [if_pos h]; simp only [firstNZ, if_pos h]; exact runL_first l
    · rw [if_neg h]; simp only [firstNZ, if_neg h]
theorem first_eq {n : Nat} (ms : List Int) (hm : ms.length < 9223372036854775807) (hn : ms.length < n) : F_field_first n (ms.map I) = some (firstNZ ms) := by
  unfold F_field_first
  have := loopF_list0 (step := F_field_first_L1 n (ms.map I)) fG (fun _ => .inr ()) (fun i _ => (i : Int)) ms (fun _ _ => True)
    (fun i s x hx _ => by
      unfold fG F_field_first_L1
      have hi := (List.getElem?_eq_some_iff.1 hx).1
      by_cases h : x = 0
      · rw [if_pos h]
        refine ⟨?_, trivial⟩
        rw [if_pos (lenlt hx), el_map hx, Option.bind_some, if_pos h, if_pos (by unfold inI64; omega)]; rfl
      · rw [if_neg h]
        dsimp only
        rw [if_pos (lenlt hx), el_map hx, Option.bind_some, if_neg h])
    (fun s _ => by unfold F_field_first_L1; rw [if_neg (by simp)]) (s := ()) trivial hn
  rw [show (0 : Int) = ((0 : Nat) : Int) from rfl, this, runL_first]
  by_cases h : firstNZ ms = 0
  · rw [if_pos h, h]; rfl
  · rw [if_neg h]; rfl
theorem refFirst_eq {n : Nat} (ms : List Int) (hm : ms.length < 9223372036854775807) (hn : ms.length < n) : F_ref01_First n (ms.map I) = some (firstNZ ms) := by
  unfold F_ref01_First
  have := loopF_list0 (step := F_ref01_First_L1 n (ms.map I)) fG (fun _ => .inr ()) (fun i _ => (i : Int)) ms (fun _ _ => True)
    (fun i s x hx _ => by
      unfold fG F_ref01_First_L1
      have hi := (List.getElem?_eq_some_iff.1 hx).1
      by_cases h : x = 0
      · rw [if_pos h]
        refine ⟨?_, trivial⟩
        rw [if_pos (lenlt hx), el_map hx, Option.bind_some, if_pos h, if_pos (by unfold inI64; omega)]; rfl
      · rw [if_neg h]
        dsimp only
        rw [if_pos (lenlt hx), el_map hx, Option.bind_some, if_neg h])
    (fun s _ => by unfold F_ref01_First_L1; rw [if_neg (by simp)]) (s := ()) trivial hn
  rw [show (0 : Int) = ((0 : Nat) : Int) from rfl, this, runL_first]
  by_cases h : firstNZ ms = 0
  · rw [if_pos h, h]; rfl
  · rw [if_neg h]; rfl
theorem first2 {n : Nat} (hn : 10 ≤ n) (a b : Int) : F_field_first n [I a, I b] = some (firstNZ [a, b]) := first_eq [a, b] (by simp) (by simp; omega)
theorem refFirst2 {n : Nat} (hn : 10 ≤ n) (a b : Int) : F_ref01_First n [I a, I b] = some (firstNZ [a, b]) := refFirst_eq [a, b] (by simp) (by simp; omega)
def inR (x lo hi : Int) : Int := if x < lo then 3 else if x > hi then 3 else 0
theorem within_eq (n : Nat) (x lo hi : Int) : F_field_within n x lo hi = some (inR x lo hi) := by
  unfold F_field_within F_field_when F_field_when_2 inR
  by_cases h : x < lo
  · simp [h]
  · by_cases h2 : x > hi
    · simp [h, h2]
    · simp [h, h2]
theorem range_eq (n : Nat) (x lo hi : Int) : F_ref01_CheckRange n x lo hi = some (inR x lo hi) := by
  unfold F_ref01_CheckRange F_ref01_When F_ref01_When_2 inR
  by_cases h : x < lo
  · simp [h]
  · by_cases h2 : x > hi
    · simp [h, h2]
    · simp [h, h2]
theorem inR_zero {x lo hi : Int} (h : inR x lo hi = 0) : lo ≤ x ∧ x ≤ hi := by
  unfold inR at h
  repeat' split at h
  all_goals omega
def whenI (b : Bool) (e : Int) : Int := if b then e else 0
theorem when_eq (n : Nat) (b : Bool) (e : Int) : F_field_when n b e = some (whenI b e) := by
  unfold F_field_when whenI; cases b <;> rfl
theorem refWhen_eq (n : Nat) (b : Bool) (e : Int) : F_ref01_When n b e = some (whenI b e) := by
  unfold F_ref01_When whenI; cases b <;> rfl
theorem firstNZ_zero : ∀ {l : List Int}, firstNZ l = 0 → ∀ x, x ∈ l → x = 0
  | [], _, x, hx => by cases hx
  | y :: l, h, x, hx => by
    unfold firstNZ at h
    split at h
    · rename_i hy
      cases hx with
      | head => exact hy
      | tail _ hx => exact firstNZ_zero h x hx
    · rename_i hy; exact absurd h hy
theorem mul_pq {g c p q : Int} (hp : 0 ≤ p) (hg : -p ≤ g ∧ g ≤ p) (hq : 0 ≤ q) (hc : -q ≤ c ∧ c ≤ q) : -(p * q) ≤ g * c ∧ g * c ≤ p * q := by
  have h := Int.natAbs_mul g c
  have h1 : g.natAbs * c.natAbs ≤ p.natAbs * q.natAbs := Nat.mul_le_mul (by omega) (by omega)
  have h2 := Int.natAbs_mul p q
  have h3 : 0 ≤ p * q := Int.mul_nonneg hp hq
  omega
theorem gcd_step {a b : Nat} (h : b ≠ 0) (hb : b ≤ a) : 2 * (a % b) < a := by
  have h1 := Nat.mod_lt a (Nat.pos_of_ne_zero h)
  have h2 := Nat.div_add_mod a b
  have h3 : 1 ≤ a / b := Nat.div_pos hb (Nat.pos_of_ne_zero h)
  have h4 : b * 1 ≤ b * (a / b) := Nat.mul_le_mul_left _ h3
  omega
theorem euclid0 {f : Int × Int → Option ((Int × Int) ⊕ Int)} (hf : ∀ a b : Int, f (a, b) = if b = 0 then some (.inr a) else some (.inl (b, Int.tmod a b))) :
    ∀ (N a b : Nat), b ≤ a → a * b < 2 ^ N → ∀ k, N + 2 ≤ k → loopF f k ((a : Int), (b : Int)) = some ((Nat.gcd a b : Nat) : Int)
  | N, a, 0, _, _, k, hk => by
    obtain ⟨k, rfl⟩ : ∃ j, k = j + 1 := ⟨k - 1, by omega⟩
    rw [loopF_r (e := (a : Int)) (by rw [hf]; simp), Nat.gcd_zero_right]
  | 0, a, b + 1, hb, hp, k, hk => by
    exfalso
    have : 1 * 1 ≤ a * (b + 1) := Nat.mul_le_mul (by omega) (by omega)
    simp at hp
    omega
  | N + 1, a, b + 1, hb, hp, k, hk => by
    obtain ⟨k, rfl⟩ : ∃ j, k = j + 1 := ⟨k - 1, by omega⟩
    have hne : b + 1 ≠ 0 := by omega
    rw [loopF_l (s' := (((b + 1 : Nat) : Int), ((a % (b + 1) : Nat) : Int))) (by rw [hf, if_neg (by omega), Int.ofNat_tmod])]
    have h1 := Nat.mod_lt a (Nat.pos_of_ne_zero hne)
    have h2 := gcd_step hne hb
    have h3 : 2 * ((b + 1) * (a % (b + 1))) ≤ a * (b + 1) := by
      calc 2 * ((b + 1) * (a % (b + 1))) = (b + 1) * (2 * (a % (b + 1))) := by rw [Nat.mul_left_comm]
        _ ≤ (b + 1) * a := Nat.mul_le_mul_left _ (by omega)
        _ = a * (b + 1) := Nat.mul_comm _ _
    rw [euclid0 hf N (b + 1) (a % (b + 1)) (by omega) (by rw [Nat.pow_succ] at hp; omega) k (by omega)]
    rw [Nat.gcd_comm a (b + 1), Nat.gcd_rec (b + 1) a, Nat.gcd_comm]
theorem euclid {f : Int × Int → Option ((Int × Int) ⊕ Int)} (hf : ∀ a b : Int, f (a, b) = if b = 0 then some (.inr a) else some (.inl (b, Int.tmod a b)))
    {N a b : Nat} (hp : a * b < 2 ^ N) {k : Nat} (hk : N + 3 ≤ k) : loopF f k ((a : Int), (b : Int)) = some ((Nat.gcd a b : Nat) : Int) := by
  by_cases hb : b ≤ a
  · exact euclid0 hf N a b hb hp k (by omega)
  · obtain ⟨k, rfl⟩ : ∃ j, k = j + 1 := ⟨k - 1, by omega⟩
    rw [loopF_l (s' := ((b : Int), (a : Int))) (by rw [hf, if_neg (by omega), Int.tmod_eq_of_lt (by omega) (by omega)])]
    rw [euclid0 hf N b a (by omega) (by rw [Nat.mul_comm]; exact hp) k (by omega), Nat.gcd_comm]
def low (a b : Nat) : Nat × Nat := (a / Nat.gcd a b, b / Nat.gcd a b)
theorem low_le (a b : Nat) : (low a b).1 ≤ a ∧ (low a b).2 ≤ b := ⟨Nat.div_le_self _ _, Nat.div_le_self _ _⟩
def byteAt (s : ByteArray) (i : Nat) : Nat := (s.get! i).toNat
def OkAt (p c : Nat) : Prop := (97 ≤ c ∧ c ≤ 122) ∨ (65 ≤ c ∧ c ≤ 90) ∨ (p ≠ 0 ∧ (c = 95 ∨ (48 ≤ c ∧ c ≤ 57)))
instance (p c : Nat) : Decidable (OkAt p c) := by unfold OkAt; infer_instance
def okFrom (s : ByteArray) : Nat → Nat → Bool
  | 0, _ => true
  | m + 1, p => decide (OkAt p (byteAt s p)) && okFrom s m (p + 1)
theorem decode_low {s : ByteArray} {p : Nat} (h : byteAt s p < 128) : Utf8.decode s p = (byteAt s p, 1) := by
  unfold byteAt at h ⊢
  unfold Utf8.decode
  simp only [Nat.add_zero]
  rw [if_pos h]
theorem decode_high {s : ByteArray} {p : Nat} (h : ¬ byteAt s p < 128) : 128 ≤ (Utf8.decode s p).1 := by
  unfold byteAt at h
  unfold Utf8.decode
  simp only [Nat.add_zero]
  rw [if_neg h]
  have hr : 128 ≤ Utf8.runeError := by decide
  repeat' split
  all_goals first | exact hr | (simp only [Bool.and_eq_true, decide_eq_true_eq, ge_iff_le] at *; omega)
theorem stepP (n : Nat) {s : ByteArray} {p : Nat} (h : p < s.size) : F_light_IsName_L1 n s p = if OkAt p (byteAt s p) then some (.inl (p + 1)) else some (.inr (.inl ())) := by
  unfold F_light_IsName_L1
  rw [if_pos h]
  by_cases hb : byteAt s p < 128
  · rw [decode_low hb]
    dsimp only
    generalize byteAt s p = c at hb ⊢
    by_cases hk : OkAt p c
    · rw [if_pos hk]
      unfold OkAt at hk
      repeat' split
      all_goals first | rfl | (exfalso; omega)
    · rw [if_neg hk]
      unfold OkAt at hk
      repeat' split
      all_goals first | rfl | (exfalso; omega)
  · have hd := decode_high hb
    have hno : ¬ OkAt p (byteAt s p) := by unfold OkAt; omega
    rw [if_neg hno]
    generalize (Utf8.decode s p).1 = c at hd ⊢
    repeat' split
    all_goals first | rfl | (exfalso; omega)
theorem loopP (n : Nat) {s : ByteArray} : ∀ (m k p : Nat), p + m = s.size → m < k → loopF (F_light_IsName_L1 n s) k p = some (if okFrom s m p = true then .inr () else .inl ())
  | m, 0, p, _, h => by omega
  | 0, k + 1, p, hp, _ => by
    rw [loopF_r (e := .inr ()) (by unfold F_light_IsName_L1; rw [if_neg (by omega)])]; rfl
  | m + 1, k + 1, p, hp, hk => by
    have hs := stepP n (s := s) (p := p) (by omega)
    by_cases h : OkAt p (byteAt s p)
    · rw [if_pos h] at hs
      rw [loopF_l hs, loopP n m k (p + 1) (by omega) (by omega)]
      simp [okFrom, h]
    · rw [if_neg h] at hs
      rw [loopF_r hs]
      simp [okFrom, h]
def nameB (s : ByteArray) : Bool := decide (s.size ≠ 0) && decide (s.size ≤ 24) && okFrom s s.size 0
theorem loop_len (s : ByteArray) : ∀ (m i : Nat) (r : List UInt8), i + m = s.size → (ByteArray.toList.loop s i r).length = r.length + m
  | 0, i, r, h => by rw [ByteArray.toList.loop, if_neg (by omega), List.length_reverse]; rfl
  | m + 1, i, r, h => by rw [ByteArray.toList.loop, if_pos (by omega), loop_len s m (i + 1) _ (by omega), List.length_cons]; omega
theorem toList_len (s : ByteArray) : s.toList.length = s.size := by
  unfold ByteArray.toList
  rw [loop_len s s.size 0 [] (by omega)]; simp
theorem nil_iff (s : ByteArray) : (s.toList == (⟨#[]⟩ : ByteArray).toList) = decide (s.size = 0) := by
  rw [Bool.eq_iff_iff, beq_iff_eq, decide_eq_true_eq]
  constructor
  · intro h
    have h1 : s.toList.length = 0 := by rw [h, toList_len]; rfl
    rw [toList_len] at h1
    exact h1
  · intro h
    have h1 : s.toList.length = 0 := by rw [toList_len]; exact h
    have h2 : (⟨#[]⟩ : ByteArray).toList.length = 0 := by rw [toList_len]; rfl
    rw [List.eq_nil_of_length_eq_zero h1, List.eq_nil_of_length_eq_zero h2]
theorem isName_eq {n : Nat} {s : ByteArray} (h : s.size < n) : F_light_IsName n s = some (nameB s) := by
  unfold F_light_IsName
  rw [show loopF (F_light_IsName_L1 n s) n 0 = _ from loopP n s.size n 0 (by omega) h, Option.bind_some]
  unfold nameB
  by_cases h1 : okFrom s s.size 0 = true
  · rw [if_pos h1, h1]
    dsimp only
    rw [nil_iff]
    by_cases h2 : s.size = 0
    · simp [h2]
    · simp [h2]; omega
  · rw [if_neg h1]
    simp only [Bool.not_eq_true] at h1
    rw [h1]; simp
theorem strAt_eq {s : ByteArray} {p : Nat} (h : p < s.size) : strAt s (p : Int) = some ((byteAt s p : Nat) : Int) := by
  have e : s[p]? = some (s.get! p) := by
    have h1 : s[p]? = some s[p] := by simp [h]
    rw [h1]
    congr 1
    cases s with
    | mk d =>
      have hd : p < d.size := h
      show d[p] = d[p]!
      simp [hd]
  unfold strAt byteAt
  rw [if_pos (Int.natCast_nonneg p), Int.toNat_natCast, e]
theorem stepR (n : Nat) {s : ByteArray} {p : Nat} (h : p < s.size) (hp : p < 1000) : F_ref01_IsName_L1 n s (p : Int) = if OkAt p (byteAt s p) then some (.inl (((p + 1 : Nat) : Int))) else some (.inr (.inl ())) := by
  unfold F_ref01_IsName_L1
  have hi : inI64 ((p : Int) + 1) := by unfold inI64; omega
  rw [if_pos (by omega), strAt_eq h, Option.bind_some]
  simp only [if_pos hi]
  generalize byteAt s p = c
  have e : ((p : Int) + 1) = ((p + 1 : Nat) : Int) := rfl
  rw [← e]
  by_cases hk : OkAt p c
  · rw [if_pos hk]
    unfold OkAt at hk
    repeat' split
    all_goals first | rfl | (exfalso; omega)
  · rw [if_neg hk]
    unfold OkAt at hk
    repeat' split
    all_goals first | rfl | (exfalso; omega)
theorem loopR (n : Nat) {s : ByteArray} : ∀ (m k p : Nat), p + m = s.size → s.size < 1000 → m < k → loopF (F_ref01_IsName_L1 n s) k (p : Int) = some (if okFrom s m p = true then .inr () else .inl ())
  | m, 0, p, _, _, h => by omega
  | 0, k + 1, p, hp, _, _ => by
    rw [loopF_r (e := .inr ()) (by unfold F_ref01_IsName_L1; rw [if_neg (by omega)])]; rfl
  | m + 1, k + 1, p, hp, hz, hk => by
    have hs := stepR n (s := s) (p := p) (by omega) (by omega)
    by_cases h : OkAt p (byteAt s p)
    · rw [if_pos h] at hs
      rw [loopF_l hs, loopR n m k (p + 1) (by omega) hz (by omega)]
      simp [okFrom, h]
    · rw [if_neg h] at hs
      rw [loopF_r hs]
      simp [okFrom, h]
theorem refName_eq {n : Nat} (hn : 100 ≤ n) (s : ByteArray) : F_ref01_IsName n s = some (nameB s) := by
  unfold F_ref01_IsName nameB
  rw [nil_iff]
  by_cases h1 : s.size = 0
  · simp [h1]
  rw [if_neg (by simpa using h1)]
  by_cases h2 : (s.size : Int) > 24
  · rw [if_pos h2]
    have : ¬ s.size ≤ 24 := by omega
    simp [this]
  · rw [if_neg h2]
    have h3 : s.size ≤ 24 := by omega
    rw [show loopF (F_ref01_IsName_L1 n s) n 0 = _ from loopR n s.size n 0 (by omega) (by omega) (by omega), Option.bind_some]
    by_cases h4 : okFrom s s.size 0 = true
    · rw [if_pos h4, h4]; simp [h1, h3]
    · rw [if_neg h4]
      simp only [Bool.not_eq_true] at h4
      rw [h4]; simp
abbrev Vec := Int × Int × Int
def vdot (u v : Vec) : Int := u.1 * v.1 + u.2.1 * v.2.1 + u.2.2 * v.2.2
def vcross (u v : Vec) : Vec := (u.2.1 * v.2.2 - u.2.2 * v.2.1, u.2.2 * v.1 - u.1 * v.2.2, u.1 * v.2.1 - u.2.1 * v.1)
def vplus (u v : Vec) : Vec := (u.1 + v.1, u.2.1 + v.2.1, u.2.2 + v.2.2)
def vtimes (k : Int) (v : Vec) : Vec := (k * v.1, k * v.2.1, k * v.2.2)
def Bd (m : Int) (v : Vec) : Prop := (-m ≤ v.1 ∧ v.1 ≤ m) ∧ (-m ≤ v.2.1 ∧ v.2.1 ≤ m) ∧ (-m ≤ v.2.2 ∧ v.2.2 ≤ m)
theorem Bd.mono {m n : Int} {v : Vec} (h : Bd m v) (hmn : m ≤ n) : Bd n v := by unfold Bd at h ⊢; omega
theorem mul_k {g c p q r : Int} (hg : -p ≤ g ∧ g ≤ p) (hc : -q ≤ c ∧ c ≤ q) (hr : p * q = r) (hp : 0 ≤ p) (hq : 0 ≤ q) : -r ≤ g * c ∧ g * c ≤ r := by
  subst hr; exact mul_pq hp hg hq hc
theorem Bd.times {k K m r : Int} {v : Vec} (hk : -K ≤ k ∧ k ≤ K) (h : Bd m v) (hr : K * m = r) (hK : 0 ≤ K) (hm : 0 ≤ m) : Bd r (vtimes k v) :=
  ⟨mul_k hk h.1 hr hK hm, mul_k hk h.2.1 hr hK hm, mul_k hk h.2.2 hr hK hm⟩
theorem Bd.plus {m n : Int} {u v : Vec} (h : Bd m u) (k : Bd n v) : Bd (m + n) (vplus u v) := by unfold Bd vplus at *; dsimp only; omega
structure DotB (r : Int) (u v : Vec) : Prop where
  x : -r ≤ u.1 * v.1 ∧ u.1 * v.1 ≤ r
  y : -r ≤ u.2.1 * v.2.1 ∧ u.2.1 * v.2.1 ≤ r
  z : -r ≤ u.2.2 * v.2.2 ∧ u.2.2 * v.2.2 ≤ r
theorem Bd.dot {m n r : Int} {u v : Vec} (h : Bd m u) (k : Bd n v) (hr : m * n = r) (hm : 0 ≤ m) (hn : 0 ≤ n) : DotB r u v :=
  ⟨mul_k h.1 k.1 hr hm hn, mul_k h.2.1 k.2.1 hr hm hn, mul_k h.2.2 k.2.2 hr hm hn⟩
theorem DotB.val {r : Int} {u v : Vec} (h : DotB r u v) : -(3 * r) ≤ vdot u v ∧ vdot u v ≤ 3 * r := by
  obtain ⟨h1, h2, h3⟩ := h
  unfold vdot; omega
structure CrossB (r : Int) (u v : Vec) : Prop where
  a : -r ≤ u.2.1 * v.2.2 ∧ u.2.1 * v.2.2 ≤ r
  b : -r ≤ u.2.2 * v.2.1 ∧ u.2.2 * v.2.1 ≤ r
  c : -r ≤ u.2.2 * v.1 ∧ u.2.2 * v.1 ≤ r
  d : -r ≤ u.1 * v.2.2 ∧ u.1 * v.2.2 ≤ r
  e : -r ≤ u.1 * v.2.1 ∧ u.1 * v.2.1 ≤ r
  f : -r ≤ u.2.1 * v.1 ∧ u.2.1 * v.1 ≤ r
theorem Bd.cross {m n r : Int} {u v : Vec} (h : Bd m u) (k : Bd n v) (hr : m * n = r) (hm : 0 ≤ m) (hn : 0 ≤ n) : CrossB r u v :=
  ⟨mul_k h.2.1 k.2.2 hr hm hn, mul_k h.2.2 k.2.1 hr hm hn, mul_k h.2.2 k.1 hr hm hn, mul_k h.1 k.2.2 hr hm hn, mul_k h.1 k.2.1 hr hm hn, mul_k h.2.1 k.1 hr hm hn⟩
theorem CrossB.val {r : Int} {u v : Vec} (h : CrossB r u v) : Bd (2 * r) (vcross u v) := by
  obtain ⟨h1, h2, h3, h4, h5, h6⟩ := h
  unfold Bd vcross; dsimp only; omega
def L : Int := 2000000000000000000
theorem times_eq (n : Nat) {k : Int} {v : Vec} {r : Int} (h : Bd r (vtimes k v)) (hr : r ≤ L) : F_field_times n k v.1 v.2.1 v.2.2 = some (vtimes k v) := by
  obtain ⟨h1, h2, h3⟩ := h
  unfold vtimes at *
  dsimp only at h1 h2 h3
  unfold L at hr
  unfold F_field_times
  rw [if_pos (by unfold inI64; omega), if_pos (by unfold inI64; omega), if_pos (by unfold inI64; omega)]
theorem plus_eq (n : Nat) {u v : Vec} {r : Int} (h : Bd r (vplus u v)) (hr : r ≤ L) : F_field_plus n u.1 u.2.1 u.2.2 v.1 v.2.1 v.2.2 = some (vplus u v) := by
  obtain ⟨h1, h2, h3⟩ := h
  unfold vplus at *
  dsimp only at h1 h2 h3
  unfold L at hr
  unfold F_field_plus
  rw [if_pos (by unfold inI64; omega), if_pos (by unfold inI64; omega), if_pos (by unfold inI64; omega)]
theorem dot_eq (n : Nat) {u v : Vec} {r : Int} (h : DotB r u v) (hr : r ≤ L) : F_field_dot n u.1 u.2.1 u.2.2 v.1 v.2.1 v.2.2 = some (vdot u v) := by
  obtain ⟨h1, h2, h3⟩ := h
  unfold L at hr
  unfold F_field_dot vdot
  generalize u.1 * v.1 = x at *
  generalize u.2.1 * v.2.1 = y at *
  generalize u.2.2 * v.2.2 = z at *
  rw [if_pos (by unfold inI64; omega), if_pos (by unfold inI64; omega), if_pos (by unfold inI64; omega), if_pos (by unfold inI64; omega), if_pos (by unfold inI64; omega)]
theorem cross_eq (n : Nat) {u v : Vec} {r : Int} (h : CrossB r u v) (hr : r ≤ L) : F_field_cross n u.1 u.2.1 u.2.2 v.1 v.2.1 v.2.2 = some (vcross u v) := by
  obtain ⟨h1, h2, h3, h4, h5, h6⟩ := h
  unfold L at hr
  unfold F_field_cross vcross
  generalize u.2.1 * v.2.2 = a at *
  generalize u.2.2 * v.2.1 = b at *
  generalize u.2.2 * v.1 = c at *
  generalize u.1 * v.2.2 = d at *
  generalize u.1 * v.2.1 = e at *
  generalize u.2.1 * v.1 = f at *
  repeat rw [if_pos (by unfold inI64; omega)]
theorem refCross_eq (n : Nat) {u v : Vec} {r : Int} (h : CrossB r u v) (hr : r ≤ L) : F_ref04_Cross n u.1 u.2.1 u.2.2 v.1 v.2.1 v.2.2 = some (vcross u v) := by
  obtain ⟨h1, h2, h3, h4, h5, h6⟩ := h
  unfold L at hr
  unfold F_ref04_Cross vcross
  generalize u.2.1 * v.2.2 = a at *
  generalize u.2.2 * v.2.1 = b at *
  generalize u.2.2 * v.1 = c at *
  generalize u.1 * v.2.2 = d at *
  generalize u.1 * v.2.1 = e at *
  generalize u.2.1 * v.1 = f at *
  repeat rw [if_pos (by unfold inI64; omega)]
structure Mir where
  name : ByteArray
  c : Vec
  u : Vec
  v : Vec
theorem wrapN_eq {x : Int} (h : -L ≤ x ∧ x ≤ L) : IntKind.wrap .i64 (0 - x) = -x := by
  unfold L at h
  rw [IntKind.wrap_i64]; omega
def Mir.nrm (m : Mir) : Vec := vcross m.u m.v
structure Mir.Ok (m : Mir) : Prop where
  c : Bd 4096 m.c
  u : Bd 64 m.u
  v : Bd 64 m.v
theorem Mir.Ok.nrm {m : Mir} (h : m.Ok) : Bd 8192 m.nrm := (h.u.cross h.v rfl (by decide) (by decide)).val
def absI (x : Int) : Int := maxI x (-x)
def meetV (m : Mir) (k : Int) (f al : Vec) (ends : Bool) : Bool :=
  let d0 := vdot m.nrm al
  let n0 := -(vdot m.nrm (vplus f (vtimes (-k) m.c)))
  let t := vcross al (vplus f (vtimes (-k) m.c))
  let a := absI (vdot t m.v)
  let b := absI (vdot t m.u)
  let d := if d0 < 0 then -d0 else d0
  let n := if d0 < 0 then -n0 else n0
  !(decide (d0 = 0)) && decide (0 < n) && (!ends || decide (n < d)) && decide (a ≤ k * d) && decide (b ≤ k * d)
def vneg (v : Vec) : Vec := (-v.1, -v.2.1, -v.2.2)
theorem normal_eq (n : Nat) {m : Mir} (h : m.Ok) : F_field_Mirror_normal n m.name m.c.1 m.c.2.1 m.c.2.2 m.u.1 m.u.2.1 m.u.2.2 m.v.1 m.v.2.1 m.v.2.2 = some m.nrm := by
  unfold F_field_Mirror_normal
  rw [cross_eq n (h.u.cross h.v rfl (by decide) (by decide)) (by decide)]
  rfl
structure MB (m : Mir) (k : Int) (f al : Vec) : Prop where
  t : Bd 32768 (vtimes (-k) m.c)
  p : Bd 163840 (vplus f (vtimes (-k) m.c))
  d : DotB 1073741824 m.nrm al
  w : DotB 1342177280 m.nrm (vplus f (vtimes (-k) m.c))
  c : CrossB 21474836480 al (vplus f (vtimes (-k) m.c))
  a : DotB 2748779069440 (vcross al (vplus f (vtimes (-k) m.c))) m.v
  b : DotB 2748779069440 (vcross al (vplus f (vtimes (-k) m.c))) m.u
theorem MB.of {m : Mir} (hm : m.Ok) {k : Int} (hk : 1 ≤ k ∧ k ≤ 8) {f al : Vec} (hf : Bd 131072 f) (ha : Bd 131072 al) : MB m k f al := by
  have b1 : Bd 32768 (vtimes (-k) m.c) := Bd.times (K := 8) (by omega) hm.c (by decide) (by decide) (by decide)
  have b2 : Bd 163840 (vplus f (vtimes (-k) m.c)) := (hf.plus b1).mono (by decide)
  have c1 : CrossB 21474836480 al (vplus f (vtimes (-k) m.c)) := ha.cross b2 (by decide) (by decide) (by decide)
  exact ⟨b1, b2, hm.nrm.dot ha (by decide) (by decide) (by decide), hm.nrm.dot b2 (by decide) (by decide) (by decide), c1, c1.val.dot hm.v (by decide) (by decide) (by decide), c1.val.dot hm.u (by decide) (by decide) (by decide)⟩
theorem meets_eq {n : Nat} {m : Mir} (hm : m.Ok) {k : Int} (hk : 1 ≤ k ∧ k ≤ 8) {f al : Vec} (hf : Bd 131072 f) (ha : Bd 131072 al) (e : Bool) :
    F_field_Mirror_meets n m.name m.c.1 m.c.2.1 m.c.2.2 m.u.1 m.u.2.1 m.u.2.2 m.v.1 m.v.2.1 m.v.2.2 k f.1 f.2.1 f.2.2 al.1 al.2.1 al.2.2 e = some (meetV m k f al e) := by
  obtain ⟨b1, b2, d1, d2, c1, d3, d4⟩ := MB.of hm hk hf ha
  unfold F_field_Mirror_meets
  rw [wrapN_eq (x := k) (by unfold L; omega), times_eq n b1 (by decide), Option.bind_some, plus_eq n b2 (by decide), Option.bind_some, normal_eq n hm, Option.bind_some, dot_eq n d1 (by decide), Option.bind_some, dot_eq n d2 (by decide), Option.bind_some]
  simp only [cross_eq n c1 (by decide), dot_eq n d3 (by decide), dot_eq n d4 (by decide), Option.bind_some]
  have v1 := d1.val
  have v2 := d2.val
  have v3 := d3.val
  have v4 := d4.val
  unfold meetV absI
  dsimp only
  generalize vdot m.nrm al = d at *
  generalize vdot m.nrm (vplus f (vtimes (-k) m.c)) = w at *
  generalize vdot (vcross al (vplus f (vtimes (-k) m.c))) m.v = a at *
  generalize vdot (vcross al (vplus f (vtimes (-k) m.c))) m.u = b at *
  have w1 := wrapN_eq (x := d) (by unfold L; omega)
  have w2 := wrapN_eq (x := w) (by unfold L; omega)
  have w3 := wrapN_eq (x := -w) (by unfold L; omega)
  have w4 := wrapN_eq (x := a) (by unfold L; omega)
  have w5 := wrapN_eq (x := b) (by unfold L; omega)
  simp only [w1, w2, w3, w4, w5]
  have k1 := mul_k (g := k) (c := d) (p := 8) (q := 3221225472) (by omega) (by omega) rfl (by decide) (by decide)
  have k2 : k * -d = -(k * d) := Int.mul_neg k d
  rw [k2]
  have i1 : inI64 (k * d) := by unfold inI64; omega
  have i2 : inI64 (-(k * d)) := by unfold inI64; omega
  simp only [if_pos i1, if_pos i2]
  by_cases hd : d < 0
  · simp only [if_pos hd, k2, Int.neg_neg]
    rw [if_neg (show ¬ -d = 0 by omega)]
    have hd0 : ¬ d = 0 := by omega
    by_cases h1 : w ≤ 0
    · rw [if_pos h1]
      have : ¬ 0 < w := by omega
      simp [this]
    · rw [if_neg h1]
      have : 0 < w := by omega
      cases e with
      | true =>
        simp only [if_true]
        by_cases h2 : w ≥ -d
        · rw [if_pos h2]
          have : ¬ w < -d := by omega
          simp [this]
        · rw [if_neg h2]
          have h3 : w < -d := by omega
          by_cases h4 : maxI a (-a) ≤ -(k * d)
          · rw [if_pos h4]; simp [hd0, this, h3, h4]
          · rw [if_neg h4]; simp [h4]
      | false =>
        simp only [Bool.false_eq_true, if_false]
        by_cases h4 : maxI a (-a) ≤ -(k * d)
        · rw [if_pos h4]; simp [hd0, this, h4]
        · rw [if_neg h4]; simp [h4]
  · simp only [if_neg hd]
    by_cases hd0 : d = 0
    · rw [if_pos hd0]; simp [hd0]
    rw [if_neg hd0]
    by_cases h1 : -w ≤ 0
    · rw [if_pos h1]
      have : ¬ w < 0 := by omega
      simp [this]
    · rw [if_neg h1]
      have : w < 0 := by omega
      cases e with
      | true =>
        simp only [if_true]
        by_cases h2 : -w ≥ d
        · rw [if_pos h2]
          have : ¬ -w < d := by omega
          simp [this]
        · rw [if_neg h2]
          have h3 : -w < d := by omega
          by_cases h4 : maxI a (-a) ≤ k * d
          · rw [if_pos h4]; simp [hd0, this, h3, h4]
          · rw [if_neg h4]; simp [h4]
      | false =>
        simp only [Bool.false_eq_true, if_false]
        by_cases h4 : maxI a (-a) ≤ k * d
        · rw [if_pos h4]; simp [hd0, this, h4]
        · rw [if_neg h4]; simp [h4]
theorem first3 {n : Nat} (hn : 10 ≤ n) (a b c : Int) : F_field_first n [I a, I b, I c] = some (firstNZ [a, b, c]) := first_eq [a, b, c] (by simp) (by simp; omega)
theorem first4 {n : Nat} (hn : 10 ≤ n) (a b c d : Int) : F_field_first n [I a, I b, I c, I d] = some (firstNZ [a, b, c, d]) := first_eq [a, b, c, d] (by simp) (by simp; omega)
theorem refFirst3 {n : Nat} (hn : 10 ≤ n) (a b c : Int) : F_ref01_First n [I a, I b, I c] = some (firstNZ [a, b, c]) := refFirst_eq [a, b, c] (by simp) (by simp; omega)
theorem refFirst4 {n : Nat} (hn : 10 ≤ n) (a b c d : Int) : F_ref01_First n [I a, I b, I c, I d] = some (firstNZ [a, b, c, d]) := refFirst_eq [a, b, c, d] (by simp) (by simp; omega)
def pE (v : Vec) (m : Int) : Int := firstNZ [inR v.1 (-m) m, inR v.2.1 (-m) m, inR v.2.2 (-m) m]
theorem parts_eq {n : Nat} (hn : 10 ≤ n) (v : Vec) {m : Int} (h : 0 ≤ m ∧ m ≤ L) : F_field_checkParts n v.1 v.2.1 v.2.2 m = some (pE v m) := by
  have hw := wrapN_eq (x := m) (by unfold L at *; omega)
  unfold F_field_checkParts
  rw [hw, within_eq, Option.bind_some, within_eq, Option.bind_some, within_eq, Option.bind_some, first3 hn]; rfl
theorem refParts_eq {n : Nat} (hn : 10 ≤ n) (v : Vec) {m : Int} (h : 0 ≤ m ∧ m ≤ L) : F_ref04_checkParts n v.1 v.2.1 v.2.2 m = some (pE v m) := by
  unfold F_ref04_checkParts
  unfold L at h
  rw [if_pos (by unfold inI64; omega), Int.zero_sub, range_eq, Option.bind_some, range_eq, Option.bind_some, range_eq, Option.bind_some, refFirst3 hn]; rfl
theorem pE_zero {v : Vec} {m : Int} (h : pE v m = 0) : Bd m v :=
  ⟨inR_zero (firstNZ_zero h _ (by simp)), inR_zero (firstNZ_zero h _ (by simp)), inR_zero (firstNZ_zero h _ (by simp))⟩
def zeroB (v : Vec) : Bool := (v.1 == 0) && ((v.2.1 == 0) && ((v.2.2 == 0) && true))
def mirE (m : Mir) : Int :=
  if firstNZ [whenI (!nameB m.name) 8, pE m.c 4096, pE m.u 64, pE m.v 64] = 0 then whenI (zeroB m.nrm) 17
  else firstNZ [whenI (!nameB m.name) 8, pE m.c 4096, pE m.u 64, pE m.v 64]
theorem ok_of {m : Mir} (h : firstNZ [whenI (!nameB m.name) 8, pE m.c 4096, pE m.u 64, pE m.v 64] = 0) : m.Ok :=
  ⟨pE_zero (firstNZ_zero h (pE m.c 4096) (by simp)), pE_zero (firstNZ_zero h (pE m.u 64) (by simp)), pE_zero (firstNZ_zero h (pE m.v 64) (by simp))⟩
theorem mirE_zero {m : Mir} (h : mirE m = 0) : m.Ok := by
  unfold mirE at h
  by_cases h1 : firstNZ [whenI (!nameB m.name) 8, pE m.c 4096, pE m.u 64, pE m.v 64] = 0
  · exact ok_of h1
  · rw [if_neg h1] at h; exact absurd h h1
theorem check_eq {n : Nat} (hn : 100 ≤ n) {m : Mir} (hz : m.name.size < n) : F_field_Mirror_check n m.name m.c.1 m.c.2.1 m.c.2.2 m.u.1 m.u.2.1 m.u.2.2 m.v.1 m.v.2.1 m.v.2.2 = some (mirE m) := by
  unfold F_field_Mirror_check mirE
  rw [isName_eq hz, Option.bind_some, when_eq, Option.bind_some, parts_eq (by omega) m.c (by decide), Option.bind_some, parts_eq (by omega) m.u (by decide), Option.bind_some, parts_eq (by omega) m.v (by decide), Option.bind_some, first4 (by omega), Option.bind_some]
  by_cases h : firstNZ [whenI (!nameB m.name) 8, pE m.c 4096, pE m.u 64, pE m.v 64] = 0
  · rw [if_pos h, if_pos h, normal_eq n (ok_of h), Option.bind_some, when_eq]; rfl
  · rw [if_neg h, if_neg h]
theorem refCheck_eq {n : Nat} (hn : 100 ≤ n) (m : Mir) : F_ref04_CheckMirror n m.name m.c.1 m.c.2.1 m.c.2.2 m.u.1 m.u.2.1 m.u.2.2 m.v.1 m.v.2.1 m.v.2.2 = some (mirE m) := by
  unfold F_ref04_CheckMirror F_ref01_CheckName mirE
  rw [refName_eq hn, Option.bind_some, refWhen_eq, Option.bind_some, Option.bind_some, refParts_eq (by omega) m.c (by decide), Option.bind_some, refParts_eq (by omega) m.u (by decide), Option.bind_some, refParts_eq (by omega) m.v (by decide), Option.bind_some, refFirst4 (by omega), Option.bind_some]
  by_cases h : firstNZ [whenI (!nameB m.name) 8, pE m.c 4096, pE m.u 64, pE m.v 64] = 0
  · rw [if_pos h, if_pos h, refCross_eq n ((ok_of h).u.cross (ok_of h).v rfl (by decide) (by decide)) (by decide), Option.bind_some, refWhen_eq]; rfl
  · rw [if_neg h, if_neg h]
def dirE (v : Vec) (m : Int) : Int := firstNZ [pE v m, whenI (zeroB v) 6]
theorem dir_eq {n : Nat} (hn : 10 ≤ n) (v : Vec) {m : Int} (h : 0 ≤ m ∧ m ≤ L) : F_field_checkDirection n v.1 v.2.1 v.2.2 m = some (dirE v m) := by
  unfold F_field_checkDirection
  rw [parts_eq hn v h, Option.bind_some, when_eq, Option.bind_some, first2 hn]; rfl
theorem dirE_zero {v : Vec} {m : Int} (h : dirE v m = 0) : Bd m v := pE_zero (firstNZ_zero h (pE v m) (by simp))
theorem ba_beq (a b : ByteArray) : (a == b) = decide (a = b) := by
  obtain ⟨x⟩ := a
  obtain ⟨y⟩ := b
  have e : ((⟨x⟩ : ByteArray) == ⟨y⟩) = (x == y) := rfl
  rw [e, Bool.eq_iff_iff, beq_iff_eq, decide_eq_true_eq]
  constructor
  · intro h; rw [h]
  · intro h; injection h
instance : LawfulBEq ByteArray where
  eq_of_beq h := by rw [ba_beq] at h; exact of_decide_eq_true h
  rfl := by intro a; rw [ba_beq]; exact decide_eq_true rfl
abbrev Mir10 := ByteArray × Int × Int × Int × Int × Int × Int × Int × Int × Int
def Mir.of (x : Mir10) : Mir := ⟨x.1, (x.2.1, x.2.2.1, x.2.2.2.1), (x.2.2.2.2.1, x.2.2.2.2.2.1, x.2.2.2.2.2.2.1), (x.2.2.2.2.2.2.2.1, x.2.2.2.2.2.2.2.2.1, x.2.2.2.2.2.2.2.2.2)⟩
def Mir.tup (m : Mir) : Mir10 := (m.name, m.c.1, m.c.2.1, m.c.2.2, m.u.1, m.u.2.1, m.u.2.2, m.v.1, m.v.2.1, m.v.2.2)
def encM (m : Mir) : D := .agg [.v (.string m.name), I m.c.1, I m.c.2.1, I m.c.2.2, I m.u.1, I m.u.2.1, I m.u.2.2, I m.v.1, I m.v.2.1, I m.v.2.2]
theorem elM {ms : List Mir} {i : Nat} {m : Mir} (h : ms[i]? = some m) : el un_Asi9Z (ms.map encM) (i : Int) = some m.tup := by
  have := el_enc (un := un_Asi9Z) (enc := fun x : Mir10 => encM (Mir.of x)) (fun x => rfl) (l := ms.map Mir.tup) (i := i) (x := m.tup) (by rw [List.getElem?_map, h]; rfl)
  rw [List.map_map] at this
  exact this
theorem runL_app {α β : Type} (f : α → β) : ∀ (l : List α) (s : List β), runL (fun (s : List β) (p : α) => (.inl (s ++ [f p]) : List β ⊕ List β)) id l s = s ++ l.map f
  | [], s => by simp [runL]
  | p :: l, s => by
    unfold runL
    dsimp only
    rw [runL_app f l]; simp
def entK (s : ByteArray) : D := .tup [.v (.string s), B true]
theorem mok_k (k : ByteArray) : ∀ (l : List ByteArray), mok (.string k) (l.map entK) = true
  | [] => rfl
  | x :: l => by
    rw [List.map_cons]
    unfold mok
    show ((sameK (.string k) (.string x)).isSome && mok (.string k) (l.map entK)) = true
    rw [mok_k k l]; rfl
theorem mfind_k (k : ByteArray) : ∀ (l : List ByteArray), mfind (.string k) (l.map entK) = if k ∈ l then some (B true) else none
  | [] => rfl
  | x :: l => by
    rw [List.map_cons]
    unfold mfind
    show (match sameK (.string k) (.string x) with
      | some true => some (B true)
      | _ => mfind (.string k) (l.map entK)) = _
    rw [mfind_k k l]
    show (match some (k == x) with
      | some true => some (B true)
      | _ => if k ∈ l then some (B true) else none) = _
    rw [ba_beq]
    by_cases h : k = x
    · simp [h]
    · simp [h]
theorem mput_k (k : ByteArray) : ∀ (l : List ByteArray), k ∉ l → mput (.string k) (B true) (l.map entK) = (l ++ [k]).map entK
  | [], _ => rfl
  | x :: l, h => by
    rw [List.map_cons]
    unfold mput
    show (match sameK (.string k) (.string x) with
      | some true => (.tup [.v (.string k), B true] : D) :: l.map entK
      | _ => entK x :: mput (.string k) (B true) (l.map entK)) = _
    rw [mput_k k l (fun hh => h (List.mem_cons_of_mem _ hh))]
    show (match some (k == x) with
      | some true => (.tup [.v (.string k), B true] : D) :: l.map entK
      | _ => entK x :: (l ++ [k]).map entK) = _
    rw [ba_beq]
    have hx : ¬ k = x := fun e => h (by rw [e]; exact List.mem_cons_self)
    simp [hx]
def mE (seen : List ByteArray) (m : Mir) : Int := firstNZ [mirE m, whenI (decide (m.name ∈ seen)) 9]
def gC (seen : List ByteArray) (m : Mir) : List ByteArray ⊕ (Int ⊕ Unit) := if mE seen m = 0 then .inl (seen ++ [m.name]) else .inr (.inl (mE seen m))
def chkR (ms : List Mir) : Int ⊕ Unit := runL gC (fun _ => .inr ()) ms []
def chkM (ms : List Mir) : Int := if (ms.length : Int) > 64 then 5 else match chkR ms with
  | .inl e => e
  | .inr _ => 0
theorem mE_new {seen : List ByteArray} {m : Mir} (h : mE seen m = 0) : m.name ∉ seen := by
  have := firstNZ_zero h (whenI (decide (m.name ∈ seen)) 9) (by simp)
  unfold whenI at this
  intro hm
  simp [hm] at this
theorem checkMs_eq {n : Nat} (hn : 100 ≤ n) (ms : List Mir) (hz : ∀ m, m ∈ ms → m.name.size < n) : F_field_CheckMirrors n (ms.map encM) = some (chkM ms) := by
  unfold F_field_CheckMirrors chkM
  rw [List.length_map]
  by_cases hl : (ms.length : Int) > 64
  · rw [if_pos hl, if_pos hl]
  · rw [if_neg hl, if_neg hl]
    have := loopF_list0 (step := F_field_CheckMirrors_L1 n (ms.map encM)) gC (fun _ => .inr ()) (fun i (s : List ByteArray) => ((i : Int), s.map entK)) ms (fun _ _ => True)
      (fun i s x hx _ => by
        have hi := (List.getElem?_eq_some_iff.1 hx).1
        have hc := check_eq hn (hz x (List.mem_of_getElem? hx))
        have step : F_field_CheckMirrors_L1 n (ms.map encM) ((i : Int), s.map entK) = if mE s x = 0 then some (.inl (((i + 1 : Nat) : Int), (s ++ [x.name]).map entK)) else some (.inr (.inl (mE s x))) := by
          have hi2 : inI64 ((i : Int) + 1) := by unfold inI64; omega
          unfold F_field_CheckMirrors_L1
          dsimp only
          rw [if_pos (lenlt hx), elM hx, Option.bind_some]
          unfold Mir.tup
          dsimp only
          rw [hc, Option.bind_some, if_pos (mok_k x.name s)]
          simp only [mfind_k, if_pos hi2]
          by_cases hm : x.name ∈ s
          · have hne : mE s x = firstNZ [mirE x, 9] := by unfold mE whenI; simp [hm]
            have hnz : ¬ mE s x = 0 := fun h => mE_new h hm
            rw [if_pos hm, if_pos (show (some (B true)).isSome = true from rfl), Option.bind_some, show un_b (B true) = some true from rfl, Option.bind_some, when_eq, Option.bind_some, first2 (by omega), Option.bind_some]
            have hw : whenI true 9 = 9 := rfl
            rw [hw, ← hne, if_neg hnz, if_neg hnz]
          · have hne : mE s x = firstNZ [mirE x, 0] := by unfold mE whenI; simp [hm]
            rw [if_neg hm, if_neg (by simp), show F_field_when_3 n = some 0 from rfl, Option.bind_some, first2 (by omega), Option.bind_some, ← hne, mput_k _ _ hm]
            rfl
        unfold gC
        by_cases h : mE s x = 0
        · rw [if_pos h] at step ⊢; exact ⟨step, trivial⟩
        · rw [if_neg h] at step ⊢; exact step)
      (fun s _ => by unfold F_field_CheckMirrors_L1; dsimp only; rw [if_neg (by simp)]) (s := []) (k := n) trivial (by omega)
    rw [show ((0 : Int), ([] : List D)) = (((0 : Nat) : Int), ([] : List ByteArray).map entK) from rfl, this, Option.bind_some]
    unfold chkR
    cases runL gC (fun _ => .inr ()) ms [] <;> rfl
end Go.Proofs.YtiogobiijlaalaaDoor
