/-
  Names: the program ranges over runes, the reference over bytes; both say the same. An own text.
-/
import Derived.Test.YtojmcpnpojdnmaaGreatDoorFCom
set_option linter.unusedVariables false
set_option linter.unusedSimpArgs false
set_option linter.unnecessarySimpa false
set_option maxRecDepth 20000
namespace Go.Proofs.YtojmcpnpojdnmaaGreatDoor
open Go.SX

def byteAt (s : ByteArray) (i : Nat) : Nat := (s.get! i).toNat
def OkAt (p c : Nat) : Prop := (97 ≤ c ∧ c ≤ 122) ∨ (65 ≤ c ∧ c ≤ 90) ∨ (p ≠ 0 ∧ (c = 95 ∨ (48 ≤ c ∧ c ≤ 57)))
instance (p c : Nat) : Decidable (OkAt p c) := by unfold OkAt; infer_instance
def okFrom (s : ByteArray) : Nat → Nat → Bool
  | 0, _ => true
  | m + 1, p => decide (OkAt p (byteAt s p)) && okFrom s m (p + 1)
theorem decode_low {s : ByteArray} {p : Nat} (h : byteAt s p < 128) : Utf8.decode s p = (byteAt s p, 1) := by
  unfold byteAt at h ⊢
  unfold Utf8.decode
  simp only [Nat.add_zero]
  rw [if_pos h]
theorem decode_high {s : ByteArray} {p : Nat} (h : ¬ byteAt s p < 128) : 128 ≤ (Utf8.decode s p).1 := by
  unfold byteAt at h
  unfold Utf8.decode
  simp only [Nat.add_zero]
  rw [if_neg h]
  have hr : 128 ≤ Utf8.runeError := by decide
  repeat' split
  all_goals first | exact hr | (simp only [Bool.and_eq_true, decide_eq_true_eq, ge_iff_le] at *; omega)
theorem stepP (n : Nat) {s : ByteArray} {p : Nat} (h : p < s.size) : F_light_IsName_L1 n s p = if OkAt p (byteAt s p) then some (.inl (p + 1)) else some (.inr (.inl ())) := by
  unfold F_light_IsName_L1
  rw [if_pos h]
  by_cases hb : byteAt s p < 128
  · rw [decode_low hb]
    dsimp only
    generalize byteAt s p = c at hb ⊢
    by_cases hk : OkAt p c
    · rw [if_pos hk]
      unfold OkAt at hk
      repeat' split
      all_goals first | rfl | (exfalso; omega)
    · rw [if_neg hk]
      unfold OkAt at hk
      repeat' split
      all_goals first | rfl | (exfalso; omega)
  · have hd := decode_high hb
    have hno : ¬ OkAt p (byteAt s p) := by unfold OkAt; omega
    rw [if_neg hno]
    generalize (Utf8.decode s p).1 = c at hd ⊢
    repeat' split
    all_goals first | rfl | (exfalso; omega)
theorem loopP (n : Nat) {s : ByteArray} : ∀ (m k p : Nat), p + m = s.size → m < k → loopF (F_light_IsName_L1 n s) k p = some (if okFrom s m p = true then .inr () else .inl ())
  | m, 0, p, _, h => by omega
  | 0, k + 1, p, hp, _ => by
    rw [loopF_r (e := .inr ()) (by unfold F_light_IsName_L1; rw [if_neg (by omega)])]; rfl
  | m + 1, k + 1, p, hp, hk => by
    have hs := stepP n (s := s) (p := p) (by omega)
    by_cases h : OkAt p (byteAt s p)
    · rw [if_pos h] at hs
      rw [loopF_l hs, loopP n m k (p + 1) (by omega) (by omega)]
      simp [okFrom, h]
    · rw [if_neg h] at hs
      rw [loopF_r hs]
      simp [okFrom, h]
def nameB (s : ByteArray) : Bool := decide (s.size ≠ 0) && decide (s.size ≤ 24) && okFrom s s.size 0
theorem loop_len (s : ByteArray) : ∀ (m i : Nat) (r : List UInt8), i + m = s.size → (ByteArray.toList.loop s i r).length = r.length + m
  | 0, i, r, h => by rw [ByteArray.toList.loop, if_neg (by omega), List.length_reverse]; rfl
  | m + 1, i, r, h => by rw [ByteArray.toList.loop, if_pos (by omega), loop_len s m (i + 1) _ (by omega), List.length_cons]; omega
theorem toList_len (s : ByteArray) : s.toList.length = s.size := by
  unfold ByteArray.toList
  rw [loop_len s s.size 0 [] (by omega)]; simp
theorem nil_iff (s : ByteArray) : (s.toList == (⟨#[]⟩ : ByteArray).toList) = decide (s.size = 0) := by
  rw [Bool.eq_iff_iff, beq_iff_eq, decide_eq_true_eq]
  constructor
  · intro h
    have h1 : s.toList.length = 0 := by rw [h, toList_len]; rfl
    rw [toList_len] at h1
    exact h1
  · intro h
    have h1 : s.toList.length = 0 := by rw [toList_len]; exact h
    have h2 : (⟨#[]⟩ : ByteArray).toList.length = 0 := by rw [toList_len]; rfl
    rw [List.eq_nil_of_length_eq_zero h1, List.eq_nil_of_length_eq_zero h2]
theorem isName_eq {n : Nat} {s : ByteArray} (h : s.size < n) : F_light_IsName n s = some (nameB s) := by
  unfold F_light_IsName
  rw [show loopF (F_light_IsName_L1 n s) n 0 = _ from loopP n s.size n 0 (by omega) h, Option.bind_some]
  unfold nameB
  by_cases h1 : okFrom s s.size 0 = true
  · rw [if_pos h1, h1]
    dsimp only
    rw [nil_iff]
    by_cases h2 : s.size = 0
    · simp [h2]
    · simp [h2]; omega
  · rw [if_neg h1]
    simp only [Bool.not_eq_true] at h1
    rw [h1]; simp

/-! The reference. -/
theorem strAt_eq {s : ByteArray} {p : Nat} (h : p < s.size) : strAt s (p : Int) = some ((byteAt s p : Nat) : Int) := by
  have e : s[p]? = some (s.get! p) := by
    have h1 : s[p]? = some s[p] := by simp [h]
    rw [h1]
    congr 1
    cases s with
    | mk d =>
      have hd : p < d.size := h
      show d[p] = d[p]!
      simp [hd]
  unfold strAt byteAt
  rw [if_pos (Int.natCast_nonneg p), Int.toNat_natCast, e]
theorem stepR (n : Nat) {s : ByteArray} {p : Nat} (h : p < s.size) (hp : p < 1000) : F_ref01_IsName_L1 n s (p : Int) = if OkAt p (byteAt s p) then some (.inl (((p + 1 : Nat) : Int))) else some (.inr (.inl ())) := by
  unfold F_ref01_IsName_L1
  have hi : inI64 ((p : Int) + 1) := by unfold inI64; omega
  rw [if_pos (by omega), strAt_eq h, Option.bind_some]
  simp only [if_pos hi]
  generalize byteAt s p = c
  have e : ((p : Int) + 1) = ((p + 1 : Nat) : Int) := rfl
  rw [← e]
  by_cases hk : OkAt p c
  · rw [if_pos hk]
    unfold OkAt at hk
    repeat' split
    all_goals first | rfl | (exfalso; omega)
  · rw [if_neg hk]
    unfold OkAt at hk
    repeat' split
    all_goals first | rfl | (exfalso; omega)
theorem loopR (n : Nat) {s : ByteArray} : ∀ (m k p : Nat), p + m = s.size → s.size < 1000 → m < k → loopF (F_ref01_IsName_L1 n s) k (p : Int) = some (if okFrom s m p = true then .inr () else .inl ())
  | m, 0, p, _, _, h => by omega
  | 0, k + 1, p, hp, _, _ => by
    rw [loopF_r (e := .inr ()) (by unfold F_ref01_IsName_L1; rw [if_neg (by omega)])]; rfl
  | m + 1, k + 1, p, hp, hz, hk => by
    have hs := stepR n (s := s) (p := p) (by omega) (by omega)
    by_cases h : OkAt p (byteAt s p)
    · rw [if_pos h] at hs
      rw [loopF_l hs, loopR n m k (p + 1) (by omega) hz (by omega)]
      simp [okFrom, h]
    · rw [if_neg h] at hs
      rw [loopF_r hs]
      simp [okFrom, h]
theorem refName_eq {n : Nat} (hn : 100 ≤ n) (s : ByteArray) : F_ref01_IsName n s = some (nameB s) := by
  unfold F_ref01_IsName nameB
  rw [nil_iff]
  by_cases h1 : s.size = 0
  · simp [h1]
  rw [if_neg (by simpa using h1)]
  by_cases h2 : (s.size : Int) > 24
  · rw [if_pos h2]
    have : ¬ s.size ≤ 24 := by omega
    simp [this]
  · rw [if_neg h2]
    have h3 : s.size ≤ 24 := by omega
    rw [show loopF (F_ref01_IsName_L1 n s) n 0 = _ from loopR n s.size n 0 (by omega) (by omega) (by omega), Option.bind_some]
    by_cases h4 : okFrom s s.size 0 = true
    · rw [if_pos h4, h4]; simp [h1, h3]
    · rw [if_neg h4]
      simp only [Bool.not_eq_true] at h4
      rw [h4]; simp
end Go.Proofs.YtojmcpnpojdnmaaGreatDoor
