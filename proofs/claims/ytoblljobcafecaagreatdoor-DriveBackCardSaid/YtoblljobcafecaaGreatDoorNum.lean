/-
  Decimal numbers as lists of bytes. Plain Lean. An own text.
-/
import Derived.Lib.ItoaNum
set_option linter.unusedVariables false
set_option linter.unusedSimpArgs false
set_option linter.unnecessarySimpa false
namespace Go.Proofs.YtoblljobcafecaaGreatDoor

def isDig (l : List UInt8) : Prop := ∀ c, c ∈ l → 48 ≤ c.toNat ∧ c.toNat ≤ 57
instance (l : List UInt8) : Decidable (isDig l) := by unfold isDig; infer_instance
def valN : Nat → List UInt8 → Nat
  | n, [] => n
  | n, c :: l => valN (10 * n + (c.toNat - 48)) l
/-- Digits without a zero ahead. -/
def digOk (d : List UInt8) : Prop := d ≠ [] ∧ d.length ≤ 9 ∧ isDig d ∧ (d.head? ≠ some 48 ∨ d.length = 1)
instance (l : List UInt8) : Decidable (digOk l) := by unfold digOk; infer_instance
/-- The integer that a word tells. -/
def num (w : List UInt8) : Option Int :=
  if w.head? = some 45 then (if digOk w.tail ∧ w.tail ≠ [48] then some (-(valN 0 w.tail : Int)) else none)
  else if digOk w then some (valN 0 w : Int) else none

theorem isDig_cons {c : UInt8} {l : List UInt8} : isDig (c :: l) ↔ (48 ≤ c.toNat ∧ c.toNat ≤ 57) ∧ isDig l := by simp [isDig]
theorem isDig_app {a b : List UInt8} : isDig (a ++ b) ↔ isDig a ∧ isDig b := by
  simp only [isDig, List.mem_append]
  exact ⟨fun h => ⟨fun c hc => h c (.inl hc), fun c hc => h c (.inr hc)⟩, fun h c hc => hc.elim (h.1 c) (h.2 c)⟩
theorem valN_app : ∀ (a b : List UInt8) (n : Nat), valN n (a ++ b) = valN (valN n a) b
  | [], _, _ => rfl
  | c :: a, b, n => valN_app a b _
theorem valN_snoc (a : List UInt8) (c : UInt8) (n : Nat) : valN n (a ++ [c]) = 10 * valN n a + (c.toNat - 48) := by rw [valN_app]; rfl
theorem valN_ge : ∀ (l : List UInt8) (n : Nat), n ≤ valN n l
  | [], n => Nat.le_refl _
  | c :: l, n => by
    have := valN_ge l (10 * n + (c.toNat - 48))
    show n ≤ valN _ l
    omega
theorem valN_lt : ∀ (l : List UInt8) (n k : Nat), isDig l → n < 10 ^ k → valN n l < 10 ^ (k + l.length)
  | [], n, k, _, h => h
  | c :: l, n, k, hd, h => by
    obtain ⟨hc, hl⟩ := isDig_cons.1 hd
    have := valN_lt l (10 * n + (c.toNat - 48)) (k + 1) hl (by rw [Nat.pow_succ]; omega)
    show valN _ l < _
    rw [List.length_cons, show k + (l.length + 1) = k + 1 + l.length by omega]; exact this
theorem valN_pos {d : List UInt8} (h : isDig d) (hn : d ≠ []) (hh : d.head? ≠ some 48) : 1 ≤ valN 0 d := by
  cases d with
  | nil => exact absurd rfl hn
  | cons c l =>
    obtain ⟨hc, hl⟩ := isDig_cons.1 h
    have h1 : c.toNat ≠ 48 := fun e => hh (by
      have : c = 48 := UInt8.toNat_inj.1 e
      rw [this]; rfl)
    have := valN_ge l (10 * 0 + (c.toNat - 48))
    show 1 ≤ valN _ l
    omega
theorem val_zero {d : List UInt8} (h : digOk d) : valN 0 d = 0 ↔ d = [48] := by
  obtain ⟨h1, h2, h3, h4⟩ := h
  constructor
  · intro hv
    by_cases hh : d.head? = some 48
    · have hl := h4.resolve_left (fun hc => hc hh)
      match d, hl with
      | [c], _ =>
        simp only [List.head?_cons, Option.some.injEq] at hh
        rw [hh]
    · have := valN_pos h3 h1 hh; omega
  · intro e; rw [e]; rfl
theorem toNat_ofNat {k : Nat} (h : k < 10) : (UInt8.ofNat (48 + k)).toNat = 48 + k := by
  simp only [UInt8.toNat_ofNat']; omega
theorem isDig_one {k : Nat} (h : k < 10) : isDig [UInt8.ofNat (48 + k)] := by
  intro c hc
  rw [List.mem_singleton] at hc
  rw [hc, toNat_ofNat h]; omega
theorem dec_spec (u : Nat) : isDig (Lib.decDigits u) ∧ Lib.decDigits u ≠ [] ∧ valN 0 (Lib.decDigits u) = u ∧ ((Lib.decDigits u).head? ≠ some 48 ∨ (Lib.decDigits u).length = 1) ∧ ∀ k, 1 ≤ k → u < 10 ^ k → (Lib.decDigits u).length ≤ k := by
  induction u using Nat.strongRecOn with
  | _ u ih =>
    by_cases h : u < 10
    · rw [Lib.decDigits, dif_pos h]
      refine ⟨isDig_one h, by simp, ?_, .inr rfl, fun k hk _ => by simpa using hk⟩
      show 10 * 0 + ((UInt8.ofNat (48 + u)).toNat - 48) = u
      rw [toNat_ofNat h]; omega
    · rw [Lib.decDigits, dif_neg h]
      obtain ⟨h1, h2, h3, h4, h5⟩ := ih (u / 10) (by omega)
      have hm : u % 10 < 10 := Nat.mod_lt _ (by decide)
      refine ⟨isDig_app.2 ⟨h1, isDig_one hm⟩, by simp, ?_, .inl ?_, fun k hk hu => ?_⟩
      · rw [valN_snoc, h3, toNat_ofNat hm]; omega
      · have hne : (Lib.decDigits (u / 10)).head? ≠ some 48 := by
          intro hh
          have hl := h4.resolve_left (fun hc => hc hh)
          have hz : valN 0 (Lib.decDigits (u / 10)) = 0 := by
            match hd : Lib.decDigits (u / 10), hl with
            | [c], _ =>
              rw [hd] at hh
              simp only [List.head?_cons, Option.some.injEq] at hh
              rw [hh]; rfl
          rw [h3] at hz; omega
        cases hd : Lib.decDigits (u / 10) with
        | nil => exact absurd hd h2
        | cons a l => rw [hd] at hne; simpa using hne
      · cases k with
        | zero => omega
        | succ k =>
          have hk0 : k ≠ 0 := by rintro rfl; simp at hu; omega
          have := h5 k (by omega) (by rw [Nat.pow_succ] at hu; omega)
          rw [List.length_append]; simpa using this
theorem dec_ok {u : Nat} (h : u < 1000000000) : digOk (Lib.decDigits u) := by
  obtain ⟨h1, h2, h3, h4, h5⟩ := dec_spec u
  exact ⟨h2, h5 9 (by decide) (by simpa using h), h1, h4⟩
theorem dec_val : ∀ (k : Nat) (d : List UInt8), d.length = k → d ≠ [] → isDig d → (d.head? ≠ some 48 ∨ d.length = 1) → Lib.decDigits (valN 0 d) = d
  | 0, d, h, hn, _, _ => absurd (List.length_eq_zero_iff.1 h) hn
  | k + 1, d, h, hn, hd, hh => by
    obtain ⟨a, c, rfl⟩ : ∃ a c, d = a ++ [c] := ⟨d.dropLast, d.getLast hn, (List.dropLast_concat_getLast hn).symm⟩
    obtain ⟨ha, hc⟩ := isDig_app.1 hd
    have hcc := hc c (by simp)
    have hce : UInt8.ofNat (48 + (c.toNat - 48)) = c := by
      rw [show 48 + (c.toNat - 48) = c.toNat by omega]; exact UInt8.ofNat_toNat
    rw [valN_snoc]
    by_cases ha0 : a = []
    · subst ha0
      rw [Lib.decDigits, dif_pos (by show 10 * 0 + (c.toNat - 48) < 10; omega)]
      show [UInt8.ofNat (48 + (10 * 0 + (c.toNat - 48)))] = [c]
      rw [show 10 * 0 + (c.toNat - 48) = c.toNat - 48 by omega, hce]
    · have hl : 0 < a.length := List.length_pos_iff.2 ha0
      have hh2 : a.head? ≠ some 48 := by
        have h1 := hh.resolve_right (by simp; omega)
        cases a with
        | nil => exact absurd rfl ha0
        | cons x l => simpa using h1
      have hp := valN_pos ha ha0 hh2
      rw [Lib.decDigits, dif_neg (by omega)]
      rw [show (10 * valN 0 a + (c.toNat - 48)) / 10 = valN 0 a by omega, show (10 * valN 0 a + (c.toNat - 48)) % 10 = c.toNat - 48 by omega, hce]
      rw [dec_val k a (by simp at h; omega) ha0 ha (.inl hh2)]
theorem val_lt9 {d : List UInt8} (h : digOk d) : valN 0 d < 1000000000 := by
  have h1 := valN_lt d 0 0 h.2.2.1 (by decide)
  rw [Nat.zero_add] at h1
  have h2 : (10 : Nat) ^ d.length ≤ 10 ^ 9 := Nat.pow_le_pow_right (by decide) h.2.1
  omega
theorem val_lt9' {d : List UInt8} (h : isDig d) (hl : d.length ≤ 9) : valN 0 d < 1000000000 := by
  have h1 := valN_lt d 0 0 h (by decide)
  rw [Nat.zero_add] at h1
  have h2 : (10 : Nat) ^ d.length ≤ 10 ^ 9 := Nat.pow_le_pow_right (by decide) hl
  omega
theorem dig_ne {d : List UInt8} (h : isDig d) {c : UInt8} (hc : c.toNat < 48) : d.head? ≠ some c := by
  cases d with
  | nil => simp
  | cons x l =>
    intro e
    simp only [List.head?_cons, Option.some.injEq] at e
    have := (isDig_cons.1 h).1
    rw [e] at this; omega
theorem num_itoa {n : Int} (h1 : -1000000000 < n) (h2 : n < 1000000000) : num (Lib.itoa n) = some n := by
  unfold num Lib.itoa
  by_cases h : n < 0
  · have hk : n.natAbs < 1000000000 := by omega
    have hs := dec_spec n.natAbs
    have hne : Lib.decDigits n.natAbs ≠ [48] := fun e => by
      have : valN 0 (Lib.decDigits n.natAbs) = 0 := by rw [e]; rfl
      rw [hs.2.2.1] at this; omega
    rw [if_pos h, if_pos (show (45 :: Lib.decDigits n.natAbs).head? = some 45 from rfl), if_pos (show digOk (45 :: Lib.decDigits n.natAbs).tail ∧ (45 :: Lib.decDigits n.natAbs).tail ≠ [48] from ⟨dec_ok hk, hne⟩)]
    show some (-(valN 0 (Lib.decDigits n.natAbs) : Int)) = some n
    rw [hs.2.2.1]
    congr 1; omega
  · have hk : n.toNat < 1000000000 := by omega
    have hs := dec_spec n.toNat
    rw [if_neg h, if_neg (dig_ne hs.1 (by decide)), if_pos (dec_ok hk), hs.2.2.1]
    congr 1; omega
theorem itoa_num {w : List UInt8} {v : Int} (h : num w = some v) : Lib.itoa v = w ∧ -1000000000 < v ∧ v < 1000000000 := by
  unfold num at h
  split at h
  · rename_i hh
    split at h
    case isFalse => cases h
    rename_i hk
    simp only [Option.some.injEq] at h
    have hp : 1 ≤ valN 0 w.tail := by
      have := mt (val_zero hk.1).1 hk.2
      omega
    have hl := val_lt9 hk.1
    refine ⟨?_, by omega, by omega⟩
    unfold Lib.itoa
    rw [if_pos (by omega), show v.natAbs = valN 0 w.tail by omega, dec_val _ _ rfl hk.1.1 hk.1.2.2.1 hk.1.2.2.2]
    cases w with
    | nil => cases hh
    | cons x l =>
      simp only [List.head?_cons, Option.some.injEq] at hh
      rw [hh]; rfl
  · split at h
    case isFalse => cases h
    rename_i hk
    simp only [Option.some.injEq] at h
    have hl := val_lt9 hk
    refine ⟨?_, by omega, by omega⟩
    unfold Lib.itoa
    rw [if_neg (by omega), show v.toNat = valN 0 w by omega, dec_val _ _ rfl hk.1 hk.2.2.1 hk.2.2.2]
/-- A number's text has no byte below '-' and none above '9'. -/
theorem itoa_mem {n : Int} {c : UInt8} (h : c ∈ Lib.itoa n) : c = 45 ∨ 48 ≤ c.toNat ∧ c.toNat ≤ 57 := by
  unfold Lib.itoa at h
  split at h
  · rcases List.mem_cons.1 h with h | h
    · exact .inl h
    · exact .inr ((dec_spec _).1 c h)
  · exact .inr ((dec_spec _).1 c h)
theorem itoa_free {n : Int} {c : UInt8} (h : c.toNat < 45) : c ∉ Lib.itoa n := by
  intro hm
  rcases itoa_mem hm with h1 | h1
  · rw [h1] at h; exact absurd h (by decide)
  · omega
theorem itoa_len {n : Int} (h1 : -1000000000 < n) (h2 : n < 1000000000) : (Lib.itoa n).length ≤ 10 := by
  unfold Lib.itoa
  split
  · have := (dec_ok (u := n.natAbs) (by omega)).2.1
    simp only [List.length_cons]; omega
  · have := (dec_ok (u := n.toNat) (by omega)).2.1
    omega
end Go.Proofs.YtoblljobcafecaaGreatDoor
