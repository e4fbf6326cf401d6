/-
  Euclid's loop as a function, and quotients in lowest terms. An own text.
-/
import Derived.Test.YtojmcpnpojdnmaaGreatDoorSxTwentyFive
set_option linter.unusedVariables false
set_option linter.unusedSimpArgs false
set_option linter.unnecessarySimpa false
set_option maxRecDepth 20000
namespace Go.Proofs.YtojmcpnpojdnmaaGreatDoor
open Go.SX

theorem gcd_step {a b : Nat} (h : b ≠ 0) (hb : b ≤ a) : 2 * (a % b) < a := by
  have h1 := Nat.mod_lt a (Nat.pos_of_ne_zero h)
  have h2 := Nat.div_add_mod a b
  have h3 : 1 ≤ a / b := Nat.div_pos hb (Nat.pos_of_ne_zero h)
  have h4 : b * 1 ≤ b * (a / b) := Nat.mul_le_mul_left _ h3
  omega
theorem euclid0 {f : Int × Int → Option ((Int × Int) ⊕ Int)} (hf : ∀ a b : Int, f (a, b) = if b = 0 then some (.inr a) else some (.inl (b, Int.tmod a b))) :
    ∀ (N a b : Nat), b ≤ a → a * b < 2 ^ N → ∀ k, N + 2 ≤ k → loopF f k ((a : Int), (b : Int)) = some ((Nat.gcd a b : Nat) : Int)
  | N, a, 0, _, _, k, hk => by
    obtain ⟨k, rfl⟩ : ∃ j, k = j + 1 := ⟨k - 1, by omega⟩
    rw [loopF_r (e := (a : Int)) (by rw [hf]; simp), Nat.gcd_zero_right]
  | 0, a, b + 1, hb, hp, k, hk => by
    exfalso
    have : 1 * 1 ≤ a * (b + 1) := Nat.mul_le_mul (by omega) (by omega)
    simp at hp
    omega
  | N + 1, a, b + 1, hb, hp, k, hk => by
    obtain ⟨k, rfl⟩ : ∃ j, k = j + 1 := ⟨k - 1, by omega⟩
    have hne : b + 1 ≠ 0 := by omega
    rw [loopF_l (s' := (((b + 1 : Nat) : Int), ((a % (b + 1) : Nat) : Int))) (by rw [hf, if_neg (by omega), Int.ofNat_tmod])]
    have h1 := Nat.mod_lt a (Nat.pos_of_ne_zero hne)
    have h2 := gcd_step hne hb
    have h3 : 2 * ((b + 1) * (a % (b + 1))) ≤ a * (b + 1) := by
      calc 2 * ((b + 1) * (a % (b + 1))) = (b + 1) * (2 * (a % (b + 1))) := by rw [Nat.mul_left_comm]
        _ ≤ (b + 1) * a := Nat.mul_le_mul_left _ (by omega)
        _ = a * (b + 1) := Nat.mul_comm _ _
    rw [euclid0 hf N (b + 1) (a % (b + 1)) (by omega) (by rw [Nat.pow_succ] at hp; omega) k (by omega)]
    rw [Nat.gcd_comm a (b + 1), Nat.gcd_rec (b + 1) a, Nat.gcd_comm]
theorem euclid {f : Int × Int → Option ((Int × Int) ⊕ Int)} (hf : ∀ a b : Int, f (a, b) = if b = 0 then some (.inr a) else some (.inl (b, Int.tmod a b)))
    {N a b : Nat} (hp : a * b < 2 ^ N) {k : Nat} (hk : N + 3 ≤ k) : loopF f k ((a : Int), (b : Int)) = some ((Nat.gcd a b : Nat) : Int) := by
  by_cases hb : b ≤ a
  · exact euclid0 hf N a b hb hp k (by omega)
  · obtain ⟨k, rfl⟩ : ∃ j, k = j + 1 := ⟨k - 1, by omega⟩
    rw [loopF_l (s' := ((b : Int), (a : Int))) (by rw [hf, if_neg (by omega), Int.tmod_eq_of_lt (by omega) (by omega)])]
    rw [euclid0 hf N b a (by omega) (by rw [Nat.mul_comm]; exact hp) k (by omega), Nat.gcd_comm]

def low (a b : Nat) : Nat × Nat := (a / Nat.gcd a b, b / Nat.gcd a b)
theorem low_mul {g : Nat} (hg : 0 < g) (a b : Nat) : low (g * a) (g * b) = low a b := by
  unfold low
  rw [Nat.gcd_mul_left, Nat.mul_div_mul_left _ _ hg, Nat.mul_div_mul_left _ _ hg]
theorem low_step {a b : Nat} (h : 0 < b) (c d : Nat) : low ((low a b).1 * c) ((low a b).2 * d) = low (a * c) (b * d) := by
  have hg : 0 < Nat.gcd a b := Nat.gcd_pos_of_pos_right _ h
  have h1 : Nat.gcd a b * (low a b).1 = a := Nat.mul_div_cancel' (Nat.gcd_dvd_left a b)
  have h2 : Nat.gcd a b * (low a b).2 = b := Nat.mul_div_cancel' (Nat.gcd_dvd_right a b)
  rw [← low_mul hg ((low a b).1 * c) ((low a b).2 * d), ← Nat.mul_assoc, ← Nat.mul_assoc, h1, h2]
theorem low_pos {a b : Nat} (h : 0 < b) : 0 < (low a b).2 :=
  Nat.div_pos (Nat.le_of_dvd h (Nat.gcd_dvd_right a b)) (Nat.gcd_pos_of_pos_right _ h)
theorem low_le (a b : Nat) : (low a b).1 ≤ a ∧ (low a b).2 ≤ b := ⟨Nat.div_le_self _ _, Nat.div_le_self _ _⟩
end Go.Proofs.YtojmcpnpojdnmaaGreatDoor
