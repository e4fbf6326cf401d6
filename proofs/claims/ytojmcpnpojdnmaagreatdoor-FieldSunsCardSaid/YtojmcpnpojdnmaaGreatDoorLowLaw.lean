/-
  Quotients in lowest terms, as the program and the reference make them. An own text.
-/
import Derived.Test.YtojmcpnpojdnmaaGreatDoorFCom
import Derived.Test.YtojmcpnpojdnmaaGreatDoorGcd
import Derived.Test.YtojmcpnpojdnmaaGreatDoorSuns1
set_option linter.unusedVariables false
set_option linter.unusedSimpArgs false
set_option linter.unnecessarySimpa false
set_option maxRecDepth 20000
namespace Go.Proofs.YtojmcpnpojdnmaaGreatDoor
open Go.SX

/-! Lowest terms. -/
theorem pow62 : (2 : Nat) ^ 62 = 4611686018427387904 := by decide
theorem tdiv_nat (a b : Nat) : Int.tdiv (a : Int) (b : Int) = ((a / b : Nat) : Int) := Int.ofNat_tdiv a b
theorem lowest_eq {n : Nat} (hn : 500 ≤ n) {a b : Nat} (hb : 0 < b) (ha : a < 2 ^ 62) (hb2 : b < 2 ^ 62) : F_field_lowest n (a : Int) (b : Int) = some (((low a b).1 : Int), ((low a b).2 : Int)) := by
  unfold F_field_lowest
  have hg : 0 < Nat.gcd a b := Nat.gcd_pos_of_pos_right _ hb
  have hp : a * b < 2 ^ 124 := by
    calc a * b < 2 ^ 62 * 2 ^ 62 := Nat.mul_lt_mul'' ha hb2
      _ = 2 ^ 124 := by decide
  rw [euclid (f := F_field_lowest_L1 n (a : Int) (b : Int)) (fun x y => by
    unfold F_field_lowest_L1
    dsimp only
    by_cases h : y = 0
    · rw [if_pos h, if_pos h]
    · rw [if_neg h, if_neg h, if_pos h]) hp (by omega), Option.bind_some, if_pos (by omega), tdiv_nat, tdiv_nat]
  have h1 := (low_le a b).1
  have h2 := (low_le a b).2
  unfold low at h1 h2 ⊢
  dsimp only at h1 h2 ⊢
  generalize a / Nat.gcd a b = x at *
  generalize b / Nat.gcd a b = y at *
  rw [pow62] at ha hb2
  rw [if_pos (by unfold inI64; omega), if_pos (by unfold inI64; omega)]
theorem divisor_eq {n : Nat} (hn : 500 ≤ n) (a : Int) {b : Nat} (hb : 0 < b) (ha : a.natAbs < 2 ^ 62) (hb2 : b < 2 ^ 62) : F_ref01_Divisor n a (b : Int) = some ((Nat.gcd a.natAbs b : Nat) : Int) := by
  have hg : 0 < Nat.gcd a.natAbs b := Nat.gcd_pos_of_pos_right _ hb
  have hp : a.natAbs * b < 2 ^ 124 := by
    calc a.natAbs * b < 2 ^ 62 * 2 ^ 62 := Nat.mul_lt_mul'' ha hb2
      _ = 2 ^ 124 := by decide
  unfold F_ref01_Divisor
  by_cases h : a < 0
  · rw [if_pos h, if_pos (by unfold inI64; omega), if_neg (by omega)]
    rw [show (0 - a) = ((a.natAbs : Nat) : Int) by omega, euclid (f := F_ref01_Divisor_L2 n) (fun x y => by
      unfold F_ref01_Divisor_L2
      dsimp only
      by_cases h : y = 0
      · rw [if_pos h, if_pos h]
      · rw [if_neg h, if_neg h, if_pos h]) hp (by omega), Option.bind_some, if_neg (by omega)]
  · rw [if_neg h, if_neg (by omega)]
    rw [show a = ((a.natAbs : Nat) : Int) by omega]
    simp only [Int.natAbs_natCast]
    rw [euclid (f := F_ref01_Divisor_L4 n) (fun x y => by
      unfold F_ref01_Divisor_L4
      dsimp only
      by_cases h : y = 0
      · rw [if_pos h, if_pos h]
      · rw [if_neg h, if_neg h, if_pos h]) hp (by omega), Option.bind_some, if_neg (by omega)]
theorem refLowest_eq {n : Nat} (hn : 500 ≤ n) {a b : Nat} (hb : 0 < b) (ha : a < 2 ^ 62) (hb2 : b < 2 ^ 62) : F_ref01_Lowest n (a : Int) (b : Int) = some (((low a b).1 : Int), ((low a b).2 : Int)) := by
  unfold F_ref01_Lowest
  have hg : 0 < Nat.gcd a b := Nat.gcd_pos_of_pos_right _ hb
  rw [if_neg (by omega), divisor_eq hn (a : Int) hb (by simpa using ha) hb2, Option.bind_some, Int.natAbs_natCast, if_pos (by omega), tdiv_nat, tdiv_nat]
  have h1 := (low_le a b).1
  have h2 := (low_le a b).2
  unfold low at h1 h2 ⊢
  dsimp only at h1 h2 ⊢
  generalize a / Nat.gcd a b = x at *
  generalize b / Nat.gcd a b = y at *
  rw [pow62] at ha hb2
  rw [if_pos (by unfold inI64; omega), if_pos (by unfold inI64; omega)]

end Go.Proofs.YtojmcpnpojdnmaaGreatDoor
