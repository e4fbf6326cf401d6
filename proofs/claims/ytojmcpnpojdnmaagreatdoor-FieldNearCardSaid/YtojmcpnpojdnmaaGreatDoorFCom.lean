/-
  Plain lemmas of chapter 4: first errors, ranges, points, sides of lines. An own text.
-/
import Derived.Test.YtojmcpnpojdnmaaGreatDoorGen3
import Derived.Test.YtojmcpnpojdnmaaGreatDoorSxTwentyFive
set_option linter.unusedVariables false
set_option linter.unusedSimpArgs false
set_option linter.unnecessarySimpa false
set_option maxRecDepth 20000
namespace Go.Proofs.YtojmcpnpojdnmaaGreatDoor
open Go.SX

def firstNZ : List Int → Int
  | [] => 0
  | x :: l => if x = 0 then firstNZ l else x
theorem lenlt {α β : Type} {f : α → β} {l : List α} {i : Nat} {x : α} (h : l[i]? = some x) : (i : Int) < ((l.map f).length : Int) := by
  have := (List.getElem?_eq_some_iff.1 h).1
  simp; omega
theorem el_map {ms : List Int} {i : Nat} {x : Int} (h : ms[i]? = some x) : el un_i (ms.map I) (i : Int) = some x := el_enc (un := un_i) (enc := I) (fun _ => rfl) h

def fG (_ : Unit) (x : Int) : Unit ⊕ (Int ⊕ Unit) := if x = 0 then .inl () else .inr (.inl x)
theorem runL_first : ∀ (l : List Int), runL fG (fun _ => .inr ()) l () = if firstNZ l = 0 then .inr () else .inl (firstNZ l)
  | [] => rfl
  | x :: l => by
    unfold runL fG
    by_cases h : x = 0
    · rw [if_pos h]; simp only [firstNZ, if_pos h]; exact runL_first l
    · rw [if_neg h]; simp only [firstNZ, if_neg h]
theorem first_eq {n : Nat} (ms : List Int) (hm : ms.length < 9223372036854775807) (hn : ms.length < n) : F_field_first n (ms.map I) = some (firstNZ ms) := by
  unfold F_field_first
  have := loopF_list0 (step := F_field_first_L1 n (ms.map I)) fG (fun _ => .inr ()) (fun i _ => (i : Int)) ms (fun _ _ => True)
    (fun i s x hx _ => by
      unfold fG F_field_first_L1
      have hi := (List.getElem?_eq_some_iff.1 hx).1
      by_cases h : x = 0
      · rw [if_pos h]
        refine ⟨?_, trivial⟩
        rw [if_pos (lenlt hx), el_map hx, Option.bind_some, if_pos h, if_pos (by unfold inI64; omega)]; rfl
      · rw [if_neg h]
        dsimp only
        rw [if_pos (lenlt hx), el_map hx, Option.bind_some, if_neg h])
    (fun s _ => by unfold F_field_first_L1; rw [if_neg (by simp)]) (s := ()) trivial hn
  rw [show (0 : Int) = ((0 : Nat) : Int) from rfl, this, runL_first]
  by_cases h : firstNZ ms = 0
  · rw [if_pos h, h]; rfl
  · rw [if_neg h]; rfl
theorem refFirst_eq {n : Nat} (ms : List Int) (hm : ms.length < 9223372036854775807) (hn : ms.length < n) : F_ref01_First n (ms.map I) = some (firstNZ ms) := by
  unfold F_ref01_First
  have := loopF_list0 (step := F_ref01_First_L1 n (ms.map I)) fG (fun _ => .inr ()) (fun i _ => (i : Int)) ms (fun _ _ => True)
    (fun i s x hx _ => by
      unfold fG F_ref01_First_L1
      have hi := (List.getElem?_eq_some_iff.1 hx).1
      by_cases h : x = 0
      · rw [if_pos h]
        refine ⟨?_, trivial⟩
        rw [if_pos (lenlt hx), el_map hx, Option.bind_some, if_pos h, if_pos (by unfold inI64; omega)]; rfl
      · rw [if_neg h]
        dsimp only
        rw [if_pos (lenlt hx), el_map hx, Option.bind_some, if_neg h])
    (fun s _ => by unfold F_ref01_First_L1; rw [if_neg (by simp)]) (s := ()) trivial hn
  rw [show (0 : Int) = ((0 : Nat) : Int) from rfl, this, runL_first]
  by_cases h : firstNZ ms = 0
  · rw [if_pos h, h]; rfl
  · rw [if_neg h]; rfl
theorem first2 {n : Nat} (hn : 10 ≤ n) (a b : Int) : F_field_first n [I a, I b] = some (firstNZ [a, b]) := first_eq [a, b] (by simp) (by simp; omega)
theorem refFirst2 {n : Nat} (hn : 10 ≤ n) (a b : Int) : F_ref01_First n [I a, I b] = some (firstNZ [a, b]) := refFirst_eq [a, b] (by simp) (by simp; omega)

def inR (x lo hi : Int) : Int := if x < lo then 3 else if x > hi then 3 else 0
theorem within_eq (n : Nat) (x lo hi : Int) : F_field_within n x lo hi = some (inR x lo hi) := by
  unfold F_field_within F_field_when F_field_when_2 inR
  by_cases h : x < lo
  · simp [h]
  · by_cases h2 : x > hi
    · simp [h, h2]
    · simp [h, h2]
theorem range_eq (n : Nat) (x lo hi : Int) : F_ref01_CheckRange n x lo hi = some (inR x lo hi) := by
  unfold F_ref01_CheckRange F_ref01_When F_ref01_When_2 inR
  by_cases h : x < lo
  · simp [h]
  · by_cases h2 : x > hi
    · simp [h, h2]
    · simp [h, h2]
theorem inR_zero {x lo hi : Int} (h : inR x lo hi = 0) : lo ≤ x ∧ x ≤ hi := by
  unfold inR at h
  repeat' split at h
  all_goals omega
def whenI (b : Bool) (e : Int) : Int := if b then e else 0
theorem when_eq (n : Nat) (b : Bool) (e : Int) : F_field_when n b e = some (whenI b e) := by
  unfold F_field_when whenI; cases b <;> rfl
theorem refWhen_eq (n : Nat) (b : Bool) (e : Int) : F_ref01_When n b e = some (whenI b e) := by
  unfold F_ref01_When whenI; cases b <;> rfl
theorem firstNZ_zero : ∀ {l : List Int}, firstNZ l = 0 → ∀ x, x ∈ l → x = 0
  | [], _, x, hx => by cases hx
  | y :: l, h, x, hx => by
    unfold firstNZ at h
    split at h
    · rename_i hy
      cases hx with
      | head => exact hy
      | tail _ hx => exact firstNZ_zero h x hx
    · rename_i hy; exact absurd h hy

theorem mul_pq {g c p q : Int} (hp : 0 ≤ p) (hg : -p ≤ g ∧ g ≤ p) (hq : 0 ≤ q) (hc : -q ≤ c ∧ c ≤ q) : -(p * q) ≤ g * c ∧ g * c ≤ p * q := by
  have h := Int.natAbs_mul g c
  have h1 : g.natAbs * c.natAbs ≤ p.natAbs * q.natAbs := Nat.mul_le_mul (by omega) (by omega)
  have h2 := Int.natAbs_mul p q
  have h3 : 0 ≤ p * q := Int.mul_nonneg hp hq
  omega
end Go.Proofs.YtojmcpnpojdnmaaGreatDoor
