/-
  Plain lemmas of chapter 4: what the checks of mirrors answer. An own text.
-/
import Derived.Test.YtojmcpnpojdnmaaGreatDoorVec
import Derived.Test.YtojmcpnpojdnmaaGreatDoorNameLaw
set_option linter.unusedVariables false
set_option linter.unusedSimpArgs false
set_option linter.unnecessarySimpa false
set_option maxRecDepth 20000
namespace Go.Proofs.YtojmcpnpojdnmaaGreatDoor
open Go.SX

theorem first3 {n : Nat} (hn : 10 ≤ n) (a b c : Int) : F_field_first n [I a, I b, I c] = some (firstNZ [a, b, c]) := first_eq [a, b, c] (by simp) (by simp; omega)
theorem first4 {n : Nat} (hn : 10 ≤ n) (a b c d : Int) : F_field_first n [I a, I b, I c, I d] = some (firstNZ [a, b, c, d]) := first_eq [a, b, c, d] (by simp) (by simp; omega)
theorem refFirst3 {n : Nat} (hn : 10 ≤ n) (a b c : Int) : F_ref01_First n [I a, I b, I c] = some (firstNZ [a, b, c]) := refFirst_eq [a, b, c] (by simp) (by simp; omega)
theorem refFirst4 {n : Nat} (hn : 10 ≤ n) (a b c d : Int) : F_ref01_First n [I a, I b, I c, I d] = some (firstNZ [a, b, c, d]) := refFirst_eq [a, b, c, d] (by simp) (by simp; omega)

def pE (v : Vec) (m : Int) : Int := firstNZ [inR v.1 (-m) m, inR v.2.1 (-m) m, inR v.2.2 (-m) m]
theorem parts_eq {n : Nat} (hn : 10 ≤ n) (v : Vec) {m : Int} (h : 0 ≤ m ∧ m ≤ L) : F_field_checkParts n v.1 v.2.1 v.2.2 m = some (pE v m) := by
  have hw := wrapN_eq (x := m) (by unfold L at *; omega)
  unfold F_field_checkParts
  rw [hw, within_eq, Option.bind_some, within_eq, Option.bind_some, within_eq, Option.bind_some, first3 hn]; rfl
theorem refParts_eq {n : Nat} (hn : 10 ≤ n) (v : Vec) {m : Int} (h : 0 ≤ m ∧ m ≤ L) : F_ref04_checkParts n v.1 v.2.1 v.2.2 m = some (pE v m) := by
  unfold F_ref04_checkParts
  unfold L at h
  rw [if_pos (by unfold inI64; omega), Int.zero_sub, range_eq, Option.bind_some, range_eq, Option.bind_some, range_eq, Option.bind_some, refFirst3 hn]; rfl
theorem pE_zero {v : Vec} {m : Int} (h : pE v m = 0) : Bd m v :=
  ⟨inR_zero (firstNZ_zero h _ (by simp)), inR_zero (firstNZ_zero h _ (by simp)), inR_zero (firstNZ_zero h _ (by simp))⟩
def zeroB (v : Vec) : Bool := (v.1 == 0) && ((v.2.1 == 0) && ((v.2.2 == 0) && true))
def mirE (m : Mir) : Int :=
  if firstNZ [whenI (!nameB m.name) 8, pE m.c 4096, pE m.u 64, pE m.v 64] = 0 then whenI (zeroB m.nrm) 17
  else firstNZ [whenI (!nameB m.name) 8, pE m.c 4096, pE m.u 64, pE m.v 64]
theorem ok_of {m : Mir} (h : firstNZ [whenI (!nameB m.name) 8, pE m.c 4096, pE m.u 64, pE m.v 64] = 0) : m.Ok :=
  ⟨pE_zero (firstNZ_zero h (pE m.c 4096) (by simp)), pE_zero (firstNZ_zero h (pE m.u 64) (by simp)), pE_zero (firstNZ_zero h (pE m.v 64) (by simp))⟩
theorem mirE_zero {m : Mir} (h : mirE m = 0) : m.Ok := by
  unfold mirE at h
  by_cases h1 : firstNZ [whenI (!nameB m.name) 8, pE m.c 4096, pE m.u 64, pE m.v 64] = 0
  · exact ok_of h1
  · rw [if_neg h1] at h; exact absurd h h1
theorem check_eq {n : Nat} (hn : 100 ≤ n) {m : Mir} (hz : m.name.size < n) : F_field_Mirror_check n m.name m.c.1 m.c.2.1 m.c.2.2 m.u.1 m.u.2.1 m.u.2.2 m.v.1 m.v.2.1 m.v.2.2 = some (mirE m) := by
  unfold F_field_Mirror_check mirE
  rw [isName_eq hz, Option.bind_some, when_eq, Option.bind_some, parts_eq (by omega) m.c (by decide), Option.bind_some, parts_eq (by omega) m.u (by decide), Option.bind_some, parts_eq (by omega) m.v (by decide), Option.bind_some, first4 (by omega), Option.bind_some]
  by_cases h : firstNZ [whenI (!nameB m.name) 8, pE m.c 4096, pE m.u 64, pE m.v 64] = 0
  · rw [if_pos h, if_pos h, normal_eq n (ok_of h), Option.bind_some, when_eq]; rfl
  · rw [if_neg h, if_neg h]
theorem refCheck_eq {n : Nat} (hn : 100 ≤ n) (m : Mir) : F_ref04_CheckMirror n m.name m.c.1 m.c.2.1 m.c.2.2 m.u.1 m.u.2.1 m.u.2.2 m.v.1 m.v.2.1 m.v.2.2 = some (mirE m) := by
  unfold F_ref04_CheckMirror F_ref01_CheckName mirE
  rw [refName_eq hn, Option.bind_some, refWhen_eq, Option.bind_some, Option.bind_some, refParts_eq (by omega) m.c (by decide), Option.bind_some, refParts_eq (by omega) m.u (by decide), Option.bind_some, refParts_eq (by omega) m.v (by decide), Option.bind_some, refFirst4 (by omega), Option.bind_some]
  by_cases h : firstNZ [whenI (!nameB m.name) 8, pE m.c 4096, pE m.u 64, pE m.v 64] = 0
  · rw [if_pos h, if_pos h, refCross_eq n ((ok_of h).u.cross (ok_of h).v rfl (by decide) (by decide)) (by decide), Option.bind_some, refWhen_eq]; rfl
  · rw [if_neg h, if_neg h]
def dirE (v : Vec) (m : Int) : Int := firstNZ [pE v m, whenI (zeroB v) 6]
theorem dir_eq {n : Nat} (hn : 10 ≤ n) (v : Vec) {m : Int} (h : 0 ≤ m ∧ m ≤ L) : F_field_checkDirection n v.1 v.2.1 v.2.2 m = some (dirE v m) := by
  unfold F_field_checkDirection
  rw [parts_eq hn v h, Option.bind_some, when_eq, Option.bind_some, first2 hn]; rfl
theorem dirE_zero {v : Vec} {m : Int} (h : dirE v m = 0) : Bd m v := pE_zero (firstNZ_zero h (pE v m) (by simp))
end Go.Proofs.YtojmcpnpojdnmaaGreatDoor
