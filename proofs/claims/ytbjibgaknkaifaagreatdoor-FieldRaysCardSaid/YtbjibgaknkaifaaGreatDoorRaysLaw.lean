/-
  FieldRays, the plain law: Meets answers as the reference does. An own text.
-/
import Derived.Test.YtbjibgaknkaifaaGreatDoorMirLaw
import Derived.Test.YtbjibgaknkaifaaGreatDoorRays1
set_option linter.unusedVariables false
set_option linter.unusedSimpArgs false
set_option linter.unnecessarySimpa false
set_option maxRecDepth 20000
namespace Go.Proofs.YtbjibgaknkaifaaGreatDoor
open Go.SX

def rayE (m : Mir) (k : Int) (f al : Vec) : Int := firstNZ [mirE m, inR k 1 8, pE f 131072, dirE al 131072]
theorem rayE_zero {m : Mir} {k : Int} {f al : Vec} (h : rayE m k f al = 0) : m.Ok ∧ (1 ≤ k ∧ k ≤ 8) ∧ Bd 131072 f ∧ Bd 131072 al :=
  ⟨mirE_zero (firstNZ_zero h (mirE m) (by simp)), inR_zero (firstNZ_zero h (inR k 1 8) (by simp)), pE_zero (firstNZ_zero h (pE f 131072) (by simp)), dirE_zero (firstNZ_zero h (dirE al 131072) (by simp))⟩
theorem meetsA_eq {n : Nat} (hn : 100 ≤ n) {m : Mir} (hz : m.name.size < n) (k : Int) (f al : Vec) (e : Bool) :
    F_field_Meets n m.name m.c.1 m.c.2.1 m.c.2.2 m.u.1 m.u.2.1 m.u.2.2 m.v.1 m.v.2.1 m.v.2.2 k f.1 f.2.1 f.2.2 al.1 al.2.1 al.2.2 e = some (if rayE m k f al = 0 then (meetV m k f al e, 0) else (false, rayE m k f al)) := by
  unfold F_field_Meets
  rw [check_eq hn hz, Option.bind_some, checkK_eq, Option.bind_some, parts_eq (by omega) f (by decide), Option.bind_some, dir_eq (by omega) al (by decide), Option.bind_some, first4 (by omega), Option.bind_some]
  by_cases h : rayE m k f al = 0
  · obtain ⟨h1, h2, h3, h4⟩ := rayE_zero h
    rw [if_pos (show firstNZ [mirE m, inR k 1 8, pE f 131072, dirE al 131072] = 0 from h), if_pos h, meets_eq h1 h2 h3 h4]; rfl
  · rw [if_neg (show ¬ firstNZ [mirE m, inR k 1 8, pE f 131072, dirE al 131072] = 0 from h), if_neg h]; rfl
theorem law_rays (m : Mir) (k : Int) (f al : Vec) (e : Bool) :
    F_law04_FieldRays 1000 m.name m.c.1 m.c.2.1 m.c.2.2 m.u.1 m.u.2.1 m.u.2.2 m.v.1 m.v.2.1 m.v.2.2 k f.1 f.2.1 f.2.2 al.1 al.2.1 al.2.2 e = some true := by
  unfold F_law04_FieldRays F_ref04_ShortMirror
  rw [show F_law04_awake 1000 = some true from rfl, Option.bind_some, if_pos rfl, Option.bind_some]
  by_cases hs : (m.name.size : Int) ≤ 40
  · have hl : F_ref04_CheckAlong 1000 al.1 al.2.1 al.2.2 = some (dirE al 131072) := by
      unfold F_ref04_CheckAlong
      rw [refParts_eq (by omega) al (by decide), Option.bind_some, refWhen_eq, Option.bind_some, refFirst2 (by omega)]; rfl
    have hf : F_ref04_CheckFrom 1000 f.1 f.2.1 f.2.2 = some (pE f 131072) := by
      unfold F_ref04_CheckFrom
      rw [refParts_eq (by omega) f (by decide)]; rfl
    rw [if_pos (by simpa using hs), meetsA_eq (by omega) (by omega), Option.bind_some, refCheck_eq (by omega), Option.bind_some, refCheckK_eq, Option.bind_some, hf, Option.bind_some, hl, Option.bind_some, refFirst4 (by omega), Option.bind_some]
    show (if (if rayE m k f al = 0 then (meetV m k f al e, (0 : Int)) else (false, rayE m k f al)).2 = rayE m k f al then
      if rayE m k f al = 0 then (F_ref04_Meets 1000 m.name m.c.1 m.c.2.1 m.c.2.2 m.u.1 m.u.2.1 m.u.2.2 m.v.1 m.v.2.1 m.v.2.2 k f.1 f.2.1 f.2.2 al.1 al.2.1 al.2.2 e).bind fun t13 => some ((if rayE m k f al = 0 then (meetV m k f al e, (0 : Int)) else (false, rayE m k f al)).1 == t13)
      else some ((if rayE m k f al = 0 then (meetV m k f al e, (0 : Int)) else (false, rayE m k f al)).1 == false) else none) = some true
    by_cases h : rayE m k f al = 0
    · obtain ⟨h1, h2, h3, h4⟩ := rayE_zero h
      rw [if_pos h, if_pos h, refMeets_eq h1 h2 h3 h4, if_pos h.symm]; simp
    · rw [if_neg h, if_neg h, if_pos rfl]; rfl
  · rw [if_neg (by simpa using hs)]
theorem law_FieldRays (a0 : ByteArray) (a1 a2 a3 a4 a5 a6 a7 a8 a9 a10 a11 a12 a13 a14 a15 a16 : Int) (a17 : Bool) :
    F_law04_FieldRays 1000 a0 a1 a2 a3 a4 a5 a6 a7 a8 a9 a10 a11 a12 a13 a14 a15 a16 a17 = some true :=
  law_rays ⟨a0, (a1, a2, a3), (a4, a5, a6), (a7, a8, a9)⟩ a10 (a11, a12, a13) (a14, a15, a16) a17
end Go.Proofs.YtbjibgaknkaifaaGreatDoor
