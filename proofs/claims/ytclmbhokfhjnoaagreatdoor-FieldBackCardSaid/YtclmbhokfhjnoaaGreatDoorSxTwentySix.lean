/-
  What the printed contracts lean on where a map is looked up.
-/
import Derived.Test.YtclmbhokfhjnoaaGreatDoorSxTwentyFour
set_option linter.unusedVariables false
set_option linter.unusedSimpArgs false
set_option linter.unnecessarySimpa false
namespace Go.SX
theorem mel_ok {α : Type} {un : D → Option α} {enc : α → D} (hun : ∀ {d : D} {x : α}, un d = some x → d = enc x) {k : Value} {es : List D} {x : α} (h : (mfind k es).bind un = some x) : mfind k es = some (enc x) := by
  obtain ⟨d, h1, h2⟩ := bnd_of h
  rw [h1, hun h2]
theorem mno {k : Value} {es : List D} (h : ¬ (mfind k es).isSome = true) : mfind k es = none := by
  cases hm : mfind k es with
  | none => rfl
  | some x => rw [hm] at h; exact absurd rfl h
theorem mlook_hit {k : Value} {z x : D} {es : List D} (hm : mok k es = true) (h : mfind k es = some x) : mlook true k z es = some (.tup [x, B true]) := by
  unfold mlook; rw [hm, h]
theorem mlook_hit1 {k : Value} {z x : D} {es : List D} (hm : mok k es = true) (h : mfind k es = some x) : mlook false k z es = some x := by
  unfold mlook; rw [hm, h]
theorem mlook_miss {k : Value} {z : D} {es : List D} (hm : mok k es = true) (h : mfind k es = none) : mlook true k z es = some (.tup [z, B false]) := by
  unfold mlook; rw [hm, h]
theorem mlook_miss1 {k : Value} {z : D} {es : List D} (hm : mok k es = true) (h : mfind k es = none) : mlook false k z es = some z := by
  unfold mlook; rw [hm, h]
/-- Keys that are integers of one kind. -/
theorem mok_map {α : Type} {f : α → D} {g : α → Int} {kd : IntKind} {a : Int} (hf : ∀ x, keyOf (f x) = some (.int kd (g x), (keyOf (f x)).get!.2)) : ∀ l : List α, mok (.int kd a) (l.map f) = true
  | [] => rfl
  | x :: l => by
    rw [List.map_cons]
    unfold mok
    rw [hf x]
    simp [sameK, mok_map hf l]
end Go.SX
