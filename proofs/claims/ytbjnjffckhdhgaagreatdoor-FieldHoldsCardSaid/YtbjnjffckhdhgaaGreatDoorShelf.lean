/-
  What strings.Join computes, from the kit's shelf. An own text; the laying as the kit's tools lay-shelf.mjs and lay-plain.mjs print it for this seat.
-/
import Derived.Test.YtbjnjffckhdhgaaGreatDoorBase
import Derived.WalkKit
import Derived.WalkSpells
import Derived.WalkLawsBesides
import Derived.Laws.Externs
import Derived.Shelf.Strings.OnBuilder
import Derived.Shelf.LaysM
set_option linter.unusedVariables false
set_option linter.unusedSimpArgs false
set_option linter.unnecessarySimpa false
set_option maxRecDepth 10000
namespace Go.Proofs.YtbjnjffckhdhgaaGreatDoor
open Go.SX Go.RowKit Go.Shelf
def Tryz.lays156_ren : Go.Shelf.Ren := ⟨fun | 156 => 77 | 165 => 103 | 166 => 104 | 169 => 105 | 240 => 120 | 241 => 121 | 276 => 139 | 277 => 140 | n => n, fun | 31 => 137 | 9 => 9 | 3 => 3 | 4 => 4 | 0 => 0 | 20 => 20 | 72 => 167 | 76 => 171 | 70 => 164 | 37 => 165 | 75 => 170 | 127 => 194 | 164 => 205 | 5 => 5 | 80 => 140 | n => n, fun | n => n⟩
theorem Tryz.lays156 : Go.Proofs.Lays.n156 Tryz.prog Tryz.lays156_ren := {
  mixed := by kernel_rfl
  f156 := Tryz.func77.trans (congrArg some (by kernel_rfl))
  f165 := Tryz.func103.trans (congrArg some (by kernel_rfl))
  f166 := Tryz.func104.trans (congrArg some (by kernel_rfl))
  f169 := Tryz.func105.trans (congrArg some (by kernel_rfl))
  f240 := Tryz.func120.trans (congrArg some (by kernel_rfl))
  f241 := Tryz.func121.trans (congrArg some (by kernel_rfl))
  f276 := Tryz.func139.trans (congrArg some (by kernel_rfl))
  f277 := Tryz.func140.trans (congrArg some (by kernel_rfl))
  t0 := Tryz.underlying0
  a0 := Tryz.isAgg0
  z0 := Tryz.sizeOf0
  v0 := Tryz.zeroValue0
  t3 := Tryz.underlying3
  a3 := Tryz.isAgg3
  z3 := Tryz.sizeOf3
  v3 := Tryz.zeroValue3
  t4 := Tryz.underlying4
  a4 := Tryz.isAgg4
  z4 := Tryz.sizeOf4
  v4 := Tryz.zeroValue4
  t9 := Tryz.underlying9
  a9 := Tryz.isAgg9
  z9 := Tryz.sizeOf9
  v9 := Tryz.zeroValue9
  t20 := Tryz.underlying20
  a20 := Tryz.isAgg20
  z20 := Tryz.sizeOf20
  v20 := Tryz.zeroValue20
  t31 := Tryz.underlying137
  a31 := Tryz.isAgg137
  z31 := Tryz.sizeOf137
  v31 := Tryz.zeroValue137
  t37 := Tryz.underlying165
  a37 := Tryz.isAgg165
  z37 := Tryz.sizeOf165
  v37 := Tryz.zeroValue165
  t70 := Tryz.underlying164
  a70 := Tryz.isAgg164
  z70 := Tryz.sizeOf164
  v70 := Tryz.zeroValue164
  t72 := Tryz.underlying167
  a72 := Tryz.isAgg167
  z72 := Tryz.sizeOf167
  v72 := Tryz.zeroValue167
  t75 := Tryz.underlying170
  a75 := Tryz.isAgg170
  z75 := Tryz.sizeOf170
  v75 := Tryz.zeroValue170
  t76 := Tryz.underlying171
  a76 := Tryz.isAgg171
  z76 := Tryz.sizeOf171
  v76 := Tryz.zeroValue171
  t127 := Tryz.underlying194
  a127 := Tryz.isAgg194
  z127 := Tryz.sizeOf194
  v127 := Tryz.zeroValue194
  t164 := Tryz.underlying205
  a164 := Tryz.isAgg205
  z164 := Tryz.sizeOf205
  v164 := Tryz.zeroValue205 }
theorem Tryz.Builder_Extra_156 : Builder.Extra Tryz.prog Tryz.lays156_ren := {
  sizeBuilder := by kernel_rfl
  liesBuilder := by kernel_rfl
  t5 := Tryz.underlying5
  a5 := Tryz.isAgg5
  z5 := Tryz.sizeOf5
  v5 := Tryz.zeroValue5
  infoByte := by kernel_rfl
  cellsByte := by kernel_rfl
  sizeByte := by kernel_rfl
  neB5 := by decide }
open Go.RowKit in
/-- No element: the empty string; the world is as it was. (Whatever the slice's address and capacity: a nil slice too.) (LAID: no walk: one application.) -/
def strsOf : List D → Option (List ByteArray)
  | [] => some []
  | d :: l => match un_str d, strsOf l with
    | some x, some xs => some (x :: xs)
    | _, _ => none
theorem strsOf_at : ∀ {l : List D} {xs : List ByteArray}, strsOf l = some xs → l = xs.map fun x => .v (.string x)
  | [], xs, h => by cases h; rfl
  | d :: l, xs, h => by
    unfold strsOf at h
    split at h
    · rename_i x ys h1 h2
      cases h
      rw [un_str_ok h1, strsOf_at h2]; rfl
    · cases h
def joinB (xs : List ByteArray) (sep : ByteArray) : ByteArray := ⟨(Lib.join (xs.map (·.data.toList)) sep.data.toList).toArray⟩
def F_strings_Join (n : Nat) (l : List D) (sep : ByteArray) : Option ByteArray :=
  (strsOf l).bind fun xs => if xs.length ≤ 140737488355328 ∧ (Lib.join (xs.map (·.data.toList)) sep.data.toList).length ≤ 140737488355328 then some (joinB xs sep) else none
theorem c_strings_Join {n : Nat} {full : Bool} {sz : Nat} {l : List D} {sep r : ByteArray} (h : F_strings_Join n l sep = some r) : Computes cx 77 [.lst full sz l, .v (.string sep)] (.v (.string r)) := by
  unfold F_strings_Join at h
  obtain ⟨xs, hx, h⟩ := bnd_of h
  split at h
  case isFalse => cases h
  rename_i hi
  cases h
  have hl := strsOf_at hx
  intro w F vs hF hG hvl hd
  match vs, hvl with
  | [a, b], _ =>
    rw [dr_v (hd 1 _ _ rfl rfl)]
    have ha := hd 0 _ _ rfl rfl
    cases ha with
    | lst _ _ _ a0 cap blk off ys hf hc haa hs hw hdr =>
      cases l with
      | nil =>
        cases xs with
        | cons x xs => simp at hl
        | nil =>
          refine (Any.strings_Join_none Tryz.lays156 Tryz.Builder_Extra_156 a0 cap sep w).mono ?_
          rintro e w' ⟨he, rfl⟩
          exact ⟨_, he, .v _, Ext.refl _ _⟩
      | cons d0 l0 =>
        obtain ⟨h1, h2, h3⟩ := haa (by simp)
        subst h1
        have hlen : (d0 :: l0).length = xs.length := by rw [hl]; simp
        rw [hlen]
        refine (Any.strings_Join Tryz.lays156 Tryz.Builder_Extra_156 blk off cap xs sep w ?_ h3 hi.1 (by omega) hi.2).mono ?_
        · intro j x hj
          have hj' : (d0 :: l0)[j]? = some (.v (.string x)) := by rw [hl]; simp [hj]
          have hz : sz = 1 := by have := hs j _ hj'; simpa [D.cells] using this.symm
          subst hz
          have q1 := (hw j _ 0 _ hj' rfl).1
          have q2 := dr_v (hdr j _ 0 _ hj' rfl)
          rw [q2] at q1
          simpa using q1
        · rintro e w' ⟨he, hb⟩
          exact ⟨_, he, .v _, ext_below hb⟩

end Go.Proofs.YtbjnjffckhdhgaaGreatDoor
