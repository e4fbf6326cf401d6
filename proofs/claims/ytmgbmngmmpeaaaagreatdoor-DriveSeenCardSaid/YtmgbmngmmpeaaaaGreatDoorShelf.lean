/-
  What the library's functions compute, from the kit's shelf; and math.Floor. An own text; the layings and the lines of 'Builder.Extra' as the kit's tools lay-shelf.mjs and lay-plain.mjs print them for this seat.
-/
import Derived.Test.YtmgbmngmmpeaaaaGreatDoorBase
import Derived.WalkKit
import Derived.WalkSpells
import Derived.WalkLawsBesides
import Derived.Laws.Externs
import Derived.Shelf.Strings.OnBuilder
import Derived.Shelf.Strconv.Itoa3
import Derived.Shelf.LaysM
set_option linter.unusedVariables false
set_option linter.unusedSimpArgs false
set_option linter.unnecessarySimpa false
set_option maxRecDepth 10000
namespace Go.Proofs.YtmgbmngmmpeaaaaGreatDoor
open Go.SX Go.RowKit Go.Shelf
def Tryz.lays156_ren : Go.Shelf.Ren := ⟨fun | 156 => 109 | 165 => 135 | 166 => 136 | 169 => 137 | 240 => 163 | 241 => 164 | 276 => 180 | 277 => 181 | n => n, fun | 31 => 161 | 9 => 9 | 3 => 3 | 4 => 4 | 0 => 0 | 20 => 20 | 72 => 243 | 76 => 247 | 70 => 240 | 37 => 241 | 75 => 246 | 127 => 269 | 164 => 279 | 5 => 5 | 80 => 204 | n => n, fun | n => n⟩
theorem Tryz.lays156 : Go.Proofs.Lays.n156 Tryz.prog Tryz.lays156_ren := {
  mixed := by kernel_rfl
  f156 := Tryz.func109.trans (congrArg some (by kernel_rfl))
  f165 := Tryz.func135.trans (congrArg some (by kernel_rfl))
  f166 := Tryz.func136.trans (congrArg some (by kernel_rfl))
  f169 := Tryz.func137.trans (congrArg some (by kernel_rfl))
  f240 := Tryz.func163.trans (congrArg some (by kernel_rfl))
  f241 := Tryz.func164.trans (congrArg some (by kernel_rfl))
  f276 := Tryz.func180.trans (congrArg some (by kernel_rfl))
  f277 := Tryz.func181.trans (congrArg some (by kernel_rfl))
  t0 := Tryz.underlying0
  a0 := Tryz.isAgg0
  z0 := Tryz.sizeOf0
  v0 := Tryz.zeroValue0
  t3 := Tryz.underlying3
  a3 := Tryz.isAgg3
  z3 := Tryz.sizeOf3
  v3 := Tryz.zeroValue3
  t4 := Tryz.underlying4
  a4 := Tryz.isAgg4
  z4 := Tryz.sizeOf4
  v4 := Tryz.zeroValue4
  t9 := Tryz.underlying9
  a9 := Tryz.isAgg9
  z9 := Tryz.sizeOf9
  v9 := Tryz.zeroValue9
  t20 := Tryz.underlying20
  a20 := Tryz.isAgg20
  z20 := Tryz.sizeOf20
  v20 := Tryz.zeroValue20
  t31 := Tryz.underlying161
  a31 := Tryz.isAgg161
  z31 := Tryz.sizeOf161
  v31 := Tryz.zeroValue161
  t37 := Tryz.underlying241
  a37 := Tryz.isAgg241
  z37 := Tryz.sizeOf241
  v37 := Tryz.zeroValue241
  t70 := Tryz.underlying240
  a70 := Tryz.isAgg240
  z70 := Tryz.sizeOf240
  v70 := Tryz.zeroValue240
  t72 := Tryz.underlying243
  a72 := Tryz.isAgg243
  z72 := Tryz.sizeOf243
  v72 := Tryz.zeroValue243
  t75 := Tryz.underlying246
  a75 := Tryz.isAgg246
  z75 := Tryz.sizeOf246
  v75 := Tryz.zeroValue246
  t76 := Tryz.underlying247
  a76 := Tryz.isAgg247
  z76 := Tryz.sizeOf247
  v76 := Tryz.zeroValue247
  t127 := Tryz.underlying269
  a127 := Tryz.isAgg269
  z127 := Tryz.sizeOf269
  v127 := Tryz.zeroValue269
  t164 := Tryz.underlying279
  a164 := Tryz.isAgg279
  z164 := Tryz.sizeOf279
  v164 := Tryz.zeroValue279 }
theorem Tryz.Builder_Extra_156 : Builder.Extra Tryz.prog Tryz.lays156_ren where
  sizeBuilder := by kernel_rfl
  liesBuilder := by kernel_rfl
  t5 := Tryz.underlying5
  a5 := Tryz.isAgg5
  z5 := Tryz.sizeOf5
  v5 := Tryz.zeroValue5
  infoByte := by kernel_rfl
  cellsByte := by kernel_rfl
  sizeByte := by kernel_rfl
  neB5 := by decide
def Tryz.laysM171_ren : Go.Shelf.Ren := ⟨fun | 171 => 139 | 243 => 165 | 246 => 182 | 283 => 193 | 284 => 194 | 285 => 195 | 286 => 196 | 129 => 159 | 317 => 204 | 318 => 205 | 319 => 206 | 320 => 207 | 337 => 211 | 338 => 212 | n => n, fun | 3 => 3 | 9 => 9 | 2 => 2 | 4 => 4 | 171 => 292 | 0 => 0 | 53 => 264 | 37 => 241 | 5 => 5 | 173 => 294 | 212 => 298 | 51 => 262 | 20 => 20 | 213 => 299 | 46 => 236 | 232 => 306 | 233 => 307 | n => n, fun | 17 => 3 | 18 => 6 | 19 => 7 | n => n⟩
theorem Tryz.laysM171 : Go.Proofs.LaysM.n171 Tryz.prog Tryz.laysM171_ren := {
  mixed := by kernel_rfl
  f129 := Tryz.func159.trans (congrArg some (by kernel_rfl))
  f171 := Tryz.func139.trans (congrArg some (by kernel_rfl))
  f243 := Tryz.func165.trans (congrArg some (by kernel_rfl))
  f246 := Tryz.func182.trans (congrArg some (by kernel_rfl))
  f283 := Tryz.func193.trans (congrArg some (by kernel_rfl))
  f284 := Tryz.func194.trans (congrArg some (by kernel_rfl))
  f285 := Tryz.func195.trans (congrArg some (by kernel_rfl))
  f286 := Tryz.func196.trans (congrArg some (by kernel_rfl))
  f317 := Tryz.func204.trans (congrArg some (by kernel_rfl))
  f318 := Tryz.func205.trans (congrArg some (by kernel_rfl))
  f319 := Tryz.func206.trans (congrArg some (by kernel_rfl))
  f320 := Tryz.func207.trans (congrArg some (by kernel_rfl))
  f337 := Tryz.func211.trans (congrArg some (by kernel_rfl))
  f338 := Tryz.func212.trans (congrArg some (by kernel_rfl))
  t0 := Tryz.underlying0
  a0 := Tryz.isAgg0
  z0 := Tryz.sizeOf0
  v0 := Tryz.zeroValue0
  t2 := Tryz.underlying2
  a2 := Tryz.isAgg2
  z2 := Tryz.sizeOf2
  v2 := Tryz.zeroValue2
  t3 := Tryz.underlying3
  a3 := Tryz.isAgg3
  z3 := Tryz.sizeOf3
  v3 := Tryz.zeroValue3
  t4 := Tryz.underlying4
  a4 := Tryz.isAgg4
  z4 := Tryz.sizeOf4
  v4 := Tryz.zeroValue4
  t5 := Tryz.underlying5
  a5 := Tryz.isAgg5
  z5 := Tryz.sizeOf5
  v5 := Tryz.zeroValue5
  t9 := Tryz.underlying9
  a9 := Tryz.isAgg9
  z9 := Tryz.sizeOf9
  v9 := Tryz.zeroValue9
  t20 := Tryz.underlying20
  a20 := Tryz.isAgg20
  z20 := Tryz.sizeOf20
  v20 := Tryz.zeroValue20
  t37 := Tryz.underlying241
  a37 := Tryz.isAgg241
  z37 := Tryz.sizeOf241
  v37 := Tryz.zeroValue241
  t46 := Tryz.underlying236
  a46 := Tryz.isAgg236
  z46 := Tryz.sizeOf236
  v46 := Tryz.zeroValue236
  t51 := Tryz.underlying262
  a51 := Tryz.isAgg262
  z51 := Tryz.sizeOf262
  v51 := Tryz.zeroValue262
  t53 := Tryz.underlying264
  a53 := Tryz.isAgg264
  z53 := Tryz.sizeOf264
  v53 := Tryz.zeroValue264
  t171 := Tryz.underlying292
  a171 := Tryz.isAgg292
  z171 := Tryz.sizeOf292
  v171 := Tryz.zeroValue292
  t173 := Tryz.underlying294
  a173 := Tryz.isAgg294
  z173 := Tryz.sizeOf294
  v173 := Tryz.zeroValue294
  t212 := Tryz.underlying298
  a212 := Tryz.isAgg298
  z212 := Tryz.sizeOf298
  v212 := Tryz.zeroValue298
  t213 := Tryz.underlying299
  a213 := Tryz.isAgg299
  z213 := Tryz.sizeOf299
  t232 := Tryz.underlying306
  a232 := Tryz.isAgg306
  z232 := Tryz.sizeOf306
  v232 := Tryz.zeroValue306
  t233 := Tryz.underlying307
  a233 := Tryz.isAgg307
  z233 := Tryz.sizeOf307
  v233 := Tryz.zeroValue307
  g17 := by kernel_rfl
  g18 := by kernel_rfl
  g19 := by kernel_rfl
  i0 := by kernel_rfl
  i2 := by kernel_rfl
  i3 := by kernel_rfl
  i4 := by kernel_rfl
  i5 := by kernel_rfl
  i9 := by kernel_rfl
  i20 := by kernel_rfl
  i37 := by kernel_rfl
  i46 := by kernel_rfl
  i51 := by kernel_rfl
  i53 := by kernel_rfl
  i171 := by kernel_rfl
  i173 := by kernel_rfl
  i212 := by kernel_rfl
  i232 := by kernel_rfl
  i233 := by kernel_rfl
  m17 := by kernel_rfl
  m18 := by kernel_rfl
  m19 := by kernel_rfl }

theorem tab10 {w : World} {F : Nat → Prop} (h : GAt w F 3 pow10D) : Lib.TabIs Tryz.prog w "internal/strconv.uint64pow10" .u64 Lib.pow10Tab := by
  obtain ⟨⟨h1, h2, h3⟩, cs, t, fz, h4, h5⟩ := h
  have hg : Tryz.prog.globalNamed "internal/strconv.uint64pow10" = some 3 := by kernel_rfl
  unfold Lib.TabIs World.var?
  rw [hg]
  simp only [Option.bind_some, h4, Option.some.injEq]
  apply Array.ext
  · rw [h5]; simp [pow10D, D.cells]
  · intro i hi1 hi2
    have hi : i < Lib.pow10Tab.length := by simpa using hi2
    have hc : pow10D.cells[i]? = some (.v (.int .u64 Lib.pow10Tab[i])) := by
      simp [pow10D, D.cells, hi]
    obtain ⟨y, y1, y2⟩ := h3 i _ hc
    rw [dr_v y2] at y1
    unfold World.cell? at y1
    simp only [h4, Nat.zero_add] at y1
    have y3 : cs[i]? = some (Value.int IntKind.u64 Lib.pow10Tab[i]) := y1
    rw [Array.getElem?_eq_getElem hi1] at y3
    rw [Option.some.inj y3]
    simp
def F_strconv_Itoa (n : Nat) (a : Int) : Option ByteArray := if inI64 a then some ⟨(Lib.itoa a).toArray⟩ else none
theorem c_strconv_Itoa {n : Nat} {a : Int} {r : ByteArray} (h : F_strconv_Itoa n a = some r) : Computes cx 139 [I a] (.v (.string r)) := by
  unfold F_strconv_Itoa at h
  split at h
  case isFalse => cases h
  rename_i hi
  cases h
  intro w F vs hF hG hl hd
  match vs, hl with
  | [x], _ =>
    rw [dr_v (hd 0 _ _ rfl rfl)]
    have ht := tab10 (hG 3 _ rfl)
    refine (Any.strconv_Itoa Tryz.laysM171 a hi.1 hi.2 w ht).mono ?_
    rintro e w' ⟨he, k, os, rfl⟩
    refine ⟨_, he, .v _, ⟨rfl, rfl, rfl, ?_, fun r hr _ => ?_⟩⟩
    · simp [Sort.grow, World.drewN]
    · simp only [Sort.grow, World.drewN]
      rw [Array.getElem?_append_left hr]
def strsOf : List D → Option (List ByteArray)
  | [] => some []
  | d :: l => match un_str d, strsOf l with
    | some x, some xs => some (x :: xs)
    | _, _ => none
theorem strsOf_at : ∀ {l : List D} {xs : List ByteArray}, strsOf l = some xs → l = xs.map fun x => .v (.string x)
  | [], xs, h => by cases h; rfl
  | d :: l, xs, h => by
    unfold strsOf at h
    split at h
    · rename_i x ys h1 h2
      cases h
      rw [un_str_ok h1, strsOf_at h2]; rfl
    · cases h
def joinB (xs : List ByteArray) (sep : ByteArray) : ByteArray := ⟨(Lib.join (xs.map (·.data.toList)) sep.data.toList).toArray⟩
def F_strings_Join (n : Nat) (l : List D) (sep : ByteArray) : Option ByteArray :=
  (strsOf l).bind fun xs => if xs.length ≤ 140737488355328 ∧ (Lib.join (xs.map (·.data.toList)) sep.data.toList).length ≤ 140737488355328 then some (joinB xs sep) else none
theorem c_strings_Join {n : Nat} {full : Bool} {sz : Nat} {l : List D} {sep r : ByteArray} (h : F_strings_Join n l sep = some r) : Computes cx 109 [.lst full sz l, .v (.string sep)] (.v (.string r)) := by
  unfold F_strings_Join at h
  obtain ⟨xs, hx, h⟩ := bnd_of h
  split at h
  case isFalse => cases h
  rename_i hi
  cases h
  have hl := strsOf_at hx
  intro w F vs hF hG hvl hd
  match vs, hvl with
  | [a, b], _ =>
    rw [dr_v (hd 1 _ _ rfl rfl)]
    have ha := hd 0 _ _ rfl rfl
    cases ha with
    | lst _ _ _ a0 cap blk off ys hf hc haa hs hw hdr =>
      cases l with
      | nil =>
        cases xs with
        | cons x xs => simp at hl
        | nil =>
          refine (Any.strings_Join_none Tryz.lays156 Tryz.Builder_Extra_156 a0 cap sep w).mono ?_
          rintro e w' ⟨he, rfl⟩
          exact ⟨_, he, .v _, Ext.refl _ _⟩
      | cons d0 l0 =>
        obtain ⟨h1, h2, h3⟩ := haa (by simp)
        subst h1
        have hlen : (d0 :: l0).length = xs.length := by rw [hl]; simp
        rw [hlen]
        refine (Any.strings_Join Tryz.lays156 Tryz.Builder_Extra_156 blk off cap xs sep w ?_ h3 hi.1 (by omega) hi.2).mono ?_
        · intro j x hj
          have hj' : (d0 :: l0)[j]? = some (.v (.string x)) := by rw [hl]; simp [hj]
          have hz : sz = 1 := by have := hs j _ hj'; simpa [D.cells] using this.symm
          subst hz
          have q1 := (hw j _ 0 _ hj' rfl).1
          have q2 := dr_v (hdr j _ 0 _ hj' rfl)
          rw [q2] at q1
          simpa using q1
        · rintro e w' ⟨he, hb⟩
          exact ⟨_, he, .v _, ext_below hb⟩

def floorB (x : Nat) : Option Nat := match FloatKind.f64.decode x with
  | .nan _ _ => none
  | d => some (FloatKind.f64.encode (d.integral .down))
theorem arch (x y : Nat) (h : floorB x = some y) (w : World) : (callFunc 178 #[.float .f64 x]).run Tryz.prog w = .ok (.value (.float .f64 y)) w := by
  have hn : Extern.findNext Tryz.f178 = none := by kernel_rfl
  have he : Extern.find Tryz.f178 = some (Extern.MathFloor.toIntegral "math.archFloor" .down) := by kernel_rfl
  have h4 : Tryz.f178.body.isNone = true := by kernel_rfl
  have h5 : (Tryz.f178.name == "runtime.NumGoroutine") = false := by kernel_rfl
  rw [run_callFunc_extern Tryz.func178 h5 h4 hn he]
  have e1 : Extern.MathFloor.toIntegral "math.archFloor" .down #[.float .f64 x] = (match FloatKind.f64.decode x with
    | .nan s t =>
      if FloatKind.f64.format.quiet t = t then pure (.float .f64 x) else do
      let kept ← choose (.extern "math.Floor,Ceil,Trunc,RoundToEven.signallingNaN kept" 2)
      pure (.float .f64 (if kept == 1 then x else FloatKind.f64.encode (.nan s (FloatKind.f64.format.quiet t))))
    | d => pure (.float .f64 (FloatKind.f64.encode (d.integral .down)))) := rfl
  rw [e1]
  unfold floorB at h
  revert h
  cases FloatKind.f64.decode x with
  | nan s t => intro h; cases h
  | infinity s => intro h; simp only [Option.some.injEq] at h; subst h; rfl
  | number s m e => intro h; simp only [Option.some.injEq] at h; subst h; rfl
set_option maxHeartbeats 400000 in
theorem floor_w (x y : Nat) (h : floorB x = some y) (w : World) :
    Calls Tryz.prog 162 #[.float .f64 x] w fun e w' => e = .returned (.float .f64 y) ∧ w' = w := by
  go_enter Tryz.func162, Tryz.ntmps162
  go_wp2
  rw [arch x y h w, Oper.upon_value]
  go_wp2
  go_ret
  exact ⟨rfl, rfl⟩
def F_math_Floor (n : Nat) (x : Nat) : Option Nat := floorB x
theorem c_math_Floor {n x r : Nat} (h : F_math_Floor n x = some r) : Computes cx 162 [.v (.float .f64 x)] (.v (.float .f64 r)) :=
  computes1 fun w => (floor_w x r h w).mono fun e w' hh => ⟨hh.1, by rw [hh.2]; exact Below.refl _ _⟩
end Go.Proofs.YtmgbmngmmpeaaaaGreatDoor
