/-
  What the library's functions compute, from the kit's shelf; and math.Floor. An own text; the layings and the lines of 'Builder.Extra' as the kit's tools lay-shelf.mjs and lay-plain.mjs print them for this seat.
-/
import Derived.Test.YtoblljobcafecaaGreatDoorBase
import Derived.WalkKit
import Derived.WalkSpells
import Derived.WalkLawsBesides
import Derived.Laws.Externs
import Derived.Shelf.Strings.OnBuilder
import Derived.Shelf.Strconv.Itoa3
import Derived.Shelf.LaysM
import Derived.Shelf.Small.Strs
import Derived.Shelf.Strings.Search1
import Derived.Shelf.Strings.Search3
import Derived.Shelf.Strings.Count
set_option linter.unusedVariables false
set_option linter.unusedSimpArgs false
set_option linter.unnecessarySimpa false
set_option maxRecDepth 10000
namespace Go.Proofs.YtoblljobcafecaaGreatDoor
open Go.SX Go.RowKit Go.Shelf
def Tryz.lays156_ren : Go.Shelf.Ren := ⟨fun | 156 => 34 | 165 => 67 | 166 => 68 | 169 => 69 | 240 => 97 | 241 => 98 | 276 => 121 | 277 => 122 | n => n, fun | 31 => 39 | 9 => 9 | 3 => 3 | 4 => 4 | 0 => 0 | 20 => 20 | 72 => 145 | 76 => 149 | 70 => 142 | 37 => 143 | 75 => 148 | 127 => 172 | 164 => 193 | 5 => 5 | 80 => 91 | n => n, fun | n => n⟩
theorem Tryz.lays156 : Go.Proofs.Lays.n156 Tryz.prog Tryz.lays156_ren := {
  mixed := by kernel_rfl
  f156 := Tryz.func34.trans (congrArg some (by kernel_rfl))
  f165 := Tryz.func67.trans (congrArg some (by kernel_rfl))
  f166 := Tryz.func68.trans (congrArg some (by kernel_rfl))
  f169 := Tryz.func69.trans (congrArg some (by kernel_rfl))
  f240 := Tryz.func97.trans (congrArg some (by kernel_rfl))
  f241 := Tryz.func98.trans (congrArg some (by kernel_rfl))
  f276 := Tryz.func121.trans (congrArg some (by kernel_rfl))
  f277 := Tryz.func122.trans (congrArg some (by kernel_rfl))
  t0 := Tryz.underlying0
  a0 := Tryz.isAgg0
  z0 := Tryz.sizeOf0
  v0 := Tryz.zeroValue0
  t3 := Tryz.underlying3
  a3 := Tryz.isAgg3
  z3 := Tryz.sizeOf3
  v3 := Tryz.zeroValue3
  t4 := Tryz.underlying4
  a4 := Tryz.isAgg4
  z4 := Tryz.sizeOf4
  v4 := Tryz.zeroValue4
  t9 := Tryz.underlying9
  a9 := Tryz.isAgg9
  z9 := Tryz.sizeOf9
  v9 := Tryz.zeroValue9
  t20 := Tryz.underlying20
  a20 := Tryz.isAgg20
  z20 := Tryz.sizeOf20
  v20 := Tryz.zeroValue20
  t31 := Tryz.underlying39
  a31 := Tryz.isAgg39
  z31 := Tryz.sizeOf39
  v31 := Tryz.zeroValue39
  t37 := Tryz.underlying143
  a37 := Tryz.isAgg143
  z37 := Tryz.sizeOf143
  v37 := Tryz.zeroValue143
  t70 := Tryz.underlying142
  a70 := Tryz.isAgg142
  z70 := Tryz.sizeOf142
  v70 := Tryz.zeroValue142
  t72 := Tryz.underlying145
  a72 := Tryz.isAgg145
  z72 := Tryz.sizeOf145
  v72 := Tryz.zeroValue145
  t75 := Tryz.underlying148
  a75 := Tryz.isAgg148
  z75 := Tryz.sizeOf148
  v75 := Tryz.zeroValue148
  t76 := Tryz.underlying149
  a76 := Tryz.isAgg149
  z76 := Tryz.sizeOf149
  v76 := Tryz.zeroValue149
  t127 := Tryz.underlying172
  a127 := Tryz.isAgg172
  z127 := Tryz.sizeOf172
  v127 := Tryz.zeroValue172
  t164 := Tryz.underlying193
  a164 := Tryz.isAgg193
  z164 := Tryz.sizeOf193
  v164 := Tryz.zeroValue193 }
theorem Tryz.Builder_Extra_156 : Builder.Extra Tryz.prog Tryz.lays156_ren := {
  sizeBuilder := by kernel_rfl
  liesBuilder := by kernel_rfl
  t5 := Tryz.underlying5
  a5 := Tryz.isAgg5
  z5 := Tryz.sizeOf5
  v5 := Tryz.zeroValue5
  infoByte := by kernel_rfl
  cellsByte := by kernel_rfl
  sizeByte := by kernel_rfl
  neB5 := by decide }
def Tryz.laysM171_ren : Go.Shelf.Ren := ⟨fun | 171 => 71 | 243 => 99 | 246 => 123 | 283 => 138 | 284 => 139 | 285 => 140 | 286 => 141 | 129 => 117 | 317 => 151 | 318 => 152 | 319 => 153 | 320 => 154 | 337 => 158 | 338 => 159 | n => n, fun | 3 => 3 | 9 => 9 | 2 => 2 | 4 => 4 | 171 => 206 | 0 => 0 | 53 => 188 | 37 => 143 | 5 => 5 | 173 => 208 | 212 => 218 | 51 => 186 | 20 => 20 | 213 => 219 | 46 => 169 | 232 => 228 | 233 => 229 | n => n, fun | 17 => 3 | 18 => 6 | 19 => 7 | n => n⟩
theorem Tryz.laysM171 : Go.Proofs.LaysM.n171 Tryz.prog Tryz.laysM171_ren := {
  mixed := by kernel_rfl
  f129 := Tryz.func117.trans (congrArg some (by kernel_rfl))
  f171 := Tryz.func71.trans (congrArg some (by kernel_rfl))
  f243 := Tryz.func99.trans (congrArg some (by kernel_rfl))
  f246 := Tryz.func123.trans (congrArg some (by kernel_rfl))
  f283 := Tryz.func138.trans (congrArg some (by kernel_rfl))
  f284 := Tryz.func139.trans (congrArg some (by kernel_rfl))
  f285 := Tryz.func140.trans (congrArg some (by kernel_rfl))
  f286 := Tryz.func141.trans (congrArg some (by kernel_rfl))
  f317 := Tryz.func151.trans (congrArg some (by kernel_rfl))
  f318 := Tryz.func152.trans (congrArg some (by kernel_rfl))
  f319 := Tryz.func153.trans (congrArg some (by kernel_rfl))
  f320 := Tryz.func154.trans (congrArg some (by kernel_rfl))
  f337 := Tryz.func158.trans (congrArg some (by kernel_rfl))
  f338 := Tryz.func159.trans (congrArg some (by kernel_rfl))
  t0 := Tryz.underlying0
  a0 := Tryz.isAgg0
  z0 := Tryz.sizeOf0
  v0 := Tryz.zeroValue0
  t2 := Tryz.underlying2
  a2 := Tryz.isAgg2
  z2 := Tryz.sizeOf2
  v2 := Tryz.zeroValue2
  t3 := Tryz.underlying3
  a3 := Tryz.isAgg3
  z3 := Tryz.sizeOf3
  v3 := Tryz.zeroValue3
  t4 := Tryz.underlying4
  a4 := Tryz.isAgg4
  z4 := Tryz.sizeOf4
  v4 := Tryz.zeroValue4
  t5 := Tryz.underlying5
  a5 := Tryz.isAgg5
  z5 := Tryz.sizeOf5
  v5 := Tryz.zeroValue5
  t9 := Tryz.underlying9
  a9 := Tryz.isAgg9
  z9 := Tryz.sizeOf9
  v9 := Tryz.zeroValue9
  t20 := Tryz.underlying20
  a20 := Tryz.isAgg20
  z20 := Tryz.sizeOf20
  v20 := Tryz.zeroValue20
  t37 := Tryz.underlying143
  a37 := Tryz.isAgg143
  z37 := Tryz.sizeOf143
  v37 := Tryz.zeroValue143
  t46 := Tryz.underlying169
  a46 := Tryz.isAgg169
  z46 := Tryz.sizeOf169
  v46 := Tryz.zeroValue169
  t51 := Tryz.underlying186
  a51 := Tryz.isAgg186
  z51 := Tryz.sizeOf186
  v51 := Tryz.zeroValue186
  t53 := Tryz.underlying188
  a53 := Tryz.isAgg188
  z53 := Tryz.sizeOf188
  v53 := Tryz.zeroValue188
  t171 := Tryz.underlying206
  a171 := Tryz.isAgg206
  z171 := Tryz.sizeOf206
  v171 := Tryz.zeroValue206
  t173 := Tryz.underlying208
  a173 := Tryz.isAgg208
  z173 := Tryz.sizeOf208
  v173 := Tryz.zeroValue208
  t212 := Tryz.underlying218
  a212 := Tryz.isAgg218
  z212 := Tryz.sizeOf218
  v212 := Tryz.zeroValue218
  t213 := Tryz.underlying219
  a213 := Tryz.isAgg219
  z213 := Tryz.sizeOf219
  t232 := Tryz.underlying228
  a232 := Tryz.isAgg228
  z232 := Tryz.sizeOf228
  v232 := Tryz.zeroValue228
  t233 := Tryz.underlying229
  a233 := Tryz.isAgg229
  z233 := Tryz.sizeOf229
  v233 := Tryz.zeroValue229
  g17 := by kernel_rfl
  g18 := by kernel_rfl
  g19 := by kernel_rfl
  i0 := by kernel_rfl
  i2 := by kernel_rfl
  i3 := by kernel_rfl
  i4 := by kernel_rfl
  i5 := by kernel_rfl
  i9 := by kernel_rfl
  i20 := by kernel_rfl
  i37 := by kernel_rfl
  i46 := by kernel_rfl
  i51 := by kernel_rfl
  i53 := by kernel_rfl
  i171 := by kernel_rfl
  i173 := by kernel_rfl
  i212 := by kernel_rfl
  i232 := by kernel_rfl
  i233 := by kernel_rfl
  m17 := by kernel_rfl
  m18 := by kernel_rfl
  m19 := by kernel_rfl }
def Tryz.lays137_ren : Go.Shelf.Ren := ⟨fun | 137 => 73 | 217 => 100 | 266 => 124 | n => n, fun | 9 => 9 | 5 => 5 | 3 => 3 | n => n, fun | n => n⟩
theorem Tryz.lays137 : Go.Proofs.Lays.n137 Tryz.prog Tryz.lays137_ren := {
  mixed := by kernel_rfl
  f137 := Tryz.func73.trans (congrArg some (by kernel_rfl))
  f217 := Tryz.func100.trans (congrArg some (by kernel_rfl))
  f266 := Tryz.func124.trans (congrArg some (by kernel_rfl))
  t3 := Tryz.underlying3
  a3 := Tryz.isAgg3
  z3 := Tryz.sizeOf3
  v3 := Tryz.zeroValue3
  t5 := Tryz.underlying5
  a5 := Tryz.isAgg5
  z5 := Tryz.sizeOf5
  v5 := Tryz.zeroValue5
  t9 := Tryz.underlying9
  a9 := Tryz.isAgg9
  z9 := Tryz.sizeOf9
  v9 := Tryz.zeroValue9 }
def Tryz.lays217_ren : Go.Shelf.Ren := ⟨fun | 217 => 100 | 266 => 124 | n => n, fun | 9 => 9 | 5 => 5 | 3 => 3 | n => n, fun | n => n⟩
theorem Tryz.lays217 : Go.Proofs.Lays.n217 Tryz.prog Tryz.lays217_ren := {
  mixed := by kernel_rfl
  f217 := Tryz.func100.trans (congrArg some (by kernel_rfl))
  f266 := Tryz.func124.trans (congrArg some (by kernel_rfl))
  t3 := Tryz.underlying3
  a3 := Tryz.isAgg3
  z3 := Tryz.sizeOf3
  v3 := Tryz.zeroValue3
  t5 := Tryz.underlying5
  a5 := Tryz.isAgg5
  z5 := Tryz.sizeOf5
  v5 := Tryz.zeroValue5
  t9 := Tryz.underlying9
  a9 := Tryz.isAgg9
  z9 := Tryz.sizeOf9
  v9 := Tryz.zeroValue9 }
def Tryz.lays138_ren : Go.Shelf.Ren := ⟨fun | 138 => 103 | 195 => 125 | 218 => 127 | 143 => 104 | 219 => 128 | 217 => 100 | 225 => 143 | 224 => 144 | 267 => 145 | 266 => 124 | 314 => 155 | n => n, fun | 9 => 9 | 3 => 3 | 4 => 4 | 5 => 5 | 0 => 0 | 46 => 169 | 146 => 225 | 51 => 186 | n => n, fun | 1 => 2 | n => n⟩
theorem Tryz.lays138 : Go.Proofs.Lays.n138 Tryz.prog Tryz.lays138_ren := {
  mixed := by kernel_rfl
  f138 := Tryz.func103.trans (congrArg some (by kernel_rfl))
  f143 := Tryz.func104.trans (congrArg some (by kernel_rfl))
  f195 := Tryz.func125.trans (congrArg some (by kernel_rfl))
  f217 := Tryz.func100.trans (congrArg some (by kernel_rfl))
  f218 := Tryz.func127.trans (congrArg some (by kernel_rfl))
  f219 := Tryz.func128.trans (congrArg some (by kernel_rfl))
  f224 := Tryz.func144.trans (congrArg some (by kernel_rfl))
  f225 := Tryz.func143.trans (congrArg some (by kernel_rfl))
  f266 := Tryz.func124.trans (congrArg some (by kernel_rfl))
  f267 := Tryz.func145.trans (congrArg some (by kernel_rfl))
  f314 := Tryz.func155.trans (congrArg some (by kernel_rfl))
  t0 := Tryz.underlying0
  a0 := Tryz.isAgg0
  z0 := Tryz.sizeOf0
  v0 := Tryz.zeroValue0
  t3 := Tryz.underlying3
  a3 := Tryz.isAgg3
  z3 := Tryz.sizeOf3
  v3 := Tryz.zeroValue3
  t4 := Tryz.underlying4
  a4 := Tryz.isAgg4
  z4 := Tryz.sizeOf4
  v4 := Tryz.zeroValue4
  t5 := Tryz.underlying5
  a5 := Tryz.isAgg5
  z5 := Tryz.sizeOf5
  v5 := Tryz.zeroValue5
  t9 := Tryz.underlying9
  a9 := Tryz.isAgg9
  z9 := Tryz.sizeOf9
  v9 := Tryz.zeroValue9
  t46 := Tryz.underlying169
  a46 := Tryz.isAgg169
  z46 := Tryz.sizeOf169
  v46 := Tryz.zeroValue169
  t51 := Tryz.underlying186
  a51 := Tryz.isAgg186
  z51 := Tryz.sizeOf186
  v51 := Tryz.zeroValue186
  t146 := Tryz.underlying225
  a146 := Tryz.isAgg225
  z146 := Tryz.sizeOf225
  v146 := Tryz.zeroValue225
  g1 := by kernel_rfl }
theorem tab10 {w : World} {F : Nat → Prop} (h : GAt w F 3 pow10D) : Lib.TabIs Tryz.prog w "internal/strconv.uint64pow10" .u64 Lib.pow10Tab := by
  obtain ⟨⟨h1, h2, h3⟩, cs, t, fz, h4, h5⟩ := h
  have hg : Tryz.prog.globalNamed "internal/strconv.uint64pow10" = some 3 := by kernel_rfl
  unfold Lib.TabIs World.var?
  rw [hg]
  simp only [Option.bind_some, h4, Option.some.injEq]
  apply Array.ext
  · rw [h5]; simp [pow10D, D.cells]
  · intro i hi1 hi2
    have hi : i < Lib.pow10Tab.length := by simpa using hi2
    have hc : pow10D.cells[i]? = some (.v (.int .u64 Lib.pow10Tab[i])) := by
      simp [pow10D, D.cells, hi]
    obtain ⟨y, y1, y2⟩ := h3 i _ hc
    rw [dr_v y2] at y1
    unfold World.cell? at y1
    simp only [h4, Nat.zero_add] at y1
    have y3 : cs[i]? = some (Value.int IntKind.u64 Lib.pow10Tab[i]) := y1
    rw [Array.getElem?_eq_getElem hi1] at y3
    rw [Option.some.inj y3]
    simp
def F_strconv_Itoa (n : Nat) (a : Int) : Option ByteArray := if inI64 a then some ⟨(Lib.itoa a).toArray⟩ else none
theorem c_strconv_Itoa {n : Nat} {a : Int} {r : ByteArray} (h : F_strconv_Itoa n a = some r) : Computes cx 71 [I a] (.v (.string r)) := by
  unfold F_strconv_Itoa at h
  split at h
  case isFalse => cases h
  rename_i hi
  cases h
  intro w F vs hF hG hl hd
  match vs, hl with
  | [x], _ =>
    rw [dr_v (hd 0 _ _ rfl rfl)]
    have ht := tab10 (hG 3 _ rfl)
    refine (Any.strconv_Itoa Tryz.laysM171 a hi.1 hi.2 w ht).mono ?_
    rintro e w' ⟨he, k, os, rfl⟩
    refine ⟨_, he, .v _, ⟨rfl, rfl, rfl, ?_, fun r hr _ => ?_⟩⟩
    · simp [Sort.grow, World.drewN]
    · simp only [Sort.grow, World.drewN]
      rw [Array.getElem?_append_left hr]
def strsOf : List D → Option (List ByteArray)
  | [] => some []
  | d :: l => match un_str d, strsOf l with
    | some x, some xs => some (x :: xs)
    | _, _ => none
theorem strsOf_at : ∀ {l : List D} {xs : List ByteArray}, strsOf l = some xs → l = xs.map fun x => .v (.string x)
  | [], xs, h => by cases h; rfl
  | d :: l, xs, h => by
    unfold strsOf at h
    split at h
    · rename_i x ys h1 h2
      cases h
      rw [un_str_ok h1, strsOf_at h2]; rfl
    · cases h
def joinB (xs : List ByteArray) (sep : ByteArray) : ByteArray := ⟨(Lib.join (xs.map (·.data.toList)) sep.data.toList).toArray⟩
def F_strings_Join (n : Nat) (l : List D) (sep : ByteArray) : Option ByteArray :=
  (strsOf l).bind fun xs => if xs.length ≤ 140737488355328 ∧ (Lib.join (xs.map (·.data.toList)) sep.data.toList).length ≤ 140737488355328 then some (joinB xs sep) else none
theorem c_strings_Join {n : Nat} {full : Bool} {sz : Nat} {l : List D} {sep r : ByteArray} (h : F_strings_Join n l sep = some r) : Computes cx 34 [.lst full sz l, .v (.string sep)] (.v (.string r)) := by
  unfold F_strings_Join at h
  obtain ⟨xs, hx, h⟩ := bnd_of h
  split at h
  case isFalse => cases h
  rename_i hi
  cases h
  have hl := strsOf_at hx
  intro w F vs hF hG hvl hd
  match vs, hvl with
  | [a, b], _ =>
    rw [dr_v (hd 1 _ _ rfl rfl)]
    have ha := hd 0 _ _ rfl rfl
    cases ha with
    | lst _ _ _ a0 cap blk off ys hf hc haa hs hw hdr =>
      cases l with
      | nil =>
        cases xs with
        | cons x xs => simp at hl
        | nil =>
          refine (Any.strings_Join_none Tryz.lays156 Tryz.Builder_Extra_156 a0 cap sep w).mono ?_
          rintro e w' ⟨he, rfl⟩
          exact ⟨_, he, .v _, Ext.refl _ _⟩
      | cons d0 l0 =>
        obtain ⟨h1, h2, h3⟩ := haa (by simp)
        subst h1
        have hlen : (d0 :: l0).length = xs.length := by rw [hl]; simp
        rw [hlen]
        refine (Any.strings_Join Tryz.lays156 Tryz.Builder_Extra_156 blk off cap xs sep w ?_ h3 hi.1 (by omega) hi.2).mono ?_
        · intro j x hj
          have hj' : (d0 :: l0)[j]? = some (.v (.string x)) := by rw [hl]; simp [hj]
          have hz : sz = 1 := by have := hs j _ hj'; simpa [D.cells] using this.symm
          subst hz
          have q1 := (hw j _ 0 _ hj' rfl).1
          have q2 := dr_v (hdr j _ 0 _ hj' rfl)
          rw [q2] at q1
          simpa using q1
        · rintro e w' ⟨he, hb⟩
          exact ⟨_, he, .v _, ext_below hb⟩

def floorB (x : Nat) : Option Nat := match FloatKind.f64.decode x with
  | .nan _ _ => none
  | d => some (FloatKind.f64.encode (d.integral .down))
theorem arch (x y : Nat) (h : floorB x = some y) (w : World) : (callFunc 136 #[.float .f64 x]).run Tryz.prog w = .ok (.value (.float .f64 y)) w := by
  have hn : Extern.findNext Tryz.f136 = none := by kernel_rfl
  have he : Extern.find Tryz.f136 = some (Extern.MathFloor.toIntegral "math.archFloor" .down) := by kernel_rfl
  have h4 : Tryz.f136.body.isNone = true := by kernel_rfl
  have h5 : (Tryz.f136.name == "runtime.NumGoroutine") = false := by kernel_rfl
  rw [run_callFunc_extern Tryz.func136 h5 h4 hn he]
  have e1 : Extern.MathFloor.toIntegral "math.archFloor" .down #[.float .f64 x] = (match FloatKind.f64.decode x with
    | .nan s t =>
      if FloatKind.f64.format.quiet t = t then pure (.float .f64 x) else do
      let kept ← choose (.extern "math.Floor,Ceil,Trunc,RoundToEven.signallingNaN kept" 2)
      pure (.float .f64 (if kept == 1 then x else FloatKind.f64.encode (.nan s (FloatKind.f64.format.quiet t))))
    | d => pure (.float .f64 (FloatKind.f64.encode (d.integral .down)))) := rfl
  rw [e1]
  unfold floorB at h
  revert h
  cases FloatKind.f64.decode x with
  | nan s t => intro h; cases h
  | infinity s => intro h; simp only [Option.some.injEq] at h; subst h; rfl
  | number s m e => intro h; simp only [Option.some.injEq] at h; subst h; rfl
set_option maxHeartbeats 400000 in
theorem floor_w (x y : Nat) (h : floorB x = some y) (w : World) :
    Calls Tryz.prog 120 #[.float .f64 x] w fun e w' => e = .returned (.float .f64 y) ∧ w' = w := by
  go_enter Tryz.func120, Tryz.ntmps120
  go_wp2
  rw [arch x y h w, Oper.upon_value]
  go_wp2
  go_ret
  exact ⟨rfl, rfl⟩
def F_math_Floor (n : Nat) (x : Nat) : Option Nat := floorB x
theorem c_math_Floor {n x r : Nat} (h : F_math_Floor n x = some r) : Computes cx 120 [.v (.float .f64 x)] (.v (.float .f64 r)) :=
  computes1 fun w => (floor_w x r h w).mono fun e w' hh => ⟨hh.1, by rw [hh.2]; exact Below.refl _ _⟩

theorem computes2 {f : FuncId} {x1 x2 y : Value} (h : ∀ w : World, Calls Tryz.prog f #[x1, x2] w fun e w' => e = .returned y ∧ w' = w) : Computes cx f [.v x1, .v x2] (.v y) := by
  intro w F vs hF hG hl hd
  match vs, hl with
  | [a, b], _ =>
    rw [dr_v (hd 0 _ _ rfl rfl), dr_v (hd 1 _ _ rfl rfl)]
    exact (h w).mono fun e w' hh => ⟨_, hh.1, .v _, by rw [hh.2]; exact Ext.refl _ _⟩
def F_strings_IndexByte (n : Nat) (s : ByteArray) (c : Int) : Option Int := some (Lib.indexByte s.data.toList c.toNat.toUInt8)
theorem c_strings_IndexByte {n : Nat} {s : ByteArray} {c r : Int} (h : F_strings_IndexByte n s c = some r) : Computes cx 73 [.v (.string s), .v (.int .u8 c)] (.v (.int .i64 r)) := by
  simp only [F_strings_IndexByte, Option.some.injEq] at h; subst h
  exact computes2 fun w => Any.strings_IndexByte Tryz.lays137 s c w
def F_lite_IndexByte (n : Nat) (s : ByteArray) (c : Int) : Option Int := some (Lib.indexByte s.data.toList c.toNat.toUInt8)
theorem c_lite_IndexByte {n : Nat} {s : ByteArray} {c r : Int} (h : F_lite_IndexByte n s c = some r) : Computes cx 100 [.v (.string s), .v (.int .u8 c)] (.v (.int .i64 r)) := by
  simp only [F_lite_IndexByte, Option.some.injEq] at h; subst h
  exact computes2 fun w => Any.stringslite_IndexByte Tryz.lays217 s c w
def F_strings_Count (n : Nat) (s sep : ByteArray) : Option Int := match sep with
  | ⟨⟨[c]⟩⟩ => some (Lib.countByte s.data.toList c)
  | _ => none
theorem c_strings_Count {n : Nat} {s sep : ByteArray} {r : Int} (h : F_strings_Count n s sep = some r) : Computes cx 103 [.v (.string s), .v (.string sep)] (.v (.int .i64 r)) := by
  unfold F_strings_Count at h
  split at h
  case h_2 => cases h
  rename_i c
  simp only [Option.some.injEq] at h; subst h
  exact computes2 fun w => Any.strings_Count_one Tryz.lays138 s c w
end Go.Proofs.YtoblljobcafecaaGreatDoor
