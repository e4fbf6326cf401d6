/-
  What the library's functions compute, from the kit's shelf. An own text; the layings and the lines of 'Builder.Extra' as the kit's tools lay-shelf.mjs and lay-plain.mjs print them for this seat.
-/
import Derived.Test.YtclmbhokfhjnoaaGreatDoorBase
import Derived.WalkKit
import Derived.WalkSpells
import Derived.WalkLawsBesides
import Derived.Laws.Externs
import Derived.Shelf.Strings.OnBuilder
import Derived.Shelf.Strconv.Itoa3
import Derived.Shelf.LaysM
import Derived.Shelf.Small.Strs
import Derived.Shelf.Strings.Search1
import Derived.Shelf.Strings.Search3
import Derived.Shelf.Strings.Count
set_option linter.unusedVariables false
set_option linter.unusedSimpArgs false
set_option linter.unnecessarySimpa false
set_option maxRecDepth 10000
namespace Go.Proofs.YtclmbhokfhjnoaaGreatDoor
open Go.SX Go.RowKit Go.Shelf
def Tryz.lays156_ren : Go.Shelf.Ren := ⟨fun | 156 => 40 | 165 => 90 | 166 => 91 | 169 => 92 | 240 => 128 | 241 => 129 | 276 => 153 | 277 => 154 | n => n, fun | 31 => 39 | 9 => 9 | 3 => 3 | 4 => 4 | 0 => 0 | 20 => 20 | 72 => 168 | 76 => 172 | 70 => 165 | 37 => 166 | 75 => 171 | 127 => 212 | 164 => 228 | 5 => 5 | 80 => 100 | n => n, fun | n => n⟩
theorem Tryz.lays156 : Go.Proofs.Lays.n156 Tryz.prog Tryz.lays156_ren := {
  mixed := by kernel_rfl
  f156 := Tryz.func40.trans (congrArg some (by kernel_rfl))
  f165 := Tryz.func90.trans (congrArg some (by kernel_rfl))
  f166 := Tryz.func91.trans (congrArg some (by kernel_rfl))
  f169 := Tryz.func92.trans (congrArg some (by kernel_rfl))
  f240 := Tryz.func128.trans (congrArg some (by kernel_rfl))
  f241 := Tryz.func129.trans (congrArg some (by kernel_rfl))
  f276 := Tryz.func153.trans (congrArg some (by kernel_rfl))
  f277 := Tryz.func154.trans (congrArg some (by kernel_rfl))
  t0 := Tryz.underlying0
  a0 := Tryz.isAgg0
  z0 := Tryz.sizeOf0
  v0 := Tryz.zeroValue0
  t3 := Tryz.underlying3
  a3 := Tryz.isAgg3
  z3 := Tryz.sizeOf3
  v3 := Tryz.zeroValue3
  t4 := Tryz.underlying4
  a4 := Tryz.isAgg4
  z4 := Tryz.sizeOf4
  v4 := Tryz.zeroValue4
  t9 := Tryz.underlying9
  a9 := Tryz.isAgg9
  z9 := Tryz.sizeOf9
  v9 := Tryz.zeroValue9
  t20 := Tryz.underlying20
  a20 := Tryz.isAgg20
  z20 := Tryz.sizeOf20
  v20 := Tryz.zeroValue20
  t31 := Tryz.underlying39
  a31 := Tryz.isAgg39
  z31 := Tryz.sizeOf39
  v31 := Tryz.zeroValue39
  t37 := Tryz.underlying166
  a37 := Tryz.isAgg166
  z37 := Tryz.sizeOf166
  v37 := Tryz.zeroValue166
  t70 := Tryz.underlying165
  a70 := Tryz.isAgg165
  z70 := Tryz.sizeOf165
  v70 := Tryz.zeroValue165
  t72 := Tryz.underlying168
  a72 := Tryz.isAgg168
  z72 := Tryz.sizeOf168
  v72 := Tryz.zeroValue168
  t75 := Tryz.underlying171
  a75 := Tryz.isAgg171
  z75 := Tryz.sizeOf171
  v75 := Tryz.zeroValue171
  t76 := Tryz.underlying172
  a76 := Tryz.isAgg172
  z76 := Tryz.sizeOf172
  v76 := Tryz.zeroValue172
  t127 := Tryz.underlying212
  a127 := Tryz.isAgg212
  z127 := Tryz.sizeOf212
  v127 := Tryz.zeroValue212
  t164 := Tryz.underlying228
  a164 := Tryz.isAgg228
  z164 := Tryz.sizeOf228
  v164 := Tryz.zeroValue228 }
theorem Tryz.Builder_Extra_156 : Builder.Extra Tryz.prog Tryz.lays156_ren := {
  sizeBuilder := by kernel_rfl
  liesBuilder := by kernel_rfl
  t5 := Tryz.underlying5
  a5 := Tryz.isAgg5
  z5 := Tryz.sizeOf5
  v5 := Tryz.zeroValue5
  infoByte := by kernel_rfl
  cellsByte := by kernel_rfl
  sizeByte := by kernel_rfl
  neB5 := by decide }
def Tryz.lays137_ren : Go.Shelf.Ren := ⟨fun | 137 => 96 | 217 => 134 | 266 => 156 | n => n, fun | 9 => 9 | 5 => 5 | 3 => 3 | n => n, fun | n => n⟩
theorem Tryz.lays137 : Go.Proofs.Lays.n137 Tryz.prog Tryz.lays137_ren := {
  mixed := by kernel_rfl
  f137 := Tryz.func96.trans (congrArg some (by kernel_rfl))
  f217 := Tryz.func134.trans (congrArg some (by kernel_rfl))
  f266 := Tryz.func156.trans (congrArg some (by kernel_rfl))
  t3 := Tryz.underlying3
  a3 := Tryz.isAgg3
  z3 := Tryz.sizeOf3
  v3 := Tryz.zeroValue3
  t5 := Tryz.underlying5
  a5 := Tryz.isAgg5
  z5 := Tryz.sizeOf5
  v5 := Tryz.zeroValue5
  t9 := Tryz.underlying9
  a9 := Tryz.isAgg9
  z9 := Tryz.sizeOf9
  v9 := Tryz.zeroValue9 }
def Tryz.laysM171_ren : Go.Shelf.Ren := ⟨fun | 171 => 94 | 243 => 133 | 246 => 155 | 283 => 174 | 284 => 175 | 285 => 176 | 286 => 177 | 129 => 150 | 317 => 187 | 318 => 188 | 319 => 189 | 320 => 190 | 337 => 197 | 338 => 198 | n => n, fun | 3 => 3 | 9 => 9 | 2 => 2 | 4 => 4 | 171 => 244 | 0 => 0 | 53 => 226 | 37 => 166 | 5 => 5 | 173 => 246 | 212 => 257 | 51 => 224 | 20 => 20 | 213 => 258 | 46 => 198 | 232 => 266 | 233 => 267 | n => n, fun | 17 => 2 | 18 => 5 | 19 => 6 | n => n⟩
theorem Tryz.laysM171 : Go.Proofs.LaysM.n171 Tryz.prog Tryz.laysM171_ren := {
  mixed := by kernel_rfl
  f129 := Tryz.func150.trans (congrArg some (by kernel_rfl))
  f171 := Tryz.func94.trans (congrArg some (by kernel_rfl))
  f243 := Tryz.func133.trans (congrArg some (by kernel_rfl))
  f246 := Tryz.func155.trans (congrArg some (by kernel_rfl))
  f283 := Tryz.func174.trans (congrArg some (by kernel_rfl))
  f284 := Tryz.func175.trans (congrArg some (by kernel_rfl))
  f285 := Tryz.func176.trans (congrArg some (by kernel_rfl))
  f286 := Tryz.func177.trans (congrArg some (by kernel_rfl))
  f317 := Tryz.func187.trans (congrArg some (by kernel_rfl))
  f318 := Tryz.func188.trans (congrArg some (by kernel_rfl))
  f319 := Tryz.func189.trans (congrArg some (by kernel_rfl))
  f320 := Tryz.func190.trans (congrArg some (by kernel_rfl))
  f337 := Tryz.func197.trans (congrArg some (by kernel_rfl))
  f338 := Tryz.func198.trans (congrArg some (by kernel_rfl))
  t0 := Tryz.underlying0
  a0 := Tryz.isAgg0
  z0 := Tryz.sizeOf0
  v0 := Tryz.zeroValue0
  t2 := Tryz.underlying2
  a2 := Tryz.isAgg2
  z2 := Tryz.sizeOf2
  v2 := Tryz.zeroValue2
  t3 := Tryz.underlying3
  a3 := Tryz.isAgg3
  z3 := Tryz.sizeOf3
  v3 := Tryz.zeroValue3
  t4 := Tryz.underlying4
  a4 := Tryz.isAgg4
  z4 := Tryz.sizeOf4
  v4 := Tryz.zeroValue4
  t5 := Tryz.underlying5
  a5 := Tryz.isAgg5
  z5 := Tryz.sizeOf5
  v5 := Tryz.zeroValue5
  t9 := Tryz.underlying9
  a9 := Tryz.isAgg9
  z9 := Tryz.sizeOf9
  v9 := Tryz.zeroValue9
  t20 := Tryz.underlying20
  a20 := Tryz.isAgg20
  z20 := Tryz.sizeOf20
  v20 := Tryz.zeroValue20
  t37 := Tryz.underlying166
  a37 := Tryz.isAgg166
  z37 := Tryz.sizeOf166
  v37 := Tryz.zeroValue166
  t46 := Tryz.underlying198
  a46 := Tryz.isAgg198
  z46 := Tryz.sizeOf198
  v46 := Tryz.zeroValue198
  t51 := Tryz.underlying224
  a51 := Tryz.isAgg224
  z51 := Tryz.sizeOf224
  v51 := Tryz.zeroValue224
  t53 := Tryz.underlying226
  a53 := Tryz.isAgg226
  z53 := Tryz.sizeOf226
  v53 := Tryz.zeroValue226
  t171 := Tryz.underlying244
  a171 := Tryz.isAgg244
  z171 := Tryz.sizeOf244
  v171 := Tryz.zeroValue244
  t173 := Tryz.underlying246
  a173 := Tryz.isAgg246
  z173 := Tryz.sizeOf246
  v173 := Tryz.zeroValue246
  t212 := Tryz.underlying257
  a212 := Tryz.isAgg257
  z212 := Tryz.sizeOf257
  v212 := Tryz.zeroValue257
  t213 := Tryz.underlying258
  a213 := Tryz.isAgg258
  z213 := Tryz.sizeOf258
  t232 := Tryz.underlying266
  a232 := Tryz.isAgg266
  z232 := Tryz.sizeOf266
  v232 := Tryz.zeroValue266
  t233 := Tryz.underlying267
  a233 := Tryz.isAgg267
  z233 := Tryz.sizeOf267
  v233 := Tryz.zeroValue267
  g17 := by kernel_rfl
  g18 := by kernel_rfl
  g19 := by kernel_rfl
  i0 := by kernel_rfl
  i2 := by kernel_rfl
  i3 := by kernel_rfl
  i4 := by kernel_rfl
  i5 := by kernel_rfl
  i9 := by kernel_rfl
  i20 := by kernel_rfl
  i37 := by kernel_rfl
  i46 := by kernel_rfl
  i51 := by kernel_rfl
  i53 := by kernel_rfl
  i171 := by kernel_rfl
  i173 := by kernel_rfl
  i212 := by kernel_rfl
  i232 := by kernel_rfl
  i233 := by kernel_rfl
  m17 := by kernel_rfl
  m18 := by kernel_rfl
  m19 := by kernel_rfl }
def Tryz.lays217_ren : Go.Shelf.Ren := ⟨fun | 217 => 134 | 266 => 156 | n => n, fun | 9 => 9 | 5 => 5 | 3 => 3 | n => n, fun | n => n⟩
theorem Tryz.lays217 : Go.Proofs.Lays.n217 Tryz.prog Tryz.lays217_ren := {
  mixed := by kernel_rfl
  f217 := Tryz.func134.trans (congrArg some (by kernel_rfl))
  f266 := Tryz.func156.trans (congrArg some (by kernel_rfl))
  t3 := Tryz.underlying3
  a3 := Tryz.isAgg3
  z3 := Tryz.sizeOf3
  v3 := Tryz.zeroValue3
  t5 := Tryz.underlying5
  a5 := Tryz.isAgg5
  z5 := Tryz.sizeOf5
  v5 := Tryz.zeroValue5
  t9 := Tryz.underlying9
  a9 := Tryz.isAgg9
  z9 := Tryz.sizeOf9
  v9 := Tryz.zeroValue9 }
def Tryz.lays138_ren : Go.Shelf.Ren := ⟨fun | 138 => 158 | 195 => 178 | 218 => 180 | 143 => 159 | 219 => 181 | 217 => 134 | 225 => 192 | 224 => 193 | 267 => 194 | 266 => 156 | 314 => 199 | n => n, fun | 9 => 9 | 3 => 3 | 4 => 4 | 5 => 5 | 0 => 0 | 46 => 198 | 146 => 264 | 51 => 224 | n => n, fun | 1 => 1 | n => n⟩
theorem Tryz.lays138 : Go.Proofs.Lays.n138 Tryz.prog Tryz.lays138_ren := {
  mixed := by kernel_rfl
  f138 := Tryz.func158.trans (congrArg some (by kernel_rfl))
  f143 := Tryz.func159.trans (congrArg some (by kernel_rfl))
  f195 := Tryz.func178.trans (congrArg some (by kernel_rfl))
  f217 := Tryz.func134.trans (congrArg some (by kernel_rfl))
  f218 := Tryz.func180.trans (congrArg some (by kernel_rfl))
  f219 := Tryz.func181.trans (congrArg some (by kernel_rfl))
  f224 := Tryz.func193.trans (congrArg some (by kernel_rfl))
  f225 := Tryz.func192.trans (congrArg some (by kernel_rfl))
  f266 := Tryz.func156.trans (congrArg some (by kernel_rfl))
  f267 := Tryz.func194.trans (congrArg some (by kernel_rfl))
  f314 := Tryz.func199.trans (congrArg some (by kernel_rfl))
  t0 := Tryz.underlying0
  a0 := Tryz.isAgg0
  z0 := Tryz.sizeOf0
  v0 := Tryz.zeroValue0
  t3 := Tryz.underlying3
  a3 := Tryz.isAgg3
  z3 := Tryz.sizeOf3
  v3 := Tryz.zeroValue3
  t4 := Tryz.underlying4
  a4 := Tryz.isAgg4
  z4 := Tryz.sizeOf4
  v4 := Tryz.zeroValue4
  t5 := Tryz.underlying5
  a5 := Tryz.isAgg5
  z5 := Tryz.sizeOf5
  v5 := Tryz.zeroValue5
  t9 := Tryz.underlying9
  a9 := Tryz.isAgg9
  z9 := Tryz.sizeOf9
  v9 := Tryz.zeroValue9
  t46 := Tryz.underlying198
  a46 := Tryz.isAgg198
  z46 := Tryz.sizeOf198
  v46 := Tryz.zeroValue198
  t51 := Tryz.underlying224
  a51 := Tryz.isAgg224
  z51 := Tryz.sizeOf224
  v51 := Tryz.zeroValue224
  t146 := Tryz.underlying264
  a146 := Tryz.isAgg264
  z146 := Tryz.sizeOf264
  v146 := Tryz.zeroValue264
  g1 := by kernel_rfl }
theorem tab10 {w : World} {F : Nat → Prop} (h : GAt w F 2 pow10D) : Lib.TabIs Tryz.prog w "internal/strconv.uint64pow10" .u64 Lib.pow10Tab := by
  obtain ⟨⟨h1, h2, h3⟩, cs, t, fz, h4, h5⟩ := h
  have hg : Tryz.prog.globalNamed "internal/strconv.uint64pow10" = some 2 := by kernel_rfl
  unfold Lib.TabIs World.var?
  rw [hg]
  simp only [Option.bind_some, h4, Option.some.injEq]
  apply Array.ext
  · rw [h5]; simp [pow10D, D.cells]
  · intro i hi1 hi2
    have hi : i < Lib.pow10Tab.length := by simpa using hi2
    have hc : pow10D.cells[i]? = some (.v (.int .u64 Lib.pow10Tab[i])) := by
      simp [pow10D, D.cells, hi]
    obtain ⟨y, y1, y2⟩ := h3 i _ hc
    rw [dr_v y2] at y1
    unfold World.cell? at y1
    simp only [h4, Nat.zero_add] at y1
    have y3 : cs[i]? = some (Value.int IntKind.u64 Lib.pow10Tab[i]) := y1
    rw [Array.getElem?_eq_getElem hi1] at y3
    rw [Option.some.inj y3]
    simp
def F_strconv_Itoa (n : Nat) (a : Int) : Option ByteArray := if inI64 a then some ⟨(Lib.itoa a).toArray⟩ else none
theorem c_strconv_Itoa {n : Nat} {a : Int} {r : ByteArray} (h : F_strconv_Itoa n a = some r) : Computes cx 94 [I a] (.v (.string r)) := by
  unfold F_strconv_Itoa at h
  split at h
  case isFalse => cases h
  rename_i hi
  cases h
  intro w F vs hF hG hl hd
  match vs, hl with
  | [x], _ =>
    rw [dr_v (hd 0 _ _ rfl rfl)]
    have ht := tab10 (hG 2 _ rfl)
    refine (Any.strconv_Itoa Tryz.laysM171 a hi.1 hi.2 w ht).mono ?_
    rintro e w' ⟨he, k, os, rfl⟩
    refine ⟨_, he, .v _, ⟨rfl, rfl, rfl, ?_, fun r hr _ => ?_⟩⟩
    · simp [Sort.grow, World.drewN]
    · simp only [Sort.grow, World.drewN]
      rw [Array.getElem?_append_left hr]
def strsOf : List D → Option (List ByteArray)
  | [] => some []
  | d :: l => match un_str d, strsOf l with
    | some x, some xs => some (x :: xs)
    | _, _ => none
theorem strsOf_at : ∀ {l : List D} {xs : List ByteArray}, strsOf l = some xs → l = xs.map fun x => .v (.string x)
  | [], xs, h => by cases h; rfl
  | d :: l, xs, h => by
    unfold strsOf at h
    split at h
    · rename_i x ys h1 h2
      cases h
      rw [un_str_ok h1, strsOf_at h2]; rfl
    · cases h
def joinB (xs : List ByteArray) (sep : ByteArray) : ByteArray := ⟨(Lib.join (xs.map (·.data.toList)) sep.data.toList).toArray⟩
def F_strings_Join (n : Nat) (l : List D) (sep : ByteArray) : Option ByteArray :=
  (strsOf l).bind fun xs => if xs.length ≤ 140737488355328 ∧ (Lib.join (xs.map (·.data.toList)) sep.data.toList).length ≤ 140737488355328 then some (joinB xs sep) else none
theorem c_strings_Join {n : Nat} {full : Bool} {sz : Nat} {l : List D} {sep r : ByteArray} (h : F_strings_Join n l sep = some r) : Computes cx 40 [.lst full sz l, .v (.string sep)] (.v (.string r)) := by
  unfold F_strings_Join at h
  obtain ⟨xs, hx, h⟩ := bnd_of h
  split at h
  case isFalse => cases h
  rename_i hi
  cases h
  have hl := strsOf_at hx
  intro w F vs hF hG hvl hd
  match vs, hvl with
  | [a, b], _ =>
    rw [dr_v (hd 1 _ _ rfl rfl)]
    have ha := hd 0 _ _ rfl rfl
    cases ha with
    | lst _ _ _ a0 cap blk off ys hf hc haa hs hw hdr =>
      cases l with
      | nil =>
        cases xs with
        | cons x xs => simp at hl
        | nil =>
          refine (Any.strings_Join_none Tryz.lays156 Tryz.Builder_Extra_156 a0 cap sep w).mono ?_
          rintro e w' ⟨he, rfl⟩
          exact ⟨_, he, .v _, Ext.refl _ _⟩
      | cons d0 l0 =>
        obtain ⟨h1, h2, h3⟩ := haa (by simp)
        subst h1
        have hlen : (d0 :: l0).length = xs.length := by rw [hl]; simp
        rw [hlen]
        refine (Any.strings_Join Tryz.lays156 Tryz.Builder_Extra_156 blk off cap xs sep w ?_ h3 hi.1 (by omega) hi.2).mono ?_
        · intro j x hj
          have hj' : (d0 :: l0)[j]? = some (.v (.string x)) := by rw [hl]; simp [hj]
          have hz : sz = 1 := by have := hs j _ hj'; simpa [D.cells] using this.symm
          subst hz
          have q1 := (hw j _ 0 _ hj' rfl).1
          have q2 := dr_v (hdr j _ 0 _ hj' rfl)
          rw [q2] at q1
          simpa using q1
        · rintro e w' ⟨he, hb⟩
          exact ⟨_, he, .v _, ext_below hb⟩

theorem computes2 {f : FuncId} {x1 x2 y : Value} (h : ∀ w : World, Calls Tryz.prog f #[x1, x2] w fun e w' => e = .returned y ∧ w' = w) : Computes cx f [.v x1, .v x2] (.v y) := by
  intro w F vs hF hG hl hd
  match vs, hl with
  | [a, b], _ =>
    rw [dr_v (hd 0 _ _ rfl rfl), dr_v (hd 1 _ _ rfl rfl)]
    exact (h w).mono fun e w' hh => ⟨_, hh.1, .v _, by rw [hh.2]; exact Ext.refl _ _⟩
def F_strings_IndexByte (n : Nat) (s : ByteArray) (c : Int) : Option Int := some (Lib.indexByte s.data.toList c.toNat.toUInt8)
theorem c_strings_IndexByte {n : Nat} {s : ByteArray} {c r : Int} (h : F_strings_IndexByte n s c = some r) : Computes cx 96 [.v (.string s), .v (.int .u8 c)] (.v (.int .i64 r)) := by
  simp only [F_strings_IndexByte, Option.some.injEq] at h; subst h
  exact computes2 fun w => Any.strings_IndexByte Tryz.lays137 s c w
def F_lite_IndexByte (n : Nat) (s : ByteArray) (c : Int) : Option Int := some (Lib.indexByte s.data.toList c.toNat.toUInt8)
theorem c_lite_IndexByte {n : Nat} {s : ByteArray} {c r : Int} (h : F_lite_IndexByte n s c = some r) : Computes cx 134 [.v (.string s), .v (.int .u8 c)] (.v (.int .i64 r)) := by
  simp only [F_lite_IndexByte, Option.some.injEq] at h; subst h
  exact computes2 fun w => Any.stringslite_IndexByte Tryz.lays217 s c w
def F_strings_Count (n : Nat) (s sep : ByteArray) : Option Int := match sep with
  | ⟨⟨[c]⟩⟩ => some (Lib.countByte s.data.toList c)
  | _ => none
theorem c_strings_Count {n : Nat} {s sep : ByteArray} {r : Int} (h : F_strings_Count n s sep = some r) : Computes cx 158 [.v (.string s), .v (.string sep)] (.v (.int .i64 r)) := by
  unfold F_strings_Count at h
  split at h
  case h_2 => cases h
  rename_i c
  simp only [Option.some.injEq] at h; subst h
  exact computes2 fun w => Any.strings_Count_one Tryz.lays138 s c w
end Go.Proofs.YtclmbhokfhjnoaaGreatDoor
