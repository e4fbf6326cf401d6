/-
  The program's Parse, line by line. An own text.
-/
import Derived.Test.YtoblljobcafecaaGreatDoorWrd
set_option linter.unusedVariables false
set_option linter.unusedSimpArgs false
set_option linter.unnecessarySimpa false
set_option maxRecDepth 20000
namespace Go.Proofs.YtoblljobcafecaaGreatDoor
open Go.SX

abbrev Bd := Int × Int × Int
def bandW : List UInt8 := [98, 97, 110, 100]
/-- The band of a line, without its line feed. -/
def parseL (p : List UInt8) : Option Bd := match spl 32 p with
  | [w0, w1, w2, w3] => if w0 = bandW then (match num w1, num w2, num w3 with
    | some a, some b, some c => some (a, b, c)
    | _, _, _ => none) else none
  | _ => none
/-- The lines one by one: the bands, or the index of the first line that is wrong. -/
def runP : List (List UInt8) → List Bd → List Bd ⊕ Nat
  | [], acc => .inl acc
  | [last], acc => if last = [] then .inl acc else .inr acc.length
  | p :: q :: ps, acc => match parseL p with
    | some b => runP (q :: ps) (acc ++ [b])
    | none => .inr acc.length
theorem word_len {c : UInt8} : ∀ {l w : List UInt8}, w ∈ spl c l → w.length ≤ l.length
  | [], w, h => by
    have : w = [] := by simpa [spl] using h
    rw [this]; simp
  | x :: l, w, h => by
    by_cases hx : x = c
    · subst hx
      rw [spl_sep] at h
      rcases List.mem_cons.1 h with h | h
      · rw [h]; simp
      · have := word_len h; simp; omega
    · rw [spl_cons c x l hx] at h
      have ih := fun w => word_len (c := c) (l := l) (w := w)
      cases hs : spl c l with
      | nil => exact absurd hs (spl_ne c l)
      | cons a L =>
        rw [hs] at h ih
        simp only [pre, List.singleton_append] at h
        rcases List.mem_cons.1 h with h | h
        · have := ih a List.mem_cons_self
          rw [h]; simp; omega
        · have := ih w (List.mem_cons_of_mem _ h)
          simp; omega
theorem unc_eS (p : List UInt8) (L : List (List UInt8)) : unc un_s ((p :: L).map eS) = some (mkS p, L.map eS) := rfl
theorem isNil_map (L : List (List UInt8)) : isNilL (L.map eS) = L.isEmpty := by cases L <;> rfl
theorem setters_eq (n : Nat) : F_drive_setters n = some () := rfl
theorem beq_band (w : List UInt8) : ((mkS w).toList == (⟨#[98, 97, 110, 100]⟩ : ByteArray).toList) = decide (w = bandW) := beq_mk w bandW
theorem lenS (L : List (List UInt8)) : ((L.map eS).length : Int) = (L.length : Int) := by simp

section
variable {n : Nat} (hn : 1000 ≤ n)
include hn
/-- A line with its line feed, at the beginning. -/
theorem line0 {p b : List UInt8} (hp : (10 : UInt8) ∉ p) (hl : (p ++ 10 :: b).length ≤ 900) :
    F_drive_Parse_L1 n (mkS (p ++ 10 :: b)) (.inl ()) = some (match parseL p with
      | some x => .inl (.inr (mkS b, [enc_Ai3Z x]))
      | none => .inr (.inl (mkS b))) := by
  have hlen : p.length + b.length + 1 ≤ 900 := by simp at hl; omega
  have hidx : F_strings_IndexByte n (mkS (p ++ 10 :: b)) 10 = some (p.length : Int) := by
    show some (Lib.indexByte (mkS (p ++ 10 :: b)).data.toList 10) = _
    rw [data_mk, index_hit b hp]
  have e1 : (p ++ 10 :: b).take (p.length + 1) = p ++ [10] := by
    rw [show p ++ 10 :: b = (p ++ [10]) ++ b by simp, show p.length + 1 = (p ++ [10]).length by simp, List.take_left]
  have e2 : (p ++ 10 :: b).drop (p.length + 1) = b := by simp
  have hcast : (p.length : Int) + 1 = ((p.length + 1 : Nat) : Int) := by simp
  have hw : ∀ w, w ∈ spl 32 p → F_drive_integer_2 n (mkS w) = some (intX w, (num w).isSome) := fun w hw => integer_eq hn (by have := word_len hw; omega)
  have hw0 : F_drive_integer_2 n ⟨#[]⟩ = some (intX [], (num []).isSome) := integer_eq hn (w := []) (by simp)
  have hn0 : (num []).isSome = false := rfl
  have hsplit := split_eq hn (l := p) (by omega)
  unfold F_drive_Parse_L1
  dsimp only
  rw [if_pos (by rw [mk_size]; simp; omega), hidx, Option.bind_some, if_pos (by omega), if_pos (i64 (by omega) (by omega)), hcast, sub_to _ (by simp), Option.bind_some, sub_from _ (by simp), Option.bind_some, e1, e2, cutNl n (by omega), Option.bind_some]
  dsimp only
  rw [hsplit, Option.bind_some]
  unfold parseL
  cases hs : spl 32 p with
  | nil => exact absurd hs (spl_ne 32 p)
  | cons w0 L =>
    rw [hs] at hw
    rw [isNil_map, if_pos (show (w0 :: L).isEmpty = false from rfl), unc_eS, Option.bind_some]
    dsimp only
    rw [isNil_map]
    match L with
    | [] => simp [setters_eq, hw0, hn0]
    | [w1] =>
      rw [if_neg (by simp), unc_eS, Option.bind_some]
      dsimp only
      rw [isNil_map]
      simp [setters_eq, hw0, hn0, hw w1]
    | [w1, w2] =>
      rw [if_neg (by simp), unc_eS, Option.bind_some]
      dsimp only
      rw [isNil_map, if_neg (by simp), unc_eS, Option.bind_some]
      dsimp only
      rw [isNil_map]
      simp [setters_eq, hw0, hn0, hw w1, hw w2]
    | w1 :: w2 :: w3 :: R =>
      rw [if_neg (by simp), unc_eS, Option.bind_some]
      dsimp only
      rw [isNil_map, if_neg (by simp), unc_eS, Option.bind_some]
      dsimp only
      rw [isNil_map, if_neg (by simp), unc_eS, Option.bind_some]
      dsimp only
      rw [setters_eq, Option.bind_some, hw w1 (by simp), Option.bind_some, hw w2 (by simp), Option.bind_some, hw w3 (by simp), Option.bind_some, beq_band, lenS]
      dsimp only
      cases h1 : num w1 with
      | none => cases R <;> by_cases hb : w0 = bandW <;> simp [hb, h1]
      | some x1 =>
        rw [intX_num h1]
        cases h2 : num w2 with
        | none => cases R <;> by_cases hb : w0 = bandW <;> simp [hb, h1, h2]
        | some x2 =>
          rw [intX_num h2]
          cases h3 : num w3 with
          | none => cases R <;> by_cases hb : w0 = bandW <;> simp [hb, h1, h2, h3]
          | some x3 =>
            rw [intX_num h3]
            cases R with
            | nil => by_cases hb : w0 = bandW <;> simp [hb, h1, h2, h3, enc_Ai3Z]
            | cons r R => by_cases hb : w0 = bandW <;> (simp [hb, h1, h2, h3]; try omega)
/-- A line with its line feed. -/
theorem line1 {p b : List UInt8} {l : List UInt8} {acc : List Bd} (ha : acc.length ≤ 900) (hp : (10 : UInt8) ∉ p) (hl : (p ++ 10 :: b).length ≤ 900) :
    F_drive_Parse_L1 n (mkS l) (.inr (mkS (p ++ 10 :: b), acc.map enc_Ai3Z)) = some (match parseL p with
      | some x => .inl (.inr (mkS b, (acc ++ [x]).map enc_Ai3Z))
      | none => .inr (.inr (.inr (.inl ((acc.length : Int), mkS b, acc.map enc_Ai3Z))))) := by
  have hlen : p.length + b.length + 1 ≤ 900 := by simp at hl; omega
  have hidx : F_strings_IndexByte n (mkS (p ++ 10 :: b)) 10 = some (p.length : Int) := by
    show some (Lib.indexByte (mkS (p ++ 10 :: b)).data.toList 10) = _
    rw [data_mk, index_hit b hp]
  have e1 : (p ++ 10 :: b).take (p.length + 1) = p ++ [10] := by
    rw [show p ++ 10 :: b = (p ++ [10]) ++ b by simp, show p.length + 1 = (p ++ [10]).length by simp, List.take_left]
  have e2 : (p ++ 10 :: b).drop (p.length + 1) = b := by simp
  have hcast : (p.length : Int) + 1 = ((p.length + 1 : Nat) : Int) := by simp
  have hw : ∀ w, w ∈ spl 32 p → F_drive_integer_2 n (mkS w) = some (intX w, (num w).isSome) := fun w hw => integer_eq hn (by have := word_len hw; omega)
  have hw0 : F_drive_integer_2 n ⟨#[]⟩ = some (intX [], (num []).isSome) := integer_eq hn (w := []) (by simp)
  have hn0 : (num []).isSome = false := rfl
  have hsplit := split_eq hn (l := p) (by omega)
  have hal : ((acc.map enc_Ai3Z).length : Int) = (acc.length : Int) := by simp
  have hroom : roomP 24 ((acc.map enc_Ai3Z).length + 1) := by rw [List.length_map]; unfold roomP; omega
  unfold F_drive_Parse_L1
  dsimp only
  rw [if_pos (by rw [mk_size]; simp; omega), hidx, Option.bind_some, if_pos (by omega), if_pos (i64 (by omega) (by omega)), hcast, sub_to _ (by simp), Option.bind_some, sub_from _ (by simp), Option.bind_some, e1, e2, cutNl n (by omega), Option.bind_some]
  dsimp only
  rw [hsplit, Option.bind_some, hal]
  unfold parseL
  cases hs : spl 32 p with
  | nil => exact absurd hs (spl_ne 32 p)
  | cons w0 L =>
    rw [hs] at hw
    rw [isNil_map, if_pos (show (w0 :: L).isEmpty = false from rfl), unc_eS, Option.bind_some]
    dsimp only
    rw [isNil_map]
    match L with
    | [] => simp [setters_eq, hw0, hn0]
    | [w1] =>
      rw [if_neg (by simp), unc_eS, Option.bind_some]
      dsimp only
      rw [isNil_map]
      simp [setters_eq, hw0, hn0, hw w1]
    | [w1, w2] =>
      rw [if_neg (by simp), unc_eS, Option.bind_some]
      dsimp only
      rw [isNil_map, if_neg (by simp), unc_eS, Option.bind_some]
      dsimp only
      rw [isNil_map]
      simp [setters_eq, hw0, hn0, hw w1, hw w2]
    | w1 :: w2 :: w3 :: R =>
      rw [if_neg (by simp), unc_eS, Option.bind_some]
      dsimp only
      rw [isNil_map, if_neg (by simp), unc_eS, Option.bind_some]
      dsimp only
      rw [isNil_map, if_neg (by simp), unc_eS, Option.bind_some]
      dsimp only
      rw [setters_eq, Option.bind_some, hw w1 (by simp), Option.bind_some, hw w2 (by simp), Option.bind_some, hw w3 (by simp), Option.bind_some, beq_band, lenS, if_pos hroom]
      dsimp only
      cases h1 : num w1 with
      | none => cases R <;> by_cases hb : w0 = bandW <;> simp [hb, h1]
      | some x1 =>
        rw [intX_num h1]
        cases h2 : num w2 with
        | none => cases R <;> by_cases hb : w0 = bandW <;> simp [hb, h1, h2]
        | some x2 =>
          rw [intX_num h2]
          cases h3 : num w3 with
          | none => cases R <;> by_cases hb : w0 = bandW <;> simp [hb, h1, h2, h3]
          | some x3 =>
            rw [intX_num h3]
            cases R with
            | nil => by_cases hb : w0 = bandW <;> simp [hb, h1, h2, h3, enc_Ai3Z]
            | cons r R => by_cases hb : w0 = bandW <;> (simp [hb, h1, h2, h3]; try omega)
/-- The rest of a text that does not end a line. -/
theorem last0 {s : List UInt8} (h0 : s ≠ []) (hp : (10 : UInt8) ∉ s) (hl : s.length ≤ 900) :
    F_drive_Parse_L1 n (mkS s) (.inl ()) = some (.inr (.inl ⟨#[]⟩)) := by
  have hpos := List.length_pos_iff.2 h0
  have hidx : F_strings_IndexByte n (mkS s) 10 = some (-1) := by
    show some (Lib.indexByte (mkS s).data.toList 10) = _
    rw [data_mk, index_miss hp]
  have hw : ∀ w, w ∈ spl 32 s → F_drive_integer_2 n (mkS w) = some (intX w, (num w).isSome) := fun w hw => integer_eq hn (by have := word_len hw; omega)
  have hw0 : F_drive_integer_2 n ⟨#[]⟩ = some (intX [], (num []).isSome) := integer_eq hn (w := []) (by simp)
  have hsplit := split_eq hn (l := s) (by omega)
  unfold F_drive_Parse_L1
  dsimp only
  rw [if_pos (by rw [mk_size]; omega), hidx, Option.bind_some, if_neg (by omega), cutNo n hl hp, Option.bind_some]
  dsimp only
  rw [hsplit, Option.bind_some]
  cases hs : spl 32 s with
  | nil => exact absurd hs (spl_ne 32 s)
  | cons w0 L =>
    rw [hs] at hw
    rw [isNil_map, if_pos (show (w0 :: L).isEmpty = false from rfl), unc_eS, Option.bind_some]
    dsimp only
    rw [isNil_map]
    match L with
    | [] => simp [setters_eq, hw0]
    | [w1] =>
      rw [if_neg (by simp), unc_eS, Option.bind_some]
      dsimp only
      rw [isNil_map]
      simp [setters_eq, hw0, hw w1]
    | [w1, w2] =>
      rw [if_neg (by simp), unc_eS, Option.bind_some]
      dsimp only
      rw [isNil_map, if_neg (by simp), unc_eS, Option.bind_some]
      dsimp only
      rw [isNil_map]
      simp [setters_eq, hw0, hw w1, hw w2]
    | w1 :: w2 :: w3 :: R =>
      rw [if_neg (by simp), unc_eS, Option.bind_some]
      dsimp only
      rw [isNil_map, if_neg (by simp), unc_eS, Option.bind_some]
      dsimp only
      rw [isNil_map, if_neg (by simp), unc_eS, Option.bind_some]
      dsimp only
      rw [setters_eq, Option.bind_some, hw w1 (by simp), Option.bind_some, hw w2 (by simp), Option.bind_some, hw w3 (by simp), Option.bind_some]
      simp
theorem last1 {s : List UInt8} {l : List UInt8} {acc : List Bd} (h0 : s ≠ []) (hp : (10 : UInt8) ∉ s) (hl : s.length ≤ 900) :
    F_drive_Parse_L1 n (mkS l) (.inr (mkS s, acc.map enc_Ai3Z)) = some (.inr (.inr (.inr (.inl ((acc.length : Int), ⟨#[]⟩, acc.map enc_Ai3Z))))) := by
  have hpos := List.length_pos_iff.2 h0
  have hidx : F_strings_IndexByte n (mkS s) 10 = some (-1) := by
    show some (Lib.indexByte (mkS s).data.toList 10) = _
    rw [data_mk, index_miss hp]
  have hw : ∀ w, w ∈ spl 32 s → F_drive_integer_2 n (mkS w) = some (intX w, (num w).isSome) := fun w hw => integer_eq hn (by have := word_len hw; omega)
  have hw0 : F_drive_integer_2 n ⟨#[]⟩ = some (intX [], (num []).isSome) := integer_eq hn (w := []) (by simp)
  have hsplit := split_eq hn (l := s) (by omega)
  have hal : ((acc.map enc_Ai3Z).length : Int) = (acc.length : Int) := by simp
  unfold F_drive_Parse_L1
  dsimp only
  rw [if_pos (by rw [mk_size]; omega), hidx, Option.bind_some, if_neg (by omega), cutNo n hl hp, Option.bind_some]
  dsimp only
  rw [hsplit, Option.bind_some, hal]
  cases hs : spl 32 s with
  | nil => exact absurd hs (spl_ne 32 s)
  | cons w0 L =>
    rw [hs] at hw
    rw [isNil_map, if_pos (show (w0 :: L).isEmpty = false from rfl), unc_eS, Option.bind_some]
    dsimp only
    rw [isNil_map]
    match L with
    | [] => simp [setters_eq, hw0]
    | [w1] =>
      rw [if_neg (by simp), unc_eS, Option.bind_some]
      dsimp only
      rw [isNil_map]
      simp [setters_eq, hw0, hw w1]
    | [w1, w2] =>
      rw [if_neg (by simp), unc_eS, Option.bind_some]
      dsimp only
      rw [isNil_map, if_neg (by simp), unc_eS, Option.bind_some]
      dsimp only
      rw [isNil_map]
      simp [setters_eq, hw0, hw w1, hw w2]
    | w1 :: w2 :: w3 :: R =>
      rw [if_neg (by simp), unc_eS, Option.bind_some]
      dsimp only
      rw [isNil_map, if_neg (by simp), unc_eS, Option.bind_some]
      dsimp only
      rw [isNil_map, if_neg (by simp), unc_eS, Option.bind_some]
      dsimp only
      rw [setters_eq, Option.bind_some, hw w1 (by simp), Option.bind_some, hw w2 (by simp), Option.bind_some, hw w3 (by simp), Option.bind_some]
      simp
end
end Go.Proofs.YtoblljobcafecaaGreatDoor
