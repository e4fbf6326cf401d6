/-
  Words and lines: what the program's integer, CutPrefix, CutSuffix say. An own text.
-/
import Derived.Test.YtoblljobcafecaaGreatDoorSpl
import Derived.Test.YtoblljobcafecaaGreatDoorNum
set_option linter.unusedVariables false
set_option linter.unusedSimpArgs false
set_option linter.unnecessarySimpa false
set_option maxRecDepth 20000
namespace Go.Proofs.YtoblljobcafecaaGreatDoor
open Go.SX

theorem get_mk {l : List UInt8} {i : Nat} {x : UInt8} (h : l[i]? = some x) : (mkS l).get! i = x := by
  obtain ⟨hi, hx⟩ := List.getElem?_eq_some_iff.1 h
  show l.toArray[i]! = x
  rw [getElem!_pos l.toArray i (by simpa using hi)]
  simpa using hx
theorem decode_low {s : ByteArray} {p : Nat} (h : (s.get! p).toNat < 128) : Utf8.decode s p = ((s.get! p).toNat, 1) := by
  unfold Utf8.decode
  simp only [Nat.add_zero]
  rw [if_pos h]
theorem decode_high {s : ByteArray} {p : Nat} (h : ¬ (s.get! p).toNat < 128) : 128 ≤ (Utf8.decode s p).1 := by
  unfold Utf8.decode
  simp only [Nat.add_zero]
  rw [if_neg h]
  have hr : 128 ≤ Utf8.runeError := by decide
  repeat' split
  all_goals first | exact hr | (simp only [Bool.and_eq_true, decide_eq_true_eq, ge_iff_le] at *; omega)
theorem wrap32 {m : Int} (h1 : 0 ≤ m) (h2 : m ≤ 9) : IntKind.wrap .i32 m = m := by
  have : m = 0 ∨ m = 1 ∨ m = 2 ∨ m = 3 ∨ m = 4 ∨ m = 5 ∨ m = 6 ∨ m = 7 ∨ m = 8 ∨ m = 9 := by omega
  rcases this with h | h | h | h | h | h | h | h | h | h <;> subst h <;> decide
theorem nat10 {i v : Nat} (hi : i ≤ 9) (h : v < 10 ^ i) : v < 1000000000 := by
  have : 10 ^ i ≤ 10 ^ 9 := Nat.pow_le_pow_right (by decide) hi
  omega

def sgn (w : List UInt8) : Bool := decide (w.head? = some 45)
def body (w : List UInt8) : List UInt8 := if w.head? = some 45 then w.tail else w
theorem cutPrefix_eq (n : Nat) (w : List UInt8) : F_strings_CutPrefix_2 n (mkS w) = some (mkS (body w), sgn w) := by
  unfold F_strings_CutPrefix_2 F_stringslite_CutPrefix_2 F_stringslite_HasPrefix_2 body sgn
  have e : (⟨#[45]⟩ : ByteArray) = mkS [45] := rfl
  cases w with
  | nil =>
    rw [if_neg (by rw [mk_size]; simp)]
    rfl
  | cons x r =>
    have h1 := sub_to (x :: r) (b := 1) (by simp)
    have h2 := sub_from (x :: r) (a := 1) (by simp)
    simp only [Int.natCast_one] at h1 h2
    rw [if_pos (by rw [mk_size]; simp; omega), h1, Option.bind_some, e, beq_mk]
    by_cases hx : x = 45
    · subst hx
      simp [h2]
    · simp [hx]
theorem int_step (n : Nat) {d : List UInt8} (b : Bool) {i v : Nat} {x : UInt8} (hil : i < d.length) (hdec : Utf8.decode (mkS d) i = (x.toNat, 1)) (hdig : 48 ≤ x.toNat ∧ x.toNat ≤ 57) (hlen : d.length ≤ 9) (hv : v < 1000000000) :
    F_drive_integer_L1 n (mkS d, b) ((v : Int), i) = some (.inl (((10 * v + (x.toNat - 48) : Nat) : Int), i + 1)) := by
  have hsz : i < (mkS d).size := by rw [mk_size]; exact hil
  have hw1 : IntKind.wrap .i32 ((x.toNat : Int) - 48) = (x.toNat : Int) - 48 := wrap32 (by omega) (by omega)
  have hw2 : IntKind.wrap .i64 ((x.toNat : Int) - 48) = (x.toNat : Int) - 48 := wrap64 (i64 (by omega) (by omega))
  have c1 : ¬ ((x.toNat : Int) < 48) := by omega
  have c2 : ¬ ((x.toNat : Int) > 57) := by omega
  have c3 : ¬ (((mkS d).size : Int) > 9) := by rw [mk_size]; omega
  have c4 : inI64 (10 * (v : Int)) := i64 (by omega) (by omega)
  have c5 : inI64 (10 * (v : Int) + ((x.toNat : Int) - 48)) := i64 (by omega) (by omega)
  have c6 : (10 * (v : Int) + ((x.toNat : Int) - 48)) = ((10 * v + (x.toNat - 48) : Nat) : Int) := by omega
  unfold F_drive_integer_L1
  simp only [hdec, hsz, if_true, if_neg c1, if_neg c2, if_neg c3, if_pos c4, hw1, hw2, if_pos c5]
  rw [c6]
theorem int_loop (n : Nat) (d : List UInt8) (b : Bool) : ∀ (rest : List UInt8) (i v k : Nat), d.drop i = rest → i ≤ d.length → v < 10 ^ i → rest.length < k →
    loopF (F_drive_integer_L1 n (mkS d, b)) k ((v : Int), i) = some (if isDig rest ∧ (d.length ≤ 9 ∨ rest = []) then .inr (valN v rest : Int) else .inl ())
  | _, _, _, 0, _, _, _, hk => absurd hk (by omega)
  | [], i, v, k + 1, hd, hi, _, _ => by
    have hie : i = d.length := by have := List.drop_eq_nil_iff.1 hd; omega
    rw [loopF_r (e := .inr (v : Int)), if_pos (show isDig [] ∧ (d.length ≤ 9 ∨ ([] : List UInt8) = []) from ⟨fun c hc => (by cases hc), .inr rfl⟩)]
    · rfl
    unfold F_drive_integer_L1
    dsimp only
    rw [if_neg (by rw [mk_size]; omega)]
  | x :: rest, i, v, k + 1, hd, hi, hv, hk => by
    have hil : i < d.length := by
      rcases Nat.lt_or_ge i d.length with h | h
      · exact h
      · rw [List.drop_eq_nil_of_le h] at hd; cases hd
    have hx : d[i]? = some x := by
      have := List.drop_eq_getElem_cons hil
      rw [hd] at this
      rw [List.getElem?_eq_getElem hil]
      exact congrArg some (List.cons.inj this).1.symm
    have hd' : d.drop (i + 1) = rest := by
      have := List.drop_eq_getElem_cons hil
      rw [hd] at this
      exact (List.cons.inj this).2.symm
    have hg := get_mk hx
    by_cases hdig : 48 ≤ x.toNat ∧ x.toNat ≤ 57
    · have hdec : Utf8.decode (mkS d) i = (x.toNat, 1) := by
        have := decode_low (s := mkS d) (p := i) (by rw [hg]; omega)
        rw [hg] at this; exact this
      by_cases hlen : d.length ≤ 9
      · have hv9 : v < 1000000000 := nat10 (by omega) hv
        have ih := int_loop n d b rest (i + 1) (10 * v + (x.toNat - 48)) k hd' hil (by rw [Nat.pow_succ]; omega) (by simp at hk; omega)
        rw [loopF_l (s' := (((10 * v + (x.toNat - 48) : Nat) : Int), i + 1)), ih]
        · have e : (isDig (x :: rest) ∧ (d.length ≤ 9 ∨ x :: rest = [])) ↔ (isDig rest ∧ (d.length ≤ 9 ∨ rest = [])) := by
            rw [isDig_cons]
            exact ⟨fun h => ⟨h.1.2, .inl hlen⟩, fun h => ⟨⟨hdig, h.1⟩, .inl hlen⟩⟩
          by_cases hq : isDig rest ∧ (d.length ≤ 9 ∨ rest = [])
          · rw [if_pos hq, if_pos (e.2 hq)]; rfl
          · rw [if_neg hq, if_neg (fun h => hq (e.1 h))]
        · exact int_step n b hil hdec hdig hlen hv9
      · rw [loopF_r (e := .inl ()), if_neg (fun h => h.2.elim (fun h => hlen h) (fun h => by cases h))]
        unfold F_drive_integer_L1
        dsimp only
        rw [if_pos (by rw [mk_size]; omega), hdec]
        dsimp only
        rw [if_neg (by omega), if_neg (by omega), if_pos (by rw [mk_size]; omega)]
    · rw [loopF_r (e := .inl ()), if_neg (fun h => hdig (isDig_cons.1 h.1).1)]
      unfold F_drive_integer_L1
      dsimp only
      rw [if_pos (by rw [mk_size]; omega)]
      by_cases hb : x.toNat < 128
      · have hdec : Utf8.decode (mkS d) i = (x.toNat, 1) := by
          have := decode_low (s := mkS d) (p := i) (by rw [hg]; exact hb)
          rw [hg] at this; exact this
        rw [hdec]
        dsimp only
        by_cases h48 : x.toNat < 48
        · rw [if_pos (by omega)]
        · rw [if_neg (by omega), if_pos (by omega)]
      · have := decode_high (s := mkS d) (p := i) (by rw [hg]; exact hb)
        rw [if_neg (by omega), if_pos (by omega)]
def intX (w : List UInt8) : Int :=
  if isDig (body w) ∧ ((body w).length ≤ 9 ∨ body w = []) then (if sgn w then -(valN 0 (body w) : Int) else (valN 0 (body w) : Int)) else 0
theorem num_eq (w : List UInt8) : num w = if digOk (body w) ∧ (sgn w = true → body w ≠ [48]) then some (if sgn w then -(valN 0 (body w) : Int) else (valN 0 (body w) : Int)) else none := by
  unfold num body sgn
  by_cases h : w.head? = some 45
  · simp only [h, if_true, decide_true, true_implies]
  · simp only [h, if_false, decide_false, Bool.false_eq_true, false_implies, and_true]
theorem intX_num {w : List UInt8} {v : Int} (h : num w = some v) : intX w = v := by
  rw [num_eq] at h
  split at h
  case isFalse => cases h
  rename_i hk
  simp only [Option.some.injEq] at h
  unfold intX
  rw [if_pos ⟨hk.1.2.2.1, .inl hk.1.2.1⟩, h]
theorem integer_eq {n : Nat} (hn : 1000 ≤ n) {w : List UInt8} (hw : w.length ≤ 900) : F_drive_integer_2 n (mkS w) = some (intX w, (num w).isSome) := by
  have hbl : (body w).length ≤ 900 := by
    unfold body; split
    · simp; omega
    · exact hw
  unfold F_drive_integer_2
  rw [cutPrefix_eq, Option.bind_some]
  have hloop := int_loop n (body w) (sgn w) (body w) 0 0 n rfl (Nat.zero_le _) (by decide) (by omega)
  have hloop' : loopF (F_drive_integer_L1 n (mkS (body w), sgn w)) n (0, 0) = _ := hloop
  rw [hloop', num_eq]
  unfold intX
  generalize body w = d at *
  generalize sgn w = m at *
  have e0 : (⟨#[]⟩ : ByteArray) = mkS [] := rfl
  have e48 : (⟨#[48]⟩ : ByteArray) = mkS [48] := rfl
  by_cases hc : isDig d ∧ (d.length ≤ 9 ∨ d = [])
  · rw [if_pos hc, if_pos hc, Option.bind_some]
    dsimp only
    rw [e0, e48, beq_mk, beq_mk]
    cases d with
    | nil =>
      have hno : ¬ digOk [] := fun h => h.1 rfl
      have hw0 : IntKind.wrap .i64 (0 - ((0 : Nat) : Int)) = 0 := by decide
      rw [if_neg (show ¬ ((!decide (([] : List UInt8) = [])) = true) by simp)]
      cases m with
      | true =>
        rw [if_pos rfl, if_neg (show ¬ (digOk [] ∧ (true = true → ([] : List UInt8) ≠ [48])) from fun h => hno h.1), show valN 0 [] = 0 from rfl, hw0]
        rfl
      | false =>
        rw [if_neg (by simp), if_neg (show ¬ (digOk [] ∧ (false = true → ([] : List UInt8) ≠ [48])) from fun h => hno h.1)]
        rfl
    | cons x r =>
      have hlen : (x :: r).length ≤ 9 := hc.2.resolve_right (by simp)
      have hb := val_lt9' hc.1 hlen
      have hsa : strAt (mkS (x :: r)) 0 = some (x.toNat : Int) := strAt_mk (x :: r) 0
      have hne : (!(decide ((x :: r) = []))) = true := by simp
      rw [if_pos hne, hsa, Option.bind_some]
      have hneg : IntKind.wrap .i64 (0 - (valN 0 (x :: r) : Int)) = -(valN 0 (x :: r) : Int) := by
        generalize valN 0 (x :: r) = v at hb ⊢
        have := wrap64 (m := 0 - (v : Int)) (i64 (by omega) (by omega))
        rw [this]; omega
      rw [hneg]
      by_cases h48 : x = 48
      · subst h48
        rw [if_pos (by decide)]
        cases r with
        | nil =>
          have hok : digOk [48] := by decide
          cases m <;> simp [hok]
        | cons y r =>
          have hno : ¬ digOk (48 :: y :: r) := fun h => by
            rcases h.2.2.2 with h | h
            · exact h rfl
            · simp at h
          cases m <;> simp [hno]
      · have h48' : ¬ ((x.toNat : Int) = 48) := fun e => h48 (UInt8.toNat_inj.1 (by show x.toNat = 48; omega))
        have hok : digOk (x :: r) := ⟨by simp, hlen, hc.1, .inl (by simpa using h48)⟩
        have hn48 : ¬ (x :: r = [48]) := fun e => h48 (List.cons.inj e).1
        rw [if_neg h48']
        cases m <;> simp [hok, h48]
  · have hno : ¬ digOk d := fun h => hc ⟨h.2.2.1, .inl h.2.1⟩
    rw [if_neg hc, if_neg hc, Option.bind_some, if_neg (fun h => hno h.1)]
    rfl

theorem cutNl (n : Nat) {p : List UInt8} (hp : p.length ≤ 900) : F_strings_CutSuffix n (mkS (p ++ [10])) = some (mkS p, true) := by
  unfold F_strings_CutSuffix F_stringslite_CutSuffix F_stringslite_HasSuffix
  have e : (⟨#[10]⟩ : ByteArray) = mkS [10] := rfl
  have hs : ((mkS (p ++ [10])).size : Int) - 1 = (p.length : Int) := by rw [mk_size]; simp
  rw [hs, if_pos (by rw [mk_size]; simp; omega), if_pos (i64 (by omega) (by omega)), sub_from _ (by simp), Option.bind_some, e, beq_mk]
  simp only [List.drop_left, decide_true, Option.bind_some, if_true]
  rw [if_pos (i64 (by omega) (by omega)), sub_to _ (by simp)]
  simp
theorem cutNo (n : Nat) {s : List UInt8} (hs : s.length ≤ 900) (h : (10 : UInt8) ∉ s) : F_strings_CutSuffix n (mkS s) = some (mkS s, false) := by
  unfold F_strings_CutSuffix F_stringslite_CutSuffix F_stringslite_HasSuffix
  have e : (⟨#[10]⟩ : ByteArray) = mkS [10] := rfl
  by_cases h0 : s = []
  · subst h0
    rw [if_neg (by rw [mk_size]; simp)]
    rfl
  · have hl : 0 < s.length := List.length_pos_iff.2 h0
    have hc : ((mkS s).size : Int) - 1 = ((s.length - 1 : Nat) : Int) := by rw [mk_size]; omega
    rw [hc, if_pos (by rw [mk_size]; omega), if_pos (i64 (by omega) (by omega)), sub_from _ (by omega), Option.bind_some, e, beq_mk]
    have hne : ¬ (s.drop (s.length - 1) = [10]) := fun hd => h (List.mem_of_mem_drop (i := s.length - 1) (by rw [hd]; simp))
    rw [decide_eq_false hne]
    rfl
end Go.Proofs.YtoblljobcafecaaGreatDoor
