/-
  The plain law of DriveTexts: the program's Print and Parse say what the reference says. An own text.
-/
import Derived.Test.YtoblljobcafecaaGreatDoorText1
import Derived.Test.YtoblljobcafecaaGreatDoorPar
set_option linter.unusedVariables false
set_option linter.unusedSimpArgs false
set_option linter.unnecessarySimpa false
set_option maxRecDepth 20000
namespace Go.Proofs.YtoblljobcafecaaGreatDoor
open Go.SX

theorem wrap8 {m : Int} (h1 : 0 ≤ m) (h2 : m ≤ 9) : IntKind.wrap .u8 m = m := by
  have : m = 0 ∨ m = 1 ∨ m = 2 ∨ m = 3 ∨ m = 4 ∨ m = 5 ∨ m = 6 ∨ m = 7 ∨ m = 8 ∨ m = 9 := by omega
  rcases this with h | h | h | h | h | h | h | h | h | h <;> subst h <;> decide
theorem dig_step (n : Nat) {d : List UInt8} {i v : Nat} {x : UInt8} (hx : d[i]? = some x) (hdig : 48 ≤ x.toNat ∧ x.toNat ≤ 57) (hlen : d.length ≤ 9) (hv : v < 1000000000) :
    F_ref01_Digits_L1 n (mkS d) ((v : Int), (i : Int)) = some (.inl (((10 * v + (x.toNat - 48) : Nat) : Int), ((i + 1 : Nat) : Int))) := by
  have hil := (List.getElem?_eq_some_iff.1 hx).1
  have hsz : (i : Int) < ((mkS d).size : Int) := by rw [mk_size]; omega
  have hw1 : IntKind.wrap .u8 ((x.toNat : Int) - 48) = (x.toNat : Int) - 48 := wrap8 (by omega) (by omega)
  have hw2 : IntKind.wrap .i64 ((x.toNat : Int) - 48) = (x.toNat : Int) - 48 := wrap64 (i64 (by omega) (by omega))
  have c1 : ¬ ((x.toNat : Int) < 48) := by omega
  have c2 : ¬ ((x.toNat : Int) > 57) := by omega
  have c4 : inI64 (10 * (v : Int)) := i64 (by omega) (by omega)
  have c5 : inI64 (10 * (v : Int) + ((x.toNat : Int) - 48)) := i64 (by omega) (by omega)
  have c6 : (10 * (v : Int) + ((x.toNat : Int) - 48)) = ((10 * v + (x.toNat - 48) : Nat) : Int) := by omega
  have c7 : inI64 ((i : Int) + 1) := i64 (by omega) (by omega)
  have hs : strAt (mkS d) (i : Int) = some (x.toNat : Int) := by rw [strAt_mk, hx]; rfl
  unfold F_ref01_Digits_L1
  simp only [hs, hsz, if_true, Option.bind_some, if_neg c1, if_neg c2, if_pos c4, hw1, hw2, if_pos c5, if_pos c7]
  rw [c6]; rfl
theorem dig_loop (n : Nat) (d : List UInt8) (hlen : d.length ≤ 9) : ∀ (rest : List UInt8) (i v k : Nat), d.drop i = rest → i ≤ d.length → v < 10 ^ i → rest.length < k →
    loopF (F_ref01_Digits_L1 n (mkS d)) k ((v : Int), (i : Int)) = some (if isDig rest then .inr (valN v rest : Int) else .inl ())
  | _, _, _, 0, _, _, _, hk => absurd hk (by omega)
  | [], i, v, k + 1, hd, hi, _, _ => by
    have hie : i = d.length := by have := List.drop_eq_nil_iff.1 hd; omega
    rw [loopF_r (e := .inr (v : Int)), if_pos (show isDig [] from fun c hc => (by cases hc))]
    · rfl
    unfold F_ref01_Digits_L1
    dsimp only
    rw [if_neg (by rw [mk_size]; omega)]
  | x :: rest, i, v, k + 1, hd, hi, hv, hk => by
    have hil : i < d.length := by
      rcases Nat.lt_or_ge i d.length with h | h
      · exact h
      · rw [List.drop_eq_nil_of_le h] at hd; cases hd
    have hx : d[i]? = some x := by
      have := List.drop_eq_getElem_cons hil
      rw [hd] at this
      rw [List.getElem?_eq_getElem hil]
      exact congrArg some (List.cons.inj this).1.symm
    have hd' : d.drop (i + 1) = rest := by
      have := List.drop_eq_getElem_cons hil
      rw [hd] at this
      exact (List.cons.inj this).2.symm
    by_cases hdig : 48 ≤ x.toNat ∧ x.toNat ≤ 57
    · have hv9 : v < 1000000000 := nat10 (by omega) hv
      have ih := dig_loop n d hlen rest (i + 1) (10 * v + (x.toNat - 48)) k hd' hil (by rw [Nat.pow_succ]; omega) (by simp at hk; omega)
      rw [loopF_l (dig_step n hx hdig hlen hv9), ih]
      by_cases hq : isDig rest
      · rw [if_pos hq, if_pos (isDig_cons.2 ⟨hdig, hq⟩)]; rfl
      · rw [if_neg hq, if_neg (fun h => hq (isDig_cons.1 h).2)]
    · rw [loopF_r (e := .inl ()), if_neg (fun h => hdig (isDig_cons.1 h).1)]
      have hs : strAt (mkS d) (i : Int) = some (x.toNat : Int) := by rw [strAt_mk, hx]; rfl
      unfold F_ref01_Digits_L1
      dsimp only
      rw [if_pos (by rw [mk_size]; omega), hs, Option.bind_some]
      by_cases h48 : x.toNat < 48
      · rw [if_pos (by omega)]
      · rw [if_neg (by omega), if_pos (by omega)]
theorem digits_eq {n : Nat} (hn : 1000 ≤ n) (d : List UInt8) : F_ref01_Digits n (mkS d) = some (if digOk d then ((valN 0 d : Int), true) else (0, false)) := by
  unfold F_ref01_Digits
  have e0 : (⟨#[]⟩ : ByteArray) = mkS [] := rfl
  rw [e0, beq_mk]
  cases d with
  | nil =>
    have hno : ¬ digOk [] := fun h => h.1 rfl
    rw [if_pos (by decide), if_neg hno]
  | cons x r =>
    rw [if_neg (by simp)]
    by_cases hlen : (x :: r).length ≤ 9
    · have hsa : strAt (mkS (x :: r)) 0 = some (x.toNat : Int) := strAt_mk (x :: r) 0
      have hloop := dig_loop n (x :: r) hlen (x :: r) 0 0 n rfl (Nat.zero_le _) (by decide) (by omega)
      have hloop' : loopF (F_ref01_Digits_L1 n (mkS (x :: r))) n (0, 0) = _ := hloop
      rw [if_neg (by rw [mk_size]; omega), hsa, Option.bind_some, hloop']
      by_cases h48 : x = 48
      · subst h48
        rw [if_pos (by decide)]
        cases r with
        | nil =>
          rw [if_neg (by rw [mk_size]; simp), if_pos (by decide), if_pos (by decide)]; rfl
        | cons y r =>
          have hno : ¬ digOk (48 :: y :: r) := fun h => by
            rcases h.2.2.2 with h | h
            · exact h rfl
            · simp at h
          rw [if_pos (by rw [mk_size]; simp; omega), if_neg hno]
      · have h48' : ¬ ((x.toNat : Int) = 48) := fun e => h48 (UInt8.toNat_inj.1 (by show x.toNat = 48; omega))
        rw [if_neg h48']
        by_cases hd : isDig (x :: r)
        · have hok : digOk (x :: r) := ⟨by simp, hlen, hd, .inl (by simpa using h48)⟩
          rw [if_pos hd, if_pos hok]; rfl
        · rw [if_neg hd, if_neg (fun h => hd h.2.2.1)]; rfl
    · rw [if_pos (by rw [mk_size]; omega), if_neg (fun h => hlen h.2.1)]
theorem signed_eq {n : Nat} (hn : 1000 ≤ n) (w : List UInt8) : F_ref01_Signed n (mkS w) = some ((num w).getD 0, (num w).isSome) := by
  unfold F_ref01_Signed
  have e0 : (⟨#[]⟩ : ByteArray) = mkS [] := rfl
  rw [e0, beq_mk]
  cases w with
  | nil =>
    rw [if_pos (by decide), digits_eq hn []]
    rfl
  | cons x r =>
    have hsa : strAt (mkS (x :: r)) 0 = some (x.toNat : Int) := strAt_mk (x :: r) 0
    rw [if_neg (by simp), hsa, Option.bind_some]
    by_cases h45 : x = 45
    · subst h45
      have hsub := sub_from (45 :: r) (a := 1) (by simp)
      simp only [Int.natCast_one, List.drop_succ_cons, List.drop_zero] at hsub
      rw [if_pos (by decide), hsub, Option.bind_some, digits_eq hn r, Option.bind_some]
      have hnum : num (45 :: r) = if digOk r ∧ r ≠ [48] then some (-(valN 0 r : Int)) else none := by
        unfold num; rw [if_pos (show (45 :: r).head? = some 45 from rfl)]; rfl
      rw [hnum]
      by_cases hk : digOk r
      · rw [if_pos hk]
        dsimp only
        rw [if_pos rfl]
        by_cases h48 : r = [48]
        · rw [if_pos (by rw [(val_zero hk).2 h48]; rfl), if_neg (fun h => h.2 h48)]; rfl
        · have hz := mt (val_zero hk).1 h48
          have hl := val_lt9 hk
          rw [if_neg (by omega), if_pos (i64 (by omega) (by omega)), if_pos ⟨hk, h48⟩]
          simp
      · rw [if_neg hk]
        dsimp only
        rw [if_neg (by simp), if_neg (fun h => hk h.1)]; rfl
    · have h45' : ¬ ((x.toNat : Int) = 45) := fun e => h45 (UInt8.toNat_inj.1 (by show x.toNat = 45; omega))
      rw [if_neg h45', digits_eq hn, Option.bind_some]
      have hnum : num (x :: r) = if digOk (x :: r) then some (valN 0 (x :: r) : Int) else none := by
        unfold num; rw [if_neg (by simpa using h45)]
      rw [hnum]
      by_cases hk : digOk (x :: r)
      · rw [if_pos hk, if_pos hk]; rfl
      · rw [if_neg hk, if_neg hk]; rfl

theorem loopF_mono {S E : Type} {step : S → Option (S ⊕ E)} : ∀ (k : Nat) (s : S) {e : E}, loopF step k s = some e → ∀ j, loopF step (k + j) s = some e
  | 0, s, e, h, j => by cases h
  | k + 1, s, e, h, j => by
    rw [show k + 1 + j = (k + j) + 1 by omega]
    cases hs : step s with
    | none =>
      change (match step s with | none => none | some (.inl s') => loopF step k s' | some (.inr e) => some e) = _ at h
      rw [hs] at h; cases h
    | some r =>
      cases r with
      | inl s' =>
        rw [loopF_l hs] at h ⊢
        exact loopF_mono k s' h j
      | inr e' =>
        rw [loopF_r hs] at h ⊢
        exact h
/-! The reference's text of a number. -/
def decZ (u : Nat) : List UInt8 := if u = 0 then [] else Lib.decDigits u
theorem decZ_step {u : Nat} (h : u ≠ 0) : decZ u = decZ (u / 10) ++ [UInt8.ofNat (48 + u % 10)] := by
  unfold decZ
  rw [if_neg h, Lib.decDigits]
  by_cases h10 : u < 10
  · rw [dif_pos h10, if_pos (by omega), show u % 10 = u by omega]; rfl
  · rw [dif_neg h10, if_neg (by omega)]
theorem enc_dig : ∀ k : Fin 10, Utf8.encode (IntKind.wrap .i32 (48 + ((k.val : Nat) : Int))) = mkS [UInt8.ofNat (48 + k.val)] := by decide
theorem enc_dig' {k : Nat} (h : k < 10) : Utf8.encode (IntKind.wrap .i32 (48 + (k : Int))) = mkS [UInt8.ofNat (48 + k)] := enc_dig ⟨k, h⟩
theorem text_loop (n : Nat) (a : Int) (neg : Bool) : ∀ (k u : Nat) (t : List UInt8), u < 10 ^ k → u < 1000000000 → t.length + k ≤ 100 →
    loopF (F_ref01_Text_L1 n a) (k + 1) (mkS t, if neg then -(u : Int) else (u : Int)) = some (mkS (decZ u ++ t))
  | 0, u, t, hu, _, _ => by
    have : u = 0 := by simpa using hu
    subst this
    refine loopF_r ?_
    unfold F_ref01_Text_L1
    cases neg <;> rfl
  | k + 1, u, t, hu, hb, ht => by
    by_cases h0 : u = 0
    · subst h0
      refine loopF_r ?_
      unfold F_ref01_Text_L1
      cases neg <;> rfl
    · have hm : u % 10 < 10 := Nat.mod_lt _ (by decide)
      have ih := text_loop n a neg k (u / 10) (UInt8.ofNat (48 + u % 10) :: t) (by rw [Nat.pow_succ] at hu; omega) (by omega) (by simp; omega)
      have happ : decZ u ++ t = decZ (u / 10) ++ (UInt8.ofNat (48 + u % 10) :: t) := by rw [decZ_step h0]; simp
      rw [happ, ← ih]
      refine loopF_l ?_
      have hsz : (mkS [UInt8.ofNat (48 + u % 10)]).size + (mkS t).size ≤ 9223372036854775807 := by rw [mk_size, mk_size]; simp; omega
      have hcons : mkS [UInt8.ofNat (48 + u % 10)] ++ mkS t = mkS (UInt8.ofNat (48 + u % 10) :: t) := app_mk _ _
      unfold F_ref01_Text_L1
      cases neg with
      | false =>
        have h1 : Int.tmod (u : Int) 10 = ((u % 10 : Nat) : Int) := rfl
        have h2 : Int.tdiv (u : Int) 10 = ((u / 10 : Nat) : Int) := rfl
        simp only [Bool.false_eq_true, if_false]
        rw [if_neg (by omega), h1, h2, if_neg (by omega), enc_dig' hm, if_pos (i64 (by omega) (by omega)), if_pos hsz, if_pos (i64 (by omega) (by omega)), hcons]
      | true =>
        have h1 : Int.tmod (-(u : Int)) 10 = -((u % 10 : Nat) : Int) := by rw [Int.neg_tmod]; rfl
        have h2 : Int.tdiv (-(u : Int)) 10 = -((u / 10 : Nat) : Int) := by rw [Int.neg_tdiv]; rfl
        have h3 : (0 : Int) - -((u % 10 : Nat) : Int) = ((u % 10 : Nat) : Int) := by omega
        simp only [if_true]
        rw [if_neg (by omega), h1, h2]
        by_cases hz : u % 10 = 0
        · rw [if_neg (by omega)]
          have h4 : -((u % 10 : Nat) : Int) = ((u % 10 : Nat) : Int) := by omega
          rw [h4, enc_dig' hm, if_pos (i64 (by omega) (by omega)), if_pos hsz, if_pos (i64 (by omega) (by omega)), hcons]
        · rw [if_pos (by omega), h3, enc_dig' hm, if_pos (i64 (by omega) (by omega)), if_pos (i64 (by omega) (by omega)), if_pos hsz, if_pos (i64 (by omega) (by omega)), hcons]
theorem text_eq {n : Nat} (hn : 1000 ≤ n) {a : Int} (h1 : -1000000000 < a) (h2 : a < 1000000000) : F_ref01_Text n a = some (mkS (Lib.itoa a)) := by
  unfold F_ref01_Text
  by_cases h0 : a = 0
  · subst h0
    have h00 : Lib.itoa 0 = [48] := by
      unfold Lib.itoa
      rw [if_neg (by decide)]
      show Lib.decDigits 0 = _
      rw [Lib.decDigits, dif_pos (by decide)]; rfl
    rw [if_pos rfl, h00]
    rfl
  · rw [if_neg h0]
    have hlen := itoa_len h1 h2
    obtain ⟨k, hk⟩ : ∃ k, n = k + 10 := ⟨n - 10, by omega⟩
    have mono : ∀ (j : Nat) (s : ByteArray × Int) (e : ByteArray), loopF (F_ref01_Text_L1 n a) 10 s = some e → loopF (F_ref01_Text_L1 n a) (10 + j) s = some e := fun j s e h => loopF_mono _ _ h j
    by_cases hneg : a < 0
    · have hl := text_loop n a true 9 a.natAbs [] (by simp; omega) (by omega) (by simp)
      simp only [if_true] at hl
      rw [show -(a.natAbs : Int) = a by omega] at hl
      have hl' := mono k _ _ hl
      rw [show 10 + k = n by omega] at hl'
      have hz : decZ a.natAbs = Lib.decDigits a.natAbs := by unfold decZ; rw [if_neg (by omega)]
      rw [List.append_nil, hz] at hl'
      have hl'' : loopF (F_ref01_Text_L1 n a) n (⟨#[]⟩, a) = some (mkS (Lib.decDigits a.natAbs)) := hl'
      rw [hl'', Option.bind_some, if_pos hneg]
      have e45 : (⟨#[45]⟩ : ByteArray) = mkS [45] := rfl
      have hit : Lib.itoa a = 45 :: Lib.decDigits a.natAbs := by unfold Lib.itoa; rw [if_pos hneg]
      rw [hit] at hlen ⊢
      simp only [List.length_cons] at hlen
      rw [e45, if_pos (by rw [mk_size, mk_size]; simp; omega), app_mk]
      rfl
    · have hl := text_loop n a false 9 a.toNat [] (by simp; omega) (by omega) (by simp)
      simp only [Bool.false_eq_true, if_false] at hl
      rw [show (a.toNat : Int) = a by omega] at hl
      have hl' := mono k _ _ hl
      rw [show 10 + k = n by omega] at hl'
      have hz : decZ a.toNat = Lib.decDigits a.toNat := by unfold decZ; rw [if_neg (by omega)]
      rw [List.append_nil, hz] at hl'
      have hl'' : loopF (F_ref01_Text_L1 n a) n (⟨#[]⟩, a) = some (mkS (Lib.decDigits a.toNat)) := hl'
      rw [hl'', Option.bind_some, if_neg hneg]
      have hit : Lib.itoa a = Lib.decDigits a.toNat := by unfold Lib.itoa; rw [if_neg hneg]
      rw [hit]

/-! The reference's Print and Parse. -/
theorem refLine_step {n : Nat} (hn : 1000 ≤ n) {m : List Bd} (hm : m.length ≤ 900) {i : Nat} {b : Bd} (hb : m[i]? = some b) (hok : BandOk b) {t : List UInt8} (ht : t.length ≤ 100000) :
    F_ref03_Print_L1 n (m.map enc_Ai3Z) (mkS t, (i : Int)) = some (.inl (mkS (t ++ lineB b), ((i + 1 : Nat) : Int))) := by
  have hi := ixlt hb
  obtain ⟨h1, h2, h3, h4⟩ := hok
  have l1 := itoa_len (n := b.1) (by omega) (by omega)
  have l2 := itoa_len (n := b.2.1) (by omega) (by omega)
  have l3 := itoa_len (n := b.2.2) (by omega) (by omega)
  have e1 : (⟨#[98, 97, 110, 100, 32]⟩ : ByteArray) = mkS (bandW ++ [32]) := rfl
  have e2 : (⟨#[32]⟩ : ByteArray) = mkS [32] := rfl
  have e3 : (⟨#[10]⟩ : ByteArray) = mkS [10] := rfl
  have hbw : bandW.length = 4 := rfl
  unfold F_ref03_Print_L1
  dsimp only
  rw [e1, e2, e3, if_pos (lenlt hb), if_pos (by simp only [mk_size, List.length_append, List.length_singleton]; omega), el_enc un3 hb, Option.bind_some,
    text_eq hn (by omega) (by omega), Option.bind_some, if_pos (by simp only [app_mk, mk_size, List.length_append, List.length_singleton]; omega), if_pos (by simp only [app_mk, mk_size, List.length_append, List.length_singleton]; omega),
    text_eq hn (by omega) (by omega), Option.bind_some, if_pos (by simp only [app_mk, mk_size, List.length_append, List.length_singleton]; omega), if_pos (by simp only [app_mk, mk_size, List.length_append, List.length_singleton]; omega),
    text_eq hn (by omega) (by omega), Option.bind_some, if_pos (by simp only [app_mk, mk_size, List.length_append, List.length_singleton]; omega), if_pos (by simp only [app_mk, mk_size, List.length_append, List.length_singleton]; omega), if_pos (i64 (by omega) (by omega))]
  simp only [app_mk]
  congr 4
  simp [lineB]
theorem refPrint_eq {n : Nat} (hn : 1000 ≤ n) {m : List Bd} (hm : m.length ≤ 900) (hb : ∀ b, b ∈ m → BandOk b) : F_ref03_Print n (m.map enc_Ai3Z) = some (mkS (printed m)) := by
  have key : ∀ (k i : Nat), i ≤ m.length → m.length - i < k → loopF (F_ref03_Print_L1 n (m.map enc_Ai3Z)) k (mkS (printed (m.take i)), (i : Int)) = some (mkS (printed m)) := by
    intro k
    induction k with
    | zero => intro i _ h; omega
    | succ k ih =>
      intro i hi hk
      by_cases hil : i < m.length
      · have hx := List.getElem?_eq_getElem hil
        have hpl := printed_len (m.take i) (fun b hb' => hb b (List.mem_of_mem_take hb'))
        have hs := refLine_step hn hm hx (hb _ (List.getElem_mem hil)) (t := printed (m.take i)) (by simp at hpl; omega)
        rw [loopF_l hs]
        have e : printed (m.take i) ++ lineB m[i] = printed (m.take (i + 1)) := by
          have ht : m.take (i + 1) = m.take i ++ [m[i]] := by rw [List.take_add_one, hx]; rfl
          unfold printed
          rw [ht, List.map_append, List.flatten_append]
          simp
        rw [e]
        exact ih (i + 1) hil (by omega)
      · have hie : i = m.length := by omega
        rw [hie, List.take_length]
        refine loopF_r ?_
        unfold F_ref03_Print_L1
        rw [if_neg notlt]
  unfold F_ref03_Print
  have := key n 0 (Nat.zero_le _) (by omega)
  have h0 : loopF (F_ref03_Print_L1 n (m.map enc_Ai3Z)) n (⟨#[]⟩, 0) = some (mkS (printed m)) := this
  rw [h0]; rfl
theorem el_eS {L : List (List UInt8)} {i : Nat} {p : List UInt8} (h : L[i]? = some p) : el un_s (L.map eS) (i : Int) = some (mkS p) := by
  unfold el
  rw [if_pos (Int.natCast_nonneg i), Int.toNat_natCast, nth_get?, List.getElem?_map, h]
  rfl
theorem refParse_step {n : Nat} (hn : 1000 ≤ n) {L : List (List UInt8)} {i : Nat} {p : List UInt8} (hL : L.length ≤ 900) (hi : i + 1 < L.length) (hp : L[i]? = some p) (hpl : p.length ≤ 900) {acc : List Bd} (ha : acc.length ≤ 900) :
    F_ref03_Parse_L1 n (L.map eS) ((i : Int), acc.map enc_Ai3Z) = some (match parseL p with
      | some b => .inl (((i + 1 : Nat) : Int), (acc ++ [b]).map enc_Ai3Z)
      | none => .inr (.inl (i : Int))) := by
  have hsp := refSplit_eq hn (l := p) 32 hpl
  have hsp' : F_ref01_Split n (mkS p) 32 = some ((spl 32 p).map eS) := hsp
  have hroom : roomP 24 ((acc.map enc_Ai3Z).length + 1) := by rw [List.length_map]; unfold roomP; omega
  have hc : (i : Int) + 1 = ((i + 1 : Nat) : Int) := by simp
  unfold F_ref03_Parse_L1
  dsimp only
  rw [if_pos (by rw [List.length_map]; omega), el_eS hp, Option.bind_some, hsp', Option.bind_some, List.length_map]
  unfold parseL
  match hq : spl 32 p with
  | [w0, w1, w2, w3] =>
    have g0 : el un_s ([w0, w1, w2, w3].map eS) 0 = some (mkS w0) := rfl
    have g1 : el un_s ([w0, w1, w2, w3].map eS) 1 = some (mkS w1) := rfl
    have g2 : el un_s ([w0, w1, w2, w3].map eS) 2 = some (mkS w2) := rfl
    have g3 : el un_s ([w0, w1, w2, w3].map eS) 3 = some (mkS w3) := rfl
    rw [if_pos (by rfl), g0, Option.bind_some, beq_band]
    by_cases hb : w0 = bandW
    · rw [if_neg (by simp [hb]), g1, Option.bind_some, signed_eq hn, Option.bind_some, g2, Option.bind_some, signed_eq hn, Option.bind_some, g3, Option.bind_some, signed_eq hn, Option.bind_some, if_pos hroom, if_pos (i64 (by omega) (by omega)), hc]
      dsimp only
      cases h1 : num w1 with
      | none => simp [hb, h1]
      | some x1 => cases h2 : num w2 with
        | none => simp [hb, h1, h2]
        | some x2 => cases h3 : num w3 with
          | none => simp [hb, h1, h2, h3]
          | some x3 => simp [hb, h1, h2, h3, enc_Ai3Z]
    · rw [if_pos (by simp [hb])]
      simp [hb]
  | [] => simp
  | [w0] => simp
  | [w0, w1] => simp
  | [w0, w1, w2] => simp
  | w0 :: w1 :: w2 :: w3 :: w4 :: R =>
    rw [if_neg (by simp only [List.length_cons]; omega)]
theorem refParse_loop {n : Nat} (hn : 1000 ≤ n) {L : List (List UInt8)} (hL : L.length ≤ 900) (hp : ∀ p, p ∈ L → p.length ≤ 900) {last : List UInt8} (hlast : L[L.length - 1]? = some last) : ∀ (k i : Nat) (acc : List Bd), i < L.length → acc.length = i → L.length - i ≤ k →
    ∃ e, loopF (F_ref03_Parse_L1 n (L.map eS)) k ((i : Int), acc.map enc_Ai3Z) = some e ∧
      ((∃ j : Nat, e = .inl (j : Int) ∧ runP (L.drop i) acc = .inr j) ∨ (∃ acc', e = .inr (acc'.map enc_Ai3Z) ∧ acc'.length + 1 = L.length ∧ runP (L.drop i) acc = if last = [] then .inl acc' else .inr acc'.length))
  | 0, i, acc, hi, _, hk => by omega
  | k + 1, i, acc, hi, ha, hk => by
    have hx := List.getElem?_eq_getElem hi
    by_cases h1 : i + 1 < L.length
    · have hs := refParse_step hn hL h1 hx (hp _ (List.getElem_mem hi)) (acc := acc) (by omega)
      have hd : L.drop i = L[i] :: L[i + 1] :: L.drop (i + 2) := by
        rw [List.drop_eq_getElem_cons hi, List.drop_eq_getElem_cons h1]
      rw [hd]
      unfold runP
      cases hpl : parseL L[i] with
      | none =>
        rw [hpl] at hs
        exact ⟨_, loopF_r hs, .inl ⟨i, rfl, by rw [ha]⟩⟩
      | some b =>
        rw [hpl] at hs
        obtain ⟨e, g1, g2⟩ := refParse_loop hn hL hp hlast k (i + 1) (acc ++ [b]) h1 (by simp; omega) (by omega)
        rw [List.drop_eq_getElem_cons h1] at g2
        exact ⟨e, by rw [loopF_l hs]; exact g1, g2⟩
    · have hie : L.length - 1 = i := by omega
      rw [hie] at hlast
      have hd : L.drop i = [last] := by
        rw [List.drop_eq_getElem_cons hi, List.drop_eq_nil_of_le (by omega)]
        rw [hx] at hlast
        rw [Option.some.inj hlast]
      refine ⟨.inr (acc.map enc_Ai3Z), loopF_r ?_, .inr ⟨acc, rfl, by omega, ?_⟩⟩
      · unfold F_ref03_Parse_L1
        dsimp only
        rw [if_neg (by rw [List.length_map]; omega)]
      · rw [hd]; rfl
theorem refParse_eq {n : Nat} (hn : 1000 ≤ n) {l : List UInt8} (hl : l.length ≤ 800) : F_ref03_Parse n (mkS l) = some ((parsed l).1.map enc_Ai3Z, ((parsed l).2.1 : Int), (parsed l).2.2) := by
  have hsp := refSplit_eq hn (l := l) 10 (by omega)
  have hsp' : F_ref01_Split n (mkS l) 10 = some ((spl 10 l).map eS) := hsp
  have hlen := spl_len 10 l
  have hne : 0 < (spl 10 l).length := List.length_pos_iff.2 (spl_ne 10 l)
  obtain ⟨last, hlast⟩ : ∃ last, (spl 10 l)[(spl 10 l).length - 1]? = some last := ⟨_, List.getElem?_eq_getElem (by omega)⟩
  obtain ⟨e, g1, g2⟩ := refParse_loop hn (L := spl 10 l) (by omega) (fun p hp => by have := word_len hp; omega) hlast n 0 [] hne rfl (by omega)
  have g1' : loopF (F_ref03_Parse_L1 n ((spl 10 l).map eS)) n (0, []) = some e := g1
  have hcast : (((spl 10 l).map eS).length : Int) - 1 = (((spl 10 l).length - 1 : Nat) : Int) := by rw [List.length_map]; omega
  unfold F_ref03_Parse parsed
  rw [if_neg (by rw [mk_size]; omega), hsp', Option.bind_some, hcast, if_pos (i64 (by omega) (by omega)), g1', Option.bind_some]
  rw [List.drop_zero] at g2
  rcases g2 with ⟨j, rfl, g3⟩ | ⟨acc, rfl, g4, g3⟩
  · rw [g3]; rfl
  · rw [g3]
    have e0 : (⟨#[]⟩ : ByteArray) = mkS [] := rfl
    have hal : (spl 10 l).length - 1 = acc.length := by omega
    dsimp only
    rw [el_eS hlast, Option.bind_some, e0, beq_mk, hal]
    by_cases h : last = []
    · rw [if_neg (by simp [h]), if_pos h, refCheckModel_eq hn acc (by omega), Option.bind_some]
      dsimp only
      by_cases hm : modelE acc = 0
      · rw [if_pos hm, if_pos hm]; rfl
      · rw [if_neg hm, if_neg hm]; rfl
    · rw [if_pos (by simp [h]), if_neg h]; rfl
theorem refParse_long {n : Nat} {s : ByteArray} (h : (s.size : Int) > 4096) : F_ref03_Parse n s = some ([], 0, 26) := by
  unfold F_ref03_Parse
  rw [if_pos h]
theorem law_DriveTexts (m : List Bd) (s : ByteArray) : F_law03_DriveTexts 1000 (m.map enc_Ai3Z) s = some true := by
  have haw := axis_awake
  have e0 : (⟨#[]⟩ : ByteArray) = mkS [] := rfl
  unfold F_law03_DriveTexts
  rw [shortModel_eq, Option.bind_some, List.length_map]
  by_cases h1 : m.length ≤ 8 ∨ m.length = 65
  · rw [if_pos (decide_eq_true h1)]
    by_cases h2 : (s.size : Int) > 300
    · rw [if_pos h2]
      by_cases h3 : (s.size : Int) = 4097
      · rw [if_pos h3, given_eq m (by omega) (by omega), Option.bind_some, print_eq (by decide) (by omega), Option.bind_some, parse_long (by omega), Option.bind_some, refCheckModel_eq (by decide) m (by omega), Option.bind_some]
        have hb0 : F_law03_bands 1000 [] = some [] := bands_eq [] (by simp) (by simp)
        by_cases h4 : modelE m = 0
        · obtain ⟨⟨hl0, _⟩, hb⟩ := modelE_zero h4
          rw [if_pos h4, if_pos h4, refPrint_eq (by decide) (by omega) hb, Option.bind_some, refParse_long (by omega), Option.bind_some]
          dsimp only
          rw [if_pos (by simp), if_pos h4.symm, hb0, Option.bind_some, sameModel0 (by decide), Option.bind_some, if_pos rfl, if_pos rfl, if_pos rfl, haw]
          rfl
        · rw [if_neg h4, if_neg h4, refParse_long (by omega), Option.bind_some]
          dsimp only
          rw [if_pos (by simp), if_pos rfl, hb0, Option.bind_some, sameModel0 (by decide), Option.bind_some, if_pos rfl, if_pos rfl, if_pos rfl, haw]
          rfl
      · rw [if_neg h3, haw]; rfl
    · rw [if_neg h2]
      obtain ⟨l, rfl⟩ : ∃ l, s = mkS l := ⟨_, (mk_data s).symm⟩
      have hll : l.length ≤ 300 := by rw [mk_size] at h2; omega
      have hpl : (parsed l).1.length ≤ 64 := by
        unfold parsed
        cases hr : runP (spl 10 l) [] with
        | inr j => simp
        | inl acc =>
          dsimp only
          by_cases hm : modelE acc = 0
          · rw [if_pos hm]; exact (modelE_zero hm).1.2
          · rw [if_neg hm]; simp
      rw [given_eq m (by omega) (by omega), Option.bind_some, print_eq (by decide) (by omega), Option.bind_some, parse_eq (by decide) (by omega), Option.bind_some, refCheckModel_eq (by decide) m (by omega), Option.bind_some]
      by_cases h4 : modelE m = 0
      · obtain ⟨⟨hl0, _⟩, hb⟩ := modelE_zero h4
        rw [if_pos h4, if_pos h4, refPrint_eq (by decide) (by omega) hb, Option.bind_some, refParse_eq (by decide) (by omega), Option.bind_some]
        dsimp only
        rw [if_pos (by simp), if_pos h4.symm, bands_eq _ (by omega) (by omega), Option.bind_some, sameModel_eq _ (by omega) (by omega), Option.bind_some, if_pos rfl, if_pos rfl, if_pos rfl, haw]
        rfl
      · rw [if_neg h4, if_neg h4, refParse_eq (by decide) (by omega), Option.bind_some]
        dsimp only
        rw [if_pos (by simp), if_pos rfl, bands_eq _ (by omega) (by omega), Option.bind_some, sameModel_eq _ (by omega) (by omega), Option.bind_some, if_pos rfl, if_pos rfl, if_pos rfl, haw]
        rfl
  · rw [if_neg (by simpa using h1), haw]; rfl
end Go.Proofs.YtoblljobcafecaaGreatDoor
