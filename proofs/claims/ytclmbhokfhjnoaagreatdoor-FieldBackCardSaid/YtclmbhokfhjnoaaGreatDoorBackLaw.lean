/-
  Own texts, merged: Str, Num, FCom, Vec, NameLaw, MirLaw, Lists, Cmn, Spl, Wrd, Tk, Lin, Par, Sam, BackLaw.
-/
import Derived.Test.YtclmbhokfhjnoaaGreatDoorBase
import Derived.Lib.Bytealg
import Derived.Lib.ItoaNum
import Derived.Test.YtclmbhokfhjnoaaGreatDoorGen3
import Derived.Test.YtclmbhokfhjnoaaGreatDoorSxTwentyFive
import Derived.Lib.Join
import Derived.Test.YtclmbhokfhjnoaaGreatDoorBack1
set_option linter.unusedVariables false
set_option linter.unusedSimpArgs false
set_option linter.unnecessarySimpa false
/-
  Strings as lists of bytes: parts, bytes, pieces between separators. Plain Lean. An own text.
-/
namespace Go.Proofs.YtclmbhokfhjnoaaGreatDoor
open Go.SX

def mkS (l : List UInt8) : ByteArray := ⟨l.toArray⟩
theorem mk_data (s : ByteArray) : mkS s.data.toList = s := by cases s; simp [mkS]
theorem data_mk (l : List UInt8) : (mkS l).data.toList = l := by simp [mkS]
theorem mk_size (l : List UInt8) : (mkS l).size = l.length := by simp [mkS, ByteArray.size]
theorem mk_inj {a b : List UInt8} : mkS a = mkS b ↔ a = b := by
  constructor
  · intro h
    have := congrArg (fun s : ByteArray => s.data.toList) h
    simpa [data_mk] using this
  · intro h; rw [h]
theorem dlen (s : ByteArray) : s.data.toList.length = s.size := by cases s; rfl
theorem loop_eq (s : ByteArray) : ∀ (m i : Nat) (r : List UInt8), i + m = s.size → ByteArray.toList.loop s i r = r.reverse ++ s.data.toList.drop i
  | 0, i, r, h => by
    rw [ByteArray.toList.loop, if_neg (by omega), List.drop_eq_nil_of_le (by rw [dlen]; omega), List.append_nil]
  | m + 1, i, r, h => by
    have hi : i < s.data.toList.length := by rw [dlen]; omega
    rw [ByteArray.toList.loop, if_pos (by omega), loop_eq s m (i + 1) _ (by omega), List.reverse_cons, List.append_assoc]
    congr 1
    rw [List.drop_eq_getElem_cons hi]
    have : s.get! i = s.data.toList[i] := by
      cases s with
      | mk a =>
        simp only [ByteArray.get!]
        have hi' : i < a.size := hi
        rw [getElem!_pos a i hi']
        simp
    rw [this]; rfl
theorem toList_eq (s : ByteArray) : s.toList = s.data.toList := by
  unfold ByteArray.toList
  rw [loop_eq s s.size 0 [] (by omega)]; rfl
theorem beq_mk (a b : List UInt8) : ((mkS a).toList == (mkS b).toList) = decide (a = b) := by
  rw [Bool.eq_iff_iff, beq_iff_eq, decide_eq_true_eq, toList_eq, toList_eq, data_mk, data_mk]
theorem app_mk (a b : List UInt8) : mkS a ++ mkS b = mkS (a ++ b) := by
  have : (mkS a ++ mkS b).data.toList = a ++ b := by
    rw [ByteArray.data_append]; simp [mkS]
  rw [← mk_data (mkS a ++ mkS b), this]
theorem strAt_mk (l : List UInt8) (i : Nat) : strAt (mkS l) (i : Int) = l[i]?.map fun b => (b.toNat : Int) := by
  unfold strAt
  rw [if_pos (Int.natCast_nonneg i), Int.toNat_natCast]
  have : (mkS l)[i]? = l[i]? := by
    by_cases h : i < l.length
    · have h' : i < (mkS l).size := by rw [mk_size]; exact h
      rw [getElem?_pos (mkS l) i h', List.getElem?_eq_getElem h]
      congr 1
    · have h' : ¬ i < (mkS l).size := by rw [mk_size]; exact h
      rw [getElem?_neg (mkS l) i h', List.getElem?_eq_none (by omega)]
  rw [this]
  cases l[i]? <;> rfl
theorem extract_mk (l : List UInt8) (a b : Nat) : (mkS l).extract a b = mkS ((l.take b).drop a) := by
  rw [← mk_data ((mkS l).extract a b)]
  congr 1
  rw [ByteArray.data_extract]
  simp [mkS]
  rw [List.take_drop]
  by_cases h : a ≤ b
  · rw [show a + (b - a) = b by omega]
  · rw [show a + (b - a) = a by omega, List.drop_eq_nil_of_le (by simp; omega), List.drop_eq_nil_of_le (by simp; omega)]
theorem sub_mk (l : List UInt8) {a b : Nat} (h1 : a ≤ b) (h2 : b ≤ l.length) : strSub (mkS l) (some (a : Int)) (some (b : Int)) = some (mkS ((l.take b).drop a)) := by
  unfold strSub
  simp only [Option.getD_some, mk_size]
  rw [if_pos (by omega), Int.toNat_natCast, Int.toNat_natCast, extract_mk]
theorem sub_to (l : List UInt8) {b : Nat} (h2 : b ≤ l.length) : strSub (mkS l) none (some (b : Int)) = some (mkS (l.take b)) := by
  unfold strSub
  simp only [Option.getD_some, Option.getD_none, mk_size]
  rw [if_pos (by omega), Int.toNat_natCast, Int.toNat_zero, extract_mk, List.drop_zero]
theorem sub_from (l : List UInt8) {a : Nat} (h2 : a ≤ l.length) : strSub (mkS l) (some (a : Int)) none = some (mkS (l.drop a)) := by
  unfold strSub
  simp only [Option.getD_some, Option.getD_none, mk_size]
  rw [if_pos (by omega), Int.toNat_natCast, Int.toNat_natCast, extract_mk, List.take_length]

/-- The pieces between the separators. -/
def spl (c : UInt8) : List UInt8 → List (List UInt8)
  | [] => [[]]
  | x :: l => if x = c then [] :: spl c l else match spl c l with
    | [] => [[x]]
    | h :: t => (x :: h) :: t
/-- The first piece begins earlier. -/
def pre (p : List UInt8) : List (List UInt8) → List (List UInt8)
  | [] => [p]
  | h :: t => (p ++ h) :: t
theorem spl_ne (c : UInt8) (l : List UInt8) : spl c l ≠ [] := by
  cases l with
  | nil => simp [spl]
  | cons x l =>
    unfold spl
    split
    · simp
    · split <;> simp
theorem spl_cons (c x : UInt8) (l : List UInt8) (h : x ≠ c) : spl c (x :: l) = pre [x] (spl c l) := by
  conv => lhs; unfold spl
  rw [if_neg h]
  cases spl c l <;> rfl
theorem spl_sep (c : UInt8) (l : List UInt8) : spl c (c :: l) = [] :: spl c l := by
  conv => lhs; unfold spl
  rw [if_pos rfl]
theorem pre_nil {L : List (List UInt8)} (h : L ≠ []) : pre [] L = L := by
  cases L with
  | nil => exact absurd rfl h
  | cons a L => rfl
theorem pre_pre (p q : List UInt8) {L : List (List UInt8)} (h : L ≠ []) : pre p (pre q L) = pre (p ++ q) L := by
  cases L with
  | nil => exact absurd rfl h
  | cons a L => simp [pre]
theorem spl_app (c : UInt8) : ∀ (a b : List UInt8), c ∉ a → spl c (a ++ b) = pre a (spl c b)
  | [], b, _ => by rw [List.nil_append, pre_nil (spl_ne c b)]
  | x :: a, b, h => by
    rw [List.cons_append, spl_cons c x _ (fun e => h (by rw [e]; exact List.mem_cons_self)), spl_app c a b (fun hm => h (List.mem_cons_of_mem _ hm)), pre_pre _ _ (spl_ne c b)]
    rfl
theorem spl_hit (c : UInt8) (a b : List UInt8) (h : c ∉ a) : spl c (a ++ c :: b) = a :: spl c b := by
  rw [spl_app c a _ h, spl_sep]
  simp [pre]
theorem spl_miss (c : UInt8) (a : List UInt8) (h : c ∉ a) : spl c a = [a] := by
  have := spl_app c a [] h
  simpa [spl, pre] using this
/-- What stands behind the separators put together again. -/
def glue (c : UInt8) : List (List UInt8) → List UInt8
  | [] => []
  | [p] => p
  | p :: q :: L => p ++ c :: glue c (q :: L)
theorem glue_pre (c : UInt8) (p : List UInt8) {L : List (List UInt8)} (h : L ≠ []) : glue c (pre p L) = p ++ glue c L := by
  cases L with
  | nil => exact absurd rfl h
  | cons a L =>
    cases L with
    | nil => rfl
    | cons b L => simp [pre, glue]
theorem glue_spl (c : UInt8) : ∀ l : List UInt8, glue c (spl c l) = l
  | [] => rfl
  | x :: l => by
    by_cases h : x = c
    · subst h
      rw [spl_sep]
      have := spl_ne x l
      have ih := glue_spl x l
      cases hs : spl x l with
      | nil => exact absurd hs this
      | cons a L => rw [hs] at ih; simp [glue, ih]
    · rw [spl_cons c x l h, glue_pre c [x] (spl_ne c l), glue_spl c l]; rfl
theorem spl_free (c : UInt8) : ∀ (l : List UInt8) (p : List UInt8), p ∈ spl c l → c ∉ p
  | [], p, h => by
    have : p = [] := by simpa [spl] using h
    rw [this]; simp
  | x :: l, p, h => by
    by_cases hx : x = c
    · subst hx
      rw [spl_sep] at h
      rcases List.mem_cons.1 h with h | h
      · rw [h]; simp
      · exact spl_free x l p h
    · rw [spl_cons c x l hx] at h
      have ih := spl_free c l
      cases hs : spl c l with
      | nil => exact absurd hs (spl_ne c l)
      | cons a L =>
        rw [hs] at h ih
        simp only [pre, List.singleton_append] at h
        rcases List.mem_cons.1 h with h | h
        · rw [h]
          intro hm
          rcases List.mem_cons.1 hm with hm | hm
          · exact hx hm.symm
          · exact ih a List.mem_cons_self hm
        · exact ih p (List.mem_cons_of_mem _ h)
theorem spl_glue (c : UInt8) : ∀ (L : List (List UInt8)), L ≠ [] → (∀ p, p ∈ L → c ∉ p) → spl c (glue c L) = L
  | [], h, _ => absurd rfl h
  | [p], _, h => spl_miss c p (h p List.mem_cons_self)
  | p :: q :: L, _, h => by
    show spl c (p ++ c :: glue c (q :: L)) = _
    rw [spl_hit c p _ (h p List.mem_cons_self), spl_glue c (q :: L) (by simp) (fun r hr => h r (List.mem_cons_of_mem _ hr))]
theorem spl_count (c : UInt8) : ∀ l : List UInt8, (spl c l).length = l.count c + 1
  | [] => rfl
  | x :: l => by
    by_cases h : x = c
    · subst h
      rw [spl_sep, List.length_cons, spl_count x l, List.count_cons_self]
    · rw [spl_cons c x l h, List.count_cons_of_ne h]
      have := spl_count c l
      cases hs : spl c l with
      | nil => exact absurd hs (spl_ne c l)
      | cons a L => rw [hs] at this; simpa [pre] using this
theorem hit_of {c : UInt8} : ∀ {l : List UInt8}, c ∈ l → ∃ a b, l = a ++ c :: b ∧ c ∉ a
  | x :: l, h => by
    by_cases hx : x = c
    · subst hx; exact ⟨[], l, rfl, by simp⟩
    · rcases List.mem_cons.1 h with h | h
      · exact absurd h.symm hx
      · obtain ⟨a, b, h1, h2⟩ := hit_of h
        refine ⟨x :: a, b, by rw [h1]; rfl, fun hm => ?_⟩
        rcases List.mem_cons.1 hm with hm | hm
        · exact hx hm.symm
        · exact h2 hm
theorem index_hit {c : UInt8} : ∀ {a : List UInt8} (b : List UInt8), c ∉ a → Lib.indexByte (a ++ c :: b) c = (a.length : Int)
  | [], b, _ => by simp [Lib.indexByte]
  | x :: a, b, h => by
    have hx : ¬ (x = c) := fun e => h (by rw [e]; exact List.mem_cons_self)
    have ih := index_hit b (fun hm => h (List.mem_cons_of_mem _ hm))
    rw [List.cons_append, Lib.indexByte, if_neg (by simpa using hx), ih]
    have : ¬ (((a.length : Int)) == -1) = true := by simp
    rw [if_neg this]; simp
theorem index_miss {c : UInt8} : ∀ {a : List UInt8}, c ∉ a → Lib.indexByte a c = -1
  | [], _ => rfl
  | x :: a, h => by
    have hx : ¬ (x = c) := fun e => h (by rw [e]; exact List.mem_cons_self)
    have ih := index_miss (fun hm => h (List.mem_cons_of_mem _ hm))
    rw [Lib.indexByte, if_neg (by simpa using hx), ih]; rfl
end Go.Proofs.YtclmbhokfhjnoaaGreatDoor
/-
  Decimal numbers as lists of bytes. Plain Lean. An own text.
-/
namespace Go.Proofs.YtclmbhokfhjnoaaGreatDoor

def isDig (l : List UInt8) : Prop := ∀ c, c ∈ l → 48 ≤ c.toNat ∧ c.toNat ≤ 57
instance (l : List UInt8) : Decidable (isDig l) := by unfold isDig; infer_instance
def valN : Nat → List UInt8 → Nat
  | n, [] => n
  | n, c :: l => valN (10 * n + (c.toNat - 48)) l
/-- Digits without a zero ahead. -/
def digOk (d : List UInt8) : Prop := d ≠ [] ∧ d.length ≤ 9 ∧ isDig d ∧ (d.head? ≠ some 48 ∨ d.length = 1)
instance (l : List UInt8) : Decidable (digOk l) := by unfold digOk; infer_instance
/-- The integer that a word tells. -/
def num (w : List UInt8) : Option Int :=
  if w.head? = some 45 then (if digOk w.tail ∧ w.tail ≠ [48] then some (-(valN 0 w.tail : Int)) else none)
  else if digOk w then some (valN 0 w : Int) else none

theorem isDig_cons {c : UInt8} {l : List UInt8} : isDig (c :: l) ↔ (48 ≤ c.toNat ∧ c.toNat ≤ 57) ∧ isDig l := by simp [isDig]
theorem isDig_app {a b : List UInt8} : isDig (a ++ b) ↔ isDig a ∧ isDig b := by
  simp only [isDig, List.mem_append]
  exact ⟨fun h => ⟨fun c hc => h c (.inl hc), fun c hc => h c (.inr hc)⟩, fun h c hc => hc.elim (h.1 c) (h.2 c)⟩
theorem valN_app : ∀ (a b : List UInt8) (n : Nat), valN n (a ++ b) = valN (valN n a) b
  | [], _, _ => rfl
  | c :: a, b, n => valN_app a b _
theorem valN_snoc (a : List UInt8) (c : UInt8) (n : Nat) : valN n (a ++ [c]) = 10 * valN n a + (c.toNat - 48) := by rw [valN_app]; rfl
theorem valN_ge : ∀ (l : List UInt8) (n : Nat), n ≤ valN n l
  | [], n => Nat.le_refl _
  | c :: l, n => by
    have := valN_ge l (10 * n + (c.toNat - 48))
    show n ≤ valN _ l
    omega
theorem valN_lt : ∀ (l : List UInt8) (n k : Nat), isDig l → n < 10 ^ k → valN n l < 10 ^ (k + l.length)
  | [], n, k, _, h => h
  | c :: l, n, k, hd, h => by
    obtain ⟨hc, hl⟩ := isDig_cons.1 hd
    have := valN_lt l (10 * n + (c.toNat - 48)) (k + 1) hl (by rw [Nat.pow_succ]; omega)
    show valN _ l < _
    rw [List.length_cons, show k + (l.length + 1) = k + 1 + l.length by omega]; exact this
theorem valN_pos {d : List UInt8} (h : isDig d) (hn : d ≠ []) (hh : d.head? ≠ some 48) : 1 ≤ valN 0 d := by
  cases d with
  | nil => exact absurd rfl hn
  | cons c l =>
    obtain ⟨hc, hl⟩ := isDig_cons.1 h
    have h1 : c.toNat ≠ 48 := fun e => hh (by
      have : c = 48 := UInt8.toNat_inj.1 e
      rw [this]; rfl)
    have := valN_ge l (10 * 0 + (c.toNat - 48))
    show 1 ≤ valN _ l
    omega
theorem val_zero {d : List UInt8} (h : digOk d) : valN 0 d = 0 ↔ d = [48] := by
  obtain ⟨h1, h2, h3, h4⟩ := h
  constructor
  · intro hv
    by_cases hh : d.head? = some 48
    · have hl := h4.resolve_left (fun hc => hc hh)
      match d, hl with
      | [c], _ =>
        simp only [List.head?_cons, Option.some.injEq] at hh
        rw [hh]
    · have := valN_pos h3 h1 hh; omega
  · intro e; rw [e]; rfl
theorem toNat_ofNat {k : Nat} (h : k < 10) : (UInt8.ofNat (48 + k)).toNat = 48 + k := by
  simp only [UInt8.toNat_ofNat']; omega
theorem isDig_one {k : Nat} (h : k < 10) : isDig [UInt8.ofNat (48 + k)] := by
  intro c hc
  rw [List.mem_singleton] at hc
  rw [hc, toNat_ofNat h]; omega
theorem dec_spec (u : Nat) : isDig (Lib.decDigits u) ∧ Lib.decDigits u ≠ [] ∧ valN 0 (Lib.decDigits u) = u ∧ ((Lib.decDigits u).head? ≠ some 48 ∨ (Lib.decDigits u).length = 1) ∧ ∀ k, 1 ≤ k → u < 10 ^ k → (Lib.decDigits u).length ≤ k := by
  induction u using Nat.strongRecOn with
  | _ u ih =>
    by_cases h : u < 10
    · rw [Lib.decDigits, dif_pos h]
      refine ⟨isDig_one h, by simp, ?_, .inr rfl, fun k hk _ => by simpa using hk⟩
      show 10 * 0 + ((UInt8.ofNat (48 + u)).toNat - 48) = u
      rw [toNat_ofNat h]; omega
    · rw [Lib.decDigits, dif_neg h]
      obtain ⟨h1, h2, h3, h4, h5⟩ := ih (u / 10) (by omega)
      have hm : u % 10 < 10 := Nat.mod_lt _ (by decide)
      refine ⟨isDig_app.2 ⟨h1, isDig_one hm⟩, by simp, ?_, .inl ?_, fun k hk hu => ?_⟩
      · rw [valN_snoc, h3, toNat_ofNat hm]; omega
      · have hne : (Lib.decDigits (u / 10)).head? ≠ some 48 := by
          intro hh
          have hl := h4.resolve_left (fun hc => hc hh)
          have hz : valN 0 (Lib.decDigits (u / 10)) = 0 := by
            match hd : Lib.decDigits (u / 10), hl with
            | [c], _ =>
              rw [hd] at hh
              simp only [List.head?_cons, Option.some.injEq] at hh
              rw [hh]; rfl
          rw [h3] at hz; omega
        cases hd : Lib.decDigits (u / 10) with
        | nil => exact absurd hd h2
        | cons a l => rw [hd] at hne; simpa using hne
      · cases k with
        | zero => omega
        | succ k =>
          have hk0 : k ≠ 0 := by rintro rfl; simp at hu; omega
          have := h5 k (by omega) (by rw [Nat.pow_succ] at hu; omega)
          rw [List.length_append]; simpa using this
theorem dec_ok {u : Nat} (h : u < 1000000000) : digOk (Lib.decDigits u) := by
  obtain ⟨h1, h2, h3, h4, h5⟩ := dec_spec u
  exact ⟨h2, h5 9 (by decide) (by simpa using h), h1, h4⟩
theorem dec_val : ∀ (k : Nat) (d : List UInt8), d.length = k → d ≠ [] → isDig d → (d.head? ≠ some 48 ∨ d.length = 1) → Lib.decDigits (valN 0 d) = d
  | 0, d, h, hn, _, _ => absurd (List.length_eq_zero_iff.1 h) hn
  | k + 1, d, h, hn, hd, hh => by
    obtain ⟨a, c, rfl⟩ : ∃ a c, d = a ++ [c] := ⟨d.dropLast, d.getLast hn, (List.dropLast_concat_getLast hn).symm⟩
    obtain ⟨ha, hc⟩ := isDig_app.1 hd
    have hcc := hc c (by simp)
    have hce : UInt8.ofNat (48 + (c.toNat - 48)) = c := by
      rw [show 48 + (c.toNat - 48) = c.toNat by omega]; exact UInt8.ofNat_toNat
    rw [valN_snoc]
    by_cases ha0 : a = []
    · subst ha0
      rw [Lib.decDigits, dif_pos (by show 10 * 0 + (c.toNat - 48) < 10; omega)]
      show [UInt8.ofNat (48 + (10 * 0 + (c.toNat - 48)))] = [c]
      rw [show 10 * 0 + (c.toNat - 48) = c.toNat - 48 by omega, hce]
    · have hl : 0 < a.length := List.length_pos_iff.2 ha0
      have hh2 : a.head? ≠ some 48 := by
        have h1 := hh.resolve_right (by simp; omega)
        cases a with
        | nil => exact absurd rfl ha0
        | cons x l => simpa using h1
      have hp := valN_pos ha ha0 hh2
      rw [Lib.decDigits, dif_neg (by omega)]
      rw [show (10 * valN 0 a + (c.toNat - 48)) / 10 = valN 0 a by omega, show (10 * valN 0 a + (c.toNat - 48)) % 10 = c.toNat - 48 by omega, hce]
      rw [dec_val k a (by simp at h; omega) ha0 ha (.inl hh2)]
theorem val_lt9 {d : List UInt8} (h : digOk d) : valN 0 d < 1000000000 := by
  have h1 := valN_lt d 0 0 h.2.2.1 (by decide)
  rw [Nat.zero_add] at h1
  have h2 : (10 : Nat) ^ d.length ≤ 10 ^ 9 := Nat.pow_le_pow_right (by decide) h.2.1
  omega
theorem val_lt9' {d : List UInt8} (h : isDig d) (hl : d.length ≤ 9) : valN 0 d < 1000000000 := by
  have h1 := valN_lt d 0 0 h (by decide)
  rw [Nat.zero_add] at h1
  have h2 : (10 : Nat) ^ d.length ≤ 10 ^ 9 := Nat.pow_le_pow_right (by decide) hl
  omega
theorem dig_ne {d : List UInt8} (h : isDig d) {c : UInt8} (hc : c.toNat < 48) : d.head? ≠ some c := by
  cases d with
  | nil => simp
  | cons x l =>
    intro e
    simp only [List.head?_cons, Option.some.injEq] at e
    have := (isDig_cons.1 h).1
    rw [e] at this; omega
theorem num_itoa {n : Int} (h1 : -1000000000 < n) (h2 : n < 1000000000) : num (Lib.itoa n) = some n := by
  unfold num Lib.itoa
  by_cases h : n < 0
  · have hk : n.natAbs < 1000000000 := by omega
    have hs := dec_spec n.natAbs
    have hne : Lib.decDigits n.natAbs ≠ [48] := fun e => by
      have : valN 0 (Lib.decDigits n.natAbs) = 0 := by rw [e]; rfl
      rw [hs.2.2.1] at this; omega
    rw [if_pos h, if_pos (show (45 :: Lib.decDigits n.natAbs).head? = some 45 from rfl), if_pos (show digOk (45 :: Lib.decDigits n.natAbs).tail ∧ (45 :: Lib.decDigits n.natAbs).tail ≠ [48] from ⟨dec_ok hk, hne⟩)]
    show some (-(valN 0 (Lib.decDigits n.natAbs) : Int)) = some n
    rw [hs.2.2.1]
    congr 1; omega
  · have hk : n.toNat < 1000000000 := by omega
    have hs := dec_spec n.toNat
    rw [if_neg h, if_neg (dig_ne hs.1 (by decide)), if_pos (dec_ok hk), hs.2.2.1]
    congr 1; omega
theorem itoa_num {w : List UInt8} {v : Int} (h : num w = some v) : Lib.itoa v = w ∧ -1000000000 < v ∧ v < 1000000000 := by
  unfold num at h
  split at h
  · rename_i hh
    split at h
    case isFalse => cases h
    rename_i hk
    simp only [Option.some.injEq] at h
    have hp : 1 ≤ valN 0 w.tail := by
      have := mt (val_zero hk.1).1 hk.2
      omega
    have hl := val_lt9 hk.1
    refine ⟨?_, by omega, by omega⟩
    unfold Lib.itoa
    rw [if_pos (by omega), show v.natAbs = valN 0 w.tail by omega, dec_val _ _ rfl hk.1.1 hk.1.2.2.1 hk.1.2.2.2]
    cases w with
    | nil => cases hh
    | cons x l =>
      simp only [List.head?_cons, Option.some.injEq] at hh
      rw [hh]; rfl
  · split at h
    case isFalse => cases h
    rename_i hk
    simp only [Option.some.injEq] at h
    have hl := val_lt9 hk
    refine ⟨?_, by omega, by omega⟩
    unfold Lib.itoa
    rw [if_neg (by omega), show v.toNat = valN 0 w by omega, dec_val _ _ rfl hk.1 hk.2.2.1 hk.2.2.2]
/-- A number's text has no byte below '-' and none above '9'. -/
theorem itoa_mem {n : Int} {c : UInt8} (h : c ∈ Lib.itoa n) : c = 45 ∨ 48 ≤ c.toNat ∧ c.toNat ≤ 57 := by
  unfold Lib.itoa at h
  split at h
  · rcases List.mem_cons.1 h with h | h
    · exact .inl h
    · exact .inr ((dec_spec _).1 c h)
  · exact .inr ((dec_spec _).1 c h)
theorem itoa_free {n : Int} {c : UInt8} (h : c.toNat < 45) : c ∉ Lib.itoa n := by
  intro hm
  rcases itoa_mem hm with h1 | h1
  · rw [h1] at h; exact absurd h (by decide)
  · omega
theorem itoa_len {n : Int} (h1 : -1000000000 < n) (h2 : n < 1000000000) : (Lib.itoa n).length ≤ 10 := by
  unfold Lib.itoa
  split
  · have := (dec_ok (u := n.natAbs) (by omega)).2.1
    simp only [List.length_cons]; omega
  · have := (dec_ok (u := n.toNat) (by omega)).2.1
    omega
end Go.Proofs.YtclmbhokfhjnoaaGreatDoor
/-
  Plain lemmas of chapter 4: first errors, ranges, points, sides of lines. An own text.
-/
set_option maxRecDepth 20000
namespace Go.Proofs.YtclmbhokfhjnoaaGreatDoor
open Go.SX

def firstNZ : List Int → Int
  | [] => 0
  | x :: l => if x = 0 then firstNZ l else x
theorem lenlt {α β : Type} {f : α → β} {l : List α} {i : Nat} {x : α} (h : l[i]? = some x) : (i : Int) < ((l.map f).length : Int) := by
  have := (List.getElem?_eq_some_iff.1 h).1
  simp; omega
theorem el_map {ms : List Int} {i : Nat} {x : Int} (h : ms[i]? = some x) : el un_i (ms.map I) (i : Int) = some x := el_enc (un := un_i) (enc := I) (fun _ => rfl) h

def fG (_ : Unit) (x : Int) : Unit ⊕ (Int ⊕ Unit) := if x = 0 then .inl () else .inr (.inl x)
theorem runL_first : ∀ (l : List Int), runL fG (fun _ => .inr ()) l () = if firstNZ l = 0 then .inr () else .inl (firstNZ l)
  | [] => rfl
  | x :: l => by
    unfold runL fG
    by_cases h : x = 0
    · rw [if_pos h]; simp only [firstNZ, if_pos h]; exact runL_first l
    · rw [if_neg h]; simp only [firstNZ, if_neg h]
theorem first_eq {n : Nat} (ms : List Int) (hm : ms.length < 9223372036854775807) (hn : ms.length < n) : F_field_first n (ms.map I) = some (firstNZ ms) := by
  unfold F_field_first
  have := loopF_list0 (step := F_field_first_L1 n (ms.map I)) fG (fun _ => .inr ()) (fun i _ => (i : Int)) ms (fun _ _ => True)
    (fun i s x hx _ => by
      unfold fG F_field_first_L1
      have hi := (List.getElem?_eq_some_iff.1 hx).1
      by_cases h : x = 0
      · rw [if_pos h]
        refine ⟨?_, trivial⟩
        rw [if_pos (lenlt hx), el_map hx, Option.bind_some, if_pos h, if_pos (by unfold inI64; omega)]; rfl
      · rw [if_neg h]
        dsimp only
        rw [if_pos (lenlt hx), el_map hx, Option.bind_some, if_neg h])
    (fun s _ => by unfold F_field_first_L1; rw [if_neg (by simp)]) (s := ()) trivial hn
  rw [show (0 : Int) = ((0 : Nat) : Int) from rfl, this, runL_first]
  by_cases h : firstNZ ms = 0
  · rw [if_pos h, h]; rfl
  · rw [if_neg h]; rfl
theorem refFirst_eq {n : Nat} (ms : List Int) (hm : ms.length < 9223372036854775807) (hn : ms.length < n) : F_ref01_First n (ms.map I) = some (firstNZ ms) := by
  unfold F_ref01_First
  have := loopF_list0 (step := F_ref01_First_L1 n (ms.map I)) fG (fun _ => .inr ()) (fun i _ => (i : Int)) ms (fun _ _ => True)
    (fun i s x hx _ => by
      unfold fG F_ref01_First_L1
      have hi := (List.getElem?_eq_some_iff.1 hx).1
      by_cases h : x = 0
      · rw [if_pos h]
        refine ⟨?_, trivial⟩
        rw [if_pos (lenlt hx), el_map hx, Option.bind_some, if_pos h, if_pos (by unfold inI64; omega)]; rfl
      · rw [if_neg h]
        dsimp only
        rw [if_pos (lenlt hx), el_map hx, Option.bind_some, if_neg h])
    (fun s _ => by unfold F_ref01_First_L1; rw [if_neg (by simp)]) (s := ()) trivial hn
  rw [show (0 : Int) = ((0 : Nat) : Int) from rfl, this, runL_first]
  by_cases h : firstNZ ms = 0
  · rw [if_pos h, h]; rfl
  · rw [if_neg h]; rfl
theorem first2 {n : Nat} (hn : 10 ≤ n) (a b : Int) : F_field_first n [I a, I b] = some (firstNZ [a, b]) := first_eq [a, b] (by simp) (by simp; omega)
theorem refFirst2 {n : Nat} (hn : 10 ≤ n) (a b : Int) : F_ref01_First n [I a, I b] = some (firstNZ [a, b]) := refFirst_eq [a, b] (by simp) (by simp; omega)

def inR (x lo hi : Int) : Int := if x < lo then 3 else if x > hi then 3 else 0
theorem within_eq (n : Nat) (x lo hi : Int) : F_field_within n x lo hi = some (inR x lo hi) := by
  unfold F_field_within F_field_when F_field_when_2 inR
  by_cases h : x < lo
  · simp [h]
  · by_cases h2 : x > hi
    · simp [h, h2]
    · simp [h, h2]
theorem range_eq (n : Nat) (x lo hi : Int) : F_ref01_CheckRange n x lo hi = some (inR x lo hi) := by
  unfold F_ref01_CheckRange F_ref01_When F_ref01_When_2 inR
  by_cases h : x < lo
  · simp [h]
  · by_cases h2 : x > hi
    · simp [h, h2]
    · simp [h, h2]
theorem inR_zero {x lo hi : Int} (h : inR x lo hi = 0) : lo ≤ x ∧ x ≤ hi := by
  unfold inR at h
  repeat' split at h
  all_goals omega
def whenI (b : Bool) (e : Int) : Int := if b then e else 0
theorem when_eq (n : Nat) (b : Bool) (e : Int) : F_field_when n b e = some (whenI b e) := by
  unfold F_field_when whenI; cases b <;> rfl
theorem refWhen_eq (n : Nat) (b : Bool) (e : Int) : F_ref01_When n b e = some (whenI b e) := by
  unfold F_ref01_When whenI; cases b <;> rfl
theorem firstNZ_zero : ∀ {l : List Int}, firstNZ l = 0 → ∀ x, x ∈ l → x = 0
  | [], _, x, hx => by cases hx
  | y :: l, h, x, hx => by
    unfold firstNZ at h
    split at h
    · rename_i hy
      cases hx with
      | head => exact hy
      | tail _ hx => exact firstNZ_zero h x hx
    · rename_i hy; exact absurd h hy

theorem mul_pq {g c p q : Int} (hp : 0 ≤ p) (hg : -p ≤ g ∧ g ≤ p) (hq : 0 ≤ q) (hc : -q ≤ c ∧ c ≤ q) : -(p * q) ≤ g * c ∧ g * c ≤ p * q := by
  have h := Int.natAbs_mul g c
  have h1 : g.natAbs * c.natAbs ≤ p.natAbs * q.natAbs := Nat.mul_le_mul (by omega) (by omega)
  have h2 := Int.natAbs_mul p q
  have h3 : 0 ≤ p * q := Int.mul_nonneg hp hq
  omega
end Go.Proofs.YtclmbhokfhjnoaaGreatDoor
/-
  Plain lemmas of chapter 4: vectors, and whether a ray meets a mirror. An own text.
-/
set_option maxRecDepth 20000
namespace Go.Proofs.YtclmbhokfhjnoaaGreatDoor
open Go.SX

abbrev Vec := Int × Int × Int
def vdot (u v : Vec) : Int := u.1 * v.1 + u.2.1 * v.2.1 + u.2.2 * v.2.2
def vcross (u v : Vec) : Vec := (u.2.1 * v.2.2 - u.2.2 * v.2.1, u.2.2 * v.1 - u.1 * v.2.2, u.1 * v.2.1 - u.2.1 * v.1)
def vplus (u v : Vec) : Vec := (u.1 + v.1, u.2.1 + v.2.1, u.2.2 + v.2.2)
def vtimes (k : Int) (v : Vec) : Vec := (k * v.1, k * v.2.1, k * v.2.2)
def Bd (m : Int) (v : Vec) : Prop := (-m ≤ v.1 ∧ v.1 ≤ m) ∧ (-m ≤ v.2.1 ∧ v.2.1 ≤ m) ∧ (-m ≤ v.2.2 ∧ v.2.2 ≤ m)
theorem Bd.mono {m n : Int} {v : Vec} (h : Bd m v) (hmn : m ≤ n) : Bd n v := by unfold Bd at h ⊢; omega
theorem mul_k {g c p q r : Int} (hg : -p ≤ g ∧ g ≤ p) (hc : -q ≤ c ∧ c ≤ q) (hr : p * q = r) (hp : 0 ≤ p) (hq : 0 ≤ q) : -r ≤ g * c ∧ g * c ≤ r := by
  subst hr; exact mul_pq hp hg hq hc
theorem Bd.times {k K m r : Int} {v : Vec} (hk : -K ≤ k ∧ k ≤ K) (h : Bd m v) (hr : K * m = r) (hK : 0 ≤ K) (hm : 0 ≤ m) : Bd r (vtimes k v) :=
  ⟨mul_k hk h.1 hr hK hm, mul_k hk h.2.1 hr hK hm, mul_k hk h.2.2 hr hK hm⟩
theorem Bd.plus {m n : Int} {u v : Vec} (h : Bd m u) (k : Bd n v) : Bd (m + n) (vplus u v) := by unfold Bd vplus at *; dsimp only; omega
structure DotB (r : Int) (u v : Vec) : Prop where
  x : -r ≤ u.1 * v.1 ∧ u.1 * v.1 ≤ r
  y : -r ≤ u.2.1 * v.2.1 ∧ u.2.1 * v.2.1 ≤ r
  z : -r ≤ u.2.2 * v.2.2 ∧ u.2.2 * v.2.2 ≤ r
theorem Bd.dot {m n r : Int} {u v : Vec} (h : Bd m u) (k : Bd n v) (hr : m * n = r) (hm : 0 ≤ m) (hn : 0 ≤ n) : DotB r u v :=
  ⟨mul_k h.1 k.1 hr hm hn, mul_k h.2.1 k.2.1 hr hm hn, mul_k h.2.2 k.2.2 hr hm hn⟩
theorem DotB.val {r : Int} {u v : Vec} (h : DotB r u v) : -(3 * r) ≤ vdot u v ∧ vdot u v ≤ 3 * r := by
  obtain ⟨h1, h2, h3⟩ := h
  unfold vdot; omega
structure CrossB (r : Int) (u v : Vec) : Prop where
  a : -r ≤ u.2.1 * v.2.2 ∧ u.2.1 * v.2.2 ≤ r
  b : -r ≤ u.2.2 * v.2.1 ∧ u.2.2 * v.2.1 ≤ r
  c : -r ≤ u.2.2 * v.1 ∧ u.2.2 * v.1 ≤ r
  d : -r ≤ u.1 * v.2.2 ∧ u.1 * v.2.2 ≤ r
  e : -r ≤ u.1 * v.2.1 ∧ u.1 * v.2.1 ≤ r
  f : -r ≤ u.2.1 * v.1 ∧ u.2.1 * v.1 ≤ r
theorem Bd.cross {m n r : Int} {u v : Vec} (h : Bd m u) (k : Bd n v) (hr : m * n = r) (hm : 0 ≤ m) (hn : 0 ≤ n) : CrossB r u v :=
  ⟨mul_k h.2.1 k.2.2 hr hm hn, mul_k h.2.2 k.2.1 hr hm hn, mul_k h.2.2 k.1 hr hm hn, mul_k h.1 k.2.2 hr hm hn, mul_k h.1 k.2.1 hr hm hn, mul_k h.2.1 k.1 hr hm hn⟩
theorem CrossB.val {r : Int} {u v : Vec} (h : CrossB r u v) : Bd (2 * r) (vcross u v) := by
  obtain ⟨h1, h2, h3, h4, h5, h6⟩ := h
  unfold Bd vcross; dsimp only; omega
def L : Int := 2000000000000000000

theorem times_eq (n : Nat) {k : Int} {v : Vec} {r : Int} (h : Bd r (vtimes k v)) (hr : r ≤ L) : F_field_times n k v.1 v.2.1 v.2.2 = some (vtimes k v) := by
  obtain ⟨h1, h2, h3⟩ := h
  unfold vtimes at *
  dsimp only at h1 h2 h3
  unfold L at hr
  unfold F_field_times
  rw [if_pos (by unfold inI64; omega), if_pos (by unfold inI64; omega), if_pos (by unfold inI64; omega)]
theorem plus_eq (n : Nat) {u v : Vec} {r : Int} (h : Bd r (vplus u v)) (hr : r ≤ L) : F_field_plus n u.1 u.2.1 u.2.2 v.1 v.2.1 v.2.2 = some (vplus u v) := by
  obtain ⟨h1, h2, h3⟩ := h
  unfold vplus at *
  dsimp only at h1 h2 h3
  unfold L at hr
  unfold F_field_plus
  rw [if_pos (by unfold inI64; omega), if_pos (by unfold inI64; omega), if_pos (by unfold inI64; omega)]
theorem dot_eq (n : Nat) {u v : Vec} {r : Int} (h : DotB r u v) (hr : r ≤ L) : F_field_dot n u.1 u.2.1 u.2.2 v.1 v.2.1 v.2.2 = some (vdot u v) := by
  obtain ⟨h1, h2, h3⟩ := h
  unfold L at hr
  unfold F_field_dot vdot
  generalize u.1 * v.1 = x at *
  generalize u.2.1 * v.2.1 = y at *
  generalize u.2.2 * v.2.2 = z at *
  rw [if_pos (by unfold inI64; omega), if_pos (by unfold inI64; omega), if_pos (by unfold inI64; omega), if_pos (by unfold inI64; omega), if_pos (by unfold inI64; omega)]
theorem cross_eq (n : Nat) {u v : Vec} {r : Int} (h : CrossB r u v) (hr : r ≤ L) : F_field_cross n u.1 u.2.1 u.2.2 v.1 v.2.1 v.2.2 = some (vcross u v) := by
  obtain ⟨h1, h2, h3, h4, h5, h6⟩ := h
  unfold L at hr
  unfold F_field_cross vcross
  generalize u.2.1 * v.2.2 = a at *
  generalize u.2.2 * v.2.1 = b at *
  generalize u.2.2 * v.1 = c at *
  generalize u.1 * v.2.2 = d at *
  generalize u.1 * v.2.1 = e at *
  generalize u.2.1 * v.1 = f at *
  repeat rw [if_pos (by unfold inI64; omega)]
theorem refCross_eq (n : Nat) {u v : Vec} {r : Int} (h : CrossB r u v) (hr : r ≤ L) : F_ref04_Cross n u.1 u.2.1 u.2.2 v.1 v.2.1 v.2.2 = some (vcross u v) := by
  obtain ⟨h1, h2, h3, h4, h5, h6⟩ := h
  unfold L at hr
  unfold F_ref04_Cross vcross
  generalize u.2.1 * v.2.2 = a at *
  generalize u.2.2 * v.2.1 = b at *
  generalize u.2.2 * v.1 = c at *
  generalize u.1 * v.2.2 = d at *
  generalize u.1 * v.2.1 = e at *
  generalize u.2.1 * v.1 = f at *
  repeat rw [if_pos (by unfold inI64; omega)]

/-! Mirrors. -/
structure Mir where
  name : ByteArray
  c : Vec
  u : Vec
  v : Vec
def wrapN (x : Int) : Int := IntKind.wrap .i64 (0 - x)
theorem wrapN_eq {x : Int} (h : -L ≤ x ∧ x ≤ L) : IntKind.wrap .i64 (0 - x) = -x := by
  unfold L at h
  rw [IntKind.wrap_i64]; omega
def Mir.nrm (m : Mir) : Vec := vcross m.u m.v
structure Mir.Ok (m : Mir) : Prop where
  c : Bd 4096 m.c
  u : Bd 64 m.u
  v : Bd 64 m.v
theorem Mir.Ok.nrm {m : Mir} (h : m.Ok) : Bd 8192 m.nrm := (h.u.cross h.v rfl (by decide) (by decide)).val
def absI (x : Int) : Int := maxI x (-x)
theorem absI_neg (x : Int) : absI (-x) = absI x := by unfold absI maxI; split <;> split <;> omega
def meetV (m : Mir) (k : Int) (f al : Vec) (ends : Bool) : Bool :=
  let d0 := vdot m.nrm al
  let n0 := -(vdot m.nrm (vplus f (vtimes (-k) m.c)))
  let t := vcross al (vplus f (vtimes (-k) m.c))
  let a := absI (vdot t m.v)
  let b := absI (vdot t m.u)
  let d := if d0 < 0 then -d0 else d0
  let n := if d0 < 0 then -n0 else n0
  !(decide (d0 = 0)) && decide (0 < n) && (!ends || decide (n < d)) && decide (a ≤ k * d) && decide (b ≤ k * d)
theorem vdot_comm (u v : Vec) : vdot u v = vdot v u := by
  unfold vdot; rw [Int.mul_comm u.1, Int.mul_comm u.2.1, Int.mul_comm u.2.2]
def vneg (v : Vec) : Vec := (-v.1, -v.2.1, -v.2.2)
theorem vdot_neg (u v : Vec) : vdot u (vneg v) = -(vdot u v) := by
  unfold vdot vneg; simp only [Int.mul_neg]; omega
theorem vdot_negl (u v : Vec) : vdot (vneg u) v = -(vdot u v) := by rw [vdot_comm, vdot_neg, vdot_comm]
theorem vcross_neg (u v : Vec) : vcross u (vneg v) = vneg (vcross u v) := by
  unfold vcross vneg
  simp only [Int.mul_neg, Prod.mk.injEq]
  refine ⟨?_, ?_, ?_⟩ <;> omega
theorem way_eq (k : Int) (f c : Vec) : vplus (vtimes k c) (vtimes (-1) f) = vneg (vplus f (vtimes (-k) c)) := by
  unfold vplus vtimes vneg
  simp only [Int.neg_mul, Int.one_mul, Prod.mk.injEq]
  refine ⟨?_, ?_, ?_⟩ <;> omega
theorem normal_eq (n : Nat) {m : Mir} (h : m.Ok) : F_field_Mirror_normal n m.name m.c.1 m.c.2.1 m.c.2.2 m.u.1 m.u.2.1 m.u.2.2 m.v.1 m.v.2.1 m.v.2.2 = some m.nrm := by
  unfold F_field_Mirror_normal
  rw [cross_eq n (h.u.cross h.v rfl (by decide) (by decide)) (by decide)]
  rfl
/-- What is known of the numbers of a ray and a mirror. -/
structure MB (m : Mir) (k : Int) (f al : Vec) : Prop where
  t : Bd 32768 (vtimes (-k) m.c)
  p : Bd 163840 (vplus f (vtimes (-k) m.c))
  d : DotB 1073741824 m.nrm al
  w : DotB 1342177280 m.nrm (vplus f (vtimes (-k) m.c))
  c : CrossB 21474836480 al (vplus f (vtimes (-k) m.c))
  a : DotB 2748779069440 (vcross al (vplus f (vtimes (-k) m.c))) m.v
  b : DotB 2748779069440 (vcross al (vplus f (vtimes (-k) m.c))) m.u
theorem MB.of {m : Mir} (hm : m.Ok) {k : Int} (hk : 1 ≤ k ∧ k ≤ 8) {f al : Vec} (hf : Bd 131072 f) (ha : Bd 131072 al) : MB m k f al := by
  have b1 : Bd 32768 (vtimes (-k) m.c) := Bd.times (K := 8) (by omega) hm.c (by decide) (by decide) (by decide)
  have b2 : Bd 163840 (vplus f (vtimes (-k) m.c)) := (hf.plus b1).mono (by decide)
  have c1 : CrossB 21474836480 al (vplus f (vtimes (-k) m.c)) := ha.cross b2 (by decide) (by decide) (by decide)
  exact ⟨b1, b2, hm.nrm.dot ha (by decide) (by decide) (by decide), hm.nrm.dot b2 (by decide) (by decide) (by decide), c1, c1.val.dot hm.v (by decide) (by decide) (by decide), c1.val.dot hm.u (by decide) (by decide) (by decide)⟩
theorem meets_eq {n : Nat} {m : Mir} (hm : m.Ok) {k : Int} (hk : 1 ≤ k ∧ k ≤ 8) {f al : Vec} (hf : Bd 131072 f) (ha : Bd 131072 al) (e : Bool) :
    F_field_Mirror_meets n m.name m.c.1 m.c.2.1 m.c.2.2 m.u.1 m.u.2.1 m.u.2.2 m.v.1 m.v.2.1 m.v.2.2 k f.1 f.2.1 f.2.2 al.1 al.2.1 al.2.2 e = some (meetV m k f al e) := by
  obtain ⟨b1, b2, d1, d2, c1, d3, d4⟩ := MB.of hm hk hf ha
  unfold F_field_Mirror_meets
  rw [wrapN_eq (x := k) (by unfold L; omega), times_eq n b1 (by decide), Option.bind_some, plus_eq n b2 (by decide), Option.bind_some, normal_eq n hm, Option.bind_some, dot_eq n d1 (by decide), Option.bind_some, dot_eq n d2 (by decide), Option.bind_some]
  simp only [cross_eq n c1 (by decide), dot_eq n d3 (by decide), dot_eq n d4 (by decide), Option.bind_some]
  have v1 := d1.val
  have v2 := d2.val
  have v3 := d3.val
  have v4 := d4.val
  unfold meetV absI
  dsimp only
  generalize vdot m.nrm al = d at *
  generalize vdot m.nrm (vplus f (vtimes (-k) m.c)) = w at *
  generalize vdot (vcross al (vplus f (vtimes (-k) m.c))) m.v = a at *
  generalize vdot (vcross al (vplus f (vtimes (-k) m.c))) m.u = b at *
  have w1 := wrapN_eq (x := d) (by unfold L; omega)
  have w2 := wrapN_eq (x := w) (by unfold L; omega)
  have w3 := wrapN_eq (x := -w) (by unfold L; omega)
  have w4 := wrapN_eq (x := a) (by unfold L; omega)
  have w5 := wrapN_eq (x := b) (by unfold L; omega)
  simp only [w1, w2, w3, w4, w5]
  have k1 := mul_k (g := k) (c := d) (p := 8) (q := 3221225472) (by omega) (by omega) rfl (by decide) (by decide)
  have k2 : k * -d = -(k * d) := Int.mul_neg k d
  rw [k2]
  have i1 : inI64 (k * d) := by unfold inI64; omega
  have i2 : inI64 (-(k * d)) := by unfold inI64; omega
  simp only [if_pos i1, if_pos i2]
  by_cases hd : d < 0
  · simp only [if_pos hd, k2, Int.neg_neg]
    rw [if_neg (show ¬ -d = 0 by omega)]
    have hd0 : ¬ d = 0 := by omega
    by_cases h1 : w ≤ 0
    · rw [if_pos h1]
      have : ¬ 0 < w := by omega
      simp [this]
    · rw [if_neg h1]
      have : 0 < w := by omega
      cases e with
      | true =>
        simp only [if_true]
        by_cases h2 : w ≥ -d
        · rw [if_pos h2]
          have : ¬ w < -d := by omega
          simp [this]
        · rw [if_neg h2]
          have h3 : w < -d := by omega
          by_cases h4 : maxI a (-a) ≤ -(k * d)
          · rw [if_pos h4]; simp [hd0, this, h3, h4]
          · rw [if_neg h4]; simp [h4]
      | false =>
        simp only [Bool.false_eq_true, if_false]
        by_cases h4 : maxI a (-a) ≤ -(k * d)
        · rw [if_pos h4]; simp [hd0, this, h4]
        · rw [if_neg h4]; simp [h4]
  · simp only [if_neg hd]
    by_cases hd0 : d = 0
    · rw [if_pos hd0]; simp [hd0]
    rw [if_neg hd0]
    by_cases h1 : -w ≤ 0
    · rw [if_pos h1]
      have : ¬ w < 0 := by omega
      simp [this]
    · rw [if_neg h1]
      have : w < 0 := by omega
      cases e with
      | true =>
        simp only [if_true]
        by_cases h2 : -w ≥ d
        · rw [if_pos h2]
          have : ¬ -w < d := by omega
          simp [this]
        · rw [if_neg h2]
          have h3 : -w < d := by omega
          by_cases h4 : maxI a (-a) ≤ k * d
          · rw [if_pos h4]; simp [hd0, this, h3, h4]
          · rw [if_neg h4]; simp [h4]
      | false =>
        simp only [Bool.false_eq_true, if_false]
        by_cases h4 : maxI a (-a) ≤ k * d
        · rw [if_pos h4]; simp [hd0, this, h4]
        · rw [if_neg h4]; simp [h4]

/-! The reference. -/
end Go.Proofs.YtclmbhokfhjnoaaGreatDoor
/-
  Names: the program ranges over runes, the reference over bytes; both say the same. An own text.
-/
set_option maxRecDepth 20000
namespace Go.Proofs.YtclmbhokfhjnoaaGreatDoor
open Go.SX

def byteAt (s : ByteArray) (i : Nat) : Nat := (s.get! i).toNat
def OkAt (p c : Nat) : Prop := (97 ≤ c ∧ c ≤ 122) ∨ (65 ≤ c ∧ c ≤ 90) ∨ (p ≠ 0 ∧ (c = 95 ∨ (48 ≤ c ∧ c ≤ 57)))
instance (p c : Nat) : Decidable (OkAt p c) := by unfold OkAt; infer_instance
def okFrom (s : ByteArray) : Nat → Nat → Bool
  | 0, _ => true
  | m + 1, p => decide (OkAt p (byteAt s p)) && okFrom s m (p + 1)
theorem decode_low {s : ByteArray} {p : Nat} (h : byteAt s p < 128) : Utf8.decode s p = (byteAt s p, 1) := by
  unfold byteAt at h ⊢
  unfold Utf8.decode
  simp only [Nat.add_zero]
  rw [if_pos h]
theorem decode_high {s : ByteArray} {p : Nat} (h : ¬ byteAt s p < 128) : 128 ≤ (Utf8.decode s p).1 := by
  unfold byteAt at h
  unfold Utf8.decode
  simp only [Nat.add_zero]
  rw [if_neg h]
  have hr : 128 ≤ Utf8.runeError := by decide
  repeat' split
  all_goals first | exact hr | (simp only [Bool.and_eq_true, decide_eq_true_eq, ge_iff_le] at *; omega)
theorem stepP (n : Nat) {s : ByteArray} {p : Nat} (h : p < s.size) : F_light_IsName_L1 n s p = if OkAt p (byteAt s p) then some (.inl (p + 1)) else some (.inr (.inl ())) := by
  unfold F_light_IsName_L1
  rw [if_pos h]
  by_cases hb : byteAt s p < 128
  · rw [decode_low hb]
    dsimp only
    generalize byteAt s p = c at hb ⊢
    by_cases hk : OkAt p c
    · rw [if_pos hk]
      unfold OkAt at hk
      repeat' split
      all_goals first | rfl | (exfalso; omega)
    · rw [if_neg hk]
      unfold OkAt at hk
      repeat' split
      all_goals first | rfl | (exfalso; omega)
  · have hd := decode_high hb
    have hno : ¬ OkAt p (byteAt s p) := by unfold OkAt; omega
    rw [if_neg hno]
    generalize (Utf8.decode s p).1 = c at hd ⊢
    repeat' split
    all_goals first | rfl | (exfalso; omega)
theorem loopP (n : Nat) {s : ByteArray} : ∀ (m k p : Nat), p + m = s.size → m < k → loopF (F_light_IsName_L1 n s) k p = some (if okFrom s m p = true then .inr () else .inl ())
  | m, 0, p, _, h => by omega
  | 0, k + 1, p, hp, _ => by
    rw [loopF_r (e := .inr ()) (by unfold F_light_IsName_L1; rw [if_neg (by omega)])]; rfl
  | m + 1, k + 1, p, hp, hk => by
    have hs := stepP n (s := s) (p := p) (by omega)
    by_cases h : OkAt p (byteAt s p)
    · rw [if_pos h] at hs
      rw [loopF_l hs, loopP n m k (p + 1) (by omega) (by omega)]
      simp [okFrom, h]
    · rw [if_neg h] at hs
      rw [loopF_r hs]
      simp [okFrom, h]
def nameB (s : ByteArray) : Bool := decide (s.size ≠ 0) && decide (s.size ≤ 24) && okFrom s s.size 0
theorem loop_len (s : ByteArray) : ∀ (m i : Nat) (r : List UInt8), i + m = s.size → (ByteArray.toList.loop s i r).length = r.length + m
  | 0, i, r, h => by rw [ByteArray.toList.loop, if_neg (by omega), List.length_reverse]; rfl
  | m + 1, i, r, h => by rw [ByteArray.toList.loop, if_pos (by omega), loop_len s m (i + 1) _ (by omega), List.length_cons]; omega
theorem toList_len (s : ByteArray) : s.toList.length = s.size := by
  unfold ByteArray.toList
  rw [loop_len s s.size 0 [] (by omega)]; simp
theorem nil_iff (s : ByteArray) : (s.toList == (⟨#[]⟩ : ByteArray).toList) = decide (s.size = 0) := by
  rw [Bool.eq_iff_iff, beq_iff_eq, decide_eq_true_eq]
  constructor
  · intro h
    have h1 : s.toList.length = 0 := by rw [h, toList_len]; rfl
    rw [toList_len] at h1
    exact h1
  · intro h
    have h1 : s.toList.length = 0 := by rw [toList_len]; exact h
    have h2 : (⟨#[]⟩ : ByteArray).toList.length = 0 := by rw [toList_len]; rfl
    rw [List.eq_nil_of_length_eq_zero h1, List.eq_nil_of_length_eq_zero h2]
theorem isName_eq {n : Nat} {s : ByteArray} (h : s.size < n) : F_light_IsName n s = some (nameB s) := by
  unfold F_light_IsName
  rw [show loopF (F_light_IsName_L1 n s) n 0 = _ from loopP n s.size n 0 (by omega) h, Option.bind_some]
  unfold nameB
  by_cases h1 : okFrom s s.size 0 = true
  · rw [if_pos h1, h1]
    dsimp only
    rw [nil_iff]
    by_cases h2 : s.size = 0
    · simp [h2]
    · simp [h2]; omega
  · rw [if_neg h1]
    simp only [Bool.not_eq_true] at h1
    rw [h1]; simp

/-! The reference. -/
theorem strAt_eq {s : ByteArray} {p : Nat} (h : p < s.size) : strAt s (p : Int) = some ((byteAt s p : Nat) : Int) := by
  have e : s[p]? = some (s.get! p) := by
    have h1 : s[p]? = some s[p] := by simp [h]
    rw [h1]
    congr 1
    cases s with
    | mk d =>
      have hd : p < d.size := h
      show d[p] = d[p]!
      simp [hd]
  unfold strAt byteAt
  rw [if_pos (Int.natCast_nonneg p), Int.toNat_natCast, e]
theorem stepR (n : Nat) {s : ByteArray} {p : Nat} (h : p < s.size) (hp : p < 1000) : F_ref01_IsName_L1 n s (p : Int) = if OkAt p (byteAt s p) then some (.inl (((p + 1 : Nat) : Int))) else some (.inr (.inl ())) := by
  unfold F_ref01_IsName_L1
  have hi : inI64 ((p : Int) + 1) := by unfold inI64; omega
  rw [if_pos (by omega), strAt_eq h, Option.bind_some]
  simp only [if_pos hi]
  generalize byteAt s p = c
  have e : ((p : Int) + 1) = ((p + 1 : Nat) : Int) := rfl
  rw [← e]
  by_cases hk : OkAt p c
  · rw [if_pos hk]
    unfold OkAt at hk
    repeat' split
    all_goals first | rfl | (exfalso; omega)
  · rw [if_neg hk]
    unfold OkAt at hk
    repeat' split
    all_goals first | rfl | (exfalso; omega)
theorem loopR (n : Nat) {s : ByteArray} : ∀ (m k p : Nat), p + m = s.size → s.size < 1000 → m < k → loopF (F_ref01_IsName_L1 n s) k (p : Int) = some (if okFrom s m p = true then .inr () else .inl ())
  | m, 0, p, _, _, h => by omega
  | 0, k + 1, p, hp, _, _ => by
    rw [loopF_r (e := .inr ()) (by unfold F_ref01_IsName_L1; rw [if_neg (by omega)])]; rfl
  | m + 1, k + 1, p, hp, hz, hk => by
    have hs := stepR n (s := s) (p := p) (by omega) (by omega)
    by_cases h : OkAt p (byteAt s p)
    · rw [if_pos h] at hs
      rw [loopF_l hs, loopR n m k (p + 1) (by omega) hz (by omega)]
      simp [okFrom, h]
    · rw [if_neg h] at hs
      rw [loopF_r hs]
      simp [okFrom, h]
theorem refName_eq {n : Nat} (hn : 100 ≤ n) (s : ByteArray) : F_ref01_IsName n s = some (nameB s) := by
  unfold F_ref01_IsName nameB
  rw [nil_iff]
  by_cases h1 : s.size = 0
  · simp [h1]
  rw [if_neg (by simpa using h1)]
  by_cases h2 : (s.size : Int) > 24
  · rw [if_pos h2]
    have : ¬ s.size ≤ 24 := by omega
    simp [this]
  · rw [if_neg h2]
    have h3 : s.size ≤ 24 := by omega
    rw [show loopF (F_ref01_IsName_L1 n s) n 0 = _ from loopR n s.size n 0 (by omega) (by omega) (by omega), Option.bind_some]
    by_cases h4 : okFrom s s.size 0 = true
    · rw [if_pos h4, h4]; simp [h1, h3]
    · rw [if_neg h4]
      simp only [Bool.not_eq_true] at h4
      rw [h4]; simp
end Go.Proofs.YtclmbhokfhjnoaaGreatDoor
/-
  Plain lemmas of chapter 4: what the checks of mirrors answer. An own text.
-/
set_option maxRecDepth 20000
namespace Go.Proofs.YtclmbhokfhjnoaaGreatDoor
open Go.SX

theorem first3 {n : Nat} (hn : 10 ≤ n) (a b c : Int) : F_field_first n [I a, I b, I c] = some (firstNZ [a, b, c]) := first_eq [a, b, c] (by simp) (by simp; omega)
theorem first4 {n : Nat} (hn : 10 ≤ n) (a b c d : Int) : F_field_first n [I a, I b, I c, I d] = some (firstNZ [a, b, c, d]) := first_eq [a, b, c, d] (by simp) (by simp; omega)
theorem refFirst3 {n : Nat} (hn : 10 ≤ n) (a b c : Int) : F_ref01_First n [I a, I b, I c] = some (firstNZ [a, b, c]) := refFirst_eq [a, b, c] (by simp) (by simp; omega)
theorem refFirst4 {n : Nat} (hn : 10 ≤ n) (a b c d : Int) : F_ref01_First n [I a, I b, I c, I d] = some (firstNZ [a, b, c, d]) := refFirst_eq [a, b, c, d] (by simp) (by simp; omega)

def pE (v : Vec) (m : Int) : Int := firstNZ [inR v.1 (-m) m, inR v.2.1 (-m) m, inR v.2.2 (-m) m]
theorem parts_eq {n : Nat} (hn : 10 ≤ n) (v : Vec) {m : Int} (h : 0 ≤ m ∧ m ≤ L) : F_field_checkParts n v.1 v.2.1 v.2.2 m = some (pE v m) := by
  have hw := wrapN_eq (x := m) (by unfold L at *; omega)
  unfold F_field_checkParts
  rw [hw, within_eq, Option.bind_some, within_eq, Option.bind_some, within_eq, Option.bind_some, first3 hn]; rfl
theorem refParts_eq {n : Nat} (hn : 10 ≤ n) (v : Vec) {m : Int} (h : 0 ≤ m ∧ m ≤ L) : F_ref04_checkParts n v.1 v.2.1 v.2.2 m = some (pE v m) := by
  unfold F_ref04_checkParts
  unfold L at h
  rw [if_pos (by unfold inI64; omega), Int.zero_sub, range_eq, Option.bind_some, range_eq, Option.bind_some, range_eq, Option.bind_some, refFirst3 hn]; rfl
theorem pE_zero {v : Vec} {m : Int} (h : pE v m = 0) : Bd m v :=
  ⟨inR_zero (firstNZ_zero h _ (by simp)), inR_zero (firstNZ_zero h _ (by simp)), inR_zero (firstNZ_zero h _ (by simp))⟩
def zeroB (v : Vec) : Bool := (v.1 == 0) && ((v.2.1 == 0) && ((v.2.2 == 0) && true))
def mirE (m : Mir) : Int :=
  if firstNZ [whenI (!nameB m.name) 8, pE m.c 4096, pE m.u 64, pE m.v 64] = 0 then whenI (zeroB m.nrm) 17
  else firstNZ [whenI (!nameB m.name) 8, pE m.c 4096, pE m.u 64, pE m.v 64]
theorem ok_of {m : Mir} (h : firstNZ [whenI (!nameB m.name) 8, pE m.c 4096, pE m.u 64, pE m.v 64] = 0) : m.Ok :=
  ⟨pE_zero (firstNZ_zero h (pE m.c 4096) (by simp)), pE_zero (firstNZ_zero h (pE m.u 64) (by simp)), pE_zero (firstNZ_zero h (pE m.v 64) (by simp))⟩
theorem mirE_zero {m : Mir} (h : mirE m = 0) : m.Ok := by
  unfold mirE at h
  by_cases h1 : firstNZ [whenI (!nameB m.name) 8, pE m.c 4096, pE m.u 64, pE m.v 64] = 0
  · exact ok_of h1
  · rw [if_neg h1] at h; exact absurd h h1
theorem check_eq {n : Nat} (hn : 100 ≤ n) {m : Mir} (hz : m.name.size < n) : F_field_Mirror_check n m.name m.c.1 m.c.2.1 m.c.2.2 m.u.1 m.u.2.1 m.u.2.2 m.v.1 m.v.2.1 m.v.2.2 = some (mirE m) := by
  unfold F_field_Mirror_check mirE
  rw [isName_eq hz, Option.bind_some, when_eq, Option.bind_some, parts_eq (by omega) m.c (by decide), Option.bind_some, parts_eq (by omega) m.u (by decide), Option.bind_some, parts_eq (by omega) m.v (by decide), Option.bind_some, first4 (by omega), Option.bind_some]
  by_cases h : firstNZ [whenI (!nameB m.name) 8, pE m.c 4096, pE m.u 64, pE m.v 64] = 0
  · rw [if_pos h, if_pos h, normal_eq n (ok_of h), Option.bind_some, when_eq]; rfl
  · rw [if_neg h, if_neg h]
theorem refCheck_eq {n : Nat} (hn : 100 ≤ n) (m : Mir) : F_ref04_CheckMirror n m.name m.c.1 m.c.2.1 m.c.2.2 m.u.1 m.u.2.1 m.u.2.2 m.v.1 m.v.2.1 m.v.2.2 = some (mirE m) := by
  unfold F_ref04_CheckMirror F_ref01_CheckName mirE
  rw [refName_eq hn, Option.bind_some, refWhen_eq, Option.bind_some, Option.bind_some, refParts_eq (by omega) m.c (by decide), Option.bind_some, refParts_eq (by omega) m.u (by decide), Option.bind_some, refParts_eq (by omega) m.v (by decide), Option.bind_some, refFirst4 (by omega), Option.bind_some]
  by_cases h : firstNZ [whenI (!nameB m.name) 8, pE m.c 4096, pE m.u 64, pE m.v 64] = 0
  · rw [if_pos h, if_pos h, refCross_eq n ((ok_of h).u.cross (ok_of h).v rfl (by decide) (by decide)) (by decide), Option.bind_some, refWhen_eq]; rfl
  · rw [if_neg h, if_neg h]
def dirE (v : Vec) (m : Int) : Int := firstNZ [pE v m, whenI (zeroB v) 6]
theorem dirE_zero {v : Vec} {m : Int} (h : dirE v m = 0) : Bd m v := pE_zero (firstNZ_zero h (pE v m) (by simp))
end Go.Proofs.YtclmbhokfhjnoaaGreatDoor
/-
  Plain lemmas of chapter 4: lists of mirrors, and what their check answers. An own text.
-/
set_option maxRecDepth 20000
namespace Go.Proofs.YtclmbhokfhjnoaaGreatDoor
open Go.SX

theorem ba_beq (a b : ByteArray) : (a == b) = decide (a = b) := by
  obtain ⟨x⟩ := a
  obtain ⟨y⟩ := b
  have e : ((⟨x⟩ : ByteArray) == ⟨y⟩) = (x == y) := rfl
  rw [e, Bool.eq_iff_iff, beq_iff_eq, decide_eq_true_eq]
  constructor
  · intro h; rw [h]
  · intro h; injection h
instance : LawfulBEq ByteArray where
  eq_of_beq h := by rw [ba_beq] at h; exact of_decide_eq_true h
  rfl := by intro a; rw [ba_beq]; exact decide_eq_true rfl
theorem toList_beq (a b : ByteArray) : (a.toList == b.toList) = decide (a = b) := by
  rw [Bool.eq_iff_iff, beq_iff_eq, decide_eq_true_eq, toList_eq, toList_eq]
  constructor
  · intro h
    obtain ⟨⟨a⟩⟩ := a
    obtain ⟨⟨b⟩⟩ := b
    simp only at h
    rw [h]
  · intro h; rw [h]

/-! Lists of mirrors. -/
abbrev Mir10 := ByteArray × Int × Int × Int × Int × Int × Int × Int × Int × Int
def Mir.of (x : Mir10) : Mir := ⟨x.1, (x.2.1, x.2.2.1, x.2.2.2.1), (x.2.2.2.2.1, x.2.2.2.2.2.1, x.2.2.2.2.2.2.1), (x.2.2.2.2.2.2.2.1, x.2.2.2.2.2.2.2.2.1, x.2.2.2.2.2.2.2.2.2)⟩
def Mir.tup (m : Mir) : Mir10 := (m.name, m.c.1, m.c.2.1, m.c.2.2, m.u.1, m.u.2.1, m.u.2.2, m.v.1, m.v.2.1, m.v.2.2)
def encM (m : Mir) : D := .agg [.v (.string m.name), I m.c.1, I m.c.2.1, I m.c.2.2, I m.u.1, I m.u.2.1, I m.u.2.2, I m.v.1, I m.v.2.1, I m.v.2.2]
theorem elM {ms : List Mir} {i : Nat} {m : Mir} (h : ms[i]? = some m) : el un_Asi9Z (ms.map encM) (i : Int) = some m.tup := by
  have := el_enc (un := un_Asi9Z) (enc := fun x : Mir10 => encM (Mir.of x)) (fun x => rfl) (l := ms.map Mir.tup) (i := i) (x := m.tup) (by rw [List.getElem?_map, h]; rfl)
  rw [List.map_map] at this
  exact this
theorem runL_app {α β : Type} (f : α → β) : ∀ (l : List α) (s : List β), runL (fun (s : List β) (p : α) => (.inl (s ++ [f p]) : List β ⊕ List β)) id l s = s ++ l.map f
  | [], s => by simp [runL]
  | p :: l, s => by
    unfold runL
    dsimp only
    rw [runL_app f l]; simp
theorem own_eq {n : Nat} (ms : List Mir) (hn : ms.length < n) (hl : ms.length ≤ 100) : F_law04_own n (ms.map encM) = some (ms.map encM) := by
  unfold F_law04_own
  have := loopF_list0 (step := F_law04_own_L1 n (ms.map encM)) (fun (s : List D) (p : Mir) => (.inl (s ++ [encM p]) : List D ⊕ List D)) id (fun i s => ((i : Int), s)) ms (fun i s => s.length = i)
    (fun i s x hx hi => by
      have hlt := (List.getElem?_eq_some_iff.1 hx).1
      dsimp only
      refine ⟨?_, by simp [hi]⟩
      unfold F_law04_own_L1
      dsimp only
      rw [if_pos (lenlt hx), elM hx, Option.bind_some, if_pos (by unfold roomP; omega), if_pos (by unfold inI64; omega)]
      rfl)
    (fun s _ => by unfold F_law04_own_L1; dsimp only; rw [if_neg (by simp)]; rfl) (s := []) (k := n) (by rfl) hn
  rw [show ((0 : Int), ([] : List D)) = (((0 : Nat) : Int), []) from rfl, this, runL_app]
  rfl
def shortB (m : Mir) : Bool := decide ((m.name.size : Int) ≤ 40)
theorem short_eq {n : Nat} (ms : List Mir) (hn : ms.length < n) (hl : ms.length ≤ 9223372036854775807) : F_ref04_Short n (ms.map encM) = some (ms.all shortB && (decide (ms.length ≤ 6) || decide (ms.length = 65))) := by
  unfold F_ref04_Short
  have key : ∀ (l : List Mir), runL (fun (_ : Unit) (m : Mir) => (if shortB m = true then .inl () else .inr (.inl ()) : Unit ⊕ (Unit ⊕ Unit))) (fun _ => .inr ()) l () = if l.all shortB = true then .inr () else .inl () := by
    intro l
    induction l with
    | nil => rfl
    | cons p l ih =>
      unfold runL
      by_cases h : shortB p = true
      · rw [if_pos h]; simp only [List.all_cons, h, Bool.true_and]; exact ih
      · rw [if_neg h]; simp [h]
  have := loopF_list0 (step := F_ref04_Short_L1 n (ms.map encM)) (fun (_ : Unit) (m : Mir) => (if shortB m = true then .inl () else .inr (.inl ()) : Unit ⊕ (Unit ⊕ Unit))) (fun _ => .inr ()) (fun i _ => (i : Int)) ms (fun _ _ => True)
    (fun i s x hx _ => by
      have hi := (List.getElem?_eq_some_iff.1 hx).1
      unfold F_ref04_Short_L1 F_ref04_ShortMirror
      by_cases h : shortB x = true
      · rw [if_pos h]
        refine ⟨?_, trivial⟩
        rw [if_pos (lenlt hx), elM hx, Option.bind_some, Option.bind_some, if_pos (show decide ((x.tup.1.size : Int) ≤ 40) = true from h), if_pos (by unfold inI64; omega)]; rfl
      · rw [if_neg h]
        dsimp only
        rw [if_pos (lenlt hx), elM hx, Option.bind_some, Option.bind_some, if_neg (show ¬ decide ((x.tup.1.size : Int) ≤ 40) = true from h)])
    (fun s _ => by unfold F_ref04_Short_L1; rw [if_neg (by simp)]) (s := ()) (k := n) trivial hn
  rw [show (0 : Int) = ((0 : Nat) : Int) from rfl, this, key, Option.bind_some]
  by_cases h : ms.all shortB = true
  · rw [if_pos h, h]
    dsimp only
    rw [List.length_map]
    by_cases h1 : (ms.length : Int) ≤ 6
    · rw [if_pos h1]
      have : ms.length ≤ 6 := by omega
      simp [this]
    · rw [if_neg h1]
      have : ¬ ms.length ≤ 6 := by omega
      congr 1
      rw [Bool.eq_iff_iff]
      simp [this]
      omega
  · rw [if_neg h]; simp [h]

/-! The check of mirrors. -/
def entK (s : ByteArray) : D := .tup [.v (.string s), B true]
theorem mok_k (k : ByteArray) : ∀ (l : List ByteArray), mok (.string k) (l.map entK) = true
  | [] => rfl
  | x :: l => by
    rw [List.map_cons]
    unfold mok
    show ((sameK (.string k) (.string x)).isSome && mok (.string k) (l.map entK)) = true
    rw [mok_k k l]; rfl
theorem mfind_k (k : ByteArray) : ∀ (l : List ByteArray), mfind (.string k) (l.map entK) = if k ∈ l then some (B true) else none
  | [] => rfl
  | x :: l => by
    rw [List.map_cons]
    unfold mfind
    show (match sameK (.string k) (.string x) with
      | some true => some (B true)
      | _ => mfind (.string k) (l.map entK)) = _
    rw [mfind_k k l]
    show (match some (k == x) with
      | some true => some (B true)
      | _ => if k ∈ l then some (B true) else none) = _
    rw [ba_beq]
    by_cases h : k = x
    · simp [h]
    · simp [h]
theorem mput_k (k : ByteArray) : ∀ (l : List ByteArray), k ∉ l → mput (.string k) (B true) (l.map entK) = (l ++ [k]).map entK
  | [], _ => rfl
  | x :: l, h => by
    rw [List.map_cons]
    unfold mput
    show (match sameK (.string k) (.string x) with
      | some true => (.tup [.v (.string k), B true] : D) :: l.map entK
      | _ => entK x :: mput (.string k) (B true) (l.map entK)) = _
    rw [mput_k k l (fun hh => h (List.mem_cons_of_mem _ hh))]
    show (match some (k == x) with
      | some true => (.tup [.v (.string k), B true] : D) :: l.map entK
      | _ => entK x :: (l ++ [k]).map entK) = _
    rw [ba_beq]
    have hx : ¬ k = x := fun e => h (by rw [e]; exact List.mem_cons_self)
    simp [hx]
def mE (seen : List ByteArray) (m : Mir) : Int := firstNZ [mirE m, whenI (decide (m.name ∈ seen)) 9]
def gC (seen : List ByteArray) (m : Mir) : List ByteArray ⊕ (Int ⊕ Unit) := if mE seen m = 0 then .inl (seen ++ [m.name]) else .inr (.inl (mE seen m))
def chkR (ms : List Mir) : Int ⊕ Unit := runL gC (fun _ => .inr ()) ms []
def chkM (ms : List Mir) : Int := if (ms.length : Int) > 64 then 5 else match chkR ms with
  | .inl e => e
  | .inr _ => 0
theorem mE_new {seen : List ByteArray} {m : Mir} (h : mE seen m = 0) : m.name ∉ seen := by
  have := firstNZ_zero h (whenI (decide (m.name ∈ seen)) 9) (by simp)
  unfold whenI at this
  intro hm
  simp [hm] at this
theorem checkMs_eq {n : Nat} (hn : 100 ≤ n) (ms : List Mir) (hz : ∀ m, m ∈ ms → m.name.size < n) : F_field_CheckMirrors n (ms.map encM) = some (chkM ms) := by
  unfold F_field_CheckMirrors chkM
  rw [List.length_map]
  by_cases hl : (ms.length : Int) > 64
  · rw [if_pos hl, if_pos hl]
  · rw [if_neg hl, if_neg hl]
    have := loopF_list0 (step := F_field_CheckMirrors_L1 n (ms.map encM)) gC (fun _ => .inr ()) (fun i (s : List ByteArray) => ((i : Int), s.map entK)) ms (fun _ _ => True)
      (fun i s x hx _ => by
        have hi := (List.getElem?_eq_some_iff.1 hx).1
        have hc := check_eq hn (hz x (List.mem_of_getElem? hx))
        have step : F_field_CheckMirrors_L1 n (ms.map encM) ((i : Int), s.map entK) = if mE s x = 0 then some (.inl (((i + 1 : Nat) : Int), (s ++ [x.name]).map entK)) else some (.inr (.inl (mE s x))) := by
          have hi2 : inI64 ((i : Int) + 1) := by unfold inI64; omega
          unfold F_field_CheckMirrors_L1
          dsimp only
          rw [if_pos (lenlt hx), elM hx, Option.bind_some]
          unfold Mir.tup
          dsimp only
          rw [hc, Option.bind_some, if_pos (mok_k x.name s)]
          simp only [mfind_k, if_pos hi2]
          by_cases hm : x.name ∈ s
          · have hne : mE s x = firstNZ [mirE x, 9] := by unfold mE whenI; simp [hm]
            have hnz : ¬ mE s x = 0 := fun h => mE_new h hm
            rw [if_pos hm, if_pos (show (some (B true)).isSome = true from rfl), Option.bind_some, show un_b (B true) = some true from rfl, Option.bind_some, when_eq, Option.bind_some, first2 (by omega), Option.bind_some]
            have hw : whenI true 9 = 9 := rfl
            rw [hw, ← hne, if_neg hnz, if_neg hnz]
          · have hne : mE s x = firstNZ [mirE x, 0] := by unfold mE whenI; simp [hm]
            rw [if_neg hm, if_neg (by simp), show F_field_when_3 n = some 0 from rfl, Option.bind_some, first2 (by omega), Option.bind_some, ← hne, mput_k _ _ hm]
            rfl
        unfold gC
        by_cases h : mE s x = 0
        · rw [if_pos h] at step ⊢; exact ⟨step, trivial⟩
        · rw [if_neg h] at step ⊢; exact step)
      (fun s _ => by unfold F_field_CheckMirrors_L1; dsimp only; rw [if_neg (by simp)]) (s := []) (k := n) trivial (by omega)
    rw [show ((0 : Int), ([] : List D)) = (((0 : Nat) : Int), ([] : List ByteArray).map entK) from rfl, this, Option.bind_some]
    unfold chkR
    cases runL gC (fun _ => .inr ()) ms [] <;> rfl

/-! The reference's check. -/
theorem dup_loop {n : Nat} {ms : List Mir} (hl : ms.length ≤ 64) (hn : 100 ≤ n) {i : Nat} {x : Mir} (hx : ms[i]? = some x) :
    loopF (F_ref04_CheckMirrors_L1 n (ms.map encM) (i : Int)) n 0 = some (if x.name ∈ (ms.take i).map Mir.name then .inl () else .inr ()) := by
  have hi := (List.getElem?_eq_some_iff.1 hx).1
  have key : ∀ (l : List Mir), runL (fun (_ : Unit) (m : Mir) => (if m.name = x.name then .inr (.inl ()) else .inl () : Unit ⊕ (Unit ⊕ Unit))) (fun _ => .inr ()) l () = if x.name ∈ l.map Mir.name then .inl () else .inr () := by
    intro l
    induction l with
    | nil => rfl
    | cons p l ih =>
      unfold runL
      by_cases h : p.name = x.name
      · rw [if_pos h]; simp [h]
      · rw [if_neg h]
        dsimp only
        rw [ih]
        have h' : ¬ x.name = p.name := fun e => h e.symm
        simp [h']
  have := loopF_list0 (step := F_ref04_CheckMirrors_L1 n (ms.map encM) (i : Int)) (fun (_ : Unit) (m : Mir) => (if m.name = x.name then .inr (.inl ()) else .inl () : Unit ⊕ (Unit ⊕ Unit))) (fun _ => .inr ()) (fun k _ => (k : Int)) (ms.take i) (fun _ _ => True)
    (fun k s y hy _ => by
      have hk := (List.getElem?_eq_some_iff.1 hy).1
      rw [List.length_take] at hk
      have hy2 : ms[k]? = some y := by
        rw [List.getElem?_take] at hy
        split at hy
        · exact hy
        · cases hy
      unfold F_ref04_CheckMirrors_L1
      have e : ((y.tup.1).toList == (x.tup.1).toList) = decide (y.name = x.name) := toList_beq _ _
      by_cases h : y.name = x.name
      · rw [if_pos h]
        dsimp only
        rw [if_pos (by omega), elM hy2, Option.bind_some, elM hx, Option.bind_some, e, if_pos (by simpa using h)]
      · rw [if_neg h]
        refine ⟨?_, trivial⟩
        rw [if_pos (by omega), elM hy2, Option.bind_some, elM hx, Option.bind_some, e, if_neg (by simpa using h), if_pos (by unfold inI64; omega)]; rfl)
    (fun s _ => by
      unfold F_ref04_CheckMirrors_L1
      rw [if_neg (by rw [List.length_take]; omega)]) (s := ()) (k := n) trivial (by rw [List.length_take]; omega)
  rw [show (0 : Int) = ((0 : Nat) : Int) from rfl, this, key]
theorem refMs_eq {n : Nat} (hn : 100 ≤ n) (ms : List Mir) : F_ref04_CheckMirrors n (ms.map encM) = some (chkM ms) := by
  unfold F_ref04_CheckMirrors chkM
  rw [List.length_map]
  by_cases hl : (ms.length : Int) > 64
  · rw [if_pos hl, if_pos hl]
  · rw [if_neg hl, if_neg hl]
    have := loopF_list0 (step := F_ref04_CheckMirrors_L2 n (ms.map encM)) gC (fun _ => .inr ()) (fun i (_ : List ByteArray) => (i : Int)) ms (fun i s => s = (ms.take i).map Mir.name)
      (fun i s x hx hs => by
        have hi := (List.getElem?_eq_some_iff.1 hx).1
        have hc := refCheck_eq hn x
        have hd := dup_loop (n := n) (by omega) hn hx
        rw [← hs] at hd
        have hnext : s ++ [x.name] = (ms.take (i + 1)).map Mir.name := by
          rw [List.take_add_one, hx, List.map_append, ← hs]; rfl
        have step : F_ref04_CheckMirrors_L2 n (ms.map encM) (i : Int) = if mE s x = 0 then some (.inl ((i + 1 : Nat) : Int)) else some (.inr (.inl (mE s x))) := by
          unfold F_ref04_CheckMirrors_L2
          rw [if_pos (lenlt hx), elM hx, Option.bind_some]
          show (F_ref04_CheckMirror n x.name x.c.1 x.c.2.1 x.c.2.2 x.u.1 x.u.2.1 x.u.2.2 x.v.1 x.v.2.1 x.v.2.2).bind _ = _
          rw [hc, Option.bind_some, hd, Option.bind_some]
          have hi2 : inI64 ((i : Int) + 1) := by unfold inI64; omega
          by_cases h0 : mirE x = 0
          · rw [if_pos h0]
            by_cases hm : x.name ∈ s
            · have hne : mE s x = 9 := by unfold mE whenI; simp [hm, firstNZ, h0]
              rw [if_pos hm, hne]; rfl
            · have hne : mE s x = 0 := by unfold mE whenI; simp [hm, firstNZ, h0]
              rw [if_neg hm, if_pos hne]
              dsimp only
              rw [if_pos hi2]; rfl
          · have hne : mE s x = mirE x := by unfold mE; simp [firstNZ, h0]
            rw [if_neg h0, hne, if_neg h0]
        unfold gC
        by_cases h : mE s x = 0
        · rw [if_pos h] at step ⊢; exact ⟨step, hnext⟩
        · rw [if_neg h] at step ⊢; exact step)
      (fun s _ => by unfold F_ref04_CheckMirrors_L2; rw [if_neg (by simp)]) (s := []) (k := n) (by simp) (by omega)
    rw [show (0 : Int) = ((0 : Nat) : Int) from rfl, this, Option.bind_some]
    unfold chkR
    cases runL gC (fun _ => .inr ()) ms [] <;> rfl
end Go.Proofs.YtclmbhokfhjnoaaGreatDoor
/-
  Small lemmas on loops along a list. An own text.
-/
set_option maxRecDepth 20000
namespace Go.Proofs.YtclmbhokfhjnoaaGreatDoor
open Go.SX
theorem wrap64 {m : Int} (h : inI64 m) : IntKind.wrap .i64 m = m := by
  unfold inI64 at h
  rw [IntKind.wrap_i64]; omega
theorem loop_acc {α E : Type} {step : Int × List D → Option ((Int × List D) ⊕ E)} (ex : List D → E) (l : List α) (f : α → List D) (hf : ∀ x, (f x).length ≤ 1)
    (hstep : ∀ (i : Nat) (out : List D) (x : α), l[i]? = some x → out.length ≤ i → step ((i : Int), out) = some (.inl (((i + 1 : Nat) : Int), out ++ f x)))
    (hend : ∀ out : List D, out.length ≤ l.length → step ((l.length : Int), out) = some (.inr (ex out))) {k : Nat} (hk : l.length < k) : loopF step k (0, []) = some (ex (l.flatMap f)) := by
  have := loopF_list0 (step := step) (E := E) (fun (s : List D) (x : α) => .inl (s ++ f x)) ex (fun i s => ((i : Int), s)) l (fun i s => s.length ≤ i)
    (fun i s x hx hi => ⟨hstep i s x hx hi, by
      rw [List.length_append]
      have := hf x
      omega⟩)
    (fun s hs => hend s hs) (k := k) (s := []) (Nat.zero_le _) hk
  have e : ∀ (l : List α) (s : List D), runL (E := E) (fun (s : List D) (x : α) => .inl (s ++ f x)) ex l s = ex (s ++ l.flatMap f) := by
    intro l
    induction l with
    | nil => intro s; simp [runL]
    | cons x l ih =>
      intro s
      show runL (E := E) (fun (s : List D) (x : α) => .inl (s ++ f x)) ex l (s ++ f x) = _
      rw [ih, List.flatMap_cons, List.append_assoc]
  rw [e, List.nil_append] at this
  exact this

theorem flat1 {α β : Type} (f : α → β) (l : List α) : l.flatMap (fun x => [f x]) = l.map f := by
  induction l with
  | nil => rfl
  | cons x l ih => rw [List.flatMap_cons, ih]; rfl
theorem ixlt {α : Type} {l : List α} {i : Nat} {x : α} (h : l[i]? = some x) : i < l.length := (List.getElem?_eq_some_iff.1 h).1
theorem notlt {α β : Type} {f : α → β} {l : List α} : ¬ ((l.length : Int) < ((l.map f).length : Int)) := by simp

end Go.Proofs.YtclmbhokfhjnoaaGreatDoor
/-
  Both ways of cutting a string into pieces give the pieces between the separators. An own text.
-/
set_option maxRecDepth 20000
namespace Go.Proofs.YtclmbhokfhjnoaaGreatDoor
open Go.SX
def eS (p : List UInt8) : D := .v (.string (mkS p))
theorem eS_nil : (.v (.string ⟨#[]⟩) : D) = eS [] := rfl
theorem un_eS (p : List UInt8) : un_s (eS p) = some (mkS p) := rfl
theorem room16 {k : Nat} (h : k ≤ 100000) : roomP 16 k := by unfold roomP; omega
theorem i64 {m : Int} (h1 : -1000000000000 ≤ m) (h2 : m ≤ 1000000000000) : inI64 m := by unfold inI64; omega

/-- The reference's loop over the bytes. -/
theorem refSplit_loop (n : Nat) (l : List UInt8) (c : UInt8) (hl : l.length ≤ 900) : ∀ (rest : List UInt8) (i fr : Nat) (acc : List (List UInt8)) (k : Nat), l.drop i = rest → fr ≤ i → i ≤ l.length → acc.length ≤ i → rest.length < k →
    ∃ (fr' : Nat) (acc' : List (List UInt8)), loopF (F_ref01_Split_L1 n (mkS l) (c.toNat : Int)) k ((fr : Int), (i : Int), acc.map eS) = some ((fr' : Int), acc'.map eS) ∧ fr' ≤ l.length ∧ acc'.length ≤ l.length ∧ acc' ++ [l.drop fr'] = acc ++ pre ((l.take i).drop fr) (spl c rest)
  | _, _, _, _, 0, _, _, _, _, hk => absurd hk (by omega)
  | [], i, fr, acc, k + 1, hd, hf, hi, ha, _ => by
    have hie : i = l.length := by
      have := List.drop_eq_nil_iff.1 hd; omega
    refine ⟨fr, acc, ?_, by omega, by omega, ?_⟩
    · refine loopF_r ?_
      unfold F_ref01_Split_L1
      rw [if_neg (by rw [mk_size]; dsimp only; omega)]
    · rw [hie, List.take_length]
      simp [spl, pre]
  | x :: rest, i, fr, acc, k + 1, hd, hf, hi, ha, hk => by
    have hil : i < l.length := by
      rcases Nat.lt_or_ge i l.length with h | h
      · exact h
      · rw [List.drop_eq_nil_of_le h] at hd; cases hd
    have hx : l[i]? = some x := by
      have := List.drop_eq_getElem_cons hil
      rw [hd] at this
      rw [List.getElem?_eq_getElem hil]
      exact congrArg some (List.cons.inj this).1.symm
    have hd' : l.drop (i + 1) = rest := by
      have := List.drop_eq_getElem_cons hil
      rw [hd] at this
      exact (List.cons.inj this).2.symm
    have hcast : (i : Int) + 1 = ((i + 1 : Nat) : Int) := by simp
    by_cases hxc : x = c
    · subst hxc
      obtain ⟨fr', acc', h1, h2, h3, h4⟩ := refSplit_loop n l x hl rest (i + 1) (i + 1) (acc ++ [(l.take i).drop fr]) k hd' (Nat.le_refl _) hil (by simp; omega) (by simp at hk; omega)
      refine ⟨fr', acc', ?_, h2, h3, ?_⟩
      · rw [loopF_l (s' := (((i + 1 : Nat) : Int), ((i + 1 : Nat) : Int), (acc ++ [(l.take i).drop fr]).map eS))]
        · exact h1
        · unfold F_ref01_Split_L1
          dsimp only
          rw [if_pos (by rw [mk_size]; omega), strAt_mk, hx, Option.map_some, Option.bind_some, if_pos rfl, sub_mk l hf (by omega), Option.bind_some, if_pos (by rw [List.length_map]; exact room16 (by omega)), if_pos (i64 (by omega) (by omega)), hcast, List.map_append]
          rfl
      · rw [h4, spl_sep, show (l.take (i + 1)).drop (i + 1) = [] from List.drop_eq_nil_of_le (by simp; omega), pre_nil (spl_ne x rest)]
        simp [pre]
    · obtain ⟨fr', acc', h1, h2, h3, h4⟩ := refSplit_loop n l c hl rest (i + 1) fr acc k hd' (by omega) hil (by omega) (by simp at hk; omega)
      refine ⟨fr', acc', ?_, h2, h3, ?_⟩
      · rw [loopF_l (s' := ((fr : Int), ((i + 1 : Nat) : Int), acc.map eS))]
        · exact h1
        · unfold F_ref01_Split_L1
          dsimp only
          rw [if_pos (by rw [mk_size]; omega), strAt_mk, hx, Option.map_some, Option.bind_some, if_neg (fun e => hxc (UInt8.toNat_inj.1 (by omega))), if_pos (i64 (by omega) (by omega)), hcast]
      · rw [h4, spl_cons c x rest hxc, pre_pre _ _ (spl_ne c rest)]
        congr 2
        rw [List.take_add_one, hx, List.drop_append_of_le_length (by simp; omega)]
        rfl
theorem refSplit_eq {n : Nat} (hn : 1000 ≤ n) {l : List UInt8} (c : UInt8) (hl : l.length ≤ 900) : F_ref01_Split n (mkS l) (c.toNat : Int) = some ((spl c l).map eS) := by
  obtain ⟨fr, acc, h1, h2, h3, h4⟩ := refSplit_loop n l c hl l 0 0 [] n rfl (Nat.le_refl _) (Nat.zero_le _) (by simp) (by omega)
  unfold F_ref01_Split
  have h1' : loopF (F_ref01_Split_L1 n (mkS l) (c.toNat : Int)) n (0, 0, []) = some ((fr : Int), acc.map eS) := h1
  rw [h1', Option.bind_some]
  dsimp only
  rw [sub_from l h2, Option.bind_some, if_pos (by rw [List.length_map]; exact room16 (by omega))]
  have h5 : acc ++ [l.drop fr] = spl c l := by rw [h4, List.nil_append, List.take_zero, List.drop_nil, pre_nil (spl_ne c l)]
  rw [← h5, List.map_append]
  rfl

theorem index_eq (n : Nat) (l : List UInt8) : F_strings_Index n (mkS l) = some (Lib.indexByte l 32) := by
  unfold F_strings_Index F_stringslite_Index
  have e : (⟨#[32]⟩ : ByteArray) = mkS [32] := rfl
  rw [e, beq_mk]
  by_cases h : [32] = l
  · rw [if_pos (decide_eq_true h), ← h]; rfl
  · rw [if_neg (by simpa using h)]
    unfold F_lite_IndexByte
    rw [data_mk]; rfl
theorem genSplit_loop (n : Nat) (l : List UInt8) (hl : l.length ≤ 900) : ∀ (m : Nat) (done : List (List UInt8)) (s : List UInt8) (k : Nat), s.count 32 = m → done.length + m = l.count 32 → spl 32 l = done ++ spl 32 s → s.length ≤ 900 → m < k →
    ∃ (done' : List (List UInt8)) (s' : List UInt8), loopF (F_strings_genSplit_L1 n (mkS l) ((l.count 32 : Nat) : Int)) k (mkS s, (done.length : Int), done.map eS ++ List.replicate (m + 1) (eS [])) = some (mkS s', ((l.count 32 : Nat) : Int), done'.map eS ++ [eS []]) ∧ done'.length = l.count 32 ∧ spl 32 l = done' ++ [s']
  | _, _, _, 0, _, _, _, _, hk => absurd hk (by omega)
  | 0, done, s, k + 1, hm, hd, hs, _, _ => by
    have hfree : (32 : UInt8) ∉ s := List.count_eq_zero.1 hm
    have hcl : l.count 32 ≤ l.length := List.count_le_length
    refine ⟨done, s, ?_, by omega, by rw [hs, spl_miss 32 s hfree]⟩
    have hmin : minI (((l.count 32 : Nat) : Int) + 1) (((mkS l).size : Int) + 1) = ((l.count 32 : Nat) : Int) + 1 := by rw [mk_size]; unfold minI; split <;> omega
    rw [loopF_r (e := (mkS s, (done.length : Int), done.map eS ++ List.replicate 1 (eS [])))]
    · rw [show done.length = l.count 32 by omega]; rfl
    · unfold F_strings_genSplit_L1
      dsimp only
      rw [hmin, if_neg (by omega)]
  | m + 1, done, s, k + 1, hm, hd, hs, hsl, hk => by
    have hcl : l.count 32 ≤ l.length := List.count_le_length
    have hmin : minI (((l.count 32 : Nat) : Int) + 1) (((mkS l).size : Int) + 1) = ((l.count 32 : Nat) : Int) + 1 := by rw [mk_size]; unfold minI; split <;> omega
    obtain ⟨a, b, rfl, hab⟩ := hit_of (List.count_pos_iff.1 (show 0 < s.count 32 by omega))
    have hcb : b.count 32 = m := by
      rw [List.count_append, List.count_cons_self, List.count_eq_zero.2 hab] at hm; omega
    have hlen : a.length + b.length + 1 ≤ 900 := by simp at hsl; omega
    obtain ⟨done', s', h1, h2, h3⟩ := genSplit_loop n l hl m (done ++ [a]) b k hcb (by simp; omega) (by rw [hs, spl_hit 32 a b hab]; simp) (by omega) (by omega)
    refine ⟨done', s', ?_, h2, h3⟩
    rw [loopF_l (s' := (mkS b, ((done ++ [a]).length : Int), (done ++ [a]).map eS ++ List.replicate (m + 1) (eS [])))]
    · exact h1
    · unfold F_strings_genSplit_L1
      dsimp only
      have hal : (a ++ 32 :: b).length = a.length + b.length + 1 := by simp; omega
      have hrow : (done.map eS ++ List.replicate (m + 1 + 1) (eS [])).length = done.length + m + 2 := by simp; omega
      rw [hmin, if_pos (by omega), index_eq, Option.bind_some, index_hit b hab, if_neg (by omega), if_pos (i64 (by omega) (by omega)), Int.add_zero, sub_to _ (by omega), Option.bind_some,
        if_pos (by rw [hrow]; omega), if_pos (by rw [hrow, Int.toNat_natCast]; omega), if_pos (i64 (by omega) (by omega))]
      rw [show (a.length : Int) + 1 = ((a.length + 1 : Nat) : Int) by simp, sub_from _ (by omega), Option.bind_some, if_pos (i64 (by omega) (by omega))]
      have e1 : (a ++ 32 :: b).drop (a.length + 1) = b := by simp
      have e2 : (a ++ 32 :: b).take a.length = a := by simp
      have e3 : (done.map eS ++ List.replicate (m + 1 + 1) (eS [])).set (Int.toNat (done.length : Int)) (.v (.string (mkS a))) = (done ++ [a]).map eS ++ List.replicate (m + 1) (eS []) := by
        rw [Int.toNat_natCast, List.set_append_right _ _ (by simp)]
        simp [List.replicate_succ, eS]
      rw [e1, e2, e3]
      simp
theorem split_eq {n : Nat} (hn : 1000 ≤ n) {l : List UInt8} (hl : l.length ≤ 900) : F_strings_Split n (mkS l) = some ((spl 32 l).map eS) := by
  have hcl : l.count 32 ≤ l.length := List.count_le_length
  obtain ⟨done, s, h1, h2, h3⟩ := genSplit_loop n l hl (l.count 32) [] l n rfl (by simp) (by simp) hl (by omega)
  have hmin : minI (((l.count 32 : Nat) : Int) + 1) (((mkS l).size : Int) + 1) = ((l.count 32 + 1 : Nat) : Int) := by rw [mk_size]; unfold minI; split <;> omega
  unfold F_strings_Split F_strings_genSplit
  have hcount : F_strings_Count n (mkS l) ⟨#[32]⟩ = some ((l.count 32 : Nat) : Int) := by
    show some ((Lib.countByte (mkS l).data.toList 32 : Nat) : Int) = _
    rw [data_mk]; rfl
  rw [hcount, Option.bind_some, if_pos (i64 (by omega) (by omega)), if_pos (by rw [mk_size]; exact i64 (by omega) (by omega)), hmin, if_pos (by omega), if_pos (i64 (by omega) (by omega))]
  rw [Int.toNat_natCast, eS_nil]
  have h1' : loopF (F_strings_genSplit_L1 n (mkS l) ((l.count 32 : Nat) : Int)) n (mkS l, 0, List.replicate (l.count 32 + 1) (eS [])) = some (mkS s, ((l.count 32 : Nat) : Int), done.map eS ++ [eS []]) := h1
  rw [h1', Option.bind_some]
  dsimp only
  have hrow : (done.map eS ++ [eS []]).length = l.count 32 + 1 := by simp [h2]
  have e3 : (done.map eS ++ [eS []]).set (Int.toNat ((l.count 32 : Nat) : Int)) (.v (.string (mkS s))) = (spl 32 l).map eS := by
    rw [Int.toNat_natCast, List.set_append_right _ _ (by simp [h2]), h3]
    simp [h2, eS]
  have hlen : ((spl 32 l).map eS).length = l.count 32 + 1 := by rw [List.length_map, spl_count]
  rw [if_pos (by rw [hrow]; omega), if_pos (by rw [hrow, Int.toNat_natCast]; omega), if_pos (i64 (by omega) (by omega)), e3, if_pos (by rw [hlen]; exact ⟨by decide, by omega, by omega, .inr rfl⟩)]
  rw [show Int.toNat (((l.count 32 : Nat) : Int) + 1) = l.count 32 + 1 by omega, ← hlen, List.take_length]
  rfl
end Go.Proofs.YtclmbhokfhjnoaaGreatDoor
/-
  Words and lines: what the program's integer, CutPrefix, CutSuffix say. An own text.
-/
set_option maxRecDepth 20000
namespace Go.Proofs.YtclmbhokfhjnoaaGreatDoor
open Go.SX

theorem get_mk {l : List UInt8} {i : Nat} {x : UInt8} (h : l[i]? = some x) : (mkS l).get! i = x := by
  obtain ⟨hi, hx⟩ := List.getElem?_eq_some_iff.1 h
  show l.toArray[i]! = x
  rw [getElem!_pos l.toArray i (by simpa using hi)]
  simpa using hx
theorem decode_lo {s : ByteArray} {p : Nat} (h : (s.get! p).toNat < 128) : Utf8.decode s p = ((s.get! p).toNat, 1) := by
  unfold Utf8.decode
  simp only [Nat.add_zero]
  rw [if_pos h]
theorem decode_hi {s : ByteArray} {p : Nat} (h : ¬ (s.get! p).toNat < 128) : 128 ≤ (Utf8.decode s p).1 := by
  unfold Utf8.decode
  simp only [Nat.add_zero]
  rw [if_neg h]
  have hr : 128 ≤ Utf8.runeError := by decide
  repeat' split
  all_goals first | exact hr | (simp only [Bool.and_eq_true, decide_eq_true_eq, ge_iff_le] at *; omega)
theorem wrap32 {m : Int} (h1 : 0 ≤ m) (h2 : m ≤ 9) : IntKind.wrap .i32 m = m := by
  have : m = 0 ∨ m = 1 ∨ m = 2 ∨ m = 3 ∨ m = 4 ∨ m = 5 ∨ m = 6 ∨ m = 7 ∨ m = 8 ∨ m = 9 := by omega
  rcases this with h | h | h | h | h | h | h | h | h | h <;> subst h <;> decide
theorem nat10 {i v : Nat} (hi : i ≤ 9) (h : v < 10 ^ i) : v < 1000000000 := by
  have : 10 ^ i ≤ 10 ^ 9 := Nat.pow_le_pow_right (by decide) hi
  omega

def sgn (w : List UInt8) : Bool := decide (w.head? = some 45)
def body (w : List UInt8) : List UInt8 := if w.head? = some 45 then w.tail else w
theorem cutPrefix_eq (n : Nat) (w : List UInt8) : F_strings_CutPrefix n (mkS w) = some (mkS (body w), sgn w) := by
  unfold F_strings_CutPrefix F_stringslite_CutPrefix F_stringslite_HasPrefix body sgn
  have e : (⟨#[45]⟩ : ByteArray) = mkS [45] := rfl
  cases w with
  | nil =>
    rw [if_neg (by rw [mk_size]; simp)]
    rfl
  | cons x r =>
    have h1 := sub_to (x :: r) (b := 1) (by simp)
    have h2 := sub_from (x :: r) (a := 1) (by simp)
    simp only [Int.natCast_one] at h1 h2
    rw [if_pos (by rw [mk_size]; simp; omega), h1, Option.bind_some, e, beq_mk]
    by_cases hx : x = 45
    · subst hx
      simp [h2]
    · simp [hx]
theorem int_step (n : Nat) {d : List UInt8} (b : Bool) {i v : Nat} {x : UInt8} (hil : i < d.length) (hdec : Utf8.decode (mkS d) i = (x.toNat, 1)) (hdig : 48 ≤ x.toNat ∧ x.toNat ≤ 57) (hlen : d.length ≤ 9) (hv : v < 1000000000) :
    F_field_integer_L1 n (mkS d, b) ((v : Int), i) = some (.inl (((10 * v + (x.toNat - 48) : Nat) : Int), i + 1)) := by
  have hsz : i < (mkS d).size := by rw [mk_size]; exact hil
  have hw1 : IntKind.wrap .i32 ((x.toNat : Int) - 48) = (x.toNat : Int) - 48 := wrap32 (by omega) (by omega)
  have hw2 : IntKind.wrap .i64 ((x.toNat : Int) - 48) = (x.toNat : Int) - 48 := wrap64 (i64 (by omega) (by omega))
  have c1 : ¬ ((x.toNat : Int) < 48) := by omega
  have c2 : ¬ ((x.toNat : Int) > 57) := by omega
  have c3 : ¬ (((mkS d).size : Int) > 9) := by rw [mk_size]; omega
  have c4 : inI64 (10 * (v : Int)) := i64 (by omega) (by omega)
  have c5 : inI64 (10 * (v : Int) + ((x.toNat : Int) - 48)) := i64 (by omega) (by omega)
  have c6 : (10 * (v : Int) + ((x.toNat : Int) - 48)) = ((10 * v + (x.toNat - 48) : Nat) : Int) := by omega
  unfold F_field_integer_L1
  simp only [hdec, hsz, if_true, if_neg c1, if_neg c2, if_neg c3, if_pos c4, hw1, hw2, if_pos c5]
  rw [c6]
theorem int_loop (n : Nat) (d : List UInt8) (b : Bool) : ∀ (rest : List UInt8) (i v k : Nat), d.drop i = rest → i ≤ d.length → v < 10 ^ i → rest.length < k →
    loopF (F_field_integer_L1 n (mkS d, b)) k ((v : Int), i) = some (if isDig rest ∧ (d.length ≤ 9 ∨ rest = []) then .inr (valN v rest : Int) else .inl ())
  | _, _, _, 0, _, _, _, hk => absurd hk (by omega)
  | [], i, v, k + 1, hd, hi, _, _ => by
    have hie : i = d.length := by have := List.drop_eq_nil_iff.1 hd; omega
    rw [loopF_r (e := .inr (v : Int)), if_pos (show isDig [] ∧ (d.length ≤ 9 ∨ ([] : List UInt8) = []) from ⟨fun c hc => (by cases hc), .inr rfl⟩)]
    · rfl
    unfold F_field_integer_L1
    dsimp only
    rw [if_neg (by rw [mk_size]; omega)]
  | x :: rest, i, v, k + 1, hd, hi, hv, hk => by
    have hil : i < d.length := by
      rcases Nat.lt_or_ge i d.length with h | h
      · exact h
      · rw [List.drop_eq_nil_of_le h] at hd; cases hd
    have hx : d[i]? = some x := by
      have := List.drop_eq_getElem_cons hil
      rw [hd] at this
      rw [List.getElem?_eq_getElem hil]
      exact congrArg some (List.cons.inj this).1.symm
    have hd' : d.drop (i + 1) = rest := by
      have := List.drop_eq_getElem_cons hil
      rw [hd] at this
      exact (List.cons.inj this).2.symm
    have hg := get_mk hx
    by_cases hdig : 48 ≤ x.toNat ∧ x.toNat ≤ 57
    · have hdec : Utf8.decode (mkS d) i = (x.toNat, 1) := by
        have := decode_lo (s := mkS d) (p := i) (by rw [hg]; omega)
        rw [hg] at this; exact this
      by_cases hlen : d.length ≤ 9
      · have hv9 : v < 1000000000 := nat10 (by omega) hv
        have ih := int_loop n d b rest (i + 1) (10 * v + (x.toNat - 48)) k hd' hil (by rw [Nat.pow_succ]; omega) (by simp at hk; omega)
        rw [loopF_l (s' := (((10 * v + (x.toNat - 48) : Nat) : Int), i + 1)), ih]
        · have e : (isDig (x :: rest) ∧ (d.length ≤ 9 ∨ x :: rest = [])) ↔ (isDig rest ∧ (d.length ≤ 9 ∨ rest = [])) := by
            rw [isDig_cons]
            exact ⟨fun h => ⟨h.1.2, .inl hlen⟩, fun h => ⟨⟨hdig, h.1⟩, .inl hlen⟩⟩
          by_cases hq : isDig rest ∧ (d.length ≤ 9 ∨ rest = [])
          · rw [if_pos hq, if_pos (e.2 hq)]; rfl
          · rw [if_neg hq, if_neg (fun h => hq (e.1 h))]
        · exact int_step n b hil hdec hdig hlen hv9
      · rw [loopF_r (e := .inl ()), if_neg (fun h => h.2.elim (fun h => hlen h) (fun h => by cases h))]
        unfold F_field_integer_L1
        dsimp only
        rw [if_pos (by rw [mk_size]; omega), hdec]
        dsimp only
        rw [if_neg (by omega), if_neg (by omega), if_pos (by rw [mk_size]; omega)]
    · rw [loopF_r (e := .inl ()), if_neg (fun h => hdig (isDig_cons.1 h.1).1)]
      unfold F_field_integer_L1
      dsimp only
      rw [if_pos (by rw [mk_size]; omega)]
      by_cases hb : x.toNat < 128
      · have hdec : Utf8.decode (mkS d) i = (x.toNat, 1) := by
          have := decode_lo (s := mkS d) (p := i) (by rw [hg]; exact hb)
          rw [hg] at this; exact this
        rw [hdec]
        dsimp only
        by_cases h48 : x.toNat < 48
        · rw [if_pos (by omega)]
        · rw [if_neg (by omega), if_pos (by omega)]
      · have := decode_hi (s := mkS d) (p := i) (by rw [hg]; exact hb)
        rw [if_neg (by omega), if_pos (by omega)]
theorem num_eq (w : List UInt8) : num w = if digOk (body w) ∧ (sgn w = true → body w ≠ [48]) then some (if sgn w then -(valN 0 (body w) : Int) else (valN 0 (body w) : Int)) else none := by
  unfold num body sgn
  by_cases h : w.head? = some 45
  · simp only [h, if_true, decide_true, true_implies]
  · simp only [h, if_false, decide_false, Bool.false_eq_true, false_implies, and_true]
theorem integer_eq {n : Nat} (hn : 1000 ≤ n) {w : List UInt8} (hw : w.length ≤ 900) : F_field_integer n (mkS w) = some ((num w).getD 0, (num w).isSome) := by
  have hbl : (body w).length ≤ 900 := by
    unfold body; split
    · simp; omega
    · exact hw
  unfold F_field_integer
  rw [cutPrefix_eq, Option.bind_some]
  have hloop := int_loop n (body w) (sgn w) (body w) 0 0 n rfl (Nat.zero_le _) (by decide) (by omega)
  have hloop' : loopF (F_field_integer_L1 n (mkS (body w), sgn w)) n (0, 0) = _ := hloop
  rw [hloop', num_eq]
  generalize body w = d at *
  generalize sgn w = m at *
  have e0 : (⟨#[]⟩ : ByteArray) = mkS [] := rfl
  by_cases hc : isDig d ∧ (d.length ≤ 9 ∨ d = [])
  · rw [if_pos hc, Option.bind_some]
    dsimp only
    rw [e0, beq_mk]
    cases d with
    | nil =>
      have hno : ¬ digOk [] := fun h => h.1 rfl
      rw [if_pos (by decide), if_neg (fun h => hno h.1)]; rfl
    | cons x r =>
      have hlen : (x :: r).length ≤ 9 := hc.2.resolve_right (by simp)
      have hb := val_lt9' hc.1 hlen
      have hsa : strAt (mkS (x :: r)) 0 = some (x.toNat : Int) := strAt_mk (x :: r) 0
      have hneg : IntKind.wrap .i64 (0 - (valN 0 (x :: r) : Int)) = -(valN 0 (x :: r) : Int) := by
        generalize valN 0 (x :: r) = v at hb ⊢
        have := wrap64 (m := 0 - (v : Int)) (i64 (by omega) (by omega))
        rw [this]; omega
      rw [if_neg (by simp), hsa, hneg]
      have fin : ∀ (hok : digOk (x :: r)), (if m = true then (if (valN 0 (x :: r) : Int) = 0 then some ((0 : Int), false) else some (-(valN 0 (x :: r) : Int), true)) else some ((valN 0 (x :: r) : Int), true)) =
          some ((if digOk (x :: r) ∧ (m = true → x :: r ≠ [48]) then some (if m = true then -(valN 0 (x :: r) : Int) else (valN 0 (x :: r) : Int)) else none).getD 0, (if digOk (x :: r) ∧ (m = true → x :: r ≠ [48]) then some (if m = true then -(valN 0 (x :: r) : Int) else (valN 0 (x :: r) : Int)) else none).isSome) := by
        intro hok
        have hz := val_zero hok
        cases m with
        | false =>
          rw [if_neg (by simp), if_pos ⟨hok, fun h => by cases h⟩]; simp
        | true =>
          rw [if_pos rfl]
          by_cases h48 : x :: r = [48]
          · rw [if_pos (by have := hz.2 h48; omega), if_neg (fun h => h.2 rfl h48)]; rfl
          · rw [if_neg (by have := mt hz.1 h48; omega), if_pos ⟨hok, fun _ => h48⟩]; simp
      by_cases hl : (x :: r).length > 1
      · rw [if_pos (by rw [mk_size]; omega), Option.bind_some]
        by_cases h48 : x = 48
        · have hno : ¬ digOk (x :: r) := fun h => by
            rcases h.2.2.2 with h | h
            · rw [h48] at h; exact h rfl
            · omega
          rw [if_pos (by rw [h48]; decide), if_neg (fun h => hno h.1)]; rfl
        · have h48' : ¬ ((x.toNat : Int) = 48) := fun e => h48 (UInt8.toNat_inj.1 (by show x.toNat = 48; omega))
          rw [if_neg h48', fin ⟨by simp, hlen, hc.1, .inl (by simpa using h48)⟩]
      · rw [if_neg (by rw [mk_size]; omega), fin ⟨by simp, hlen, hc.1, .inr (by simp at hl ⊢; exact hl)⟩]
  · have hno : ¬ digOk d := fun h => hc ⟨h.2.2.1, .inl h.2.1⟩
    rw [if_neg hc, Option.bind_some, if_neg (fun h => hno h.1)]
    rfl
theorem cutNl (n : Nat) {p : List UInt8} (hp : p.length ≤ 900) : F_strings_CutSuffix n (mkS (p ++ [10])) = some (mkS p, true) := by
  unfold F_strings_CutSuffix F_stringslite_CutSuffix F_stringslite_HasSuffix
  have e : (⟨#[10]⟩ : ByteArray) = mkS [10] := rfl
  have hs : ((mkS (p ++ [10])).size : Int) - 1 = (p.length : Int) := by rw [mk_size]; simp
  rw [hs, if_pos (by rw [mk_size]; simp; omega), if_pos (i64 (by omega) (by omega)), sub_from _ (by simp), Option.bind_some, e, beq_mk]
  simp only [List.drop_left, decide_true, Option.bind_some, if_true]
  rw [if_pos (i64 (by omega) (by omega)), sub_to _ (by simp)]
  simp
theorem cutNo (n : Nat) {s : List UInt8} (hs : s.length ≤ 900) (h : (10 : UInt8) ∉ s) : F_strings_CutSuffix n (mkS s) = some (mkS s, false) := by
  unfold F_strings_CutSuffix F_stringslite_CutSuffix F_stringslite_HasSuffix
  have e : (⟨#[10]⟩ : ByteArray) = mkS [10] := rfl
  by_cases h0 : s = []
  · subst h0
    rw [if_neg (by rw [mk_size]; simp)]
    rfl
  · have hl : 0 < s.length := List.length_pos_iff.2 h0
    have hc : ((mkS s).size : Int) - 1 = ((s.length - 1 : Nat) : Int) := by rw [mk_size]; omega
    rw [hc, if_pos (by rw [mk_size]; omega), if_pos (i64 (by omega) (by omega)), sub_from _ (by omega), Option.bind_some, e, beq_mk]
    have hne : ¬ (s.drop (s.length - 1) = [10]) := fun hd => h (List.mem_of_mem_drop (i := s.length - 1) (by rw [hd]; simp))
    rw [decide_eq_false hne]
    rfl
end Go.Proofs.YtclmbhokfhjnoaaGreatDoor
/-
  The program's taker, and both ways of reading the line of a mirror. An own text.
-/
set_option maxRecDepth 20000
namespace Go.Proofs.YtclmbhokfhjnoaaGreatDoor
open Go.SX

abbrev Wd := List UInt8
def mirW : Wd := [109, 105, 114, 114, 111, 114]
def nums : List Wd → Option (List Int)
  | [] => some []
  | w :: ws => match num w, nums ws with
    | some x, some xs => some (x :: xs)
    | _, _ => none
def mk9 (name : Wd) : List Int → Option Mir
  | [a, b, c, d, e, f, g, h, i] => some ⟨mkS name, (a, b, c), (d, e, f), (g, h, i)⟩
  | _ => none
/-- The mirror of a line, without its line feed. -/
def parseW : List Wd → Option Mir
  | w0 :: w1 :: ws => if w0 = mirW ∧ w1 ≠ [] then (nums ws).bind (mk9 w1) else none
  | _ => none
def parseL (p : Wd) : Option Mir := parseW (spl 32 p)

/-! The taker. -/
def wordX (ws : List Wd) (b : Bool) : Wd × List Wd × Bool := match ws with
  | [] => ([], [], true)
  | w :: l => if w = [] then ([], [], true) else (w, l, b)
def numX (ws : List Wd) (b : Bool) : Int × List Wd × Bool :=
  ((num (wordX ws b).1).getD 0, (wordX ws b).2.1, if (wordX ws b).2.2 = true then true else !(num (wordX ws b).1).isSome)
/-- Short words, and not too many. -/
def OkW (ws : List Wd) : Prop := ws.length ≤ 1000 ∧ ∀ w, w ∈ ws → w.length ≤ 900
theorem okW_word {ws : List Wd} (b : Bool) (h : OkW ws) : OkW (wordX ws b).2.1 ∧ (wordX ws b).1.length ≤ 900 := by
  unfold wordX
  cases ws with
  | nil => exact ⟨⟨by simp, fun w hw => by cases hw⟩, by simp⟩
  | cons w l =>
    dsimp only
    by_cases hw : w = []
    · rw [if_pos hw]; exact ⟨⟨by simp, fun w hw => by cases hw⟩, by simp⟩
    · rw [if_neg hw]
      exact ⟨⟨by have := h.1; simp at this ⊢; omega, fun x hx => h.2 x (List.mem_cons_of_mem _ hx)⟩, h.2 w List.mem_cons_self⟩
theorem beq_mir (w : Wd) : ((mkS w).toList == (⟨#[109, 105, 114, 114, 111, 114]⟩ : ByteArray).toList) = decide (w = mirW) := beq_mk w mirW
theorem beq_nil (w : Wd) : ((mkS w).toList == (⟨#[]⟩ : ByteArray).toList) = decide (w = []) := beq_mk w []
theorem el_eS {L : List Wd} {i : Nat} {w : Wd} (h : L[i]? = some w) : el un_s (L.map eS) (i : Int) = some (mkS w) :=
  el_enc (un := un_s) (enc := fun x : ByteArray => (.v (.string x) : D)) (fun _ => rfl) (l := L.map mkS) (i := i) (x := mkS w) (by rw [List.getElem?_map, h]; rfl) ▸ (by rw [List.map_map]; rfl)
theorem word_eq (n : Nat) {ws : List Wd} (b : Bool) (h : OkW ws) : F_field_taker_word n (ws.map eS) b = some (mkS (wordX ws b).1, (wordX ws b).2.1.map eS, (wordX ws b).2.2) := by
  unfold F_field_taker_word wordX
  cases ws with
  | nil => rfl
  | cons w l =>
    have hl := h.1
    simp only [List.length_cons] at hl
    have he : el un_s ((w :: l).map eS) 0 = some (mkS w) := el_eS (i := 0) rfl
    rw [if_neg (by simp; omega), he, Option.bind_some, beq_nil]
    by_cases hw : w = []
    · rw [if_pos (by simpa using hw)]; dsimp only; rw [if_pos hw]; rfl
    · rw [if_neg (by simpa using hw), if_pos (by simp; omega)]
      dsimp only
      rw [if_neg hw]; rfl
theorem number_eq {n : Nat} (hn : 1000 ≤ n) {ws : List Wd} (b : Bool) (h : OkW ws) : F_field_taker_number n (ws.map eS) b = some ((numX ws b).1, (numX ws b).2.1.map eS, (numX ws b).2.2) := by
  unfold F_field_taker_number numX
  rw [word_eq n b h, Option.bind_some]
  dsimp only
  rw [integer_eq hn (okW_word b h).2, Option.bind_some]
  by_cases hb : (wordX ws b).2.2 = true
  · rw [if_pos hb, if_pos hb]
  · rw [if_neg hb, if_neg hb]
theorem okW_num {ws : List Wd} (b : Bool) (h : OkW ws) : OkW (numX ws b).2.1 := (okW_word b h).1
def runN : Nat → List Wd → Bool → List Int × List Wd × Bool
  | 0, ws, b => ([], ws, b)
  | k + 1, ws, b => ((numX ws b).1 :: (runN k (numX ws b).2.1 (numX ws b).2.2).1, (runN k (numX ws b).2.1 (numX ws b).2.2).2)
theorem run_step {k : Nat} {ws : List Wd} {b : Bool} {t : Int × List Wd × Bool} {r : List Int × List Wd × Bool} (h : numX ws b = t) (hr : runN k t.2.1 t.2.2 = r) : runN (k + 1) ws b = (t.1 :: r.1, r.2) := by
  subst h; subst hr; rfl
theorem word_bad (ws : List Wd) : (wordX ws true).2.2 = true := by
  unfold wordX
  cases ws with
  | nil => rfl
  | cons w l => dsimp only; split <;> rfl
theorem num_bad (ws : List Wd) : (numX ws true).2.2 = true := by
  unfold numX; rw [word_bad]; rfl
theorem runN_bad : ∀ (k : Nat) (ws : List Wd), (runN k ws true).2.2 = true
  | 0, ws => rfl
  | k + 1, ws => by
    show (runN k (numX ws true).2.1 (numX ws true).2.2).2.2 = true
    rw [num_bad]; exact runN_bad k _
theorem runN_good : ∀ (k : Nat) (ws : List Wd), ((runN k ws false).2.2 = false ∧ (runN k ws false).2.1 = [] ∧ ws.length = k ∧ nums ws = some (runN k ws false).1) ∨
    (¬ ((runN k ws false).2.2 = false ∧ (runN k ws false).2.1 = []) ∧ (ws.length ≠ k ∨ nums ws = none))
  | 0, ws => by
    cases ws with
    | nil => exact .inl ⟨rfl, rfl, rfl, rfl⟩
    | cons w l => exact .inr ⟨fun h => (by cases h.2), .inl (by simp)⟩
  | k + 1, [] => by
    refine .inr ⟨fun h => ?_, .inl (by simp)⟩
    have h1 : (numX [] false).2.2 = true := rfl
    have h2 := h.1
    show False
    unfold runN at h2
    rw [h1, runN_bad] at h2
    cases h2
  | k + 1, w :: l => by
    by_cases hw : w = []
    · subst hw
      refine .inr ⟨fun h => ?_, .inr (by unfold nums; rfl)⟩
      have h1 : (numX ([] :: l) false).2.2 = true := rfl
      have h2 := h.1
      unfold runN at h2
      rw [h1, runN_bad] at h2
      cases h2
    · have hx : numX (w :: l) false = ((num w).getD 0, l, !(num w).isSome) := by
        unfold numX wordX; simp [hw]
      unfold runN
      rw [hx]
      dsimp only
      cases hnum : num w with
      | none =>
        refine .inr ⟨fun h => ?_, .inr (by unfold nums; rw [hnum])⟩
        have h2 := h.1
        simp only [Option.isSome_none, Bool.not_false] at h2
        rw [runN_bad] at h2
        cases h2
      | some x =>
        simp only [Option.isSome_some, Bool.not_true, Option.getD_some]
        rcases runN_good k l with ⟨h1, h2, h3, h4⟩ | ⟨h1, h2⟩
        · exact .inl ⟨h1, h2, by simp [h3], by unfold nums; rw [hnum, h4]⟩
        · refine .inr ⟨h1, ?_⟩
          rcases h2 with h2 | h2
          · exact .inl (by simp; exact h2)
          · exact .inr (by unfold nums; rw [hnum, h2])
theorem nums_len : ∀ {ws : List Wd} {xs : List Int}, nums ws = some xs → xs.length = ws.length
  | [], xs, h => by cases h; rfl
  | w :: ws, xs, h => by
    unfold nums at h
    split at h
    · rename_i x ys h1 h2
      cases h
      simp [nums_len h2]
    · cases h
theorem mk9_some {name : Wd} {xs : List Int} (h : xs.length = 9) : ∃ a b c d e f g i j, xs = [a, b, c, d, e, f, g, i, j] := by
  match xs, h with
  | [a, b, c, d, e, f, g, i, j], _ => exact ⟨a, b, c, d, e, f, g, i, j, rfl⟩
theorem mk9_none {name : Wd} {xs : List Int} (h : xs.length ≠ 9) : mk9 name xs = none := by
  unfold mk9
  split
  · exact absurd rfl h
  · rfl

/-- What reading a line's words says: a mirror, or that it has not its form. -/
def PR (o : Option Mir) (r : ByteArray × Int × Int × Int × Int × Int × Int × Int × Int × Int × Bool) : Prop :=
  r.2.2.2.2.2.2.2.2.2.2 = o.isSome ∧ ∀ m, o = some m → m = ⟨r.1, (r.2.1, r.2.2.1, r.2.2.2.1), (r.2.2.2.2.1, r.2.2.2.2.2.1, r.2.2.2.2.2.2.1), (r.2.2.2.2.2.2.2.1, r.2.2.2.2.2.2.2.2.1, r.2.2.2.2.2.2.2.2.2.1)⟩
theorem parts_eq0 (n : Nat) : F_field_parts n = some () := rfl
theorem okW_spl {p : Wd} (h : p.length ≤ 900) (hw : ∀ w, w ∈ spl 32 p → w.length ≤ p.length) : OkW (spl 32 p) :=
  ⟨by rw [spl_count]; have := List.count_le_length (a := 32) (l := p); omega, fun w hm => by have := hw w hm; omega⟩
theorem word_len {c : UInt8} : ∀ {l w : Wd}, w ∈ spl c l → w.length ≤ l.length
  | [], w, h => by
    have : w = [] := by simpa [spl] using h
    rw [this]; simp
  | x :: l, w, h => by
    by_cases hx : x = c
    · subst hx
      rw [spl_sep] at h
      rcases List.mem_cons.1 h with h | h
      · rw [h]; simp
      · have := word_len h; simp; omega
    · rw [spl_cons c x l hx] at h
      have ih := fun w => word_len (c := c) (l := l) (w := w)
      cases hs : spl c l with
      | nil => exact absurd hs (spl_ne c l)
      | cons a L =>
        rw [hs] at h ih
        simp only [pre, List.singleton_append] at h
        rcases List.mem_cons.1 h with h | h
        · have := ih a List.mem_cons_self
          rw [h]; simp; omega
        · have := ih w (List.mem_cons_of_mem _ h)
          simp; omega
theorem lenS (L : List Wd) : ((L.map eS).length : Int) = (L.length : Int) := by simp
theorem parsed_eq {n : Nat} (hn : 1000 ≤ n) {p : Wd} (hp : p.length ≤ 900) : ∃ r, F_field_parsed n (mkS p) = some r ∧ PR (parseL p) r := by
  have o1 : OkW (spl 32 p) := okW_spl hp fun w hw => word_len hw
  have o2 := (okW_word false o1).1
  have o3 := (okW_word (wordX (spl 32 p) false).2.2 o2).1
  unfold F_field_parsed
  rw [split_eq hn hp, Option.bind_some, word_eq n false o1, Option.bind_some]
  dsimp only
  rw [word_eq n _ o2, Option.bind_some, parts_eq0, Option.bind_some]
  dsimp only
  generalize hL : spl 32 p = L at *
  generalize h2 : wordX L false = t2 at *
  generalize h3 : wordX t2.2.1 t2.2.2 = t3 at *
  have o4 := okW_num t3.2.2 o3
  have o5 := okW_num (numX t3.2.1 t3.2.2).2.2 o4
  rw [number_eq hn _ o3, Option.bind_some]
  dsimp only
  rw [number_eq hn _ o4, Option.bind_some]
  dsimp only
  rw [number_eq hn _ o5, Option.bind_some]
  dsimp only
  generalize h5 : numX t3.2.1 t3.2.2 = t5 at *
  generalize h6 : numX t5.2.1 t5.2.2 = t6 at *
  generalize h7 : numX t6.2.1 t6.2.2 = t7 at *
  have o6 : OkW t7.2.1 := h7 ▸ okW_num t6.2.2 o5
  have o7 := okW_num t7.2.2 o6
  have o8 := okW_num (numX t7.2.1 t7.2.2).2.2 o7
  rw [number_eq hn _ o6, Option.bind_some]
  dsimp only
  rw [number_eq hn _ o7, Option.bind_some]
  dsimp only
  rw [number_eq hn _ o8, Option.bind_some]
  dsimp only
  generalize h8 : numX t7.2.1 t7.2.2 = t8 at *
  generalize h9 : numX t8.2.1 t8.2.2 = t9 at *
  generalize h10 : numX t9.2.1 t9.2.2 = t10 at *
  have o9 : OkW t10.2.1 := h10 ▸ okW_num t9.2.2 o8
  have o10 := okW_num t10.2.2 o9
  have o11 := okW_num (numX t10.2.1 t10.2.2).2.2 o10
  rw [number_eq hn _ o9, Option.bind_some]
  dsimp only
  rw [number_eq hn _ o10, Option.bind_some]
  dsimp only
  rw [number_eq hn _ o11, Option.bind_some]
  dsimp only
  generalize h11 : numX t10.2.1 t10.2.2 = t11 at *
  generalize h12 : numX t11.2.1 t11.2.2 = t12 at *
  generalize h13 : numX t12.2.1 t12.2.2 = t13 at *
  have r1 : runN 1 t12.2.1 t12.2.2 = ([t13.1], t13.2.1, t13.2.2) := run_step h13 rfl
  have r2 : runN 2 t11.2.1 t11.2.2 = ([t12.1, t13.1], t13.2.1, t13.2.2) := run_step h12 r1
  have r3 : runN 3 t10.2.1 t10.2.2 = ([t11.1, t12.1, t13.1], t13.2.1, t13.2.2) := run_step h11 r2
  have r4 : runN 4 t9.2.1 t9.2.2 = ([t10.1, t11.1, t12.1, t13.1], t13.2.1, t13.2.2) := run_step h10 r3
  have r5 : runN 5 t8.2.1 t8.2.2 = ([t9.1, t10.1, t11.1, t12.1, t13.1], t13.2.1, t13.2.2) := run_step h9 r4
  have r6 : runN 6 t7.2.1 t7.2.2 = ([t8.1, t9.1, t10.1, t11.1, t12.1, t13.1], t13.2.1, t13.2.2) := run_step h8 r5
  have r7 : runN 7 t6.2.1 t6.2.2 = ([t7.1, t8.1, t9.1, t10.1, t11.1, t12.1, t13.1], t13.2.1, t13.2.2) := run_step h7 r6
  have r8 : runN 8 t5.2.1 t5.2.2 = ([t6.1, t7.1, t8.1, t9.1, t10.1, t11.1, t12.1, t13.1], t13.2.1, t13.2.2) := run_step h6 r7
  have r9 : runN 9 t3.2.1 t3.2.2 = ([t5.1, t6.1, t7.1, t8.1, t9.1, t10.1, t11.1, t12.1, t13.1], t13.2.1, t13.2.2) := run_step h5 r8
  have hrun := r9
  rw [beq_mir, lenS]
  have hP : parseL p = parseW L := by unfold parseL; rw [hL]
  -- what is known of the words
  have hmain : (t2.1 = mirW ∧ t13.2.2 = false ∧ t13.2.1 = [] ∧ parseL p = some ⟨mkS t3.1, (t5.1, t6.1, t7.1), (t8.1, t9.1, t10.1), (t11.1, t12.1, t13.1)⟩) ∨
      (¬ (t2.1 = mirW ∧ t13.2.2 = false ∧ t13.2.1 = []) ∧ parseL p = none) := by
    cases L with
    | nil => exact absurd hL (spl_ne 32 p)
    | cons w0 R =>
      by_cases hw0 : w0 = mirW
      · subst hw0
        have e2 : t2 = (mirW, R, false) := by rw [← h2]; rfl
        subst e2
        cases R with
        | nil =>
          have e3 : t3 = ([], [], true) := by rw [← h3]; rfl
          subst e3
          refine .inr ⟨fun h => ?_, by rw [hP]; rfl⟩
          have := runN_bad 9 []
          rw [hrun] at this
          dsimp only at this
          rw [h.2.1] at this; cases this
        | cons w1 ws =>
          by_cases hw1 : w1 = []
          · have e3 : t3 = ([], [], true) := by rw [← h3, hw1]; rfl
            subst e3
            refine .inr ⟨fun h => ?_, by rw [hP, parseW, if_neg (fun h => h.2 hw1)]⟩
            have := runN_bad 9 []
            rw [hrun] at this
            dsimp only at this
            rw [h.2.1] at this; cases this
          · have e3 : t3 = (w1, ws, false) := by rw [← h3]; unfold wordX; dsimp only; rw [if_neg hw1]
            subst e3
            have hp2 : parseL p = (nums ws).bind (mk9 w1) := by rw [hP, parseW, if_pos ⟨rfl, hw1⟩]
            rcases runN_good 9 ws with ⟨g1, g2, g3, g4⟩ | ⟨g1, g2⟩
            · rw [hrun] at g1 g2 g4
              exact .inl ⟨rfl, g1, g2, by rw [hp2, g4]; rfl⟩
            · rw [hrun] at g1
              refine .inr ⟨fun h => g1 h.2, ?_⟩
              rw [hp2]
              rcases g2 with g2 | g2
              · cases hq : nums ws with
                | none => rfl
                | some xs => rw [Option.bind_some]; exact mk9_none (by rw [nums_len hq]; exact g2)
              · rw [g2]; rfl
      · refine .inr ⟨fun h => ?_, ?_⟩
        · have := h.1
          rw [← h2] at this
          unfold wordX at this
          dsimp only at this
          by_cases h0 : w0 = []
          · rw [if_pos h0] at this; cases this
          · rw [if_neg h0] at this; exact hw0 this
        · rw [hP]
          cases R with
          | nil => rfl
          | cons w1 ws => rw [parseW, if_neg (fun h => hw0 h.1)]
  by_cases hm : t2.1 = mirW
  · rw [if_pos (decide_eq_true hm)]
    by_cases hb : t13.2.2 = true
    · rw [if_pos hb]
      rcases hmain with ⟨_, g, _⟩ | ⟨_, g⟩
      · rw [hb] at g; cases g
      · exact ⟨_, rfl, by rw [g]; exact ⟨rfl, fun m h => by cases h⟩⟩
    · have hb' : t13.2.2 = false := by simpa using hb
      rw [if_neg hb]
      refine ⟨_, rfl, ?_⟩
      rcases hmain with ⟨_, _, g2, g3⟩ | ⟨g1, g3⟩
      · rw [g3]
        refine ⟨by dsimp only; rw [g2]; rfl, fun m h => ?_⟩
        cases h; rfl
      · rw [g3]
        refine ⟨?_, fun m h => by cases h⟩
        dsimp only
        have : t13.2.1 ≠ [] := fun h => g1 ⟨hm, hb', h⟩
        have hl : 0 < t13.2.1.length := List.length_pos_iff.2 this
        have : ((t13.2.1.length : Int) == 0) = false := by rw [beq_eq_false_iff_ne]; omega
        rw [this]; rfl
  · rw [if_neg (by simpa using hm)]
    rcases hmain with ⟨g, _⟩ | ⟨_, g⟩
    · exact absurd g hm
    · exact ⟨_, rfl, by rw [g]; exact ⟨rfl, fun m h => by cases h⟩⟩
end Go.Proofs.YtclmbhokfhjnoaaGreatDoor
/-
  The program's Parse, line by line. An own text.
-/
set_option maxRecDepth 20000
namespace Go.Proofs.YtclmbhokfhjnoaaGreatDoor
open Go.SX

/-- The lines one by one: the mirrors, or the index of the first line that is wrong. -/
def runP : List Wd → List Mir → List Mir ⊕ Nat
  | [], acc => .inl acc
  | [last], acc => if last = [] then .inl acc else .inr acc.length
  | p :: q :: ps, acc => match parseL p with
    | some b => runP (q :: ps) (acc ++ [b])
    | none => .inr acc.length
theorem roomM {k : Nat} (h : k ≤ 100000) : roomP 88 k := by unfold roomP; omega
theorem idx_hit (n : Nat) {p b : Wd} (hp : (10 : UInt8) ∉ p) : F_strings_IndexByte n (mkS (p ++ 10 :: b)) 10 = some (p.length : Int) := by
  show some (Lib.indexByte (mkS (p ++ 10 :: b)).data.toList 10) = _
  rw [data_mk, index_hit b hp]
theorem idx_miss (n : Nat) {s : Wd} (hp : (10 : UInt8) ∉ s) : F_strings_IndexByte n (mkS s) 10 = some (-1) := by
  show some (Lib.indexByte (mkS s).data.toList 10) = _
  rw [data_mk, index_miss hp]
theorem take_nl (p b : Wd) : (p ++ 10 :: b).take (p.length + 1) = p ++ [10] := by
  rw [show p ++ 10 :: b = (p ++ [10]) ++ b by simp, show p.length + 1 = (p ++ [10]).length by simp, List.take_left]
theorem drop_nl (p b : Wd) : (p ++ 10 :: b).drop (p.length + 1) = b := by simp
section
variable {n : Nat} (hn : 1000 ≤ n)
include hn
/-- A line with its line feed, at the beginning. -/
theorem line0 {p b : Wd} (hp : (10 : UInt8) ∉ p) (hl : (p ++ 10 :: b).length ≤ 900) :
    F_field_Parse_L1 n (mkS (p ++ 10 :: b)) (.inl ()) = some (match parseL p with
      | some x => .inl (.inr (mkS b, [encM x]))
      | none => .inr (.inl (mkS b))) := by
  have hlen : p.length + b.length + 1 ≤ 900 := by simp at hl; omega
  have hcast : (p.length : Int) + 1 = ((p.length + 1 : Nat) : Int) := by simp
  obtain ⟨r, hr, hP1, hP2⟩ := parsed_eq hn (p := p) (by omega)
  unfold F_field_Parse_L1
  dsimp only
  rw [if_pos (by rw [mk_size]; simp; omega), idx_hit n hp, Option.bind_some, if_pos (by omega), if_pos (i64 (by omega) (by omega)), hcast, sub_to _ (by simp), Option.bind_some, sub_from _ (by simp), Option.bind_some, take_nl, drop_nl, cutNl n (by omega), Option.bind_some]
  dsimp only
  rw [hr, Option.bind_some, if_pos rfl]
  cases hq : parseL p with
  | none => rw [hq] at hP1; rw [if_neg (by rw [hP1]; simp)]
  | some m => rw [hq] at hP1; rw [if_pos (by rw [hP1]; rfl), hP2 m hq]; rfl
/-- A line with its line feed. -/
theorem line1 {p b : Wd} {l : Wd} {acc : List Mir} (ha : acc.length ≤ 900) (hp : (10 : UInt8) ∉ p) (hl : (p ++ 10 :: b).length ≤ 900) :
    F_field_Parse_L1 n (mkS l) (.inr (mkS (p ++ 10 :: b), acc.map encM)) = some (match parseL p with
      | some x => .inl (.inr (mkS b, (acc ++ [x]).map encM))
      | none => .inr (.inr (.inr (.inl ((acc.length : Int), mkS b, acc.map encM))))) := by
  have hlen : p.length + b.length + 1 ≤ 900 := by simp at hl; omega
  have hcast : (p.length : Int) + 1 = ((p.length + 1 : Nat) : Int) := by simp
  have hal : ((acc.map encM).length : Int) = (acc.length : Int) := by simp
  have hroom : roomP 88 ((acc.map encM).length + 1) := by rw [List.length_map]; exact roomM (by omega)
  obtain ⟨r, hr, hP1, hP2⟩ := parsed_eq hn (p := p) (by omega)
  unfold F_field_Parse_L1
  dsimp only
  rw [if_pos (by rw [mk_size]; simp; omega), idx_hit n hp, Option.bind_some, if_pos (by omega), if_pos (i64 (by omega) (by omega)), hcast, sub_to _ (by simp), Option.bind_some, sub_from _ (by simp), Option.bind_some, take_nl, drop_nl, cutNl n (by omega), Option.bind_some]
  dsimp only
  rw [hr, Option.bind_some, if_pos rfl, hal]
  cases hq : parseL p with
  | none => rw [hq] at hP1; rw [if_neg (by rw [hP1]; simp)]
  | some m =>
    rw [hq] at hP1; rw [if_pos (by rw [hP1]; rfl), if_pos hroom, hP2 m hq]
    dsimp only
    rw [List.map_append]; rfl
/-- The rest of a text that does not end a line. -/
theorem last0 {s : Wd} (h0 : s ≠ []) (hp : (10 : UInt8) ∉ s) (hl : s.length ≤ 900) :
    F_field_Parse_L1 n (mkS s) (.inl ()) = some (.inr (.inl ⟨#[]⟩)) := by
  have hpos := List.length_pos_iff.2 h0
  obtain ⟨r, hr, _⟩ := parsed_eq hn (p := s) (by omega)
  unfold F_field_Parse_L1
  dsimp only
  rw [if_pos (by rw [mk_size]; omega), idx_miss n hp, Option.bind_some, if_neg (by omega), cutNo n hl hp, Option.bind_some]
  dsimp only
  rw [hr, Option.bind_some, if_pos (by simp)]
theorem last1 {s : Wd} {l : Wd} {acc : List Mir} (h0 : s ≠ []) (hp : (10 : UInt8) ∉ s) (hl : s.length ≤ 900) :
    F_field_Parse_L1 n (mkS l) (.inr (mkS s, acc.map encM)) = some (.inr (.inr (.inr (.inl ((acc.length : Int), ⟨#[]⟩, acc.map encM))))) := by
  have hpos := List.length_pos_iff.2 h0
  have hal : ((acc.map encM).length : Int) = (acc.length : Int) := by simp
  obtain ⟨r, hr, _⟩ := parsed_eq hn (p := s) (by omega)
  unfold F_field_Parse_L1
  dsimp only
  rw [if_pos (by rw [mk_size]; omega), idx_miss n hp, Option.bind_some, if_neg (by omega), cutNo n hl hp, Option.bind_some]
  dsimp only
  rw [hr, Option.bind_some, if_pos (by simp), hal]
end
theorem end1 {n : Nat} {l : Wd} {acc : List Mir} : F_field_Parse_L1 n (mkS l) (.inr (mkS [], acc.map encM)) = some (.inr (.inr (.inr (.inr (mkS [], acc.map encM))))) := by
  unfold F_field_Parse_L1
  dsimp only
  rw [if_neg (by rw [mk_size]; simp)]
theorem end0 {n : Nat} : F_field_Parse_L1 n (mkS []) (.inl ()) = some (.inr (.inr (.inl ()))) := by
  unfold F_field_Parse_L1
  dsimp only
  rw [if_neg (by rw [mk_size]; simp)]
end Go.Proofs.YtclmbhokfhjnoaaGreatDoor
/-
  The program's Parse, and its Print. An own text.
-/
set_option maxRecDepth 20000
namespace Go.Proofs.YtclmbhokfhjnoaaGreatDoor
open Go.SX

theorem runP_len : ∀ (L : List Wd) (acc acc' : List Mir), runP L acc = .inl acc' → acc'.length ≤ acc.length + L.length
  | [], acc, acc', h => by simp only [runP, Sum.inl.injEq] at h; rw [h]; omega
  | [p], acc, acc', h => by
    unfold runP at h
    split at h
    · simp only [Sum.inl.injEq] at h; rw [h]; omega
    · cases h
  | p :: q :: ps, acc, acc', h => by
    unfold runP at h
    split at h
    · have := runP_len (q :: ps) _ _ h
      simp at this ⊢; omega
    · cases h
theorem runP_err : ∀ (L : List Wd) (acc : List Mir) (k : Nat), runP L acc = .inr k → k ≤ acc.length + L.length
  | [], acc, k, h => by cases h
  | [p], acc, k, h => by
    unfold runP at h
    split at h
    · cases h
    · simp only [Sum.inr.injEq] at h; omega
  | p :: q :: ps, acc, k, h => by
    unfold runP at h
    split at h
    · have := runP_err (q :: ps) _ _ h
      simp at this ⊢; omega
    · simp only [Sum.inr.injEq] at h; omega
theorem spl_len (c : UInt8) (l : Wd) : (spl c l).length ≤ l.length + 1 := by
  rw [spl_count]; have := List.count_le_length (a := c) (l := l); omega
theorem parseL_name {p : Wd} {m : Mir} (h : parseL p = some m) : m.name.size ≤ p.length := by
  unfold parseL parseW at h
  split at h
  case h_2 => cases h
  rename_i w0 w1 ws hs
  split at h
  case isFalse => cases h
  have hw : w1.length ≤ p.length := word_len (c := 32) (l := p) (w := w1) (by rw [hs]; simp)
  cases hq : nums ws with
  | none => rw [hq] at h; cases h
  | some xs =>
    rw [hq, Option.bind_some] at h
    unfold mk9 at h
    split at h
    · cases h
      show (mkS w1).size ≤ _
      rw [mk_size]; exact hw
    · cases h
theorem runP_names : ∀ (L : List Wd) (acc acc' : List Mir), runP L acc = .inl acc' → (∀ p, p ∈ L → p.length ≤ 900) → (∀ m, m ∈ acc → m.name.size ≤ 900) → ∀ m, m ∈ acc' → m.name.size ≤ 900
  | [], acc, acc', h, _, ha => by simp only [runP, Sum.inl.injEq] at h; rw [← h]; exact ha
  | [p], acc, acc', h, _, ha => by
    unfold runP at h
    split at h
    · simp only [Sum.inl.injEq] at h; rw [← h]; exact ha
    · cases h
  | p :: q :: ps, acc, acc', h, hp, ha => by
    unfold runP at h
    split at h
    · rename_i b hb
      refine runP_names (q :: ps) _ _ h (fun x hx => hp x (List.mem_cons_of_mem _ hx)) fun m hm => ?_
      rcases List.mem_append.1 hm with hm | hm
      · exact ha m hm
      · rw [List.mem_singleton] at hm
        rw [hm]
        have := parseL_name hb
        have := hp p List.mem_cons_self
        omega
    · cases h
section
variable {n : Nat} (hn : 1000 ≤ n)
include hn
theorem lines1 {l : Wd} : ∀ (k : Nat) (s : Wd) (acc : List Mir), s.length < k → acc.length + s.length ≤ 900 →
    ∃ e, loopF (F_field_Parse_L1 n (mkS l)) k (.inr (mkS s, acc.map encM)) = some e ∧ match runP (spl 10 s) acc with
      | .inl acc' => e = .inr (.inr (.inr (mkS [], acc'.map encM)))
      | .inr j => ∃ r, e = .inr (.inr (.inl ((j : Int), r)))
  | 0, s, acc, h, _ => absurd h (by omega)
  | k + 1, s, acc, h, ha => by
    by_cases h0 : s = []
    · subst h0
      exact ⟨_, loopF_r (end1), rfl⟩
    · by_cases h10 : (10 : UInt8) ∈ s
      · obtain ⟨p, b, rfl, hp⟩ := hit_of h10
        have hlb : p.length + b.length + 1 = (p ++ 10 :: b).length := by simp; omega
        have hs := line1 hn (l := l) (acc := acc) (by omega) hp (by omega : (p ++ 10 :: b).length ≤ 900)
        rw [spl_hit 10 p b hp]
        cases hq : spl 10 b with
        | nil => exact absurd hq (spl_ne 10 b)
        | cons q ps =>
          unfold runP
          cases hpl : parseL p with
          | some x =>
            rw [hpl] at hs
            obtain ⟨e, h1, h2⟩ := lines1 k b (acc ++ [x]) (by omega) (by simp; omega)
            rw [hq] at h2
            exact ⟨e, by rw [loopF_l hs]; exact h1, h2⟩
          | none =>
            rw [hpl] at hs
            exact ⟨_, loopF_r hs, _, rfl⟩
      · have hs := last1 hn (l := l) (acc := acc) h0 h10 (by omega)
        refine ⟨_, loopF_r hs, ?_⟩
        rw [spl_miss 10 s h10]
        unfold runP
        rw [if_neg h0]
        exact ⟨_, rfl⟩
def parsed (l : Wd) : List Mir × Nat × Int := match runP (spl 10 l) [] with
  | .inr j => ([], j, 25)
  | .inl acc => if chkM acc = 0 then (acc, 0, 0) else ([], acc.length, chkM acc)
theorem parse_eq {l : Wd} (hl : l.length ≤ 800) : F_field_Parse n (mkS l) = some ((parsed l).1.map encM, ((parsed l).2.1 : Int), (parsed l).2.2) := by
  have hfin : ∀ (acc : List Mir), (∀ m, m ∈ acc → m.name.size ≤ 900) → (F_field_CheckMirrors n (acc.map encM)) = some (chkM acc) := fun acc ha => checkMs_eq (by omega) acc fun m hm => by have := ha m hm; omega
  unfold F_field_Parse parsed
  rw [if_neg (by rw [mk_size]; omega)]
  by_cases h0 : l = []
  · subst h0
    have h1 : loopF (F_field_Parse_L1 n (mkS [])) n (.inl ()) = some (.inr (.inl ())) := by
      obtain ⟨k, rfl⟩ : ∃ k, n = k + 1 := ⟨n - 1, by omega⟩
      exact loopF_r (end0)
    rw [h1, Option.bind_some]
    dsimp only
    rw [show F_field_CheckMirrors_2 n = some 0 from rfl, Option.bind_some, if_pos rfl]
    have e : runP (spl 10 []) [] = .inl [] := rfl
    rw [e]
    have e2 : chkM [] = 0 := rfl
    dsimp only
    rw [e2]
    rfl
  · by_cases h10 : (10 : UInt8) ∈ l
    · obtain ⟨p, b, rfl, hp⟩ := hit_of h10
      have hlb : p.length + b.length + 1 = (p ++ 10 :: b).length := by simp; omega
      have hs := line0 hn hp (by omega : (p ++ 10 :: b).length ≤ 900)
      obtain ⟨k, hk⟩ : ∃ k, n = k + 1 := ⟨n - 1, by omega⟩
      rw [spl_hit 10 p b hp]
      cases hq : spl 10 b with
      | nil => exact absurd hq (spl_ne 10 b)
      | cons q ps =>
        unfold runP
        cases hpl : parseL p with
        | some x =>
          rw [hpl] at hs
          obtain ⟨e, h1, h2⟩ := lines1 hn (l := p ++ 10 :: b) k b [x] (by omega) (by simp; omega)
          have hloop : loopF (F_field_Parse_L1 n (mkS (p ++ 10 :: b))) n (.inl ()) = some e := by
            conv => lhs; arg 2; rw [hk]
            rw [loopF_l hs]; exact h1
          rw [hloop, Option.bind_some]
          rw [hq] at h2
          simp only [List.nil_append]
          have hlen : (spl 10 b).length ≤ b.length + 1 := spl_len 10 b
          cases hr : runP (q :: ps) [x] with
          | inl acc =>
            rw [hr] at h2
            simp only at h2
            subst h2
            dsimp only
            have hnm := runP_names _ _ _ hr (fun p' hp' => by
              rw [← hq] at hp'
              have := word_len hp'
              omega) (fun m hm => by
              rw [List.mem_singleton] at hm
              rw [hm]
              have := parseL_name hpl
              omega)
            rw [hfin acc hnm, Option.bind_some]
            by_cases hm : chkM acc = 0
            · rw [if_pos hm, if_pos hm]; rfl
            · rw [if_neg hm, if_neg hm, List.length_map]; rfl
          | inr j =>
            rw [hr] at h2
            obtain ⟨r, rfl⟩ := h2
            rfl
        | none =>
          rw [hpl] at hs
          have hloop : loopF (F_field_Parse_L1 n (mkS (p ++ 10 :: b))) n (.inl ()) = some (.inl (mkS b)) := by
            conv => lhs; arg 2; rw [hk]
            exact loopF_r hs
          rw [hloop]
          rfl
    · have hs := last0 hn h0 h10 (by omega)
      obtain ⟨k, hk⟩ : ∃ k, n = k + 1 := ⟨n - 1, by omega⟩
      have hloop : loopF (F_field_Parse_L1 n (mkS l)) n (.inl ()) = some (.inl ⟨#[]⟩) := by
        conv => lhs; arg 2; rw [hk]
        exact loopF_r hs
      rw [hloop, spl_miss 10 l h10]
      unfold runP
      rw [if_neg h0]
      rfl
end
theorem parse_long {n : Nat} {s : ByteArray} (h : (s.size : Int) > 4096) : F_field_Parse n s = some ([], 0, 26) := by
  unfold F_field_Parse
  rw [if_pos h]

/-! Print. -/
def nm (m : Mir) : Wd := m.name.data.toList
theorem nm_mk (m : Mir) : m.name = mkS (nm m) := (mk_data _).symm
def lineC (m : Mir) : Wd := mirW ++ 32 :: (nm m ++ 32 :: (Lib.itoa m.c.1 ++ 32 :: (Lib.itoa m.c.2.1 ++ 32 :: (Lib.itoa m.c.2.2 ++ 32 :: (Lib.itoa m.u.1 ++ 32 :: (Lib.itoa m.u.2.1 ++ 32 :: (Lib.itoa m.u.2.2 ++ 32 :: (Lib.itoa m.v.1 ++ 32 :: (Lib.itoa m.v.2.1 ++ 32 :: Lib.itoa m.v.2.2)))))))))
def lineB (m : Mir) : Wd := lineC m ++ [10]
def printed (ms : List Mir) : Wd := (ms.map lineB).flatten
def wordsM (m : Mir) : List Wd := [mirW, nm m, Lib.itoa m.c.1, Lib.itoa m.c.2.1, Lib.itoa m.c.2.2, Lib.itoa m.u.1, Lib.itoa m.u.2.1, Lib.itoa m.u.2.2, Lib.itoa m.v.1, Lib.itoa m.v.2.1, Lib.itoa m.v.2.2]
theorem join_words (m : Mir) : Lib.join (wordsM m) [32] = lineC m := by simp [wordsM, lineC, Lib.join, List.intercalate]
/-- A mirror that can be printed. -/
structure Pr (m : Mir) : Prop where
  ok : m.Ok
  name : nameB m.name = true
theorem runL_chk : ∀ (ms : List Mir) (s : List ByteArray) (u : Unit), runL gC (fun _ => .inr ()) ms s = .inr u → ∀ m, m ∈ ms → mirE m = 0
  | [], _, _, _, m, hm => by cases hm
  | x :: ms, s, u, h, m, hm => by
    unfold runL gC at h
    by_cases he : mE s x = 0
    · rw [if_pos he] at h
      rcases List.mem_cons.1 hm with rfl | hm
      · exact firstNZ_zero he (mirE m) (by simp)
      · exact runL_chk ms _ u h m hm
    · rw [if_neg he] at h; cases h
theorem chk_zero {ms : List Mir} (h : chkM ms = 0) : ms.length ≤ 64 ∧ ∀ m, m ∈ ms → Pr m := by
  unfold chkM at h
  by_cases hl : (ms.length : Int) > 64
  · rw [if_pos hl] at h; cases h
  · rw [if_neg hl] at h
    have hz : ∀ m, m ∈ ms → mirE m = 0 := by
      unfold chkR at h
      cases hr : runL gC (fun _ => .inr ()) ms [] with
      | inr u => exact runL_chk ms [] u hr
      | inl e =>
        exfalso
        rw [hr] at h
        simp only at h
        have key : ∀ (ms : List Mir) (s : List ByteArray) (e : Int), runL gC (fun _ => .inr ()) ms s = .inl e → e ≠ 0 := by
          intro ms
          induction ms with
          | nil => intro s e h; cases h
          | cons x ms ih =>
            intro s e h
            unfold runL gC at h
            by_cases he : mE s x = 0
            · rw [if_pos he] at h; exact ih _ _ h
            · rw [if_neg he] at h
              dsimp only at h
              cases h; exact he
        exact key ms [] e hr h
    refine ⟨by omega, fun m hm => ⟨mirE_zero (hz m hm), ?_⟩⟩
    have h1 := hz m hm
    unfold mirE at h1
    by_cases h2 : firstNZ [whenI (!nameB m.name) 8, pE m.c 4096, pE m.u 64, pE m.v 64] = 0
    · have h3 := firstNZ_zero h2 (whenI (!nameB m.name) 8) (by simp)
      unfold whenI at h3
      cases hb : nameB m.name with
      | true => rfl
      | false => rw [hb] at h3; simp at h3
    · rw [if_neg h2] at h1; exact absurd h1 h2
theorem okFrom_at {s : ByteArray} : ∀ (k p : Nat), okFrom s k p = true → ∀ i, p ≤ i → i < p + k → OkAt i (byteAt s i)
  | 0, p, _, i, h1, h2 => by omega
  | k + 1, p, h, i, h1, h2 => by
    unfold okFrom at h
    rw [Bool.and_eq_true, decide_eq_true_eq] at h
    by_cases hi : i = p
    · subst hi; exact h.1
    · exact okFrom_at k (p + 1) h.2 i (by omega) (by omega)
theorem name_spec {m : Mir} (h : nameB m.name = true) : nm m ≠ [] ∧ (nm m).length ≤ 24 ∧ ∀ c, c ∈ nm m → 48 ≤ c.toNat := by
  unfold nameB at h
  rw [Bool.and_eq_true, Bool.and_eq_true, decide_eq_true_eq, decide_eq_true_eq] at h
  obtain ⟨⟨h1, h2⟩, h3⟩ := h
  have hl : (nm m).length = m.name.size := dlen _
  refine ⟨fun e => h1 (by rw [← hl, e]; rfl), by omega, fun c hc => ?_⟩
  obtain ⟨i, hi, rfl⟩ := List.mem_iff_getElem.1 hc
  have := okFrom_at _ _ h3 i (by omega) (by omega)
  have hg : byteAt m.name i = ((nm m)[i]).toNat := by
    unfold byteAt
    conv => lhs; rw [nm_mk m]
    rw [get_mk (List.getElem?_eq_getElem hi)]
  rw [hg] at this
  unfold OkAt at this
  omega
theorem Pr.nums {m : Mir} (h : Pr m) : ∀ x, x ∈ [m.c.1, m.c.2.1, m.c.2.2, m.u.1, m.u.2.1, m.u.2.2, m.v.1, m.v.2.1, m.v.2.2] → -1000000000 < x ∧ x < 1000000000 := by
  obtain ⟨⟨⟨c1, c2, c3⟩, ⟨u1, u2, u3⟩, ⟨v1, v2, v3⟩⟩, _⟩ := h
  intro x hx
  simp only [List.mem_cons, List.not_mem_nil, or_false] at hx
  omega
theorem lineC_len {m : Mir} (h : Pr m) : (lineC m).length ≤ 130 := by
  have hn := h.nums
  have hl := (name_spec h.name).2.1
  have a1 := itoa_len (hn m.c.1 (by simp)).1 (hn m.c.1 (by simp)).2
  have a2 := itoa_len (hn m.c.2.1 (by simp)).1 (hn m.c.2.1 (by simp)).2
  have a3 := itoa_len (hn m.c.2.2 (by simp)).1 (hn m.c.2.2 (by simp)).2
  have a4 := itoa_len (hn m.u.1 (by simp)).1 (hn m.u.1 (by simp)).2
  have a5 := itoa_len (hn m.u.2.1 (by simp)).1 (hn m.u.2.1 (by simp)).2
  have a6 := itoa_len (hn m.u.2.2 (by simp)).1 (hn m.u.2.2 (by simp)).2
  have a7 := itoa_len (hn m.v.1 (by simp)).1 (hn m.v.1 (by simp)).2
  have a8 := itoa_len (hn m.v.2.1 (by simp)).1 (hn m.v.2.1 (by simp)).2
  have a9 := itoa_len (hn m.v.2.2 (by simp)).1 (hn m.v.2.2 (by simp)).2
  simp only [lineC, mirW, List.length_append, List.length_cons, List.length_nil]
  omega
theorem itoaP (n : Nat) {a : Int} (h : inI64 a) : F_strconv_Itoa n a = some (mkS (Lib.itoa a)) := by
  unfold F_strconv_Itoa
  rw [if_pos h]; rfl
theorem strs_eS : ∀ L : List Wd, strsOf (L.map eS) = some (L.map mkS)
  | [] => rfl
  | p :: L => by
    rw [List.map_cons, strsOf, show un_str (eS p) = some (mkS p) from rfl, strs_eS L]; rfl
theorem join_eS (n : Nat) (L : List Wd) (sep : Wd) (h1 : L.length ≤ 1000000) (h2 : (Lib.join L sep).length ≤ 1000000) : F_strings_Join n (L.map eS) (mkS sep) = some (mkS (Lib.join L sep)) := by
  unfold F_strings_Join
  rw [strs_eS, Option.bind_some]
  have e : (L.map mkS).map (·.data.toList) = L := by
    rw [List.map_map]
    conv => rhs; rw [← List.map_id L]
    exact List.map_congr_left fun p _ => data_mk p
  unfold joinB
  rw [e, data_mk, if_pos ⟨by rw [List.length_map]; omega, by omega⟩]
  rfl
theorem line_eq (n : Nat) {m : Mir} (h : Pr m) : F_field_Mirror_line n m.name m.c.1 m.c.2.1 m.c.2.2 m.u.1 m.u.2.1 m.u.2.2 m.v.1 m.v.2.1 m.v.2.2 = some (mkS (lineB m)) := by
  have hn := h.nums
  have hlen := lineC_len h
  have hi : ∀ x, x ∈ [m.c.1, m.c.2.1, m.c.2.2, m.u.1, m.u.2.1, m.u.2.2, m.v.1, m.v.2.1, m.v.2.2] → F_strconv_Itoa n x = some (mkS (Lib.itoa x)) := fun x hx => itoaP n (i64 (by have := hn x hx; omega) (by have := hn x hx; omega))
  unfold F_field_Mirror_line
  rw [parts_eq0, Option.bind_some, hi m.c.1 (by simp), Option.bind_some, hi m.c.2.1 (by simp), Option.bind_some, hi m.c.2.2 (by simp), Option.bind_some, hi m.u.1 (by simp), Option.bind_some, hi m.u.2.1 (by simp), Option.bind_some, hi m.u.2.2 (by simp), Option.bind_some,
    hi m.v.1 (by simp), Option.bind_some, hi m.v.2.1 (by simp), Option.bind_some, hi m.v.2.2 (by simp), Option.bind_some]
  have hj := join_eS n (wordsM m) [32] (by simp [wordsM]) (by rw [join_words]; omega)
  rw [join_words] at hj
  have hj' : F_strings_Join n ([.v (.string ⟨#[109, 105, 114, 114, 111, 114]⟩), .v (.string m.name), .v (.string (mkS (Lib.itoa m.c.1))), .v (.string (mkS (Lib.itoa m.c.2.1))), .v (.string (mkS (Lib.itoa m.c.2.2))), .v (.string (mkS (Lib.itoa m.u.1))), .v (.string (mkS (Lib.itoa m.u.2.1))), .v (.string (mkS (Lib.itoa m.u.2.2))), .v (.string (mkS (Lib.itoa m.v.1))), .v (.string (mkS (Lib.itoa m.v.2.1))), .v (.string (mkS (Lib.itoa m.v.2.2)))]) (⟨#[32]⟩) = some (mkS (lineC m)) := by
    rw [nm_mk m]; exact hj
  have e10 : (⟨#[10]⟩ : ByteArray) = mkS [10] := rfl
  rw [hj', Option.bind_some, e10, if_pos (by rw [mk_size, mk_size]; simp; omega), app_mk]
  rfl
theorem mapped_eq {n : Nat} (hn : 1000 ≤ n) {ms : List Mir} (hm : ms.length ≤ 900) (hb : ∀ m, m ∈ ms → Pr m) : F_field_mapped_g n (ms.map encM) = some ((ms.map lineB).map eS) := by
  unfold F_field_mapped_g
  have : loopF (F_field_mapped_g_L1 n (ms.map encM)) n (0, []) = some (ms.flatMap fun b => [eS (lineB b)]) := by
    refine loop_acc (fun out => out) ms (fun b => [eS (lineB b)]) (fun b => by simp) (fun i out b hbi ho => ?_) (fun out _ => ?_) (by omega)
    · have hi := ixlt hbi
      have hl := line_eq n (hb b (List.mem_of_getElem? hbi))
      unfold F_field_mapped_g_L1
      dsimp only
      rw [if_pos (lenlt hbi), elM hbi, Option.bind_some]
      show (F_field_Mirror_line n b.name b.c.1 b.c.2.1 b.c.2.2 b.u.1 b.u.2.1 b.u.2.2 b.v.1 b.v.2.1 b.v.2.2).bind _ = _
      rw [hl, Option.bind_some, if_pos (room16 (by omega)), if_pos (i64 (by omega) (by omega))]
      rfl
    · unfold F_field_mapped_g_L1
      rw [if_neg notlt]
  rw [this, flat1, Option.bind_some, List.map_map]
  rfl
theorem join_nilsep (L : List Wd) : Lib.join L [] = L.flatten := by
  induction L with
  | nil => rfl
  | cons p L ih =>
    cases L with
    | nil => simp [Lib.join, List.intercalate]
    | cons q L =>
      rw [Lib.join_cons, Lib.joinTail]
      simp
theorem printed_len : ∀ (ms : List Mir), (∀ b, b ∈ ms → Pr b) → (printed ms).length ≤ 131 * ms.length
  | [], _ => by simp [printed]
  | b :: ms, h => by
    have h1 := lineC_len (h b List.mem_cons_self)
    have h2 := printed_len ms (fun x hx => h x (List.mem_cons_of_mem _ hx))
    simp only [printed, lineB, List.map_cons, List.flatten_cons, List.length_append, List.length_cons, List.length_nil] at h2 ⊢
    omega
theorem print_eq {n : Nat} (hn : 1000 ≤ n) {ms : List Mir} (hm : ms.length ≤ 900) (hz : ∀ m, m ∈ ms → m.name.size ≤ 900) : F_field_Print n (ms.map encM) = some (if chkM ms = 0 then (mkS (printed ms), 0) else (⟨#[]⟩, chkM ms)) := by
  unfold F_field_Print
  rw [checkMs_eq (by omega) ms (fun m hm => by have := hz m hm; omega), Option.bind_some]
  by_cases h : chkM ms = 0
  · obtain ⟨hl, hb⟩ := chk_zero h
    rw [if_pos h, if_pos h, mapped_eq hn hm hb, Option.bind_some]
    have hpl := printed_len ms hb
    have hj := join_eS n (ms.map lineB) [] (by rw [List.length_map]; omega) (by rw [join_nilsep]; show (printed ms).length ≤ _; omega)
    have hj' : F_strings_Join n ((ms.map lineB).map eS) ⟨#[]⟩ = some (mkS (printed ms)) := by
      rw [join_nilsep] at hj; exact hj
    rw [hj']; rfl
  · rw [if_neg h, if_neg h]
end Go.Proofs.YtclmbhokfhjnoaaGreatDoor
/-
  Lists of mirrors that are handed over, and held against each other. An own text.
-/
set_option maxRecDepth 20000
namespace Go.Proofs.YtclmbhokfhjnoaaGreatDoor
open Go.SX

theorem told_eq {n : Nat} (ms : List Mir) (hn : ms.length < n) (hl : ms.length ≤ 900) : F_law04_told n (ms.map encM) = some (ms.map encM) := by
  unfold F_law04_told
  have : loopF (F_law04_told_L1 n (ms.map encM)) n (0, []) = some (ms.flatMap fun b => [encM b]) := by
    refine loop_acc (fun out => out) ms (fun b => [encM b]) (fun b => by simp) (fun i out b hbi ho => ?_) (fun out _ => ?_) (by omega)
    · have hi := ixlt hbi
      unfold F_law04_told_L1
      dsimp only
      rw [if_pos (lenlt hbi), elM hbi, Option.bind_some, if_pos (roomM (by omega)), if_pos (i64 (by omega) (by omega))]
      rfl
    · unfold F_law04_told_L1
      rw [if_neg notlt]
  rw [this, flat1]
  rfl
theorem same_loop {n : Nat} {ms : List Mir} (hl : ms.length ≤ 900) : ∀ (k i : Nat), i ≤ ms.length → ms.length - i < k → loopF (F_ref04_SameMirrors_L1 n (ms.map encM) (ms.map encM)) k (i : Int) = some (.inr ())
  | 0, i, _, h => by omega
  | k + 1, i, hi, hk => by
    by_cases h : i < ms.length
    · have hx := List.getElem?_eq_getElem h
      rw [loopF_l (s' := ((i + 1 : Nat) : Int))]
      · exact same_loop hl k (i + 1) h (by omega)
      · unfold F_ref04_SameMirrors_L1
        rw [if_pos (lenlt hx), elM hx, Option.bind_some, Option.bind_some, if_pos (by simp), if_pos (i64 (by omega) (by omega))]
        rfl
    · have : i = ms.length := by omega
      subst this
      refine loopF_r ?_
      unfold F_ref04_SameMirrors_L1
      rw [if_neg notlt]
theorem same_eq {n : Nat} {ms : List Mir} (hl : ms.length ≤ 900) (hn : ms.length < n) : F_ref04_SameMirrors n (ms.map encM) (ms.map encM) = some true := by
  unfold F_ref04_SameMirrors
  have := same_loop (n := n) hl n 0 (Nat.zero_le _) (by omega)
  have h0 : loopF (F_ref04_SameMirrors_L1 n (ms.map encM) (ms.map encM)) n 0 = some (.inr ()) := this
  rw [if_pos rfl, h0]
  rfl
theorem parsed_len {s : Wd} : (parsed s).1.length ≤ 64 := by
  unfold parsed
  cases hr : runP (spl 10 s) [] with
  | inr j => simp
  | inl acc =>
    dsimp only
    by_cases hm : chkM acc = 0
    · rw [if_pos hm]; exact (chk_zero hm).1
    · rw [if_neg hm]; simp
/-- The law's list of mirrors. -/
theorem encM_all : ∀ (l : List Mir10), ∃ ms : List Mir, l.map (fun x => encM (Mir.of x)) = ms.map encM := fun l => ⟨l.map Mir.of, by rw [List.map_map]; rfl⟩
theorem short_names {ms : List Mir} (h : ms.all shortB = true) : ∀ m, m ∈ ms → m.name.size ≤ 40 := by
  intro m hm
  have := List.all_eq_true.1 h m hm
  unfold shortB at this
  have := of_decide_eq_true this
  omega
end Go.Proofs.YtclmbhokfhjnoaaGreatDoor
/-
  The plain law of FieldBack: mirrors are parsed as they were printed, and printed as they were parsed; a text without its last byte is not parsed. An own text.
-/
set_option maxRecDepth 20000
namespace Go.Proofs.YtclmbhokfhjnoaaGreatDoor
open Go.SX

theorem lineB_C (m : Mir) : lineB m = lineC m ++ [10] := rfl
theorem lineC_ne (m : Mir) : lineC m ≠ [] := by simp [lineC, mirW]
theorem nm_free {m : Mir} (h : Pr m) {c : UInt8} (hc : c.toNat < 48) : c ∉ nm m := fun hm => by
  have := (name_spec h.name).2.2 c hm
  omega
theorem lineC_free {m : Mir} (h : Pr m) : (10 : UInt8) ∉ lineC m := by
  have h0 := nm_free h (c := 10) (by decide)
  have hi : ∀ x : Int, (10 : UInt8) ∉ Lib.itoa x := fun x => itoa_free (by decide)
  simp [lineC, mirW, h0, hi]
theorem lineC_spl {m : Mir} (h : Pr m) : spl 32 (lineC m) = wordsM m := by
  have hi : ∀ x : Int, (32 : UInt8) ∉ Lib.itoa x := fun x => itoa_free (by decide)
  unfold lineC wordsM
  rw [spl_hit 32 mirW _ (by decide), spl_hit 32 _ _ (nm_free h (by decide)), spl_hit 32 _ _ (hi _), spl_hit 32 _ _ (hi _), spl_hit 32 _ _ (hi _), spl_hit 32 _ _ (hi _), spl_hit 32 _ _ (hi _), spl_hit 32 _ _ (hi _), spl_hit 32 _ _ (hi _), spl_hit 32 _ _ (hi _), spl_miss 32 _ (hi _)]
theorem parse_lineC {m : Mir} (h : Pr m) : parseL (lineC m) = some m := by
  have hn := h.nums
  have hi : ∀ x, x ∈ [m.c.1, m.c.2.1, m.c.2.2, m.u.1, m.u.2.1, m.u.2.2, m.v.1, m.v.2.1, m.v.2.2] → num (Lib.itoa x) = some x := fun x hx => num_itoa (hn x hx).1 (hn x hx).2
  unfold parseL
  rw [lineC_spl h]
  unfold wordsM parseW
  dsimp only
  rw [if_pos ⟨rfl, (name_spec h.name).1⟩]
  have hnums : nums [Lib.itoa m.c.1, Lib.itoa m.c.2.1, Lib.itoa m.c.2.2, Lib.itoa m.u.1, Lib.itoa m.u.2.1, Lib.itoa m.u.2.2, Lib.itoa m.v.1, Lib.itoa m.v.2.1, Lib.itoa m.v.2.2] = some [m.c.1, m.c.2.1, m.c.2.2, m.u.1, m.u.2.1, m.u.2.2, m.v.1, m.v.2.1, m.v.2.2] := by
    simp only [nums, hi m.c.1 (by simp), hi m.c.2.1 (by simp), hi m.c.2.2 (by simp), hi m.u.1 (by simp), hi m.u.2.1 (by simp), hi m.u.2.2 (by simp), hi m.v.1 (by simp), hi m.v.2.1 (by simp), hi m.v.2.2 (by simp)]
  rw [hnums, Option.bind_some]
  unfold mk9
  rw [← nm_mk m]
theorem nums_inv : ∀ {ws : List Wd} {xs : List Int}, nums ws = some xs → ws = xs.map Lib.itoa
  | [], xs, h => by cases h; rfl
  | w :: ws, xs, h => by
    unfold nums at h
    split at h
    · rename_i x ys h1 h2
      cases h
      rw [List.map_cons, ← nums_inv h2, (itoa_num h1).1]
    · cases h
theorem parseL_inv {p : Wd} {m : Mir} (h : parseL p = some m) : lineC m = p := by
  unfold parseL parseW at h
  split at h
  case h_2 => cases h
  rename_i w0 w1 ws hs
  split at h
  case isFalse => cases h
  rename_i hw
  cases hq : nums ws with
  | none => rw [hq] at h; cases h
  | some xs =>
    rw [hq, Option.bind_some] at h
    have hws := nums_inv hq
    unfold mk9 at h
    split at h
    · cases h
      have hg := glue_spl 32 p
      rw [hs, hws, hw.1] at hg
      rw [← hg]
      simp [lineC, nm, data_mk, glue]
    · cases h
theorem printed_cons (b : Mir) (m : List Mir) : printed (b :: m) = lineC b ++ 10 :: printed m := by
  simp [printed, lineB_C]
theorem spl_printed : ∀ m : List Mir, (∀ b, b ∈ m → Pr b) → spl 10 (printed m) = m.map lineC ++ [[]]
  | [], _ => rfl
  | b :: m, h => by
    rw [printed_cons, spl_hit 10 _ _ (lineC_free (h b List.mem_cons_self)), spl_printed m (fun x hx => h x (List.mem_cons_of_mem _ hx))]; rfl
theorem run_printed : ∀ (m : List Mir) (t : Wd) (acc : List Mir), (∀ b, b ∈ m → Pr b) → (10 : UInt8) ∉ t →
    runP (spl 10 (printed m ++ t)) acc = if t = [] then .inl (acc ++ m) else .inr (acc.length + m.length)
  | [], t, acc, _, ht => by
    show runP (spl 10 t) acc = _
    rw [spl_miss 10 t ht]
    unfold runP
    by_cases h : t = []
    · rw [if_pos h, if_pos h, List.append_nil]
    · rw [if_neg h, if_neg h]; rfl
  | b :: m, t, acc, hb, ht => by
    have ih := run_printed m t (acc ++ [b]) (fun x hx => hb x (List.mem_cons_of_mem _ hx)) ht
    have e : printed (b :: m) ++ t = lineC b ++ 10 :: (printed m ++ t) := by rw [printed_cons]; simp
    rw [e, spl_hit 10 _ _ (lineC_free (hb b List.mem_cons_self))]
    cases hq : spl 10 (printed m ++ t) with
    | nil => exact absurd hq (spl_ne 10 _)
    | cons q ps =>
      unfold runP
      rw [parse_lineC (hb b List.mem_cons_self)]
      dsimp only
      rw [← hq, ih]
      by_cases h : t = []
      · rw [if_pos h, if_pos h]; simp
      · rw [if_neg h, if_neg h]; simp; omega
theorem run_inv : ∀ (L : List Wd) (acc acc' : List Mir), L ≠ [] → runP L acc = .inl acc' → ∃ m, acc' = acc ++ m ∧ glue 10 L = printed m
  | [], _, _, h, _ => absurd rfl h
  | [p], acc, acc', _, h => by
    unfold runP at h
    split at h
    case isFalse => cases h
    rename_i hp
    simp only [Sum.inl.injEq] at h
    exact ⟨[], by rw [h, List.append_nil], by rw [hp]; rfl⟩
  | p :: q :: ps, acc, acc', _, h => by
    unfold runP at h
    split at h
    case h_2 => cases h
    rename_i b hb
    obtain ⟨m, h1, h2⟩ := run_inv (q :: ps) _ _ (by simp) h
    refine ⟨b :: m, by rw [h1]; simp, ?_⟩
    rw [printed_cons, ← h2, parseL_inv hb]; rfl
theorem parsed_printed {m : List Mir} (h : chkM m = 0) : parsed (printed m) = (m, 0, 0) := by
  have hb := (chk_zero h).2
  have := run_printed m [] [] hb (by simp)
  rw [List.append_nil, if_pos rfl, List.nil_append] at this
  unfold parsed
  rw [this]
  dsimp only
  rw [if_pos h]
theorem parsed_inv {s : Wd} (h : (parsed s).2.2 = 0) : printed (parsed s).1 = s ∧ chkM (parsed s).1 = 0 ∧ (parsed s).1.length ≤ 64 := by
  unfold parsed at h ⊢
  cases hr : runP (spl 10 s) [] with
  | inr j => rw [hr] at h; simp at h
  | inl acc =>
    rw [hr] at h
    dsimp only at h ⊢
    by_cases hm : chkM acc = 0
    · rw [if_pos hm]
      obtain ⟨m, h1, h2⟩ := run_inv _ _ _ (spl_ne 10 s) hr
      rw [List.nil_append] at h1
      subst h1
      rw [glue_spl] at h2
      exact ⟨h2.symm, hm, (chk_zero hm).1⟩
    · rw [if_neg hm] at h; exact absurd h hm
theorem parsed_short {m : List Mir} (hne : m ≠ []) (h : chkM m = 0) : (parsed ((printed m).take ((printed m).length - 1))).2 = (m.length - 1, 25) := by
  obtain ⟨hl, hb⟩ := chk_zero h
  obtain ⟨m', b, rfl⟩ : ∃ m' b, m = m' ++ [b] := ⟨m.dropLast, m.getLast hne, (List.dropLast_concat_getLast _).symm⟩
  have e : printed (m' ++ [b]) = (printed m' ++ lineC b) ++ [10] := by
    simp [printed, lineB_C]
  have e2 : (printed (m' ++ [b])).take ((printed (m' ++ [b])).length - 1) = printed m' ++ lineC b := by
    rw [e, List.length_append, List.length_singleton, Nat.add_sub_cancel, List.take_left]
  rw [e2]
  have := run_printed m' (lineC b) [] (fun x hx => hb x (by simp [hx])) (lineC_free (hb b (by simp)))
  rw [if_neg (lineC_ne b)] at this
  unfold parsed
  rw [this]
  simp
theorem law_back {n : Nat} (hn : 1000 ≤ n) (ms : List Mir) (s : ByteArray) (hl : ms.length ≤ 9223372036854775807) (hln : ms.length < n) : F_law04_FieldBack n (ms.map encM) s = some true := by
  unfold F_law04_FieldBack
  rw [show F_law04_awake n = some true from rfl, Option.bind_some, if_pos rfl, short_eq ms hln hl, Option.bind_some]
  by_cases h1 : (ms.all shortB && (decide (ms.length ≤ 6) || decide (ms.length = 65))) = true
  · rw [if_pos h1]
    rw [Bool.and_eq_true, Bool.or_eq_true, decide_eq_true_eq, decide_eq_true_eq] at h1
    have hnm := short_names h1.1
    rw [refMs_eq (n := n) (by omega) ms, Option.bind_some]
    by_cases h3 : chkM ms = 0
    · rw [if_pos h3]
      by_cases h4 : (s.size : Int) > 400
      · rw [if_pos h4]
      · rw [if_neg h4]
        obtain ⟨hl64, hb⟩ := chk_zero h3
        have hl6 : ms.length ≤ 6 := by omega
        have hpl := printed_len ms hb
        obtain ⟨l, rfl⟩ : ∃ l, s = mkS l := ⟨_, (mk_data s).symm⟩
        have hll : l.length ≤ 400 := by rw [mk_size] at h4; omega
        rw [own_eq ms (by omega) (by omega), Option.bind_some, print_eq hn (by omega) (fun m hm => by have := hnm m hm; omega), if_pos h3, Option.bind_some]
        dsimp only
        rw [parse_eq hn (by omega), parsed_printed h3, Option.bind_some]
        dsimp only
        rw [if_pos rfl, if_pos rfl, if_pos (by decide), told_eq ms (by omega) (by omega), Option.bind_some, same_eq (by omega) (by omega), Option.bind_some, if_pos rfl]
        have hsp := refSplit_eq hn (l := printed ms) 10 (by omega)
        have hsp' : F_ref01_Split n (mkS (printed ms)) 10 = some ((spl 10 (printed ms)).map eS) := hsp
        have hlen : (((spl 10 (printed ms)).map eS).length : Int) = ((ms.map encM).length : Int) + 1 := by
          rw [List.length_map, List.length_map, spl_printed ms hb]; simp
        rw [hsp', Option.bind_some, if_pos (by rw [List.length_map]; exact i64 (by omega) (by omega)), if_pos hlen, parse_eq hn (by omega), Option.bind_some]
        dsimp only
        have hend : (if ((ms.map encM).length : Int) = 0 then some true else
            if inI64 (((mkS (printed ms)).size : Int) - 1) then
              (strSub (mkS (printed ms)) none (some (((mkS (printed ms)).size : Int) - 1))).bind fun t27 =>
              (F_field_Parse n t27).bind fun t28 =>
              if t28.2.2 = 25 then if inI64 (((ms.map encM).length : Int) - 1) then some (t28.2.1 == (((ms.map encM).length : Int) - 1)) else none else none
            else none) = some true := by
          by_cases h0 : ms = []
          · subst h0; rfl
          · have hpos := List.length_pos_iff.2 h0
            have hps := parsed_short h0 h3
            have hpp : 1 ≤ (printed ms).length := by
              cases ms with
              | nil => exact absurd rfl h0
              | cons b m => rw [printed_cons]; simp; omega
            have hsz : ((mkS (printed ms)).size : Int) - 1 = (((printed ms).length - 1 : Nat) : Int) := by rw [mk_size]; omega
            have hlast : (F_field_Parse n (mkS ((printed ms).take ((printed ms).length - 1)))) = some ((parsed ((printed ms).take ((printed ms).length - 1))).1.map encM, ((ms.length - 1 : Nat) : Int), 25) := by
              rw [parse_eq hn (by simp; omega), hps]
            rw [List.length_map, if_neg (by omega), hsz, if_pos (i64 (by omega) (by omega)), sub_to _ (by omega), Option.bind_some, hlast, Option.bind_some]
            dsimp only
            rw [if_pos rfl, if_pos (i64 (by omega) (by omega))]
            have hcast : ((ms.length - 1 : Nat) : Int) = (ms.length : Int) - 1 := by omega
            rw [hcast]
            simp
        by_cases h5 : (parsed l).2.2 = 0
        · obtain ⟨g1, g2, g3⟩ := parsed_inv h5
          rw [if_pos h5, print_eq hn (by omega) (fun m hm => by have := (name_spec ((chk_zero g2).2 m hm).name).2.1; have e : m.name.size = (nm m).length := (dlen _).symm; omega), if_pos g2, Option.bind_some]
          dsimp only
          rw [if_pos rfl, beq_mk, g1, if_neg (by simp)]
          exact hend
        · rw [if_neg h5]
          exact hend
    · rw [if_neg h3]
  · rw [if_neg h1]
theorem law_FieldBack (l : List Mir10) (s : ByteArray) (hl : l.length ≤ 9223372036854775807) : F_law04_FieldBack (1000 + l.length) (l.map fun x => encM (Mir.of x)) s = some true := by
  have := law_back (n := 1000 + l.length) (by omega) (l.map Mir.of) s (by simpa using hl) (by rw [List.length_map]; omega)
  rw [List.map_map] at this
  exact this
end Go.Proofs.YtclmbhokfhjnoaaGreatDoor
