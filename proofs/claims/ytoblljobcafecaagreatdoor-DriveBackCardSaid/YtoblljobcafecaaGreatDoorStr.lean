/-
  Strings as lists of bytes: parts, bytes, pieces between separators. Plain Lean. An own text.
-/
import Derived.Test.YtoblljobcafecaaGreatDoorBase
import Derived.Lib.Bytealg
set_option linter.unusedVariables false
set_option linter.unusedSimpArgs false
set_option linter.unnecessarySimpa false
namespace Go.Proofs.YtoblljobcafecaaGreatDoor
open Go.SX

def mkS (l : List UInt8) : ByteArray := ⟨l.toArray⟩
theorem mk_data (s : ByteArray) : mkS s.data.toList = s := by cases s; simp [mkS]
theorem data_mk (l : List UInt8) : (mkS l).data.toList = l := by simp [mkS]
theorem mk_size (l : List UInt8) : (mkS l).size = l.length := by simp [mkS, ByteArray.size]
theorem mk_inj {a b : List UInt8} : mkS a = mkS b ↔ a = b := by
  constructor
  · intro h
    have := congrArg (fun s : ByteArray => s.data.toList) h
    simpa [data_mk] using this
  · intro h; rw [h]
theorem dlen (s : ByteArray) : s.data.toList.length = s.size := by cases s; rfl
theorem loop_eq (s : ByteArray) : ∀ (m i : Nat) (r : List UInt8), i + m = s.size → ByteArray.toList.loop s i r = r.reverse ++ s.data.toList.drop i
  | 0, i, r, h => by
    rw [ByteArray.toList.loop, if_neg (by omega), List.drop_eq_nil_of_le (by rw [dlen]; omega), List.append_nil]
  | m + 1, i, r, h => by
    have hi : i < s.data.toList.length := by rw [dlen]; omega
    rw [ByteArray.toList.loop, if_pos (by omega), loop_eq s m (i + 1) _ (by omega), List.reverse_cons, List.append_assoc]
    congr 1
    rw [List.drop_eq_getElem_cons hi]
    have : s.get! i = s.data.toList[i] := by
      cases s with
      | mk a =>
        simp only [ByteArray.get!]
        have hi' : i < a.size := hi
        rw [getElem!_pos a i hi']
        simp
    rw [this]; rfl
theorem toList_eq (s : ByteArray) : s.toList = s.data.toList := by
  unfold ByteArray.toList
  rw [loop_eq s s.size 0 [] (by omega)]; rfl
theorem beq_mk (a b : List UInt8) : ((mkS a).toList == (mkS b).toList) = decide (a = b) := by
  rw [Bool.eq_iff_iff, beq_iff_eq, decide_eq_true_eq, toList_eq, toList_eq, data_mk, data_mk]
theorem app_mk (a b : List UInt8) : mkS a ++ mkS b = mkS (a ++ b) := by
  have : (mkS a ++ mkS b).data.toList = a ++ b := by
    rw [ByteArray.data_append]; simp [mkS]
  rw [← mk_data (mkS a ++ mkS b), this]
theorem strAt_mk (l : List UInt8) (i : Nat) : strAt (mkS l) (i : Int) = l[i]?.map fun b => (b.toNat : Int) := by
  unfold strAt
  rw [if_pos (Int.natCast_nonneg i), Int.toNat_natCast]
  have : (mkS l)[i]? = l[i]? := by
    by_cases h : i < l.length
    · have h' : i < (mkS l).size := by rw [mk_size]; exact h
      rw [getElem?_pos (mkS l) i h', List.getElem?_eq_getElem h]
      congr 1
    · have h' : ¬ i < (mkS l).size := by rw [mk_size]; exact h
      rw [getElem?_neg (mkS l) i h', List.getElem?_eq_none (by omega)]
  rw [this]
  cases l[i]? <;> rfl
theorem extract_mk (l : List UInt8) (a b : Nat) : (mkS l).extract a b = mkS ((l.take b).drop a) := by
  rw [← mk_data ((mkS l).extract a b)]
  congr 1
  rw [ByteArray.data_extract]
  simp [mkS]
  rw [List.take_drop]
  by_cases h : a ≤ b
  · rw [show a + (b - a) = b by omega]
  · rw [show a + (b - a) = a by omega, List.drop_eq_nil_of_le (by simp; omega), List.drop_eq_nil_of_le (by simp; omega)]
theorem sub_mk (l : List UInt8) {a b : Nat} (h1 : a ≤ b) (h2 : b ≤ l.length) : strSub (mkS l) (some (a : Int)) (some (b : Int)) = some (mkS ((l.take b).drop a)) := by
  unfold strSub
  simp only [Option.getD_some, mk_size]
  rw [if_pos (by omega), Int.toNat_natCast, Int.toNat_natCast, extract_mk]
theorem sub_to (l : List UInt8) {b : Nat} (h2 : b ≤ l.length) : strSub (mkS l) none (some (b : Int)) = some (mkS (l.take b)) := by
  unfold strSub
  simp only [Option.getD_some, Option.getD_none, mk_size]
  rw [if_pos (by omega), Int.toNat_natCast, Int.toNat_zero, extract_mk, List.drop_zero]
theorem sub_from (l : List UInt8) {a : Nat} (h2 : a ≤ l.length) : strSub (mkS l) (some (a : Int)) none = some (mkS (l.drop a)) := by
  unfold strSub
  simp only [Option.getD_some, Option.getD_none, mk_size]
  rw [if_pos (by omega), Int.toNat_natCast, Int.toNat_natCast, extract_mk, List.take_length]

/-- The pieces between the separators. -/
def spl (c : UInt8) : List UInt8 → List (List UInt8)
  | [] => [[]]
  | x :: l => if x = c then [] :: spl c l else match spl c l with
    | [] => [[x]]
    | h :: t => (x :: h) :: t
/-- The first piece begins earlier. -/
def pre (p : List UInt8) : List (List UInt8) → List (List UInt8)
  | [] => [p]
  | h :: t => (p ++ h) :: t
theorem spl_ne (c : UInt8) (l : List UInt8) : spl c l ≠ [] := by
  cases l with
  | nil => simp [spl]
  | cons x l =>
    unfold spl
    split
    · simp
    · split <;> simp
theorem spl_cons (c x : UInt8) (l : List UInt8) (h : x ≠ c) : spl c (x :: l) = pre [x] (spl c l) := by
  conv => lhs; unfold spl
  rw [if_neg h]
  cases spl c l <;> rfl
theorem spl_sep (c : UInt8) (l : List UInt8) : spl c (c :: l) = [] :: spl c l := by
  conv => lhs; unfold spl
  rw [if_pos rfl]
theorem pre_nil {L : List (List UInt8)} (h : L ≠ []) : pre [] L = L := by
  cases L with
  | nil => exact absurd rfl h
  | cons a L => rfl
theorem pre_pre (p q : List UInt8) {L : List (List UInt8)} (h : L ≠ []) : pre p (pre q L) = pre (p ++ q) L := by
  cases L with
  | nil => exact absurd rfl h
  | cons a L => simp [pre]
theorem spl_app (c : UInt8) : ∀ (a b : List UInt8), c ∉ a → spl c (a ++ b) = pre a (spl c b)
  | [], b, _ => by rw [List.nil_append, pre_nil (spl_ne c b)]
  | x :: a, b, h => by
    rw [List.cons_append, spl_cons c x _ (fun e => h (by rw [e]; exact List.mem_cons_self)), spl_app c a b (fun hm => h (List.mem_cons_of_mem _ hm)), pre_pre _ _ (spl_ne c b)]
    rfl
theorem spl_hit (c : UInt8) (a b : List UInt8) (h : c ∉ a) : spl c (a ++ c :: b) = a :: spl c b := by
  rw [spl_app c a _ h, spl_sep]
  simp [pre]
theorem spl_miss (c : UInt8) (a : List UInt8) (h : c ∉ a) : spl c a = [a] := by
  have := spl_app c a [] h
  simpa [spl, pre] using this
/-- What stands behind the separators put together again. -/
def glue (c : UInt8) : List (List UInt8) → List UInt8
  | [] => []
  | [p] => p
  | p :: q :: L => p ++ c :: glue c (q :: L)
theorem glue_pre (c : UInt8) (p : List UInt8) {L : List (List UInt8)} (h : L ≠ []) : glue c (pre p L) = p ++ glue c L := by
  cases L with
  | nil => exact absurd rfl h
  | cons a L =>
    cases L with
    | nil => rfl
    | cons b L => simp [pre, glue]
theorem glue_spl (c : UInt8) : ∀ l : List UInt8, glue c (spl c l) = l
  | [] => rfl
  | x :: l => by
    by_cases h : x = c
    · subst h
      rw [spl_sep]
      have := spl_ne x l
      have ih := glue_spl x l
      cases hs : spl x l with
      | nil => exact absurd hs this
      | cons a L => rw [hs] at ih; simp [glue, ih]
    · rw [spl_cons c x l h, glue_pre c [x] (spl_ne c l), glue_spl c l]; rfl
theorem spl_free (c : UInt8) : ∀ (l : List UInt8) (p : List UInt8), p ∈ spl c l → c ∉ p
  | [], p, h => by
    have : p = [] := by simpa [spl] using h
    rw [this]; simp
  | x :: l, p, h => by
    by_cases hx : x = c
    · subst hx
      rw [spl_sep] at h
      rcases List.mem_cons.1 h with h | h
      · rw [h]; simp
      · exact spl_free x l p h
    · rw [spl_cons c x l hx] at h
      have ih := spl_free c l
      cases hs : spl c l with
      | nil => exact absurd hs (spl_ne c l)
      | cons a L =>
        rw [hs] at h ih
        simp only [pre, List.singleton_append] at h
        rcases List.mem_cons.1 h with h | h
        · rw [h]
          intro hm
          rcases List.mem_cons.1 hm with hm | hm
          · exact hx hm.symm
          · exact ih a List.mem_cons_self hm
        · exact ih p (List.mem_cons_of_mem _ h)
theorem spl_glue (c : UInt8) : ∀ (L : List (List UInt8)), L ≠ [] → (∀ p, p ∈ L → c ∉ p) → spl c (glue c L) = L
  | [], h, _ => absurd rfl h
  | [p], _, h => spl_miss c p (h p List.mem_cons_self)
  | p :: q :: L, _, h => by
    show spl c (p ++ c :: glue c (q :: L)) = _
    rw [spl_hit c p _ (h p List.mem_cons_self), spl_glue c (q :: L) (by simp) (fun r hr => h r (List.mem_cons_of_mem _ hr))]
theorem spl_count (c : UInt8) : ∀ l : List UInt8, (spl c l).length = l.count c + 1
  | [] => rfl
  | x :: l => by
    by_cases h : x = c
    · subst h
      rw [spl_sep, List.length_cons, spl_count x l, List.count_cons_self]
    · rw [spl_cons c x l h, List.count_cons_of_ne h]
      have := spl_count c l
      cases hs : spl c l with
      | nil => exact absurd hs (spl_ne c l)
      | cons a L => rw [hs] at this; simpa [pre] using this
theorem hit_of {c : UInt8} : ∀ {l : List UInt8}, c ∈ l → ∃ a b, l = a ++ c :: b ∧ c ∉ a
  | x :: l, h => by
    by_cases hx : x = c
    · subst hx; exact ⟨[], l, rfl, by simp⟩
    · rcases List.mem_cons.1 h with h | h
      · exact absurd h.symm hx
      · obtain ⟨a, b, h1, h2⟩ := hit_of h
        refine ⟨x :: a, b, by rw [h1]; rfl, fun hm => ?_⟩
        rcases List.mem_cons.1 hm with hm | hm
        · exact hx hm.symm
        · exact h2 hm
theorem index_hit {c : UInt8} : ∀ {a : List UInt8} (b : List UInt8), c ∉ a → Lib.indexByte (a ++ c :: b) c = (a.length : Int)
  | [], b, _ => by simp [Lib.indexByte]
  | x :: a, b, h => by
    have hx : ¬ (x = c) := fun e => h (by rw [e]; exact List.mem_cons_self)
    have ih := index_hit b (fun hm => h (List.mem_cons_of_mem _ hm))
    rw [List.cons_append, Lib.indexByte, if_neg (by simpa using hx), ih]
    have : ¬ (((a.length : Int)) == -1) = true := by simp
    rw [if_neg this]; simp
theorem index_miss {c : UInt8} : ∀ {a : List UInt8}, c ∉ a → Lib.indexByte a c = -1
  | [], _ => rfl
  | x :: a, h => by
    have hx : ¬ (x = c) := fun e => h (by rw [e]; exact List.mem_cons_self)
    have ih := index_miss (fun hm => h (List.mem_cons_of_mem _ hm))
    rw [Lib.indexByte, if_neg (by simpa using hx), ih]; rfl
end Go.Proofs.YtoblljobcafecaaGreatDoor
