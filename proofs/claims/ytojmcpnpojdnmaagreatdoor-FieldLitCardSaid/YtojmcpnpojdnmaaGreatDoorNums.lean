/-
  Own texts, merged: Sort, SortLaw, Nums.
-/
import Derived.Test.YtojmcpnpojdnmaaGreatDoorSxTwentyFive
import Derived.Test.YtojmcpnpojdnmaaGreatDoorIdx
set_option linter.unusedVariables false
set_option linter.unusedSimpArgs false
set_option linter.unnecessarySimpa false
/-
  Plain lists: an insertion sort by swaps, and that a list that is in order is the only one with its members. An own text.
-/
set_option maxRecDepth 20000
namespace Go.Proofs.YtojmcpnpojdnmaaGreatDoor
open Go.SX

/-- The order of indices by a key, and then by themselves. -/
def Ord (key : Nat → Int) (i j : Nat) : Prop := key i < key j ∨ (key i = key j ∧ i < j)
instance (key : Nat → Int) (i j : Nat) : Decidable (Ord key i j) := by unfold Ord; infer_instance
theorem Ord.irrefl {key : Nat → Int} {i : Nat} : ¬ Ord key i i := by unfold Ord; omega
theorem Ord.asymm {key : Nat → Int} {i j : Nat} (h : Ord key i j) : ¬ Ord key j i := by unfold Ord at *; omega
theorem Ord.trans {key : Nat → Int} {i j k : Nat} (h : Ord key i j) (h' : Ord key j k) : Ord key i k := by unfold Ord at *; omega
theorem Ord.total {key : Nat → Int} {i j : Nat} (h : ¬ Ord key i j) (hne : i ≠ j) : Ord key j i := by unfold Ord at *; omega

theorem ord_unique {key : Nat → Int} : ∀ {a b : List Nat}, a.Pairwise (Ord key) → b.Pairwise (Ord key) → (∀ x, x ∈ a ↔ x ∈ b) → a = b
  | [], [], _, _, _ => rfl
  | [], y :: b, _, _, h => absurd ((h y).2 List.mem_cons_self) (by simp)
  | x :: a, [], _, _, h => absurd ((h x).1 List.mem_cons_self) (by simp)
  | x :: a, y :: b, ha, hb, h => by
    rw [List.pairwise_cons] at ha hb
    have hxy : x = y := by
      rcases List.mem_cons.1 ((h x).1 List.mem_cons_self) with e | e
      · exact e
      · rcases List.mem_cons.1 ((h y).2 List.mem_cons_self) with e' | e'
        · exact e'.symm
        · exact absurd (ha.1 y e') (Ord.asymm (hb.1 x e))
    subst hxy
    rw [ord_unique ha.2 hb.2 fun z => by
      constructor
      · intro hz
        rcases List.mem_cons.1 ((h z).1 (List.mem_cons_of_mem _ hz)) with e | e
        · subst e; exact absurd (ha.1 z hz) Ord.irrefl
        · exact e
      · intro hz
        rcases List.mem_cons.1 ((h z).2 (List.mem_cons_of_mem _ hz)) with e | e
        · subst e; exact absurd (hb.1 z hz) Ord.irrefl
        · exact e]

/-- x goes to the left, past what comes behind it: 'ps' are those before it, the last one first. -/
def insR (key : Nat → Int) : List Nat → Nat → List Nat → List Nat
  | [], x, r => x :: r
  | p :: ps, x, r => if Ord key x p then insR key ps x (p :: r) else (p :: ps).reverse ++ x :: r
theorem insR_app (key : Nat → Int) : ∀ (ps : List Nat) (x : Nat) (r s : List Nat), insR key ps x (r ++ s) = insR key ps x r ++ s
  | [], x, r, s => rfl
  | p :: ps, x, r, s => by
    unfold insR
    split
    · rw [← List.cons_append, insR_app key ps]
    · simp
theorem insR_mem {key : Nat → Int} : ∀ (ps : List Nat) (x : Nat) (r : List Nat) (y : Nat), y ∈ insR key ps x r ↔ y ∈ ps ∨ y = x ∨ y ∈ r
  | [], x, r, y => by unfold insR; simp
  | p :: ps, x, r, y => by
    unfold insR
    split
    · rw [insR_mem ps]; simp only [List.mem_cons]
      constructor
      · rintro (h | h | h | h) <;> simp_all
      · rintro ((h | h) | h | h) <;> simp_all
    · simp only [List.mem_append, List.mem_reverse, List.mem_cons]
theorem insR_len (key : Nat → Int) : ∀ (ps : List Nat) (x : Nat) (r : List Nat), (insR key ps x r).length = ps.length + 1 + r.length
  | [], x, r => by simp [insR]; omega
  | p :: ps, x, r => by
    unfold insR
    split
    · rw [insR_len key ps]; simp; omega
    · simp; omega
theorem insR_ord {key : Nat → Int} : ∀ (ps : List Nat) (x : Nat) (r : List Nat), (ps.reverse ++ r).Pairwise (Ord key) → (∀ y, y ∈ r → Ord key x y) → x ∉ ps → (insR key ps x r).Pairwise (Ord key)
  | [], x, r, h, hr, _ => by
    unfold insR
    rw [List.pairwise_cons]
    exact ⟨hr, by simpa using h⟩
  | p :: ps, x, r, h, hr, hx => by
    unfold insR
    split
    · rename_i hlt
      refine insR_ord ps x (p :: r) (by simpa [List.append_assoc] using h) (fun y hy => ?_) (fun hm => hx (List.mem_cons_of_mem _ hm))
      rcases List.mem_cons.1 hy with rfl | hy
      · exact hlt
      · exact hr y hy
    · rename_i hlt
      have hpx : Ord key p x := Ord.total hlt (fun e => hx (by rw [e]; exact List.mem_cons_self))
      rw [List.pairwise_append] at h ⊢
      refine ⟨h.1, ?_, fun a ha b hb => ?_⟩
      · rw [List.pairwise_cons]; exact ⟨hr, h.2.1⟩
      · rcases List.mem_cons.1 hb with rfl | hb
        · have ha' : a ∈ p :: ps := by simpa [or_comm] using ha
          rcases List.mem_cons.1 ha' with rfl | ha'
          · exact hpx
          · have h1 := h.1
            rw [List.reverse_cons, List.pairwise_append] at h1
            exact (h1.2.2 a (by simpa using ha') p (by simp)).trans hpx
        · exact h.2.2 a ha b hb

def insG (key : Nat → Int) (s : List Nat) (x : Nat) : List Nat := insR key s.reverse x []
def srt (key : Nat → Int) (l : List Nat) : List Nat := l.foldl (insG key) []
theorem srt_from {key : Nat → Int} : ∀ (l s : List Nat), s.Pairwise (Ord key) → (s ++ l).Nodup → (l.foldl (insG key) s).Pairwise (Ord key) ∧ (∀ x, x ∈ l.foldl (insG key) s ↔ x ∈ s ∨ x ∈ l) ∧ (l.foldl (insG key) s).length = s.length + l.length
  | [], s, hs, _ => ⟨hs, fun x => by simp, by simp⟩
  | x :: l, s, hs, hn => by
    have hxs : x ∉ s := fun h => by
      rw [List.nodup_append] at hn
      exact hn.2.2 x h x List.mem_cons_self rfl
    have h1 : (insG key s x).Pairwise (Ord key) := insR_ord s.reverse x [] (by simpa using hs) (fun y hy => by cases hy) (by simpa using hxs)
    have hmem : ∀ y, y ∈ insG key s x ↔ y ∈ s ∨ y = x := fun y => by unfold insG; rw [insR_mem]; simp
    have h2 : (insG key s x ++ l).Nodup := by
      rw [List.nodup_append] at hn ⊢
      refine ⟨h1.imp fun h => ?_, (List.nodup_cons.1 hn.2.1).2, fun a ha b hb hab => ?_⟩
      · intro e; subst e; exact Ord.irrefl h
      · subst hab
        rcases (hmem a).1 ha with h | h
        · exact hn.2.2 a h a (List.mem_cons_of_mem _ hb) rfl
        · subst h; exact (List.nodup_cons.1 hn.2.1).1 hb
    obtain ⟨k1, k2, k3⟩ := srt_from l (insG key s x) h1 h2
    refine ⟨k1, fun y => ?_, ?_⟩
    · show y ∈ l.foldl (insG key) (insG key s x) ↔ _
      rw [k2, hmem]; simp only [List.mem_cons]
      constructor
      · rintro ((h | h) | h) <;> simp_all
      · rintro (h | h | h) <;> simp_all
    · show (l.foldl (insG key) (insG key s x)).length = _
      rw [k3]; unfold insG; rw [insR_len]; simp; omega
theorem srt_ok {key : Nat → Int} {l : List Nat} (h : l.Nodup) : (srt key l).Pairwise (Ord key) ∧ (∀ x, x ∈ srt key l ↔ x ∈ l) ∧ (srt key l).length = l.length := by
  obtain ⟨h1, h2, h3⟩ := srt_from (key := key) l [] List.Pairwise.nil (by simpa using h)
  exact ⟨h1, fun x => by rw [show srt key l = l.foldl (insG key) [] from rfl, h2]; simp, by rw [show srt key l = l.foldl (insG key) [] from rfl, h3]; simp⟩
theorem srt_eq {key : Nat → Int} {l b : List Nat} (h : l.Nodup) (hb : b.Pairwise (Ord key)) (hm : ∀ x, x ∈ b ↔ x ∈ l) : srt key l = b :=
  ord_unique (srt_ok h).1 hb fun x => by rw [(srt_ok h).2.1, hm]

/-! The loops that sort. -/
theorem nth_mid {α : Type} (a : List α) (x : α) (r : List α) : nth (a ++ x :: r) a.length = some x := by
  rw [nth_get?, List.getElem?_append_right (Nat.le_refl _)]; simp
theorem set_mid {α : Type} (a : List α) (x y : α) (r : List α) : List.set (a ++ x :: r) a.length y = a ++ y :: r := by
  rw [List.set_append_right _ _ (Nat.le_refl _)]; simp
/-- The inner loop. -/
theorem inner_run {key : Nat → Int} {enc : Nat → D} {f : Int × List D → Option ((Int × List D) ⊕ List D)}
    (h0 : ∀ l, f (0, l) = some (.inr l))
    (hs : ∀ (a : List Nat) (p x : Nat) (r : List Nat), (a ++ p :: x :: r).length ≤ 64 → f (((a.length + 1 : Nat) : Int), (a ++ p :: x :: r).map enc) = if Ord key x p then some (.inl ((a.length : Int), (a ++ x :: p :: r).map enc)) else some (.inr ((a ++ p :: x :: r).map enc))) :
    ∀ (ps : List Nat) (x : Nat) (r : List Nat) (k : Nat), (ps.length + 1 + r.length ≤ 64) → ps.length < k → loopF f k ((ps.length : Int), (ps.reverse ++ x :: r).map enc) = some ((insR key ps x r).map enc)
  | [], x, r, k, hl, hk => by
    obtain ⟨k, rfl⟩ : ∃ j, k = j + 1 := ⟨k - 1, by omega⟩
    rw [loopF_r (e := ((insR key [] x r).map enc)) (by exact h0 _)]
  | p :: ps, x, r, k, hl, hk => by
    obtain ⟨k, rfl⟩ : ∃ j, k = j + 1 := ⟨k - 1, by omega⟩
    have h1 := hs ps.reverse p x r (by simp at hl ⊢; omega)
    have h2 : (p :: ps).reverse ++ x :: r = ps.reverse ++ p :: x :: r := by simp
    rw [h2]
    rw [List.length_reverse] at h1
    show loopF f (k + 1) (((ps.length + 1 : Nat) : Int), (ps.reverse ++ p :: x :: r).map enc) = _
    unfold insR
    by_cases hlt : Ord key x p
    · rw [if_pos hlt] at h1
      rw [loopF_l (s' := ((ps.length : Int), (ps.reverse ++ x :: p :: r).map enc)) h1, if_pos hlt]
      exact inner_run h0 hs ps x (p :: r) k (by simp at hl ⊢; omega) (by simp at hk; omega)
    · rw [if_neg hlt] at h1
      rw [loopF_r h1, if_neg hlt, h2]
/-- The outer loop. -/
theorem outer_run {key : Nat → Int} {enc : Nat → D} {N : Nat} {f : Int × List D → Option ((Int × List D) ⊕ List D)}
    (he : ∀ l : List D, l.length = N → ∀ i : Int, (N : Int) ≤ i → f (i, l) = some (.inr l))
    (hs : ∀ (s : List Nat) (x : Nat) (t : List Nat), s ≠ [] → (s ++ x :: t).length = N → f ((s.length : Int), (s ++ x :: t).map enc) = some (.inl (((s.length + 1 : Nat) : Int), (insR key s.reverse x t).map enc))) :
    ∀ (t s : List Nat) (k : Nat), s ≠ [] → (s ++ t).length = N → t.length < k → loopF f k ((s.length : Int), (s ++ t).map enc) = some ((t.foldl (insG key) s).map enc)
  | [], s, k, hne, hl, hk => by
    obtain ⟨k, rfl⟩ : ∃ j, k = j + 1 := ⟨k - 1, by omega⟩
    rw [List.append_nil] at hl ⊢
    rw [loopF_r (he _ (by simpa using hl) _ (by omega))]; rfl
  | x :: t, s, k, hne, hl, hk => by
    obtain ⟨k, rfl⟩ : ∃ j, k = j + 1 := ⟨k - 1, by omega⟩
    rw [loopF_l (hs s x t hne hl)]
    have h1 : insR key s.reverse x t = insG key s x ++ t := by
      unfold insG; rw [← insR_app]; simp
    have h2 : (insG key s x).length = s.length + 1 := by unfold insG; rw [insR_len]; simp
    rw [h1, ← h2]
    exact outer_run he hs t (insG key s x) k (fun e => by rw [e] at h2; simp at h2) (by simp at hl ⊢; omega) (by simp at hk; omega)
theorem sort_run {key : Nat → Int} {enc : Nat → D} {l : List Nat} {f : Int × List D → Option ((Int × List D) ⊕ List D)}
    (he : ∀ d : List D, d.length = l.length → ∀ i : Int, (l.length : Int) ≤ i → f (i, d) = some (.inr d))
    (hs : ∀ (s : List Nat) (x : Nat) (t : List Nat), s ≠ [] → (s ++ x :: t).length = l.length → f ((s.length : Int), (s ++ x :: t).map enc) = some (.inl (((s.length + 1 : Nat) : Int), (insR key s.reverse x t).map enc)))
    {k : Nat} (hk : l.length < k) : loopF f k (1, l.map enc) = some ((srt key l).map enc) := by
  cases l with
  | nil =>
    obtain ⟨k, rfl⟩ : ∃ j, k = j + 1 := ⟨k - 1, by omega⟩
    rw [loopF_r (he _ rfl 1 (by simp))]; rfl
  | cons x t =>
    have := outer_run he hs t [x] k (by simp) (by simp) (by simp at hk; omega)
    exact this
end Go.Proofs.YtojmcpnpojdnmaaGreatDoor
/-
  The sort of ranked mirrors is an insertion sort: indices by their keys. An own text.
-/
set_option maxRecDepth 20000
namespace Go.Proofs.YtojmcpnpojdnmaaGreatDoor
open Go.SX

def cmpI (a b : Int) : Int := if a < b then -1 else if a > b then 1 else 0
theorem compare_eq (n : Nat) (a b : Int) : F_cmp_Compare_g n a b = some (cmpI a b) := by
  unfold F_cmp_Compare_g F_cmp_isNaN_g cmpI
  rw [Option.bind_some, Option.bind_some, if_neg (by simp), if_neg (by simp)]
  split
  · rfl
  · split <;> rfl
theorem or_eq {n : Nat} (ms : List Int) (hm : ms.length < 9223372036854775807) (hn : ms.length < n) : F_cmp_Or_g n (ms.map I) = some (firstNZ ms) := by
  unfold F_cmp_Or_g
  have := loopF_list0 (step := F_cmp_Or_g_L1 n (ms.map I)) fG (fun _ => .inr ()) (fun i _ => (i : Int)) ms (fun _ _ => True)
    (fun i s x hx _ => by
      unfold fG F_cmp_Or_g_L1
      have hi := (List.getElem?_eq_some_iff.1 hx).1
      by_cases h : x = 0
      · rw [if_pos h]
        refine ⟨?_, trivial⟩
        rw [if_pos (lenlt hx), el_map hx, Option.bind_some, if_pos h, if_pos (by unfold inI64; omega)]; rfl
      · rw [if_neg h]
        dsimp only
        rw [if_pos (lenlt hx), el_map hx, Option.bind_some, if_neg h])
    (fun s _ => by unfold F_cmp_Or_g_L1; rw [if_neg (by simp)]) (s := ()) trivial hn
  rw [show (0 : Int) = ((0 : Nat) : Int) from rfl, this, runL_first]
  by_cases h : firstNZ ms = 0
  · rw [if_pos h, h]; rfl
  · rw [if_neg h]; rfl

/-- A mirror with its key and its index. -/
def tupK (f : Nat → Mir) (key : Nat → Int) (i : Nat) : ByteArray × Int × Int × Int × Int × Int × Int × Int × Int × Int × Int × Int :=
  ((f i).name, (f i).c.1, (f i).c.2.1, (f i).c.2.2, (f i).u.1, (f i).u.2.1, (f i).u.2.2, (f i).v.1, (f i).v.2.1, (f i).v.2.2, key i, (i : Int))
def encK (f : Nat → Mir) (key : Nat → Int) (i : Nat) : D :=
  .agg [.v (.string (f i).name), I (f i).c.1, I (f i).c.2.1, I (f i).c.2.2, I (f i).u.1, I (f i).u.2.1, I (f i).u.2.2, I (f i).v.1, I (f i).v.2.1, I (f i).v.2.2, I (key i), I (i : Int)]
theorem unK (f : Nat → Mir) (key : Nat → Int) (i : Nat) : un_Asi11Z (encK f key i) = some (tupK f key i) := rfl
def cmpK (key : Nat → Int) (x p : Nat) : Int := firstNZ [cmpI (key x) (key p), cmpI (x : Int) (p : Int)]
theorem cmpK_lt (key : Nat → Int) (x p : Nat) : cmpK key x p < 0 ↔ Ord key x p := by
  unfold cmpK cmpI Ord
  simp only [firstNZ]
  constructor
  · intro h
    repeat' split at h
    all_goals omega
  · intro h
    repeat' split
    all_goals omega
theorem rank_cmp {n : Nat} (hn : 10 ≤ n) {f : Nat → Mir} {key : Nat → Int} (x p : Nat) :
    F_field_ranked_compare n (f x).name (f x).c.1 (f x).c.2.1 (f x).c.2.2 (f x).u.1 (f x).u.2.1 (f x).u.2.2 (f x).v.1 (f x).v.2.1 (f x).v.2.2 (key x) (x : Int)
      (f p).name (f p).c.1 (f p).c.2.1 (f p).c.2.2 (f p).u.1 (f p).u.2.1 (f p).u.2.2 (f p).v.1 (f p).v.2.1 (f p).v.2.2 (key p) (p : Int) = some (cmpK key x p) := by
  unfold F_field_ranked_compare
  rw [compare_eq, Option.bind_some, compare_eq, Option.bind_some]
  have := or_eq (n := n) [cmpI (key x) (key p), cmpI (x : Int) (p : Int)] (by simp) (by simp; omega)
  simp only [List.map_cons, List.map_nil] at this
  rw [this]; rfl

theorem nth_map {enc : Nat → D} {l : List Nat} {i x : Nat} (h : l[i]? = some x) : nth (l.map enc) i = some (enc x) := by
  rw [nth_get?, List.getElem?_map, h]; rfl
theorem set_two (enc : Nat → D) (a : List Nat) (p x : Nat) (r : List Nat) :
    List.set (List.set ((a ++ p :: x :: r).map enc) (a.length + 1) (enc p)) a.length (enc x) = (a ++ x :: p :: r).map enc := by
  have h1 : List.set ((a ++ p :: x :: r).map enc) (a.length + 1) (enc p) = (a ++ p :: p :: r).map enc := by
    rw [← List.map_set]
    congr 1
    have := set_mid (a ++ [p]) x p r
    simpa using this
  rw [h1, ← List.map_set, set_mid]
theorem inner_eq {n : Nat} (hn : 100 ≤ n) (a0 : List D) (sb : Int × List D) {f : Nat → Mir} {key : Nat → Int} (a : List Nat) (p x : Nat) (r : List Nat) (hl : (a ++ p :: x :: r).length ≤ 64) :
    F_field_indices_L2 n a0 sb (((a.length + 1 : Nat) : Int), (a ++ p :: x :: r).map (encK f key)) =
      if Ord key x p then some (.inl ((a.length : Int), (a ++ x :: p :: r).map (encK f key))) else some (.inr ((a ++ p :: x :: r).map (encK f key))) := by
  have n1 : nth ((a ++ p :: x :: r).map (encK f key)) (a.length + 1) = some (encK f key x) := nth_map (by rw [List.getElem?_append_right (by omega)]; simp)
  have n2 : nth ((a ++ p :: x :: r).map (encK f key)) a.length = some (encK f key p) := nth_map (by rw [List.getElem?_append_right (by omega)]; simp)
  have e2 : (((a.length + 1 : Nat) : Int) - 1) = (a.length : Int) := by omega
  have hlen : ((a ++ p :: x :: r).map (encK f key)).length = a.length + 2 + r.length := by simp; omega
  have hl2 : a.length + 2 + r.length ≤ 64 := by simp at hl; omega
  have hset := set_two (encK f key) a p x r
  generalize (a ++ p :: x :: r).map (encK f key) = M at *
  unfold F_field_indices_L2
  dsimp only
  rw [if_pos (by omega), if_pos (by omega), Int.toNat_natCast, n1, Option.bind_some, unK, Option.bind_some, if_pos (by unfold inI64; omega), e2, if_pos (by omega), Int.toNat_natCast, n2, Option.bind_some, unK, Option.bind_some]
  show (F_field_ranked_compare n (f x).name (f x).c.1 (f x).c.2.1 (f x).c.2.2 (f x).u.1 (f x).u.2.1 (f x).u.2.2 (f x).v.1 (f x).v.2.1 (f x).v.2.2 (key x) (x : Int)
      (f p).name (f p).c.1 (f p).c.2.1 (f p).c.2.2 (f p).u.1 (f p).u.2.1 (f p).u.2.2 (f p).v.1 (f p).v.2.1 (f p).v.2.2 (key p) (p : Int)).bind _ = _
  rw [rank_cmp (by omega), Option.bind_some]
  by_cases h : Ord key x p
  · rw [if_pos ((cmpK_lt key x p).2 h), if_pos h, if_pos (by omega), if_pos (by rw [List.length_set]; omega), if_pos (by rw [List.length_set]; omega)]
    exact congrArg (fun z => some (Sum.inl ((a.length : Int), z))) hset
  · rw [if_neg (fun q => h ((cmpK_lt key x p).1 q)), if_neg h]

theorem big_eq (a : List D) (z : D) : (a.take (List.replicate (Int.toNat (a.length : Int)) z).length ++ (List.replicate (Int.toNat (a.length : Int)) z).drop a.length) = a := by simp
theorem outer_eq {n : Nat} (hn : 100 ≤ n) {f : Nat → Mir} {key : Nat → Int} {l : List Nat} (hl : l.length ≤ 12) {A : List D} (hA : A.length = l.length) (s : List Nat) (x : Nat) (t : List Nat) (hL : (s ++ x :: t).length = l.length) :
    F_field_indices_L3 n A ((s.length : Int), (s ++ x :: t).map (encK f key)) = some (.inl (((s.length + 1 : Nat) : Int), (insR key s.reverse x t).map (encK f key))) := by
  have hlen : s.length + 1 + t.length = l.length := by simp at hL; omega
  have hrun := inner_run (key := key) (enc := encK f key) (f := F_field_indices_L2 n A ((s.length : Int), (s ++ x :: t).map (encK f key)))
    (fun d => by unfold F_field_indices_L2; dsimp only; rw [if_neg (by simp)])
    (fun a p y r h => inner_eq hn A _ a p y r h) s.reverse x t n (by simp; omega) (by simp; omega)
  rw [List.reverse_reverse, List.length_reverse] at hrun
  unfold F_field_indices_L3
  dsimp only
  rw [big_eq, if_pos (by omega), hrun, Option.bind_some, if_pos (by unfold inI64; omega)]; rfl
theorem len_eq (n : Nat) : ∀ k : Nat, k ≤ 12 → ∃ t, F_math_bits_Len n (IntKind.wrap .u64 (k : Int)) = some t
  | 0, _ => ⟨0, by kernel_rfl⟩
  | 1, _ => ⟨1, by kernel_rfl⟩
  | 2, _ => ⟨2, by kernel_rfl⟩
  | 3, _ => ⟨2, by kernel_rfl⟩
  | 4, _ => ⟨3, by kernel_rfl⟩
  | 5, _ => ⟨3, by kernel_rfl⟩
  | 6, _ => ⟨3, by kernel_rfl⟩
  | 7, _ => ⟨3, by kernel_rfl⟩
  | 8, _ => ⟨4, by kernel_rfl⟩
  | 9, _ => ⟨4, by kernel_rfl⟩
  | 10, _ => ⟨4, by kernel_rfl⟩
  | 11, _ => ⟨4, by kernel_rfl⟩
  | 12, _ => ⟨4, by kernel_rfl⟩
  | k + 13, h => by omega
def encI (i : Nat) : D := I (i : Int)
theorem indices_eq {n : Nat} (hn : 100 ≤ n) {f : Nat → Mir} {key : Nat → Int} {l : List Nat} (hl : l.length ≤ 12) (hnd : l.Nodup) :
    F_field_indices n (l.map (encK f key)) = some ((srt key l).map encI) := by
  unfold F_field_indices
  have hA : (l.map (encK f key)).length = l.length := by simp
  obtain ⟨t, ht⟩ := len_eq n l.length hl
  have hs := sort_run (key := key) (enc := encK f key) (l := l) (f := F_field_indices_L3 n (l.map (encK f key)))
    (fun d hd i hi => by unfold F_field_indices_L3; dsimp only; rw [big_eq, if_neg (by omega)])
    (fun s x t _ hL => outer_eq hn hl hA s x t hL) (k := n) (by omega)
  have h4 : loopF (F_field_indices_L4 n (l.map (encK f key)) t) n () = some ((srt key l).map (encK f key)) := by
    obtain ⟨n', rfl⟩ : ∃ n', n = n' + 1 := ⟨n - 1, by omega⟩
    refine loopF_r ?_
    unfold F_field_indices_L4
    rw [big_eq, if_pos (by unfold inI64; omega), if_pos (by omega), hs]; rfl
  have hsl := (srt_ok (key := key) hnd).2.2
  have h5 := loopF_list0 (step := F_field_indices_L5 n ((srt key l).map (encK f key))) (fun (s : List D) (i : Nat) => (.inl (s ++ [encI i]) : List D ⊕ List D)) id
    (fun i s => ((i : Int), s)) (srt key l) (fun i s => s.length = i)
    (fun i s x hx hi => by
      have hlt := (List.getElem?_eq_some_iff.1 hx).1
      refine ⟨?_, by simp [hi]⟩
      unfold F_field_indices_L5
      dsimp only
      have hll := lenlt (f := encK f key) hx
      rw [if_pos hll, if_pos ⟨by omega, hll⟩, Int.toNat_natCast, nth_map hx, Option.bind_some, unK, Option.bind_some, if_pos (by unfold roomP; omega), if_pos (by unfold inI64; omega)]; rfl)
    (fun s _ => by unfold F_field_indices_L5; dsimp only; rw [if_neg (by simp)]; rfl) (s := []) (k := n) rfl (by omega)
  rw [runL_app] at h5
  rw [big_eq, hA, if_pos (by omega), ht, Option.bind_some, h4, Option.bind_some]
  rw [show ((0 : Int), ([] : List D)) = (((0 : Nat) : Int), []) from rfl, h5]; rfl
end Go.Proofs.YtojmcpnpojdnmaaGreatDoor
/-
  Plain lemmas of chapter 4: lists of indices, and what the law says of two of them. An own text.
-/
set_option maxRecDepth 20000
namespace Go.Proofs.YtojmcpnpojdnmaaGreatDoor
open Go.SX
def nilM : Mir := ⟨ByteArray.empty, (0, 0, 0), (0, 0, 0), (0, 0, 0)⟩
def atM (ms : List Mir) (i : Nat) : Mir := (ms[i]?).getD nilM
theorem atM_eq {ms : List Mir} {i : Nat} {m : Mir} (h : ms[i]? = some m) : atM ms i = m := by unfold atM; rw [h]; rfl
theorem rangeAt {m i k : Nat} (h : (List.range m)[i]? = some k) : k = i ∧ i < m := by
  obtain ⟨h1, h2⟩ := List.getElem?_eq_some_iff.1 h
  simp at h1 h2
  exact ⟨h2.symm, h1⟩
theorem el_I {l : List Nat} {i x : Nat} (h : l[i]? = some x) : el un_i (l.map encI) (i : Int) = some (x : Int) := by
  have := el_enc (un := un_i) (enc := I) (fun _ => rfl) (l := l.map fun y : Nat => (y : Int)) (i := i) (x := (x : Int)) (by rw [List.getElem?_map, h]; rfl)
  rw [List.map_map] at this
  exact this
theorem same_I {n : Nat} (l : List Nat) (hl : l.length ≤ 64) (hn : 100 ≤ n) : F_ref01_SameInts n (l.map encI) (l.map encI) = some true := by
  unfold F_ref01_SameInts
  rw [if_pos rfl]
  have key : ∀ (l : List Nat), runL (fun (_ : Unit) (_ : Nat) => (.inl () : Unit ⊕ (Unit ⊕ Unit))) (fun _ => .inr ()) l () = .inr () := by
    intro l
    induction l with
    | nil => rfl
    | cons p l ih => unfold runL; exact ih
  have := loopF_list0 (step := F_ref01_SameInts_L1 n (l.map encI) (l.map encI)) (fun (_ : Unit) (_ : Nat) => (.inl () : Unit ⊕ (Unit ⊕ Unit))) (fun _ => .inr ()) (fun i _ => (i : Int)) l (fun _ _ => True)
    (fun k s x hx _ => by
      have hk := (List.getElem?_eq_some_iff.1 hx).1
      refine ⟨?_, trivial⟩
      unfold F_ref01_SameInts_L1
      rw [if_pos (lenlt (f := encI) hx), el_I hx, Option.bind_some, Option.bind_some, if_pos rfl, if_pos (by unfold inI64; omega)]; rfl)
    (fun s _ => by unfold F_ref01_SameInts_L1; rw [if_neg (by simp)]) (s := ()) (k := n) trivial (by omega)
  rw [show (0 : Int) = ((0 : Nat) : Int) from rfl, this, key, Option.bind_some]
theorem numbers_bad (n : Nat) {e : Int} (h : ¬ e = 0) : F_law04_numbers n [] e e [] = some true := by
  unfold F_law04_numbers
  rw [if_pos rfl, if_neg h, if_pos (by simp)]
theorem numbers_ok {n : Nat} (l : List Nat) (hl : l.length ≤ 64) (hn : 100 ≤ n) : F_law04_numbers n (l.map encI) 0 0 (l.map encI) = some true := by
  unfold F_law04_numbers
  rw [if_pos rfl, if_pos rfl, same_I l hl hn]; rfl
end Go.Proofs.YtojmcpnpojdnmaaGreatDoor
