/-
  Own texts, merged: Idx, Sort, SortLaw, Nums, NearLaw.
-/
import Derived.Test.YtojmcpnpojdnmaaGreatDoorMirLaw
import Derived.Test.YtojmcpnpojdnmaaGreatDoorLists
import Derived.Test.YtojmcpnpojdnmaaGreatDoorSxTwentyFive
import Derived.Test.YtojmcpnpojdnmaaGreatDoorNear1
set_option linter.unusedVariables false
set_option linter.unusedSimpArgs false
set_option linter.unnecessarySimpa false
/-
  Plain lemmas of chapter 4: the check of mirrors and of the index of one. An own text.
-/
set_option maxRecDepth 20000
namespace Go.Proofs.YtojmcpnpojdnmaaGreatDoor
open Go.SX
def idxE (ms : List Mir) (mi : Int) : Int := firstNZ [chkM ms, if mi < 0 then 10 else whenI (decide (mi ≥ (ms.length : Int))) 10]
theorem runC_ok : ∀ (l : List Mir) (s : List ByteArray), (match runL gC (fun _ => .inr ()) l s with
    | .inl e => e
    | .inr _ => (0 : Int)) = 0 → ∀ m, m ∈ l → mirE m = 0
  | [], _, _, m, hm => by cases hm
  | x :: l, s, h, m, hm => by
    unfold runL gC at h
    by_cases h0 : mE s x = 0
    · rw [if_pos h0] at h
      cases hm with
      | head => exact firstNZ_zero h0 (mirE x) (by simp)
      | tail _ hm => exact runC_ok l _ h m hm
    · rw [if_neg h0] at h
      exact absurd h h0
theorem chkM_ok {ms : List Mir} (h : chkM ms = 0) : ms.length ≤ 64 ∧ ∀ m, m ∈ ms → m.Ok := by
  unfold chkM at h
  by_cases hl : (ms.length : Int) > 64
  · rw [if_pos hl] at h; omega
  · rw [if_neg hl] at h
    exact ⟨by omega, fun m hm => mirE_zero (runC_ok ms [] h m hm)⟩
theorem idx_eq {n : Nat} (hn : 100 ≤ n) (ms : List Mir) (hz : ∀ m, m ∈ ms → m.name.size < n) (mi : Int) : F_field_checkIndex n (ms.map encM) mi = some (idxE ms mi) := by
  unfold F_field_checkIndex idxE
  rw [checkMs_eq hn ms hz, Option.bind_some, List.length_map]
  by_cases h : mi < 0
  · rw [if_pos h, if_pos h, show F_field_when_4 n = some 10 from rfl, Option.bind_some, first2 (by omega)]; rfl
  · rw [if_neg h, if_neg h, when_eq, Option.bind_some, first2 (by omega)]; rfl
theorem refIdx_eq {n : Nat} (hn : 100 ≤ n) (ms : List Mir) (mi : Int) : F_law04_checkMirror n (ms.map encM) mi = some (idxE ms mi) := by
  unfold F_law04_checkMirror idxE
  rw [refMs_eq hn ms, Option.bind_some, List.length_map]
  by_cases h0 : chkM ms = 0
  · rw [if_pos h0]
    simp only [firstNZ, if_pos h0]
    by_cases h : mi < 0
    · rw [if_pos h, if_pos h]; rfl
    · rw [if_neg h, if_neg h, refWhen_eq]
      by_cases hw : whenI (decide (mi ≥ (ms.length : Int))) 10 = 0
      · rw [if_pos hw, hw]; rfl
      · rw [if_neg hw]; rfl
  · rw [if_neg h0]
    simp only [firstNZ, if_neg h0]
end Go.Proofs.YtojmcpnpojdnmaaGreatDoor
/-
  Plain lists: an insertion sort by swaps, and that a list that is in order is the only one with its members. An own text.
-/
set_option maxRecDepth 20000
namespace Go.Proofs.YtojmcpnpojdnmaaGreatDoor
open Go.SX

/-- The order of indices by a key, and then by themselves. -/
def Ord (key : Nat → Int) (i j : Nat) : Prop := key i < key j ∨ (key i = key j ∧ i < j)
instance (key : Nat → Int) (i j : Nat) : Decidable (Ord key i j) := by unfold Ord; infer_instance
theorem Ord.irrefl {key : Nat → Int} {i : Nat} : ¬ Ord key i i := by unfold Ord; omega
theorem Ord.asymm {key : Nat → Int} {i j : Nat} (h : Ord key i j) : ¬ Ord key j i := by unfold Ord at *; omega
theorem Ord.trans {key : Nat → Int} {i j k : Nat} (h : Ord key i j) (h' : Ord key j k) : Ord key i k := by unfold Ord at *; omega
theorem Ord.total {key : Nat → Int} {i j : Nat} (h : ¬ Ord key i j) (hne : i ≠ j) : Ord key j i := by unfold Ord at *; omega

theorem ord_unique {key : Nat → Int} : ∀ {a b : List Nat}, a.Pairwise (Ord key) → b.Pairwise (Ord key) → (∀ x, x ∈ a ↔ x ∈ b) → a = b
  | [], [], _, _, _ => rfl
  | [], y :: b, _, _, h => absurd ((h y).2 List.mem_cons_self) (by simp)
  | x :: a, [], _, _, h => absurd ((h x).1 List.mem_cons_self) (by simp)
  | x :: a, y :: b, ha, hb, h => by
    rw [List.pairwise_cons] at ha hb
    have hxy : x = y := by
      rcases List.mem_cons.1 ((h x).1 List.mem_cons_self) with e | e
      · exact e
      · rcases List.mem_cons.1 ((h y).2 List.mem_cons_self) with e' | e'
        · exact e'.symm
        · exact absurd (ha.1 y e') (Ord.asymm (hb.1 x e))
    subst hxy
    rw [ord_unique ha.2 hb.2 fun z => by
      constructor
      · intro hz
        rcases List.mem_cons.1 ((h z).1 (List.mem_cons_of_mem _ hz)) with e | e
        · subst e; exact absurd (ha.1 z hz) Ord.irrefl
        · exact e
      · intro hz
        rcases List.mem_cons.1 ((h z).2 (List.mem_cons_of_mem _ hz)) with e | e
        · subst e; exact absurd (hb.1 z hz) Ord.irrefl
        · exact e]

/-- x goes to the left, past what comes behind it: 'ps' are those before it, the last one first. -/
def insR (key : Nat → Int) : List Nat → Nat → List Nat → List Nat
  | [], x, r => x :: r
  | p :: ps, x, r => if Ord key x p then insR key ps x (p :: r) else (p :: ps).reverse ++ x :: r
theorem insR_app (key : Nat → Int) : ∀ (ps : List Nat) (x : Nat) (r s : List Nat), insR key ps x (r ++ s) = insR key ps x r ++ s
  | [], x, r, s => rfl
  | p :: ps, x, r, s => by
    unfold insR
    split
    · rw [← List.cons_append, insR_app key ps]
    · simp
theorem insR_mem {key : Nat → Int} : ∀ (ps : List Nat) (x : Nat) (r : List Nat) (y : Nat), y ∈ insR key ps x r ↔ y ∈ ps ∨ y = x ∨ y ∈ r
  | [], x, r, y => by unfold insR; simp
  | p :: ps, x, r, y => by
    unfold insR
    split
    · rw [insR_mem ps]; simp only [List.mem_cons]
      constructor
      · rintro (h | h | h | h) <;> simp_all
      · rintro ((h | h) | h | h) <;> simp_all
    · simp only [List.mem_append, List.mem_reverse, List.mem_cons]
theorem insR_len (key : Nat → Int) : ∀ (ps : List Nat) (x : Nat) (r : List Nat), (insR key ps x r).length = ps.length + 1 + r.length
  | [], x, r => by simp [insR]; omega
  | p :: ps, x, r => by
    unfold insR
    split
    · rw [insR_len key ps]; simp; omega
    · simp; omega
theorem insR_ord {key : Nat → Int} : ∀ (ps : List Nat) (x : Nat) (r : List Nat), (ps.reverse ++ r).Pairwise (Ord key) → (∀ y, y ∈ r → Ord key x y) → x ∉ ps → (insR key ps x r).Pairwise (Ord key)
  | [], x, r, h, hr, _ => by
    unfold insR
    rw [List.pairwise_cons]
    exact ⟨hr, by simpa using h⟩
  | p :: ps, x, r, h, hr, hx => by
    unfold insR
    split
    · rename_i hlt
      refine insR_ord ps x (p :: r) (by simpa [List.append_assoc] using h) (fun y hy => ?_) (fun hm => hx (List.mem_cons_of_mem _ hm))
      rcases List.mem_cons.1 hy with rfl | hy
      · exact hlt
      · exact hr y hy
    · rename_i hlt
      have hpx : Ord key p x := Ord.total hlt (fun e => hx (by rw [e]; exact List.mem_cons_self))
      rw [List.pairwise_append] at h ⊢
      refine ⟨h.1, ?_, fun a ha b hb => ?_⟩
      · rw [List.pairwise_cons]; exact ⟨hr, h.2.1⟩
      · rcases List.mem_cons.1 hb with rfl | hb
        · have ha' : a ∈ p :: ps := by simpa [or_comm] using ha
          rcases List.mem_cons.1 ha' with rfl | ha'
          · exact hpx
          · have h1 := h.1
            rw [List.reverse_cons, List.pairwise_append] at h1
            exact (h1.2.2 a (by simpa using ha') p (by simp)).trans hpx
        · exact h.2.2 a ha b hb

def insG (key : Nat → Int) (s : List Nat) (x : Nat) : List Nat := insR key s.reverse x []
def srt (key : Nat → Int) (l : List Nat) : List Nat := l.foldl (insG key) []
theorem srt_from {key : Nat → Int} : ∀ (l s : List Nat), s.Pairwise (Ord key) → (s ++ l).Nodup → (l.foldl (insG key) s).Pairwise (Ord key) ∧ (∀ x, x ∈ l.foldl (insG key) s ↔ x ∈ s ∨ x ∈ l) ∧ (l.foldl (insG key) s).length = s.length + l.length
  | [], s, hs, _ => ⟨hs, fun x => by simp, by simp⟩
  | x :: l, s, hs, hn => by
    have hxs : x ∉ s := fun h => by
      rw [List.nodup_append] at hn
      exact hn.2.2 x h x List.mem_cons_self rfl
    have h1 : (insG key s x).Pairwise (Ord key) := insR_ord s.reverse x [] (by simpa using hs) (fun y hy => by cases hy) (by simpa using hxs)
    have hmem : ∀ y, y ∈ insG key s x ↔ y ∈ s ∨ y = x := fun y => by unfold insG; rw [insR_mem]; simp
    have h2 : (insG key s x ++ l).Nodup := by
      rw [List.nodup_append] at hn ⊢
      refine ⟨h1.imp fun h => ?_, (List.nodup_cons.1 hn.2.1).2, fun a ha b hb hab => ?_⟩
      · intro e; subst e; exact Ord.irrefl h
      · subst hab
        rcases (hmem a).1 ha with h | h
        · exact hn.2.2 a h a (List.mem_cons_of_mem _ hb) rfl
        · subst h; exact (List.nodup_cons.1 hn.2.1).1 hb
    obtain ⟨k1, k2, k3⟩ := srt_from l (insG key s x) h1 h2
    refine ⟨k1, fun y => ?_, ?_⟩
    · show y ∈ l.foldl (insG key) (insG key s x) ↔ _
      rw [k2, hmem]; simp only [List.mem_cons]
      constructor
      · rintro ((h | h) | h) <;> simp_all
      · rintro (h | h | h) <;> simp_all
    · show (l.foldl (insG key) (insG key s x)).length = _
      rw [k3]; unfold insG; rw [insR_len]; simp; omega
theorem srt_ok {key : Nat → Int} {l : List Nat} (h : l.Nodup) : (srt key l).Pairwise (Ord key) ∧ (∀ x, x ∈ srt key l ↔ x ∈ l) ∧ (srt key l).length = l.length := by
  obtain ⟨h1, h2, h3⟩ := srt_from (key := key) l [] List.Pairwise.nil (by simpa using h)
  exact ⟨h1, fun x => by rw [show srt key l = l.foldl (insG key) [] from rfl, h2]; simp, by rw [show srt key l = l.foldl (insG key) [] from rfl, h3]; simp⟩
theorem srt_eq {key : Nat → Int} {l b : List Nat} (h : l.Nodup) (hb : b.Pairwise (Ord key)) (hm : ∀ x, x ∈ b ↔ x ∈ l) : srt key l = b :=
  ord_unique (srt_ok h).1 hb fun x => by rw [(srt_ok h).2.1, hm]

/-! The loops that sort. -/
theorem nth_mid {α : Type} (a : List α) (x : α) (r : List α) : nth (a ++ x :: r) a.length = some x := by
  rw [nth_get?, List.getElem?_append_right (Nat.le_refl _)]; simp
theorem set_mid {α : Type} (a : List α) (x y : α) (r : List α) : List.set (a ++ x :: r) a.length y = a ++ y :: r := by
  rw [List.set_append_right _ _ (Nat.le_refl _)]; simp
/-- The inner loop. -/
theorem inner_run {key : Nat → Int} {enc : Nat → D} {f : Int × List D → Option ((Int × List D) ⊕ List D)}
    (h0 : ∀ l, f (0, l) = some (.inr l))
    (hs : ∀ (a : List Nat) (p x : Nat) (r : List Nat), (a ++ p :: x :: r).length ≤ 64 → f (((a.length + 1 : Nat) : Int), (a ++ p :: x :: r).map enc) = if Ord key x p then some (.inl ((a.length : Int), (a ++ x :: p :: r).map enc)) else some (.inr ((a ++ p :: x :: r).map enc))) :
    ∀ (ps : List Nat) (x : Nat) (r : List Nat) (k : Nat), (ps.length + 1 + r.length ≤ 64) → ps.length < k → loopF f k ((ps.length : Int), (ps.reverse ++ x :: r).map enc) = some ((insR key ps x r).map enc)
  | [], x, r, k, hl, hk => by
    obtain ⟨k, rfl⟩ : ∃ j, k = j + 1 := ⟨k - 1, by omega⟩
    rw [loopF_r (e := ((insR key [] x r).map enc)) (by exact h0 _)]
  | p :: ps, x, r, k, hl, hk => by
    obtain ⟨k, rfl⟩ : ∃ j, k = j + 1 := ⟨k - 1, by omega⟩
    have h1 := hs ps.reverse p x r (by simp at hl ⊢; omega)
    have h2 : (p :: ps).reverse ++ x :: r = ps.reverse ++ p :: x :: r := by simp
    rw [h2]
    rw [List.length_reverse] at h1
    show loopF f (k + 1) (((ps.length + 1 : Nat) : Int), (ps.reverse ++ p :: x :: r).map enc) = _
    unfold insR
    by_cases hlt : Ord key x p
    · rw [if_pos hlt] at h1
      rw [loopF_l (s' := ((ps.length : Int), (ps.reverse ++ x :: p :: r).map enc)) h1, if_pos hlt]
      exact inner_run h0 hs ps x (p :: r) k (by simp at hl ⊢; omega) (by simp at hk; omega)
    · rw [if_neg hlt] at h1
      rw [loopF_r h1, if_neg hlt, h2]
/-- The outer loop. -/
theorem outer_run {key : Nat → Int} {enc : Nat → D} {N : Nat} {f : Int × List D → Option ((Int × List D) ⊕ List D)}
    (he : ∀ l : List D, l.length = N → ∀ i : Int, (N : Int) ≤ i → f (i, l) = some (.inr l))
    (hs : ∀ (s : List Nat) (x : Nat) (t : List Nat), s ≠ [] → (s ++ x :: t).length = N → f ((s.length : Int), (s ++ x :: t).map enc) = some (.inl (((s.length + 1 : Nat) : Int), (insR key s.reverse x t).map enc))) :
    ∀ (t s : List Nat) (k : Nat), s ≠ [] → (s ++ t).length = N → t.length < k → loopF f k ((s.length : Int), (s ++ t).map enc) = some ((t.foldl (insG key) s).map enc)
  | [], s, k, hne, hl, hk => by
    obtain ⟨k, rfl⟩ : ∃ j, k = j + 1 := ⟨k - 1, by omega⟩
    rw [List.append_nil] at hl ⊢
    rw [loopF_r (he _ (by simpa using hl) _ (by omega))]; rfl
  | x :: t, s, k, hne, hl, hk => by
    obtain ⟨k, rfl⟩ : ∃ j, k = j + 1 := ⟨k - 1, by omega⟩
    rw [loopF_l (hs s x t hne hl)]
    have h1 : insR key s.reverse x t = insG key s x ++ t := by
      unfold insG; rw [← insR_app]; simp
    have h2 : (insG key s x).length = s.length + 1 := by unfold insG; rw [insR_len]; simp
    rw [h1, ← h2]
    exact outer_run he hs t (insG key s x) k (fun e => by rw [e] at h2; simp at h2) (by simp at hl ⊢; omega) (by simp at hk; omega)
theorem sort_run {key : Nat → Int} {enc : Nat → D} {l : List Nat} {f : Int × List D → Option ((Int × List D) ⊕ List D)}
    (he : ∀ d : List D, d.length = l.length → ∀ i : Int, (l.length : Int) ≤ i → f (i, d) = some (.inr d))
    (hs : ∀ (s : List Nat) (x : Nat) (t : List Nat), s ≠ [] → (s ++ x :: t).length = l.length → f ((s.length : Int), (s ++ x :: t).map enc) = some (.inl (((s.length + 1 : Nat) : Int), (insR key s.reverse x t).map enc)))
    {k : Nat} (hk : l.length < k) : loopF f k (1, l.map enc) = some ((srt key l).map enc) := by
  cases l with
  | nil =>
    obtain ⟨k, rfl⟩ : ∃ j, k = j + 1 := ⟨k - 1, by omega⟩
    rw [loopF_r (he _ rfl 1 (by simp))]; rfl
  | cons x t =>
    have := outer_run he hs t [x] k (by simp) (by simp) (by simp at hk; omega)
    exact this
end Go.Proofs.YtojmcpnpojdnmaaGreatDoor
/-
  The sort of ranked mirrors is an insertion sort: indices by their keys. An own text.
-/
set_option maxRecDepth 20000
namespace Go.Proofs.YtojmcpnpojdnmaaGreatDoor
open Go.SX

def cmpI (a b : Int) : Int := if a < b then -1 else if a > b then 1 else 0
theorem compare_eq (n : Nat) (a b : Int) : F_cmp_Compare_g n a b = some (cmpI a b) := by
  unfold F_cmp_Compare_g F_cmp_isNaN_g cmpI
  rw [Option.bind_some, Option.bind_some, if_neg (by simp), if_neg (by simp)]
  split
  · rfl
  · split <;> rfl
theorem or_eq {n : Nat} (ms : List Int) (hm : ms.length < 9223372036854775807) (hn : ms.length < n) : F_cmp_Or_g n (ms.map I) = some (firstNZ ms) := by
  unfold F_cmp_Or_g
  have := loopF_list0 (step := F_cmp_Or_g_L1 n (ms.map I)) fG (fun _ => .inr ()) (fun i _ => (i : Int)) ms (fun _ _ => True)
    (fun i s x hx _ => by
      unfold fG F_cmp_Or_g_L1
      have hi := (List.getElem?_eq_some_iff.1 hx).1
      by_cases h : x = 0
      · rw [if_pos h]
        refine ⟨?_, trivial⟩
        rw [if_pos (lenlt hx), el_map hx, Option.bind_some, if_pos h, if_pos (by unfold inI64; omega)]; rfl
      · rw [if_neg h]
        dsimp only
        rw [if_pos (lenlt hx), el_map hx, Option.bind_some, if_neg h])
    (fun s _ => by unfold F_cmp_Or_g_L1; rw [if_neg (by simp)]) (s := ()) trivial hn
  rw [show (0 : Int) = ((0 : Nat) : Int) from rfl, this, runL_first]
  by_cases h : firstNZ ms = 0
  · rw [if_pos h, h]; rfl
  · rw [if_neg h]; rfl

/-- A mirror with its key and its index. -/
def tupK (f : Nat → Mir) (key : Nat → Int) (i : Nat) : ByteArray × Int × Int × Int × Int × Int × Int × Int × Int × Int × Int × Int :=
  ((f i).name, (f i).c.1, (f i).c.2.1, (f i).c.2.2, (f i).u.1, (f i).u.2.1, (f i).u.2.2, (f i).v.1, (f i).v.2.1, (f i).v.2.2, key i, (i : Int))
def encK (f : Nat → Mir) (key : Nat → Int) (i : Nat) : D :=
  .agg [.v (.string (f i).name), I (f i).c.1, I (f i).c.2.1, I (f i).c.2.2, I (f i).u.1, I (f i).u.2.1, I (f i).u.2.2, I (f i).v.1, I (f i).v.2.1, I (f i).v.2.2, I (key i), I (i : Int)]
theorem unK (f : Nat → Mir) (key : Nat → Int) (i : Nat) : un_Asi11Z (encK f key i) = some (tupK f key i) := rfl
def cmpK (key : Nat → Int) (x p : Nat) : Int := firstNZ [cmpI (key x) (key p), cmpI (x : Int) (p : Int)]
theorem cmpK_lt (key : Nat → Int) (x p : Nat) : cmpK key x p < 0 ↔ Ord key x p := by
  unfold cmpK cmpI Ord
  simp only [firstNZ]
  constructor
  · intro h
    repeat' split at h
    all_goals omega
  · intro h
    repeat' split
    all_goals omega
theorem rank_cmp {n : Nat} (hn : 10 ≤ n) {f : Nat → Mir} {key : Nat → Int} (x p : Nat) :
    F_field_ranked_compare n (f x).name (f x).c.1 (f x).c.2.1 (f x).c.2.2 (f x).u.1 (f x).u.2.1 (f x).u.2.2 (f x).v.1 (f x).v.2.1 (f x).v.2.2 (key x) (x : Int)
      (f p).name (f p).c.1 (f p).c.2.1 (f p).c.2.2 (f p).u.1 (f p).u.2.1 (f p).u.2.2 (f p).v.1 (f p).v.2.1 (f p).v.2.2 (key p) (p : Int) = some (cmpK key x p) := by
  unfold F_field_ranked_compare
  rw [compare_eq, Option.bind_some, compare_eq, Option.bind_some]
  have := or_eq (n := n) [cmpI (key x) (key p), cmpI (x : Int) (p : Int)] (by simp) (by simp; omega)
  simp only [List.map_cons, List.map_nil] at this
  rw [this]; rfl

theorem nth_map {enc : Nat → D} {l : List Nat} {i x : Nat} (h : l[i]? = some x) : nth (l.map enc) i = some (enc x) := by
  rw [nth_get?, List.getElem?_map, h]; rfl
theorem set_two (enc : Nat → D) (a : List Nat) (p x : Nat) (r : List Nat) :
    List.set (List.set ((a ++ p :: x :: r).map enc) (a.length + 1) (enc p)) a.length (enc x) = (a ++ x :: p :: r).map enc := by
  have h1 : List.set ((a ++ p :: x :: r).map enc) (a.length + 1) (enc p) = (a ++ p :: p :: r).map enc := by
    rw [← List.map_set]
    congr 1
    have := set_mid (a ++ [p]) x p r
    simpa using this
  rw [h1, ← List.map_set, set_mid]
theorem inner_eq {n : Nat} (hn : 100 ≤ n) (a0 : List D) (sb : Int × List D) {f : Nat → Mir} {key : Nat → Int} (a : List Nat) (p x : Nat) (r : List Nat) (hl : (a ++ p :: x :: r).length ≤ 64) :
    F_field_indices_L2 n a0 sb (((a.length + 1 : Nat) : Int), (a ++ p :: x :: r).map (encK f key)) =
      if Ord key x p then some (.inl ((a.length : Int), (a ++ x :: p :: r).map (encK f key))) else some (.inr ((a ++ p :: x :: r).map (encK f key))) := by
  have n1 : nth ((a ++ p :: x :: r).map (encK f key)) (a.length + 1) = some (encK f key x) := nth_map (by rw [List.getElem?_append_right (by omega)]; simp)
  have n2 : nth ((a ++ p :: x :: r).map (encK f key)) a.length = some (encK f key p) := nth_map (by rw [List.getElem?_append_right (by omega)]; simp)
  have e2 : (((a.length + 1 : Nat) : Int) - 1) = (a.length : Int) := by omega
  have hlen : ((a ++ p :: x :: r).map (encK f key)).length = a.length + 2 + r.length := by simp; omega
  have hl2 : a.length + 2 + r.length ≤ 64 := by simp at hl; omega
  have hset := set_two (encK f key) a p x r
  generalize (a ++ p :: x :: r).map (encK f key) = M at *
  unfold F_field_indices_L2
  dsimp only
  rw [if_pos (by omega), if_pos (by omega), Int.toNat_natCast, n1, Option.bind_some, unK, Option.bind_some, if_pos (by unfold inI64; omega), e2, if_pos (by omega), Int.toNat_natCast, n2, Option.bind_some, unK, Option.bind_some]
  show (F_field_ranked_compare n (f x).name (f x).c.1 (f x).c.2.1 (f x).c.2.2 (f x).u.1 (f x).u.2.1 (f x).u.2.2 (f x).v.1 (f x).v.2.1 (f x).v.2.2 (key x) (x : Int)
      (f p).name (f p).c.1 (f p).c.2.1 (f p).c.2.2 (f p).u.1 (f p).u.2.1 (f p).u.2.2 (f p).v.1 (f p).v.2.1 (f p).v.2.2 (key p) (p : Int)).bind _ = _
  rw [rank_cmp (by omega), Option.bind_some]
  by_cases h : Ord key x p
  · rw [if_pos ((cmpK_lt key x p).2 h), if_pos h, if_pos (by omega), if_pos (by rw [List.length_set]; omega), if_pos (by rw [List.length_set]; omega)]
    exact congrArg (fun z => some (Sum.inl ((a.length : Int), z))) hset
  · rw [if_neg (fun q => h ((cmpK_lt key x p).1 q)), if_neg h]

theorem big_eq (a : List D) (z : D) : (a.take (List.replicate (Int.toNat (a.length : Int)) z).length ++ (List.replicate (Int.toNat (a.length : Int)) z).drop a.length) = a := by simp
theorem outer_eq {n : Nat} (hn : 100 ≤ n) {f : Nat → Mir} {key : Nat → Int} {l : List Nat} (hl : l.length ≤ 12) {A : List D} (hA : A.length = l.length) (s : List Nat) (x : Nat) (t : List Nat) (hL : (s ++ x :: t).length = l.length) :
    F_field_indices_L3 n A ((s.length : Int), (s ++ x :: t).map (encK f key)) = some (.inl (((s.length + 1 : Nat) : Int), (insR key s.reverse x t).map (encK f key))) := by
  have hlen : s.length + 1 + t.length = l.length := by simp at hL; omega
  have hrun := inner_run (key := key) (enc := encK f key) (f := F_field_indices_L2 n A ((s.length : Int), (s ++ x :: t).map (encK f key)))
    (fun d => by unfold F_field_indices_L2; dsimp only; rw [if_neg (by simp)])
    (fun a p y r h => inner_eq hn A _ a p y r h) s.reverse x t n (by simp; omega) (by simp; omega)
  rw [List.reverse_reverse, List.length_reverse] at hrun
  unfold F_field_indices_L3
  dsimp only
  rw [big_eq, if_pos (by omega), hrun, Option.bind_some, if_pos (by unfold inI64; omega)]; rfl
theorem len_eq (n : Nat) : ∀ k : Nat, k ≤ 12 → ∃ t, F_math_bits_Len n (IntKind.wrap .u64 (k : Int)) = some t
  | 0, _ => ⟨0, by kernel_rfl⟩
  | 1, _ => ⟨1, by kernel_rfl⟩
  | 2, _ => ⟨2, by kernel_rfl⟩
  | 3, _ => ⟨2, by kernel_rfl⟩
  | 4, _ => ⟨3, by kernel_rfl⟩
  | 5, _ => ⟨3, by kernel_rfl⟩
  | 6, _ => ⟨3, by kernel_rfl⟩
  | 7, _ => ⟨3, by kernel_rfl⟩
  | 8, _ => ⟨4, by kernel_rfl⟩
  | 9, _ => ⟨4, by kernel_rfl⟩
  | 10, _ => ⟨4, by kernel_rfl⟩
  | 11, _ => ⟨4, by kernel_rfl⟩
  | 12, _ => ⟨4, by kernel_rfl⟩
  | k + 13, h => by omega
def encI (i : Nat) : D := I (i : Int)
theorem indices_eq {n : Nat} (hn : 100 ≤ n) {f : Nat → Mir} {key : Nat → Int} {l : List Nat} (hl : l.length ≤ 12) (hnd : l.Nodup) :
    F_field_indices n (l.map (encK f key)) = some ((srt key l).map encI) := by
  unfold F_field_indices
  have hA : (l.map (encK f key)).length = l.length := by simp
  obtain ⟨t, ht⟩ := len_eq n l.length hl
  have hs := sort_run (key := key) (enc := encK f key) (l := l) (f := F_field_indices_L3 n (l.map (encK f key)))
    (fun d hd i hi => by unfold F_field_indices_L3; dsimp only; rw [big_eq, if_neg (by omega)])
    (fun s x t _ hL => outer_eq hn hl hA s x t hL) (k := n) (by omega)
  have h4 : loopF (F_field_indices_L4 n (l.map (encK f key)) t) n () = some ((srt key l).map (encK f key)) := by
    obtain ⟨n', rfl⟩ : ∃ n', n = n' + 1 := ⟨n - 1, by omega⟩
    refine loopF_r ?_
    unfold F_field_indices_L4
    rw [big_eq, if_pos (by unfold inI64; omega), if_pos (by omega), hs]; rfl
  have hsl := (srt_ok (key := key) hnd).2.2
  have h5 := loopF_list0 (step := F_field_indices_L5 n ((srt key l).map (encK f key))) (fun (s : List D) (i : Nat) => (.inl (s ++ [encI i]) : List D ⊕ List D)) id
    (fun i s => ((i : Int), s)) (srt key l) (fun i s => s.length = i)
    (fun i s x hx hi => by
      have hlt := (List.getElem?_eq_some_iff.1 hx).1
      refine ⟨?_, by simp [hi]⟩
      unfold F_field_indices_L5
      dsimp only
      have hll := lenlt (f := encK f key) hx
      rw [if_pos hll, if_pos ⟨by omega, hll⟩, Int.toNat_natCast, nth_map hx, Option.bind_some, unK, Option.bind_some, if_pos (by unfold roomP; omega), if_pos (by unfold inI64; omega)]; rfl)
    (fun s _ => by unfold F_field_indices_L5; dsimp only; rw [if_neg (by simp)]; rfl) (s := []) (k := n) rfl (by omega)
  rw [runL_app] at h5
  rw [big_eq, hA, if_pos (by omega), ht, Option.bind_some, h4, Option.bind_some]
  rw [show ((0 : Int), ([] : List D)) = (((0 : Nat) : Int), []) from rfl, h5]; rfl
end Go.Proofs.YtojmcpnpojdnmaaGreatDoor
/-
  Plain lemmas of chapter 4: lists of indices, and what the law says of two of them. An own text.
-/
set_option maxRecDepth 20000
namespace Go.Proofs.YtojmcpnpojdnmaaGreatDoor
open Go.SX
def nilM : Mir := ⟨ByteArray.empty, (0, 0, 0), (0, 0, 0), (0, 0, 0)⟩
def atM (ms : List Mir) (i : Nat) : Mir := (ms[i]?).getD nilM
theorem atM_eq {ms : List Mir} {i : Nat} {m : Mir} (h : ms[i]? = some m) : atM ms i = m := by unfold atM; rw [h]; rfl
theorem rangeAt {m i k : Nat} (h : (List.range m)[i]? = some k) : k = i ∧ i < m := by
  obtain ⟨h1, h2⟩ := List.getElem?_eq_some_iff.1 h
  simp at h1 h2
  exact ⟨h2.symm, h1⟩
theorem el_I {l : List Nat} {i x : Nat} (h : l[i]? = some x) : el un_i (l.map encI) (i : Int) = some (x : Int) := by
  have := el_enc (un := un_i) (enc := I) (fun _ => rfl) (l := l.map fun y : Nat => (y : Int)) (i := i) (x := (x : Int)) (by rw [List.getElem?_map, h]; rfl)
  rw [List.map_map] at this
  exact this
theorem same_I {n : Nat} (l : List Nat) (hl : l.length ≤ 64) (hn : 100 ≤ n) : F_ref01_SameInts n (l.map encI) (l.map encI) = some true := by
  unfold F_ref01_SameInts
  rw [if_pos rfl]
  have key : ∀ (l : List Nat), runL (fun (_ : Unit) (_ : Nat) => (.inl () : Unit ⊕ (Unit ⊕ Unit))) (fun _ => .inr ()) l () = .inr () := by
    intro l
    induction l with
    | nil => rfl
    | cons p l ih => unfold runL; exact ih
  have := loopF_list0 (step := F_ref01_SameInts_L1 n (l.map encI) (l.map encI)) (fun (_ : Unit) (_ : Nat) => (.inl () : Unit ⊕ (Unit ⊕ Unit))) (fun _ => .inr ()) (fun i _ => (i : Int)) l (fun _ _ => True)
    (fun k s x hx _ => by
      have hk := (List.getElem?_eq_some_iff.1 hx).1
      refine ⟨?_, trivial⟩
      unfold F_ref01_SameInts_L1
      rw [if_pos (lenlt (f := encI) hx), el_I hx, Option.bind_some, Option.bind_some, if_pos rfl, if_pos (by unfold inI64; omega)]; rfl)
    (fun s _ => by unfold F_ref01_SameInts_L1; rw [if_neg (by simp)]) (s := ()) (k := n) trivial (by omega)
  rw [show (0 : Int) = ((0 : Nat) : Int) from rfl, this, key, Option.bind_some]
theorem numbers_bad (n : Nat) {e : Int} (h : ¬ e = 0) : F_law04_numbers n [] e e [] = some true := by
  unfold F_law04_numbers
  rw [if_pos rfl, if_neg h, if_pos (by simp)]
theorem numbers_ok {n : Nat} (l : List Nat) (hl : l.length ≤ 64) (hn : 100 ≤ n) : F_law04_numbers n (l.map encI) 0 0 (l.map encI) = some true := by
  unfold F_law04_numbers
  rw [if_pos rfl, if_pos rfl, same_I l hl hn]; rfl
end Go.Proofs.YtojmcpnpojdnmaaGreatDoor
/-
  Plain law of FieldNear: the nearest mirrors by a sort are those that the reference picks one after the other. An own text.
-/
set_option maxRecDepth 20000
namespace Go.Proofs.YtojmcpnpojdnmaaGreatDoor
open Go.SX

def gap (x m : Mir) : Vec := vplus x.c (vtimes (-1) m.c)
def apartM (x m : Mir) : Int := vdot (gap x m) (gap x m)
def nearK (ms : List Mir) (m : Mir) (i : Nat) : Int := apartM (atM ms i) m
structure GB (x m : Mir) : Prop where
  t : Bd 4096 (vtimes (-1) m.c)
  p : Bd 8192 (gap x m)
  d : DotB 67108864 (gap x m) (gap x m)
theorem GB.of {x m : Mir} (hx : x.Ok) (hm : m.Ok) : GB x m := by
  have h1 : Bd 4096 (vtimes (-1) m.c) := Bd.times (K := 1) (by decide) hm.c (by decide) (by decide) (by decide)
  have h2 : Bd 8192 (gap x m) := (hx.c.plus h1).mono (by decide)
  exact ⟨h1, h2, h2.dot h2 (by decide) (by decide) (by decide)⟩
def othersL (ms : List Mir) (q : Nat) : List Nat := (List.range ms.length).filter (fun i => decide (i ≠ q))
theorem others_nd (ms : List Mir) (q : Nat) : (othersL ms q).Nodup := List.Pairwise.filter _ List.nodup_range
theorem others_mem {ms : List Mir} {q i : Nat} : i ∈ othersL ms q ↔ i < ms.length ∧ i ≠ q := by
  unfold othersL; simp
theorem others_len {ms : List Mir} {q : Nat} (hq : q < ms.length) : (othersL ms q).length + 1 = ms.length := by
  unfold othersL
  have h1 : ((List.range ms.length).filter (fun i => decide (i ≠ q))) = (List.range ms.length).erase q := by
    rw [List.Nodup.erase_eq_filter List.nodup_range]
    congr 1
    funext i
    by_cases h : i = q <;> simp [h]
  rw [h1, List.length_erase_of_mem (List.mem_range.2 hq), List.length_range]; omega
theorem runL_flt (p : Nat → Bool) (enc : List Nat → List D) : ∀ (l s : List Nat), runL (fun (s : List Nat) (i : Nat) => (.inl (if p i = true then s ++ [i] else s) : List Nat ⊕ List D)) enc l s = enc (s ++ l.filter p)
  | [], s => by simp [runL]
  | x :: l, s => by
    unfold runL
    dsimp only
    rw [runL_flt p enc l]
    by_cases h : p x = true
    · rw [if_pos h, List.filter_cons_of_pos h]; simp
    · rw [if_neg h, List.filter_cons_of_neg h]

theorem near_loop {n : Nat} (hn : 100 ≤ n) {ms : List Mir} (hl : ms.length ≤ 64) (ho : ∀ m, m ∈ ms → m.Ok) {q : Nat} {m : Mir} (hq : ms[q]? = some m) (a2 : Int) :
    loopF (F_field_Neighbours_L1 n (ms.map encM) (q : Int) a2) n (0, []) = some ((othersL ms q).map (encK (atM ms) (nearK ms m))) := by
  have := loopF_list0 (step := F_field_Neighbours_L1 n (ms.map encM) (q : Int) a2) (fun (s : List Nat) (i : Nat) => (.inl (if decide (i ≠ q) = true then s ++ [i] else s) : List Nat ⊕ List D)) (fun s => s.map (encK (atM ms) (nearK ms m)))
    (fun i s => ((i : Int), s.map (encK (atM ms) (nearK ms m)))) (List.range ms.length) (fun i s => s.length ≤ i)
    (fun i s x hx hi => by
      obtain ⟨rfl, hxk⟩ := rangeAt hx
      have hx' := List.getElem?_eq_getElem hxk
      have hmem := List.getElem_mem hxk
      generalize ms[x] = mx at hx' hmem
      have b := GB.of (ho mx hmem) (ho m (List.mem_of_getElem? hq))
      have hk : encK (atM ms) (nearK ms m) x = .agg [.v (.string mx.name), I mx.c.1, I mx.c.2.1, I mx.c.2.2, I mx.u.1, I mx.u.2.1, I mx.u.2.2, I mx.v.1, I mx.v.2.1, I mx.v.2.2, I (vdot (gap mx m) (gap mx m)), I (x : Int)] := by
        unfold encK nearK apartM
        rw [atM_eq hx']
      dsimp only
      unfold F_field_Neighbours_L1
      dsimp only
      rw [if_pos (lenlt (f := encM) hx'), elM hx', Option.bind_some, elM hq, Option.bind_some]
      dsimp only [Mir.tup]
      rw [times_eq n (k := -1) b.t (by decide), Option.bind_some, plus_eq n (u := mx.c) (v := vtimes (-1) m.c) b.p (by decide), Option.bind_some]
      show (F_field_dot n (gap mx m).1 (gap mx m).2.1 (gap mx m).2.2 (gap mx m).1 (gap mx m).2.1 (gap mx m).2.2).bind _ = _ ∧ _
      rw [dot_eq n b.d (by decide), Option.bind_some]
      by_cases h : x = q
      · rw [if_pos (by omega), if_pos (by unfold inI64; omega), if_neg (by simpa using h)]
        exact ⟨rfl, by omega⟩
      · rw [if_neg (by omega), if_pos (by unfold roomP; rw [List.length_map]; omega), if_pos (by unfold inI64; omega), if_pos (by simpa using h), List.map_append]
        refine ⟨?_, by simp; omega⟩
        rw [List.map_cons, List.map_nil, hk]; rfl)
    (fun s _ => by unfold F_field_Neighbours_L1; dsimp only; rw [if_neg (by simp)]) (s := []) (k := n) (by simp) (by simp; omega)
  rw [show ((0 : Int), ([] : List D)) = (((0 : Nat) : Int), ([] : List Nat).map (encK (atM ms) (nearK ms m))) from rfl, this, runL_flt]; rfl

/-! The reference. -/
theorem refApart_eq (n : Nat) {x m : Mir} (b : GB x m) : F_ref04_Apartness n x.name x.c.1 x.c.2.1 x.c.2.2 x.u.1 x.u.2.1 x.u.2.2 x.v.1 x.v.2.1 x.v.2.2 m.name m.c.1 m.c.2.1 m.c.2.2 m.u.1 m.u.2.1 m.u.2.2 m.v.1 m.v.2.1 m.v.2.2 = some (apartM x m) := by
  unfold F_ref04_Apartness
  rw [refTimes_eq n (k := -1) b.t (by decide), Option.bind_some, refPlus_eq n (u := x.c) (v := vtimes (-1) m.c) b.p (by decide), Option.bind_some]
  show (F_ref04_Dot n (gap x m).1 (gap x m).2.1 (gap x m).2.2 (gap x m).1 (gap x m).2.1 (gap x m).2.2).bind _ = _
  rw [refDot_eq n b.d (by decide)]; rfl
theorem hasInt_eq {n : Nat} (l : List Nat) (i : Nat) (hl : l.length ≤ 64) (hn : 100 ≤ n) : F_ref01_HasInt_2 n (l.map encI) (i : Int) = some (decide (i ∈ l)) := by
  unfold F_ref01_HasInt_2
  have key : ∀ (l : List Nat), runL (fun (_ : Unit) (x : Nat) => (if x = i then .inr (.inl ()) else .inl () : Unit ⊕ (Unit ⊕ Unit))) (fun _ => .inr ()) l () = if i ∈ l then .inl () else .inr () := by
    intro l
    induction l with
    | nil => rfl
    | cons p l ih =>
      unfold runL
      by_cases h : p = i
      · rw [if_pos h]; simp [h]
      · rw [if_neg h]
        dsimp only
        rw [ih]
        have h' : ¬ i = p := fun e => h e.symm
        simp [h']
  have := loopF_list0 (step := F_ref01_HasInt_2_L1 n (l.map encI) (i : Int)) (fun (_ : Unit) (x : Nat) => (if x = i then .inr (.inl ()) else .inl () : Unit ⊕ (Unit ⊕ Unit))) (fun _ => .inr ()) (fun i _ => (i : Int)) l (fun _ _ => True)
    (fun k s x hx _ => by
      have hk := (List.getElem?_eq_some_iff.1 hx).1
      unfold F_ref01_HasInt_2_L1
      by_cases h : x = i
      · rw [if_pos h]
        dsimp only
        rw [if_pos (lenlt (f := encI) hx), el_I hx, Option.bind_some, if_pos (by omega)]
      · rw [if_neg h]
        refine ⟨?_, trivial⟩
        rw [if_pos (lenlt (f := encI) hx), el_I hx, Option.bind_some, if_neg (by omega), if_pos (by unfold inI64; omega)]; rfl)
    (fun s _ => by unfold F_ref01_HasInt_2_L1; rw [if_neg (by simp)]) (s := ()) (k := n) trivial (by omega)
  rw [show (0 : Int) = ((0 : Nat) : Int) from rfl, this, key, Option.bind_some]
  by_cases h : i ∈ l <;> simp [h]

/-- The best of those below i. -/
def Best (key : Nat → Int) (C : Nat → Prop) (i : Nat) (b : Int) : Prop :=
  (b < 0 ∧ ∀ c, c < i → ¬ C c) ∨ ∃ x : Nat, b = (x : Int) ∧ C x ∧ x < i ∧ ∀ c, c < i → C c → c = x ∨ Ord key x c
theorem Best.skip {key : Nat → Int} {C : Nat → Prop} {i : Nat} {b : Int} (h : Best key C i b) (hc : ¬ C i) : Best key C (i + 1) b := by
  rcases h with ⟨h1, h2⟩ | ⟨x, h1, h2, h3, h4⟩
  · exact .inl ⟨h1, fun c hlt hh => by
      by_cases e : c = i
      · subst e; exact hc hh
      · exact h2 c (by omega) hh⟩
  · exact .inr ⟨x, h1, h2, by omega, fun c hlt hh => by
      by_cases e : c = i
      · subst e; exact absurd hh hc
      · exact h4 c (by omega) hh⟩
theorem Best.first {key : Nat → Int} {C : Nat → Prop} {i : Nat} {b : Int} (h : Best key C i b) (hb : b < 0) (hc : C i) : Best key C (i + 1) (i : Int) := by
  rcases h with ⟨h1, h2⟩ | ⟨x, h1, _⟩
  · exact .inr ⟨i, rfl, hc, by omega, fun c hlt hh => by
      by_cases e : c = i
      · exact .inl e
      · exact absurd hh (h2 c (by omega))⟩
  · omega
theorem Best.pos {key : Nat → Int} {C : Nat → Prop} {i : Nat} {b : Int} (h : Best key C i b) (hb : ¬ b < 0) : ∃ x : Nat, b = (x : Int) ∧ x < i ∧ C x := by
  rcases h with ⟨h1, _⟩ | ⟨x, h1, h2, h3, _⟩
  · exact absurd h1 hb
  · exact ⟨x, h1, h3, h2⟩
theorem Best.new {key : Nat → Int} {C : Nat → Prop} {i x : Nat} (h : Best key C i (x : Int)) (hc : C i) (hk : key i < key x) : Best key C (i + 1) (i : Int) := by
  rcases h with ⟨h1, h2⟩ | ⟨y, h1, h2, h3, h4⟩
  · omega
  · have e : x = y := by omega
    subst e
    exact .inr ⟨i, rfl, hc, by omega, fun c hlt hh => by
      by_cases e : c = i
      · exact .inl e
      · rcases h4 c (by omega) hh with e' | h5
        · subst e'; exact .inr (.inl hk)
        · exact .inr (Ord.trans (.inl hk) h5)⟩
theorem Best.old {key : Nat → Int} {C : Nat → Prop} {i x : Nat} (h : Best key C i (x : Int)) (hk : ¬ key i < key x) : Best key C (i + 1) (x : Int) := by
  rcases h with ⟨h1, h2⟩ | ⟨y, h1, h2, h3, h4⟩
  · omega
  · have e : x = y := by omega
    subst e
    exact .inr ⟨x, rfl, h2, by omega, fun c hlt hh => by
      by_cases e : c = i
      · subst e
        refine .inr ?_
        unfold Ord; omega
      · exact h4 c (by omega) hh⟩
theorem Best.is {key : Nat → Int} {C : Nat → Prop} {N : Nat} {b : Int} (h : Best key C N b) {x : Nat} (hx : C x) (hlt : x < N) (hmin : ∀ c, C c → c = x ∨ Ord key x c) : b = (x : Int) := by
  rcases h with ⟨_, h2⟩ | ⟨y, h1, h2, h3, h4⟩
  · exact absurd hx (h2 x hlt)
  · rcases hmin y h2 with e | e
    · rw [h1, e]
    · rcases h4 x hlt hx with e' | e'
      · rw [h1, e']
      · exact absurd e (Ord.asymm e')
theorem ref_inner {n : Nat} (hn : 100 ≤ n) {ms : List Mir} (hl : ms.length ≤ 64) (ho : ∀ m, m ∈ ms → m.Ok) {q : Nat} {m : Mir} (hq : ms[q]? = some m) (a2 : Int) {T : List Nat} (hT : T.length ≤ 64) :
    ∃ b, loopF (F_ref04_Neighbours_L2 n (ms.map encM) (q : Int) a2 (T.map encI)) n (-1, 0) = some b ∧ Best (nearK ms m) (fun c => c < ms.length ∧ c ≠ q ∧ c ∉ T) ms.length b := by
  refine loopF_meas (inv := fun t : Int × Int => ∃ i : Nat, t.2 = (i : Int) ∧ i ≤ ms.length ∧ Best (nearK ms m) (fun c => c < ms.length ∧ c ≠ q ∧ c ∉ T) i t.1) (fun t => ms.length - t.2.toNat)
    (fun b => Best (nearK ms m) (fun c => c < ms.length ∧ c ≠ q ∧ c ∉ T) ms.length b) ?_ n (-1, 0) ⟨0, rfl, Nat.zero_le _, .inl ⟨by omega, fun c hc => by omega⟩⟩ (by show ms.length - 0 < n; omega)
  rintro ⟨b, j⟩ ⟨i, hj, hi, hb⟩
  dsimp only at hj hb
  subst hj
  by_cases hlt : i < ms.length
  · left
    have hx' := List.getElem?_eq_getElem hlt
    have hmem := List.getElem_mem hlt
    generalize ms[i] = mx at hx' hmem
    have bb := GB.of (ho mx hmem) (ho m (List.mem_of_getElem? hq))
    have go : ∀ b' : Int, F_ref04_Neighbours_L2 n (ms.map encM) (q : Int) a2 (T.map encI) (b, (i : Int)) = some (.inl (b', (i : Int) + 1)) → Best (nearK ms m) (fun c => c < ms.length ∧ c ≠ q ∧ c ∉ T) (i + 1) b' →
        ∃ t', F_ref04_Neighbours_L2 n (ms.map encM) (q : Int) a2 (T.map encI) (b, (i : Int)) = some (.inl t') ∧ (∃ i : Nat, t'.2 = (i : Int) ∧ i ≤ ms.length ∧ Best (nearK ms m) (fun c => c < ms.length ∧ c ≠ q ∧ c ∉ T) i t'.1) ∧ ms.length - t'.2.toNat < ms.length - ((i : Int)).toNat :=
      fun b' h1 h2 => ⟨_, h1, ⟨i + 1, by omega, by omega, h2⟩, by dsimp only; omega⟩
    have hi2 : inI64 ((i : Int) + 1) := by unfold inI64; omega
    by_cases h1 : i = q
    · refine go b ?_ (hb.skip fun h => h.2.1 h1)
      unfold F_ref04_Neighbours_L2
      dsimp only
      rw [if_pos (lenlt (f := encM) hx'), if_pos (by omega), if_pos hi2]
    · by_cases h2 : i ∈ T
      · refine go b ?_ (hb.skip fun h => h.2.2 h2)
        unfold F_ref04_Neighbours_L2
        dsimp only
        rw [if_pos (lenlt (f := encM) hx'), if_neg (by omega), hasInt_eq T i hT hn, Option.bind_some, if_pos (decide_eq_true h2), if_pos hi2]
      · by_cases h3 : b < 0
        · refine go (i : Int) ?_ (hb.first h3 ⟨hlt, h1, h2⟩)
          unfold F_ref04_Neighbours_L2
          dsimp only
          rw [if_pos (lenlt (f := encM) hx'), if_neg (by omega), hasInt_eq T i hT hn, Option.bind_some, if_neg (by simpa using h2), if_pos h3, if_pos hi2]
        · obtain ⟨y, rfl, hy, hC⟩ := hb.pos h3
          have hy' := List.getElem?_eq_getElem hC.1
          have hmy := List.getElem_mem hC.1
          generalize ms[y] = my at hy' hmy
          have by' := GB.of (ho my hmy) (ho m (List.mem_of_getElem? hq))
          have k1 : nearK ms m i = apartM mx m := by unfold nearK; rw [atM_eq hx']
          have k2 : nearK ms m y = apartM my m := by unfold nearK; rw [atM_eq hy']
          have e1 := refApart_eq n bb
          have e2 := refApart_eq n by'
          by_cases h4 : nearK ms m i < nearK ms m y
          · refine go (i : Int) ?_ (hb.new ⟨hlt, h1, h2⟩ h4)
            rw [k1, k2] at h4
            unfold F_ref04_Neighbours_L2
            dsimp only
            rw [if_pos (lenlt (f := encM) hx'), if_neg (by omega), hasInt_eq T i hT hn, Option.bind_some, if_neg (by simpa using h2), if_neg h3, elM hx', Option.bind_some, elM hq, Option.bind_some]
            dsimp only [Mir.tup]
            rw [e1, Option.bind_some, elM hy', Option.bind_some]
            dsimp only [Mir.tup]
            rw [e2, Option.bind_some, if_pos h4, if_pos hi2]
          · refine go (y : Int) ?_ (hb.old h4)
            rw [k1, k2] at h4
            unfold F_ref04_Neighbours_L2
            dsimp only
            rw [if_pos (lenlt (f := encM) hx'), if_neg (by omega), hasInt_eq T i hT hn, Option.bind_some, if_neg (by simpa using h2), if_neg h3, elM hx', Option.bind_some, elM hq, Option.bind_some]
            dsimp only [Mir.tup]
            rw [e1, Option.bind_some, elM hy', Option.bind_some]
            dsimp only [Mir.tup]
            rw [e2, Option.bind_some, if_neg h4, if_pos hi2]
  · right
    have he : i = ms.length := by omega
    subst he
    refine ⟨b, ?_, hb⟩
    unfold F_ref04_Neighbours_L2
    dsimp only
    rw [if_neg (by simp)]
theorem ref_pick {n : Nat} (hn : 100 ≤ n) {ms : List Mir} (hl : ms.length ≤ 64) (ho : ∀ m, m ∈ ms → m.Ok) {q : Nat} {m : Mir} (hq : ms[q]? = some m) (a2 : Int) {T R : List Nat} {x : Nat} (hS : srt (nearK ms m) (othersL ms q) = T ++ x :: R) :
    loopF (F_ref04_Neighbours_L2 n (ms.map encM) (q : Int) a2 (T.map encI)) n (-1, 0) = some (x : Int) := by
  obtain ⟨s1, s2, s3⟩ := srt_ok (key := nearK ms m) (others_nd ms q)
  rw [hS] at s1 s2 s3
  have hqlt := (List.getElem?_eq_some_iff.1 hq).1
  have hol := others_len hqlt
  have hTl : T.length ≤ 64 := by simp at s3; omega
  obtain ⟨b, h1, h2⟩ := ref_inner hn hl ho hq a2 hTl
  rw [h1]
  rw [List.pairwise_append, List.pairwise_cons] at s1
  obtain ⟨p1, ⟨p2, p3⟩, p4⟩ := s1
  have hxT : x ∉ T := fun h => Ord.irrefl (p4 x h x List.mem_cons_self)
  have hx := others_mem.1 ((s2 x).1 (by simp))
  rw [h2.is (x := x) ⟨hx.1, hx.2, hxT⟩ hx.1 fun c hc => ?_]
  have hm := (s2 c).2 (others_mem.2 ⟨hc.1, hc.2.1⟩)
  rcases List.mem_append.1 hm with h | h
  · exact absurd h hc.2.2
  · rcases List.mem_cons.1 h with h | h
    · exact .inl h
    · exact .inr (p2 c h)
theorem refNear_eq {n : Nat} (hn : 100 ≤ n) {ms : List Mir} (hl : ms.length ≤ 64) (ho : ∀ m, m ∈ ms → m.Ok) {q : Nat} {m : Mir} (hq : ms[q]? = some m) {a2 : Int} (ha : 0 ≤ a2) :
    F_ref04_Neighbours n (ms.map encM) (q : Int) a2 = some (((srt (nearK ms m) (othersL ms q)).take a2.toNat).map encI) := by
  have hqlt := (List.getElem?_eq_some_iff.1 hq).1
  have hol := others_len hqlt
  have s3 := (srt_ok (key := nearK ms m) (others_nd ms q)).2.2
  unfold F_ref04_Neighbours
  have := loopF_list0 (step := F_ref04_Neighbours_L3 n (ms.map encM) (q : Int) a2) (fun (s : List D) (x : Nat) => (.inl (s ++ [encI x]) : List D ⊕ List D)) id (fun _ s => s) ((srt (nearK ms m) (othersL ms q)).take a2.toNat)
    (fun i s => s = ((srt (nearK ms m) (othersL ms q)).take i).map encI)
    (fun i s x hx hi => by
      have hlt := (List.getElem?_eq_some_iff.1 hx).1
      rw [List.length_take] at hlt
      have hx2 : (srt (nearK ms m) (othersL ms q))[i]? = some x := by
        rw [List.getElem?_take] at hx
        split at hx
        · exact hx
        · cases hx
      obtain ⟨hil, hxe⟩ := List.getElem?_eq_some_iff.1 hx2
      have hS : srt (nearK ms m) (othersL ms q) = (srt (nearK ms m) (othersL ms q)).take i ++ x :: (srt (nearK ms m) (othersL ms q)).drop (i + 1) := by
        conv => lhs; rw [← List.take_append_drop i (srt (nearK ms m) (othersL ms q))]
        rw [List.drop_eq_getElem_cons hil, hxe]
      have hp := ref_pick (n := n) hn hl ho hq a2 hS
      have hsl : (s.length : Int) = (i : Int) := by rw [hi, List.length_map, List.length_take]; omega
      dsimp only
      constructor
      · unfold F_ref04_Neighbours_L3
        rw [hi] at hsl ⊢
        rw [if_pos (by omega), if_pos (by unfold inI64; rw [List.length_map]; omega), if_pos (by rw [hsl, List.length_map]; omega), hp, Option.bind_some, if_pos (by unfold roomP; omega)]; rfl
      · rw [hi, List.take_add_one, hx2, List.map_append]; rfl)
    (fun s hs => by
      unfold F_ref04_Neighbours_L3
      by_cases h : (s.length : Int) < a2
      · have hsl : s.length = min (min a2.toNat (srt (nearK ms m) (othersL ms q)).length) (srt (nearK ms m) (othersL ms q)).length := by
          rw [hs, List.length_map, List.length_take, List.length_take]
        rw [if_pos h, if_pos (by unfold inI64; rw [List.length_map]; omega), if_neg (by rw [List.length_map]; omega)]; rfl
      · rw [if_neg h]; rfl) (s := []) (k := n) (by simp) (by rw [List.length_take]; omega)
  rw [this]
  have runE : ∀ (l : List Nat) (s : List D), runL (fun (s : List D) (x : Nat) => (.inl (s ++ [encI x]) : List D ⊕ List D)) id l s = s ++ l.map encI := runL_app encI
  rw [runE, Option.bind_some]; rfl
theorem near_eq {n : Nat} (hn : 100 ≤ n) {ms : List Mir} (hl : ms.length ≤ 12) (ho : ∀ m, m ∈ ms → m.Ok) {q : Nat} {m : Mir} (hq : ms[q]? = some m) {a2 : Int} (ha : 0 ≤ a2) :
    ((loopF (F_field_Neighbours_L1 n (ms.map encM) (q : Int) a2) n (0, [])).bind fun t5 =>
    (F_field_indices n t5).bind fun t6 =>
    if (0 : Int) ≤ 0 ∧ 0 ≤ (minI a2 ((t5).length : Int)) ∧ (minI a2 ((t5).length : Int)) ≤ ((t6).length : Int) ∧ (t6 = [] ∨ 1 = 1) then
    some (((t6.take (Int.toNat (minI a2 ((t5).length : Int)))).drop (Int.toNat 0)), (0 : Int))
    else none) = some (((srt (nearK ms m) (othersL ms q)).take a2.toNat).map encI, 0) := by
  have hqlt := (List.getElem?_eq_some_iff.1 hq).1
  have hol := others_len hqlt
  have s3 := (srt_ok (key := nearK ms m) (others_nd ms q)).2.2
  rw [near_loop hn (by omega) ho hq, Option.bind_some, indices_eq hn (by omega) (others_nd ms q), Option.bind_some]
  have hmin : minI a2 (((othersL ms q).map (encK (atM ms) (nearK ms m))).length : Int) = ((min a2.toNat (othersL ms q).length : Nat) : Int) := by
    unfold minI
    rw [List.length_map]
    split <;> omega
  rw [hmin, if_pos ⟨by omega, by omega, by rw [List.length_map, s3]; omega, .inr rfl⟩, Int.toNat_natCast, ← List.map_take]
  congr 3
  rw [← s3]
  show List.map encI _ = _
  congr 1
  by_cases h : a2.toNat ≤ (srt (nearK ms m) (othersL ms q)).length
  · rw [Nat.min_eq_left h]
  · rw [Nat.min_eq_right (by omega), List.take_of_length_le (Nat.le_refl _), List.take_of_length_le (by omega)]
theorem law_near (ms : List Mir) (mi k : Int) (hl : ms.length ≤ 9223372036854775807) :
    F_law04_FieldNear (1000 + ms.length) (ms.map encM) mi k = some true := by
  have hn : 100 ≤ 1000 + ms.length := by omega
  unfold F_law04_FieldNear
  rw [show F_law04_awake (1000 + ms.length) = some true from rfl, Option.bind_some, if_pos rfl, short_eq ms (by omega) hl, Option.bind_some]
  by_cases h2 : (ms.all shortB && (decide (ms.length ≤ 6) || decide (ms.length = 65))) = true
  · rw [if_pos h2]
    simp only [Bool.and_eq_true, Bool.or_eq_true, decide_eq_true_eq, List.all_eq_true] at h2
    obtain ⟨h3, h4⟩ := h2
    have hzs : ∀ x, x ∈ ms → x.name.size < 1000 + ms.length := fun x hx => by
      have : (x.name.size : Int) ≤ 40 := of_decide_eq_true (h3 x hx)
      omega
    have c1 : F_field_Neighbours (1000 + ms.length) (ms.map encM) mi k = if firstNZ [idxE ms mi, inR k 0 64] = 0 then ((loopF (F_field_Neighbours_L1 (1000 + ms.length) (ms.map encM) mi k) (1000 + ms.length) (0, [])).bind fun t5 =>
        (F_field_indices (1000 + ms.length) t5).bind fun t6 =>
        if (0 : Int) ≤ 0 ∧ 0 ≤ (minI k ((t5).length : Int)) ∧ (minI k ((t5).length : Int)) ≤ ((t6).length : Int) ∧ (t6 = [] ∨ 1 = 1) then
        some (((t6.take (Int.toNat (minI k ((t5).length : Int)))).drop (Int.toNat 0)), (0 : Int))
        else none) else some ([], firstNZ [idxE ms mi, inR k 0 64]) := by
      unfold F_field_Neighbours
      rw [idx_eq hn ms hzs, Option.bind_some, within_eq, Option.bind_some, first2 (by omega), Option.bind_some]
    rw [own_eq ms (by omega) (by omega), Option.bind_some, refIdx_eq hn, range_eq]
    simp only [Option.bind_some, refFirst2 (show 10 ≤ 1000 + ms.length by omega)]
    by_cases hP : firstNZ [idxE ms mi, inR k 0 64] = 0
    · have hi := firstNZ_zero hP (idxE ms mi) (by simp)
      have hk := inR_zero (firstNZ_zero hP (inR k 0 64) (by simp))
      have g1 := firstNZ_zero hi (chkM ms) (by simp)
      have g2 := firstNZ_zero hi (if mi < 0 then 10 else whenI (decide (mi ≥ (ms.length : Int))) 10) (by simp)
      obtain ⟨g3, g4⟩ := chkM_ok g1
      obtain ⟨q, rfl, hq⟩ : ∃ q : Nat, mi = (q : Int) ∧ q < ms.length := by
        by_cases hm : mi < 0
        · rw [if_pos hm] at g2; omega
        · rw [if_neg hm] at g2
          have hlt : mi < (ms.length : Int) := by
            unfold whenI at g2
            split at g2
            · omega
            · rename_i hc; simp at hc; omega
          exact ⟨mi.toNat, by omega, by omega⟩
      have hq' := List.getElem?_eq_getElem hq
      have e1 := near_eq (n := 1000 + ms.length) hn (by omega) g4 hq' hk.1
      have e2 := refNear_eq (n := 1000 + ms.length) hn (by omega) g4 hq' hk.1
      have e3 := numbers_ok (n := 1000 + ms.length) ((srt (nearK ms ms[q]) (othersL ms q)).take k.toNat) (by
        have s3 := (srt_ok (key := nearK ms ms[q]) (others_nd ms q)).2.2
        have := others_len hq
        rw [List.length_take]; omega) hn
      have c2 := c1
      rw [if_pos hP, e1] at c2
      rw [c2, hP]
      simp only [Option.bind_some, if_true, e2, e3]
    · rw [if_neg hP] at c1
      rw [c1]
      simp only [if_neg hP, Option.bind_some, numbers_bad _ hP]
  · rw [if_neg h2]
theorem law_FieldNear (l : List Mir10) (a1 a2 : Int) (hl : l.length ≤ 9223372036854775807) :
    F_law04_FieldNear (1000 + l.length) (l.map fun x => encM (Mir.of x)) a1 a2 = some true := by
  have := law_near (l.map Mir.of) a1 a2 (by simpa using hl)
  rw [List.length_map, List.map_map] at this
  exact this
end Go.Proofs.YtojmcpnpojdnmaaGreatDoor
