/-
  Plain lemmas about loops as functions: a loop over the elements of a list, a loop with a measure, two loops in step.
-/
import Derived.Test.YtclmbhokfhjnoaaGreatDoorSxTwentyFour
set_option linter.unusedVariables false
set_option linter.unusedSimpArgs false
set_option linter.unnecessarySimpa false
namespace Go.SX

theorem nth_get? {α : Type} : ∀ (l : List α) (i : Nat), nth l i = l[i]?
  | [], i => by cases i <;> rfl
  | _ :: _, 0 => rfl
  | _ :: l, i + 1 => by simpa [nth] using nth_get? l i
theorem el_enc {α : Type} {un : D → Option α} {enc : α → D} (hun : ∀ x, un (enc x) = some x) {l : List α} {i : Nat} {x : α} (h : l[i]? = some x) : el un (l.map enc) (i : Int) = some x := by
  unfold el
  rw [if_pos (Int.natCast_nonneg i), Int.toNat_natCast, nth_get?, List.getElem?_map, h]
  exact hun x
theorem loopF_l {S E : Type} {step : S → Option (S ⊕ E)} {k : Nat} {s s' : S} (h : step s = some (.inl s')) : loopF step (k + 1) s = loopF step k s' := by
  show (match step s with | none => none | some (.inl s') => loopF step k s' | some (.inr e) => some e) = _
  rw [h]
theorem loopF_r {S E : Type} {step : S → Option (S ⊕ E)} {k : Nat} {s : S} {e : E} (h : step s = some (.inr e)) : loopF step (k + 1) s = some e := by
  show (match step s with | none => none | some (.inl s') => loopF step k s' | some (.inr e) => some e) = _
  rw [h]

/-- A walk along a list that may end early. -/
def runL {α S E : Type} (g : S → α → S ⊕ E) (ex : S → E) : List α → S → E
  | [], s => ex s
  | x :: l, s => match g s x with
    | .inl s' => runL g ex l s'
    | .inr e => e
theorem loopF_list {α S T E : Type} {step : T → Option (T ⊕ E)} (g : S → α → S ⊕ E) (ex : S → E) (mk : Nat → S → T) (l : List α) (inv : Nat → S → Prop)
    (hstep : ∀ (i : Nat) (s : S) (x : α), l[i]? = some x → inv i s → match g s x with
      | .inl s' => step (mk i s) = some (.inl (mk (i + 1) s')) ∧ inv (i + 1) s'
      | .inr e => step (mk i s) = some (.inr e))
    (hend : ∀ s, inv l.length s → step (mk l.length s) = some (.inr (ex s))) :
    ∀ (k i : Nat) (s : S), inv i s → i ≤ l.length → l.length < i + k → loopF step k (mk i s) = some (runL g ex (l.drop i) s)
  | 0, i, s, _, h, hk => by omega
  | k + 1, i, s, hi, h, hk => by
    by_cases hl : i < l.length
    · have hx := List.getElem?_eq_getElem hl
      rw [List.drop_eq_getElem_cons hl]
      have hs := hstep i s l[i] hx hi
      unfold runL
      cases hg : g s l[i] with
      | inl s' =>
        rw [hg] at hs
        rw [loopF_l hs.1]
        exact loopF_list g ex mk l inv hstep hend k (i + 1) s' hs.2 hl (by omega)
      | inr e =>
        rw [hg] at hs
        exact loopF_r hs
    · have he : i = l.length := by omega
      subst he
      rw [List.drop_length, loopF_r (hend s hi)]
      rfl
theorem loopF_list0 {α S T E : Type} {step : T → Option (T ⊕ E)} (g : S → α → S ⊕ E) (ex : S → E) (mk : Nat → S → T) (l : List α) (inv : Nat → S → Prop)
    (hstep : ∀ (i : Nat) (s : S) (x : α), l[i]? = some x → inv i s → match g s x with
      | .inl s' => step (mk i s) = some (.inl (mk (i + 1) s')) ∧ inv (i + 1) s'
      | .inr e => step (mk i s) = some (.inr e))
    (hend : ∀ s, inv l.length s → step (mk l.length s) = some (.inr (ex s))) {k : Nat} {s : S} (h0 : inv 0 s) (hk : l.length < k) :
    loopF step k (mk 0 s) = some (runL g ex l s) := by
  have := loopF_list g ex mk l inv hstep hend k 0 s h0 (Nat.zero_le _) (by omega)
  rwa [List.drop_zero] at this

/-- A loop with a measure: whatever holds behind it holds of its exit. -/
theorem loopF_meas {T E : Type} {step : T → Option (T ⊕ E)} (inv : T → Prop) (m : T → Nat) (post : E → Prop)
    (hstep : ∀ t, inv t → (∃ t', step t = some (.inl t') ∧ inv t' ∧ m t' < m t) ∨ ∃ e, step t = some (.inr e) ∧ post e) :
    ∀ (k : Nat) (t : T), inv t → m t < k → ∃ e, loopF step k t = some e ∧ post e
  | 0, t, _, h => by omega
  | k + 1, t, hi, h => by
    rcases hstep t hi with ⟨t', h1, h2, h3⟩ | ⟨e, h1, h2⟩
    · rw [loopF_l h1]
      exact loopF_meas inv m post hstep k t' h2 (by omega)
    · exact ⟨e, loopF_r h1, h2⟩

/-- Two loops in step. -/
theorem loopF_sim {T U E G : Type} {f : T → Option (T ⊕ E)} {g : U → Option (U ⊕ G)} (R : T → U → Prop) (m : T → Nat) (post : E → G → Prop)
    (hstep : ∀ t u, R t u → (∃ t' u', f t = some (.inl t') ∧ g u = some (.inl u') ∧ R t' u' ∧ m t' < m t) ∨ ∃ e e', f t = some (.inr e) ∧ g u = some (.inr e') ∧ post e e') :
    ∀ (k j : Nat) (t : T) (u : U), R t u → m t < k → m t < j → ∃ e e', loopF f k t = some e ∧ loopF g j u = some e' ∧ post e e'
  | 0, j, t, u, _, h, _ => by omega
  | k + 1, 0, t, u, _, _, h => by omega
  | k + 1, j + 1, t, u, hr, h, h' => by
    rcases hstep t u hr with ⟨t', u', h1, h2, h3, h4⟩ | ⟨e, e', h1, h2, h3⟩
    · rw [loopF_l h1, loopF_l h2]
      exact loopF_sim R m post hstep k j t' u' h3 (by omega) (by omega)
    · exact ⟨e, e', loopF_r h1, loopF_r h2, h3⟩
end Go.SX
