/-
  Plain lemmas of chapter 4: the facets of a mirror, as the program and the reference list them. An own text.
-/
import Derived.Test.YtbjibgaknkaifaaGreatDoorLists
set_option linter.unusedVariables false
set_option linter.unusedSimpArgs false
set_option linter.unnecessarySimpa false
set_option maxRecDepth 20000
namespace Go.Proofs.YtbjibgaknkaifaaGreatDoor
open Go.SX

/-- The centre of a facet, times k. -/
def fc (m : Mir) (k : Int) (p : Nat × Nat) : Vec := vplus (vtimes k m.c) (vplus (vtimes (2 * (p.2 : Int) + 1 - k) m.u) (vtimes (2 * (p.1 : Int) + 1 - k) m.v))
def encV (v : Vec) : D := .agg [I v.1, I v.2.1, I v.2.2]
def encF (m : Mir) (k : Int) (p : Nat × Nat) : D := .agg [I ((p.1 : Int) * k + (p.2 : Int)), I (fc m k p).1, I (fc m k p).2.1, I (fc m k p).2.2]
theorem unV (v : Vec) : un_Ai3Z (encV v) = some v := rfl
structure FB (m : Mir) (k : Int) (p : Nat × Nat) : Prop where
  c : Bd 32768 (vtimes k m.c)
  u : Bd 512 (vtimes (2 * (p.2 : Int) + 1 - k) m.u)
  v : Bd 512 (vtimes (2 * (p.1 : Int) + 1 - k) m.v)
  s : Bd 1024 (vplus (vtimes (2 * (p.2 : Int) + 1 - k) m.u) (vtimes (2 * (p.1 : Int) + 1 - k) m.v))
  t : Bd 33792 (fc m k p)
theorem FB.of {m : Mir} (hm : m.Ok) {k : Nat} (hk : 1 ≤ k ∧ k ≤ 8) {p : Nat × Nat} (h1 : p.1 < k) (h2 : p.2 < k) : FB m (k : Int) p := by
  have c : Bd 32768 (vtimes (k : Int) m.c) := Bd.times (K := 8) (by omega) hm.c (by decide) (by decide) (by decide)
  have u : Bd 512 (vtimes (2 * (p.2 : Int) + 1 - (k : Int)) m.u) := Bd.times (K := 8) (by omega) hm.u (by decide) (by decide) (by decide)
  have v : Bd 512 (vtimes (2 * (p.1 : Int) + 1 - (k : Int)) m.v) := Bd.times (K := 8) (by omega) hm.v (by decide) (by decide) (by decide)
  have s := (u.plus v).mono (show (512 : Int) + 512 ≤ 1024 by decide)
  exact ⟨c, u, v, s, (c.plus s).mono (by decide)⟩
theorem runL_inl {α S E : Type} (h : S → α → S) (ex : S → E) : ∀ (l : List α) (s : S), runL (fun s p => (.inl (h s p) : S ⊕ E)) ex l s = ex (l.foldl h s)
  | [], _ => rfl
  | p :: l, s => by
    unfold runL
    exact runL_inl h ex l (h s p)
def rowS (k j : Nat) (s : List (Nat × Nat)) : List (Nat × Nat) := (List.range k).foldl (fun s i => s ++ [(j, i)]) s
def allS (k : Nat) : List (Nat × Nat) := (List.range k).foldl (fun s j => rowS k j s) []
theorem fold_app {α β : Type} (f : α → β) : ∀ (l : List α) (s : List β), l.foldl (fun s p => s ++ [f p]) s = s ++ l.map f
  | [], s => by simp
  | p :: l, s => by
    rw [List.foldl_cons, fold_app f l]; simp
theorem rowS_eq (k j : Nat) (s : List (Nat × Nat)) : rowS k j s = s ++ (List.range k).map fun i => (j, i) := fold_app (fun i => (j, i)) _ _
theorem rowS_len (k j : Nat) (s : List (Nat × Nat)) : (rowS k j s).length = s.length + k := by rw [rowS_eq]; simp
theorem range_at {m i k : Nat} (h : (List.range m)[i]? = some k) : k = i ∧ i < m := by
  obtain ⟨h1, h2⟩ := List.getElem?_eq_some_iff.1 h
  simp at h1 h2
  exact ⟨h2.symm, h1⟩
theorem all_mem {k : Nat} : ∀ (l : List Nat) (s : List (Nat × Nat)), (∀ j, j ∈ l → j < k) → (∀ p, p ∈ s → p.1 < k ∧ p.2 < k) →
    ∀ p, p ∈ l.foldl (fun s j => rowS k j s) s → p.1 < k ∧ p.2 < k
  | [], s, _, hs => hs
  | j :: l, s, hl, hs => by
    rw [List.foldl_cons]
    refine all_mem l _ (fun x hx => hl x (List.mem_cons_of_mem _ hx)) (fun p hp => ?_)
    rw [rowS_eq] at hp
    rcases List.mem_append.1 hp with hp | hp
    · exact hs p hp
    · obtain ⟨i, hi, rfl⟩ := List.mem_map.1 hp
      exact ⟨hl j List.mem_cons_self, List.mem_range.1 hi⟩
theorem allS_mem {k : Nat} : ∀ p, p ∈ allS k → p.1 < k ∧ p.2 < k := all_mem _ _ (fun j hj => List.mem_range.1 hj) (fun p hp => by cases hp)
theorem all_len {k : Nat} : ∀ (l : List Nat) (s : List (Nat × Nat)), (l.foldl (fun s j => rowS k j s) s).length = s.length + l.length * k
  | [], s => by simp
  | j :: l, s => by
    rw [List.foldl_cons, all_len l, rowS_len, List.length_cons, Nat.add_mul]; omega
theorem allS_len (k : Nat) : (allS k).length = k * k := by
  unfold allS
  rw [all_len]; simp
theorem sq_le {k : Nat} (h : k ≤ 8) : k * k ≤ 64 := Nat.mul_le_mul h h

/-! The reference. -/
theorem jk_le {j k : Nat} (hj : j < k) : j * k + k ≤ k * k := by
  calc j * k + k = (j + 1) * k := by rw [Nat.add_mul, Nat.one_mul]
    _ ≤ k * k := Nat.mul_le_mul_right _ hj
theorem refRow_eq {n : Nat} (hn : 100 ≤ n) {m : Mir} (hm : m.Ok) {k : Nat} (hk : 1 ≤ k ∧ k ≤ 8) {j : Nat} (hj : j < k) {s : List (Nat × Nat)} (hs : s.length = j * k) (q : List D) :
    loopF (F_ref04_Facets_L2 n m.name m.c.1 m.c.2.1 m.c.2.2 m.u.1 m.u.2.1 m.u.2.2 m.v.1 m.v.2.1 m.v.2.2 (k : Int) ((j : Int), q)) n (0, s.map fun p => encV (fc m k p)) = some ((rowS k j s).map fun p => encV (fc m k p)) := by
  have hq := sq_le hk.2
  have hjk := jk_le hj
  have := loopF_list0 (step := F_ref04_Facets_L2 n m.name m.c.1 m.c.2.1 m.c.2.2 m.u.1 m.u.2.1 m.u.2.2 m.v.1 m.v.2.1 m.v.2.2 (k : Int) ((j : Int), q)) (fun (s : List (Nat × Nat)) (i : Nat) => (.inl (s ++ [(j, i)]) : List (Nat × Nat) ⊕ List D)) (fun s => s.map fun p => encV (fc m k p))
    (fun i s => ((i : Int), s.map fun p => encV (fc m k p))) (List.range k) (fun i s => s.length = j * k + i)
    (fun i s x hx hi => by
      obtain ⟨rfl, hxk⟩ := range_at hx
      have b := FB.of hm hk (p := (j, x)) hj hxk
      dsimp only
      refine ⟨?_, by rw [List.length_append, hi]; rfl⟩
      unfold F_ref04_Facets_L2
      dsimp only
      have e1 := refTimes_eq n b.c (by decide)
      have e2 := refTimes_eq n b.u (by decide)
      have e3 := refTimes_eq n b.v (by decide)
      have e4 := refPlus_eq n b.s (by decide)
      have e5 := refPlus_eq n (u := vtimes (k : Int) m.c) (v := vplus (vtimes (2 * (x : Int) + 1 - (k : Int)) m.u) (vtimes (2 * (j : Int) + 1 - (k : Int)) m.v)) b.t (by decide)
      dsimp only at e1 e2 e3 e4
      rw [if_pos (by omega), e1, Option.bind_some, if_pos (by unfold inI64; omega), if_pos (by unfold inI64; omega), if_pos (by unfold inI64; omega), e2, Option.bind_some, if_pos (by unfold inI64; omega), if_pos (by unfold inI64; omega), if_pos (by unfold inI64; omega), e3, Option.bind_some, e4, Option.bind_some,
        e5, Option.bind_some, if_pos (by unfold roomP; rw [List.length_map]; omega), if_pos (by unfold inI64; omega), List.map_append]; rfl)
    (fun s _ => by unfold F_ref04_Facets_L2; dsimp only; rw [if_neg (by simp)]) (s := s) (k := n) (by simpa using hs) (by simp; omega)
  rw [show ((0 : Int), s.map fun p => encV (fc m k p)) = (((0 : Nat) : Int), s.map fun p => encV (fc m k p)) from rfl, this, runL_inl (fun (s : List (Nat × Nat)) i => s ++ [(j, i)])]
  rfl
theorem refFacets_eq {n : Nat} (hn : 100 ≤ n) {m : Mir} (hm : m.Ok) {k : Nat} (hk : 1 ≤ k ∧ k ≤ 8) :
    F_ref04_Facets n m.name m.c.1 m.c.2.1 m.c.2.2 m.u.1 m.u.2.1 m.u.2.2 m.v.1 m.v.2.1 m.v.2.2 (k : Int) = some ((allS k).map fun p => encV (fc m k p)) := by
  unfold F_ref04_Facets
  have := loopF_list0 (step := F_ref04_Facets_L3 n m.name m.c.1 m.c.2.1 m.c.2.2 m.u.1 m.u.2.1 m.u.2.2 m.v.1 m.v.2.1 m.v.2.2 (k : Int)) (fun (s : List (Nat × Nat)) (j : Nat) => (.inl (rowS k j s) : List (Nat × Nat) ⊕ List D)) (fun s => s.map fun p => encV (fc m k p))
    (fun i s => ((i : Int), s.map fun p => encV (fc m k p))) (List.range k) (fun i s => s.length = i * k)
    (fun i s x hx hi => by
      obtain ⟨rfl, hxk⟩ := range_at hx
      dsimp only
      refine ⟨?_, by rw [rowS_len, hi, Nat.add_mul, Nat.one_mul]⟩
      unfold F_ref04_Facets_L3
      dsimp only
      rw [if_pos (by omega), refRow_eq hn hm hk hxk hi, Option.bind_some, if_pos (by unfold inI64; omega)]; rfl)
    (fun s _ => by unfold F_ref04_Facets_L3; dsimp only; rw [if_neg (by simp)]) (s := []) (k := n) (by simp) (by simp; omega)
  rw [show ((0 : Int), ([] : List D)) = (((0 : Nat) : Int), ([] : List (Nat × Nat)).map fun p => encV (fc m k p)) from rfl, this, runL_inl (fun (s : List (Nat × Nat)) j => rowS k j s)]
  rfl
end Go.Proofs.YtbjibgaknkaifaaGreatDoor
