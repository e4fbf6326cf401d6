/-
  Plain lemmas about fields of mirrors. An own text.
-/
import Derived.Test.YtiogobiijlaalaaDoorCom1
set_option linter.unusedVariables false
set_option maxRecDepth 20000
namespace Go.Proofs.YtiogobiijlaalaaDoor
open Go.SX

theorem Bd.neg {m : Int} {v : Vec} (h : Bd m v) : Bd m (vneg v) := by unfold Bd vneg at *; dsimp only; omega
theorem checkK_eq (n : Nat) (k : Int) : F_field_checkK n k = some (inR k 1 8) := by
  unfold F_field_checkK; rw [within_eq]; rfl
def fc (m : Mir) (k : Int) (p : Nat × Nat) : Vec := vplus (vtimes k m.c) (vplus (vtimes (2 * (p.2 : Int) + 1 - k) m.u) (vtimes (2 * (p.1 : Int) + 1 - k) m.v))
def encF (m : Mir) (k : Int) (p : Nat × Nat) : D := .agg [I ((p.1 : Int) * k + (p.2 : Int)), I (fc m k p).1, I (fc m k p).2.1, I (fc m k p).2.2]
structure FB (m : Mir) (k : Int) (p : Nat × Nat) : Prop where
  c : Bd 32768 (vtimes k m.c)
  u : Bd 512 (vtimes (2 * (p.2 : Int) + 1 - k) m.u)
  v : Bd 512 (vtimes (2 * (p.1 : Int) + 1 - k) m.v)
  s : Bd 1024 (vplus (vtimes (2 * (p.2 : Int) + 1 - k) m.u) (vtimes (2 * (p.1 : Int) + 1 - k) m.v))
  t : Bd 33792 (fc m k p)
theorem FB.of {m : Mir} (hm : m.Ok) {k : Nat} (hk : 1 ≤ k ∧ k ≤ 8) {p : Nat × Nat} (h1 : p.1 < k) (h2 : p.2 < k) : FB m (k : Int) p := by
  have c : Bd 32768 (vtimes (k : Int) m.c) := Bd.times (K := 8) (by omega) hm.c (by decide) (by decide) (by decide)
  have u : Bd 512 (vtimes (2 * (p.2 : Int) + 1 - (k : Int)) m.u) := Bd.times (K := 8) (by omega) hm.u (by decide) (by decide) (by decide)
  have v : Bd 512 (vtimes (2 * (p.1 : Int) + 1 - (k : Int)) m.v) := Bd.times (K := 8) (by omega) hm.v (by decide) (by decide) (by decide)
  have s := (u.plus v).mono (show (512 : Int) + 512 ≤ 1024 by decide)
  exact ⟨c, u, v, s, (c.plus s).mono (by decide)⟩
theorem runL_inl {α S E : Type} (h : S → α → S) (ex : S → E) : ∀ (l : List α) (s : S), runL (fun s p => (.inl (h s p) : S ⊕ E)) ex l s = ex (l.foldl h s)
  | [], _ => rfl
  | p :: l, s => by
    unfold runL
    exact runL_inl h ex l (h s p)
def rowS (k j : Nat) (s : List (Nat × Nat)) : List (Nat × Nat) := (List.range k).foldl (fun s i => s ++ [(j, i)]) s
def allS (k : Nat) : List (Nat × Nat) := (List.range k).foldl (fun s j => rowS k j s) []
theorem fold_app {α β : Type} (f : α → β) : ∀ (l : List α) (s : List β), l.foldl (fun s p => s ++ [f p]) s = s ++ l.map f
  | [], s => by simp
  | p :: l, s => by
    rw [List.foldl_cons, fold_app f l]; simp
theorem rowS_eq (k j : Nat) (s : List (Nat × Nat)) : rowS k j s = s ++ (List.range k).map fun i => (j, i) := fold_app (fun i => (j, i)) _ _
theorem rowS_len (k j : Nat) (s : List (Nat × Nat)) : (rowS k j s).length = s.length + k := by rw [rowS_eq]; simp
theorem range_at {m i k : Nat} (h : (List.range m)[i]? = some k) : k = i ∧ i < m := by
  obtain ⟨h1, h2⟩ := List.getElem?_eq_some_iff.1 h
  simp at h1 h2
  exact ⟨h2.symm, h1⟩
theorem all_mem {k : Nat} : ∀ (l : List Nat) (s : List (Nat × Nat)), (∀ j, j ∈ l → j < k) → (∀ p, p ∈ s → p.1 < k ∧ p.2 < k) →
    ∀ p, p ∈ l.foldl (fun s j => rowS k j s) s → p.1 < k ∧ p.2 < k
  | [], s, _, hs => hs
  | j :: l, s, hl, hs => by
    rw [List.foldl_cons]
    refine all_mem l _ (fun x hx => hl x (List.mem_cons_of_mem _ hx)) (fun p hp => ?_)
    rw [rowS_eq] at hp
    rcases List.mem_append.1 hp with hp | hp
    · exact hs p hp
    · obtain ⟨i, hi, rfl⟩ := List.mem_map.1 hp
      exact ⟨hl j List.mem_cons_self, List.mem_range.1 hi⟩
theorem allS_mem {k : Nat} : ∀ p, p ∈ allS k → p.1 < k ∧ p.2 < k := all_mem _ _ (fun j hj => List.mem_range.1 hj) (fun p hp => by cases hp)
theorem all_len {k : Nat} : ∀ (l : List Nat) (s : List (Nat × Nat)), (l.foldl (fun s j => rowS k j s) s).length = s.length + l.length * k
  | [], s => by simp
  | j :: l, s => by
    rw [List.foldl_cons, all_len l, rowS_len, List.length_cons, Nat.add_mul]; omega
theorem allS_len (k : Nat) : (allS k).length = k * k := by
  unfold allS
  rw [all_len]; simp
theorem sq_le {k : Nat} (h : k ≤ 8) : k * k ≤ 64 := Nat.mul_le_mul h h
theorem jk_le {j k : Nat} (hj : j < k) : j * k + k ≤ k * k := by
  calc j * k + k = (j + 1) * k := by rw [Nat.add_mul, Nat.one_mul]
    _ ≤ k * k := Nat.mul_le_mul_right _ hj
def idxE (ms : List Mir) (mi : Int) : Int := firstNZ [chkM ms, if mi < 0 then 10 else whenI (decide (mi ≥ (ms.length : Int))) 10]
theorem idx_eq {n : Nat} (hn : 100 ≤ n) (ms : List Mir) (hz : ∀ m, m ∈ ms → m.name.size < n) (mi : Int) : F_field_checkIndex n (ms.map encM) mi = some (idxE ms mi) := by
  unfold F_field_checkIndex idxE
  rw [checkMs_eq hn ms hz, Option.bind_some, List.length_map]
  by_cases h : mi < 0
  · rw [if_pos h, if_pos h, show F_field_when_4 n = some 10 from rfl, Option.bind_some, first2 (by omega)]; rfl
  · rw [if_neg h, if_neg h, when_eq, Option.bind_some, first2 (by omega)]; rfl
theorem row3_d {A : List D} {a1 a2 a3 a4 t3 : Int} {n : Nat} (hn : 100 ≤ n) {m : Mir} (hm : m.Ok) {k : Nat} (hk : 1 ≤ k ∧ k ≤ 8) {j : Nat} (hj : j < k) {s : List (Nat × Nat)} (hs : s.length = j * k) (q : List D) :
    loopF (F_field_dark_L3 n A a1 a2 a3 a4 (k : Int) m.tup t3 ((j : Int), q)) n (0, s.map (encF m k)) = some ((rowS k j s).map (encF m k)) := by
  have hq := sq_le hk.2
  have hjk := jk_le hj
  have := loopF_list0 (step := F_field_dark_L3 n A a1 a2 a3 a4 (k : Int) m.tup t3 ((j : Int), q)) (fun (s : List (Nat × Nat)) (i : Nat) => (.inl (s ++ [(j, i)]) : List (Nat × Nat) ⊕ List D)) (fun s => s.map (encF m k))
    (fun i s => ((i : Int), s.map (encF m k))) (List.range k) (fun i s => s.length = j * k + i)
    (fun i s x hx hi => by
      obtain ⟨rfl, hxk⟩ := range_at hx
      have b := FB.of hm hk (p := (j, x)) hj hxk
      have hjc : (j : Int) * (k : Int) = ((j * k : Nat) : Int) := (Int.natCast_mul j k).symm
      dsimp only
      refine ⟨?_, by rw [List.length_append, hi]; rfl⟩
      unfold F_field_dark_L3
      dsimp only [Mir.tup]
      have e1 := times_eq n b.c (by decide)
      have e2 := times_eq n b.u (by decide)
      have e3 := times_eq n b.v (by decide)
      have e4 := plus_eq n b.s (by decide)
      have e5 := plus_eq n (u := vtimes (k : Int) m.c) (v := vplus (vtimes (2 * (x : Int) + 1 - (k : Int)) m.u) (vtimes (2 * (j : Int) + 1 - (k : Int)) m.v)) b.t (by decide)
      dsimp only at e1 e2 e3 e4
      rw [if_pos (by omega), e1, Option.bind_some, if_pos (by unfold inI64; omega), if_pos (by unfold inI64; omega), if_pos (by unfold inI64; omega), e2, Option.bind_some, if_pos (by unfold inI64; omega), if_pos (by unfold inI64; omega), if_pos (by unfold inI64; omega), e3, Option.bind_some, e4, Option.bind_some,
        e5, Option.bind_some, if_pos (by rw [hjc]; unfold inI64; omega), if_pos (by rw [hjc]; unfold inI64; omega), if_pos (by unfold roomP; rw [List.length_map]; omega), if_pos (by unfold inI64; omega), List.map_append]; rfl)
    (fun s _ => by unfold F_field_dark_L3; dsimp only [Mir.tup]; rw [if_neg (by simp)]) (s := s) (k := n) (by simpa using hs) (by simp; omega)
  rw [show ((0 : Int), s.map (encF m k)) = (((0 : Nat) : Int), s.map (encF m k)) from rfl, this, runL_inl (fun (s : List (Nat × Nat)) i => s ++ [(j, i)])]
  rfl
theorem row2_d {A : List D} {a1 a2 a3 a4 t3 : Int} {n : Nat} (hn : 100 ≤ n) {m : Mir} (hm : m.Ok) {k : Nat} (hk : 1 ≤ k ∧ k ≤ 8) :
    loopF (F_field_dark_L2 n A a1 a2 a3 a4 (k : Int) m.tup t3 0) n (.inl ()) = some (.inr ((rowS k 0 []).map (encF m k))) := by
  obtain ⟨n', rfl⟩ : ∃ n', n = n' + 1 := ⟨n - 1, by omega⟩
  have hq := sq_le hk.2
  have body : ∀ (x : Nat), x < k → ∀ (s : List (Nat × Nat)), s.length = x → F_field_dark_L2 (n' + 1) A a1 a2 a3 a4 (k : Int) m.tup t3 0 (.inr ((x : Int), s.map (encF m k))) =
      some (.inl (.inr (((x + 1 : Nat) : Int), (s ++ [(0, x)]).map (encF m k)))) := by
    intro x hxk s hs
    have b := FB.of hm hk (p := (0, x)) (by omega) hxk
    unfold F_field_dark_L2
    dsimp only [Mir.tup]
    have e1 := times_eq (n' + 1) b.c (by decide)
    have e2 := times_eq (n' + 1) b.u (by decide)
    have e3 := times_eq (n' + 1) b.v (by decide)
    have e4 := plus_eq (n' + 1) b.s (by decide)
    have e5 := plus_eq (n' + 1) (u := vtimes (k : Int) m.c) (v := vplus (vtimes (2 * (x : Int) + 1 - (k : Int)) m.u) (vtimes (2 * ((0 : Nat) : Int) + 1 - (k : Int)) m.v)) b.t (by decide)
    dsimp only at e1 e2 e3 e4
    rw [if_pos (by omega), e1, Option.bind_some, if_pos (by unfold inI64; omega), if_pos (by unfold inI64; omega), if_pos (by unfold inI64; omega), e2, Option.bind_some, if_pos (by unfold inI64; omega), if_pos (by unfold inI64; omega), if_pos (by unfold inI64; omega)]
    show (F_field_times (n' + 1) (2 * ((0 : Nat) : Int) + 1 - (k : Int)) m.v.1 m.v.2.1 m.v.2.2).bind _ = _
    rw [e3, Option.bind_some, e4, Option.bind_some, e5, Option.bind_some, if_pos (by unfold inI64; omega), if_pos (by unfold inI64; omega), if_pos (by unfold roomP; rw [List.length_map]; omega), if_pos (by unfold inI64; omega), List.map_append]; rfl
  have first : F_field_dark_L2 (n' + 1) A a1 a2 a3 a4 (k : Int) m.tup t3 0 (.inl ()) = some (.inl (.inr (((1 : Nat) : Int), [(0, 0)].map (encF m k)))) := by
    have b := FB.of hm hk (p := (0, 0)) (by omega) (by omega)
    unfold F_field_dark_L2
    dsimp only [Mir.tup]
    have e1 := times_eq (n' + 1) b.c (by decide)
    have e2 := times_eq (n' + 1) b.u (by decide)
    have e3 := times_eq (n' + 1) b.v (by decide)
    have e4 := plus_eq (n' + 1) b.s (by decide)
    have e5 := plus_eq (n' + 1) (u := vtimes (k : Int) m.c) (v := vplus (vtimes (2 * ((0 : Nat) : Int) + 1 - (k : Int)) m.u) (vtimes (2 * ((0 : Nat) : Int) + 1 - (k : Int)) m.v)) b.t (by decide)
    dsimp only at e1 e2 e3 e4
    have z1 : (2 * ((0 : Nat) : Int) + 1 - (k : Int)) = 1 - (k : Int) := by omega
    rw [z1] at e2 e3 e4 e5
    rw [if_pos (by omega), e1, Option.bind_some, if_pos (by unfold inI64; omega), e2, Option.bind_some, if_pos (by unfold inI64; omega), if_pos (by unfold inI64; omega), if_pos (by unfold inI64; omega)]
    rw [show (2 * (0 : Int) + 1 - (k : Int)) = 1 - (k : Int) by omega, e3, Option.bind_some, e4, Option.bind_some, e5, Option.bind_some, if_pos (by unfold inI64; omega), if_pos (by unfold inI64; omega)]
    simp only [List.map_cons, List.map_nil, encF, fc, z1]
    rfl
  rw [loopF_l first]
  have := loopF_list (step := F_field_dark_L2 (n' + 1) A a1 a2 a3 a4 (k : Int) m.tup t3 0) (fun (s : List (Nat × Nat)) (i : Nat) => (.inl (s ++ [(0, i)]) : List (Nat × Nat) ⊕ (Unit ⊕ List D))) (fun s => .inr (s.map (encF m k)))
    (fun i s => .inr ((i : Int), s.map (encF m k))) (List.range k) (fun i s => s.length = i)
    (fun i s x hx hi => by
      obtain ⟨rfl, hxk⟩ := range_at hx
      exact ⟨body x hxk s hi, by rw [List.length_append, hi]; rfl⟩)
    (fun s _ => by unfold F_field_dark_L2; dsimp only [Mir.tup]; rw [if_neg (by simp)]) n' 1 [(0, 0)] rfl (by simp; omega) (by simp; omega)
  rw [this, runL_inl (fun (s : List (Nat × Nat)) i => s ++ [(0, i)])]
  have hr : List.range k = 0 :: (List.range k).drop 1 := by
    obtain ⟨k', rfl⟩ : ∃ k', k = k' + 1 := ⟨k - 1, by omega⟩
    rw [List.range_succ_eq_map]; rfl
  unfold rowS
  conv => rhs; rw [hr]
  rfl
theorem row4_d {A : List D} {a1 a2 a3 a4 t3 : Int} {n : Nat} (hn : 100 ≤ n) {m : Mir} (hm : m.Ok) {k : Nat} (hk : 1 ≤ k ∧ k ≤ 8) :
    loopF (F_field_dark_L4 n A a1 a2 a3 a4 (k : Int) m.tup t3) n (.inl 0) = some (.inr ((allS k).map (encF m k))) := by
  obtain ⟨n', rfl⟩ : ∃ n', n = n' + 1 := ⟨n - 1, by omega⟩
  have first : F_field_dark_L4 (n' + 1) A a1 a2 a3 a4 (k : Int) m.tup t3 (.inl 0) = some (.inl (.inr (((1 : Nat) : Int), (rowS k 0 []).map (encF m k)))) := by
    unfold F_field_dark_L4
    dsimp only
    rw [if_pos (by omega), row2_d hn hm hk, Option.bind_some]
    dsimp only
    rw [if_pos (by unfold inI64; omega)]; rfl
  rw [loopF_l first]
  have := loopF_list (step := F_field_dark_L4 (n' + 1) A a1 a2 a3 a4 (k : Int) m.tup t3) (fun (s : List (Nat × Nat)) (j : Nat) => (.inl (rowS k j s) : List (Nat × Nat) ⊕ (Unit ⊕ List D))) (fun s => .inr (s.map (encF m k)))
    (fun i s => .inr ((i : Int), s.map (encF m k))) (List.range k) (fun i s => s.length = i * k)
    (fun i s x hx hi => by
      obtain ⟨rfl, hxk⟩ := range_at hx
      dsimp only
      refine ⟨?_, by rw [rowS_len, hi, Nat.add_mul, Nat.one_mul]⟩
      unfold F_field_dark_L4
      dsimp only
      rw [if_pos (by omega), row3_d hn hm hk hxk hi, Option.bind_some, if_pos (by unfold inI64; omega)]; rfl)
    (fun s _ => by unfold F_field_dark_L4; dsimp only; rw [if_neg (by simp)]) n' 1 (rowS k 0 []) (by rw [rowS_len]; simp) (by simp; omega) (by simp; omega)
  rw [this, runL_inl (fun (s : List (Nat × Nat)) j => rowS k j s)]
  have hr : List.range k = 0 :: (List.range k).drop 1 := by
    obtain ⟨k', rfl⟩ : ∃ k', k = k' + 1 := ⟨k - 1, by omega⟩
    rw [List.range_succ_eq_map]; rfl
  unfold allS
  conv => rhs; rw [hr]
  rfl
theorem row3_b {A : List D} {a1 a2 a3 a4 : Int} {n : Nat} (hn : 100 ≤ n) {m : Mir} (hm : m.Ok) {k : Nat} (hk : 1 ≤ k ∧ k ≤ 8) {j : Nat} (hj : j < k) {s : List (Nat × Nat)} (hs : s.length = j * k) (q : List D) :
    loopF (F_field_blocked_L3 n A a1 a2 a3 a4 (k : Int) m.tup ((j : Int), q)) n (0, s.map (encF m k)) = some ((rowS k j s).map (encF m k)) := by
  have hq := sq_le hk.2
  have hjk := jk_le hj
  have := loopF_list0 (step := F_field_blocked_L3 n A a1 a2 a3 a4 (k : Int) m.tup ((j : Int), q)) (fun (s : List (Nat × Nat)) (i : Nat) => (.inl (s ++ [(j, i)]) : List (Nat × Nat) ⊕ List D)) (fun s => s.map (encF m k))
    (fun i s => ((i : Int), s.map (encF m k))) (List.range k) (fun i s => s.length = j * k + i)
    (fun i s x hx hi => by
      obtain ⟨rfl, hxk⟩ := range_at hx
      have b := FB.of hm hk (p := (j, x)) hj hxk
      have hjc : (j : Int) * (k : Int) = ((j * k : Nat) : Int) := (Int.natCast_mul j k).symm
      dsimp only
      refine ⟨?_, by rw [List.length_append, hi]; rfl⟩
      unfold F_field_blocked_L3
      dsimp only [Mir.tup]
      have e1 := times_eq n b.c (by decide)
      have e2 := times_eq n b.u (by decide)
      have e3 := times_eq n b.v (by decide)
      have e4 := plus_eq n b.s (by decide)
      have e5 := plus_eq n (u := vtimes (k : Int) m.c) (v := vplus (vtimes (2 * (x : Int) + 1 - (k : Int)) m.u) (vtimes (2 * (j : Int) + 1 - (k : Int)) m.v)) b.t (by decide)
      dsimp only at e1 e2 e3 e4
      rw [if_pos (by omega), e1, Option.bind_some, if_pos (by unfold inI64; omega), if_pos (by unfold inI64; omega), if_pos (by unfold inI64; omega), e2, Option.bind_some, if_pos (by unfold inI64; omega), if_pos (by unfold inI64; omega), if_pos (by unfold inI64; omega), e3, Option.bind_some, e4, Option.bind_some,
        e5, Option.bind_some, if_pos (by rw [hjc]; unfold inI64; omega), if_pos (by rw [hjc]; unfold inI64; omega), if_pos (by unfold roomP; rw [List.length_map]; omega), if_pos (by unfold inI64; omega), List.map_append]; rfl)
    (fun s _ => by unfold F_field_blocked_L3; dsimp only [Mir.tup]; rw [if_neg (by simp)]) (s := s) (k := n) (by simpa using hs) (by simp; omega)
  rw [show ((0 : Int), s.map (encF m k)) = (((0 : Nat) : Int), s.map (encF m k)) from rfl, this, runL_inl (fun (s : List (Nat × Nat)) i => s ++ [(j, i)])]
  rfl
theorem row2_b {A : List D} {a1 a2 a3 a4 : Int} {n : Nat} (hn : 100 ≤ n) {m : Mir} (hm : m.Ok) {k : Nat} (hk : 1 ≤ k ∧ k ≤ 8) :
    loopF (F_field_blocked_L2 n A a1 a2 a3 a4 (k : Int) m.tup 0) n (.inl ()) = some (.inr ((rowS k 0 []).map (encF m k))) := by
  obtain ⟨n', rfl⟩ : ∃ n', n = n' + 1 := ⟨n - 1, by omega⟩
  have hq := sq_le hk.2
  have body : ∀ (x : Nat), x < k → ∀ (s : List (Nat × Nat)), s.length = x → F_field_blocked_L2 (n' + 1) A a1 a2 a3 a4 (k : Int) m.tup 0 (.inr ((x : Int), s.map (encF m k))) =
      some (.inl (.inr (((x + 1 : Nat) : Int), (s ++ [(0, x)]).map (encF m k)))) := by
    intro x hxk s hs
    have b := FB.of hm hk (p := (0, x)) (by omega) hxk
    unfold F_field_blocked_L2
    dsimp only [Mir.tup]
    have e1 := times_eq (n' + 1) b.c (by decide)
    have e2 := times_eq (n' + 1) b.u (by decide)
    have e3 := times_eq (n' + 1) b.v (by decide)
    have e4 := plus_eq (n' + 1) b.s (by decide)
    have e5 := plus_eq (n' + 1) (u := vtimes (k : Int) m.c) (v := vplus (vtimes (2 * (x : Int) + 1 - (k : Int)) m.u) (vtimes (2 * ((0 : Nat) : Int) + 1 - (k : Int)) m.v)) b.t (by decide)
    dsimp only at e1 e2 e3 e4
    rw [if_pos (by omega), e1, Option.bind_some, if_pos (by unfold inI64; omega), if_pos (by unfold inI64; omega), if_pos (by unfold inI64; omega), e2, Option.bind_some, if_pos (by unfold inI64; omega), if_pos (by unfold inI64; omega), if_pos (by unfold inI64; omega)]
    show (F_field_times (n' + 1) (2 * ((0 : Nat) : Int) + 1 - (k : Int)) m.v.1 m.v.2.1 m.v.2.2).bind _ = _
    rw [e3, Option.bind_some, e4, Option.bind_some, e5, Option.bind_some, if_pos (by unfold inI64; omega), if_pos (by unfold inI64; omega), if_pos (by unfold roomP; rw [List.length_map]; omega), if_pos (by unfold inI64; omega), List.map_append]; rfl
  have first : F_field_blocked_L2 (n' + 1) A a1 a2 a3 a4 (k : Int) m.tup 0 (.inl ()) = some (.inl (.inr (((1 : Nat) : Int), [(0, 0)].map (encF m k)))) := by
    have b := FB.of hm hk (p := (0, 0)) (by omega) (by omega)
    unfold F_field_blocked_L2
    dsimp only [Mir.tup]
    have e1 := times_eq (n' + 1) b.c (by decide)
    have e2 := times_eq (n' + 1) b.u (by decide)
    have e3 := times_eq (n' + 1) b.v (by decide)
    have e4 := plus_eq (n' + 1) b.s (by decide)
    have e5 := plus_eq (n' + 1) (u := vtimes (k : Int) m.c) (v := vplus (vtimes (2 * ((0 : Nat) : Int) + 1 - (k : Int)) m.u) (vtimes (2 * ((0 : Nat) : Int) + 1 - (k : Int)) m.v)) b.t (by decide)
    dsimp only at e1 e2 e3 e4
    have z1 : (2 * ((0 : Nat) : Int) + 1 - (k : Int)) = 1 - (k : Int) := by omega
    rw [z1] at e2 e3 e4 e5
    rw [if_pos (by omega), e1, Option.bind_some, if_pos (by unfold inI64; omega), e2, Option.bind_some, if_pos (by unfold inI64; omega), if_pos (by unfold inI64; omega), if_pos (by unfold inI64; omega)]
    rw [show (2 * (0 : Int) + 1 - (k : Int)) = 1 - (k : Int) by omega, e3, Option.bind_some, e4, Option.bind_some, e5, Option.bind_some, if_pos (by unfold inI64; omega), if_pos (by unfold inI64; omega)]
    simp only [List.map_cons, List.map_nil, encF, fc, z1]
    rfl
  rw [loopF_l first]
  have := loopF_list (step := F_field_blocked_L2 (n' + 1) A a1 a2 a3 a4 (k : Int) m.tup 0) (fun (s : List (Nat × Nat)) (i : Nat) => (.inl (s ++ [(0, i)]) : List (Nat × Nat) ⊕ (Unit ⊕ List D))) (fun s => .inr (s.map (encF m k)))
    (fun i s => .inr ((i : Int), s.map (encF m k))) (List.range k) (fun i s => s.length = i)
    (fun i s x hx hi => by
      obtain ⟨rfl, hxk⟩ := range_at hx
      exact ⟨body x hxk s hi, by rw [List.length_append, hi]; rfl⟩)
    (fun s _ => by unfold F_field_blocked_L2; dsimp only [Mir.tup]; rw [if_neg (by simp)]) n' 1 [(0, 0)] rfl (by simp; omega) (by simp; omega)
  rw [this, runL_inl (fun (s : List (Nat × Nat)) i => s ++ [(0, i)])]
  have hr : List.range k = 0 :: (List.range k).drop 1 := by
    obtain ⟨k', rfl⟩ : ∃ k', k = k' + 1 := ⟨k - 1, by omega⟩
    rw [List.range_succ_eq_map]; rfl
  unfold rowS
  conv => rhs; rw [hr]
  rfl
theorem row4_b {A : List D} {a1 a2 a3 a4 : Int} {n : Nat} (hn : 100 ≤ n) {m : Mir} (hm : m.Ok) {k : Nat} (hk : 1 ≤ k ∧ k ≤ 8) :
    loopF (F_field_blocked_L4 n A a1 a2 a3 a4 (k : Int) m.tup) n (.inl 0) = some (.inr ((allS k).map (encF m k))) := by
  obtain ⟨n', rfl⟩ : ∃ n', n = n' + 1 := ⟨n - 1, by omega⟩
  have first : F_field_blocked_L4 (n' + 1) A a1 a2 a3 a4 (k : Int) m.tup (.inl 0) = some (.inl (.inr (((1 : Nat) : Int), (rowS k 0 []).map (encF m k)))) := by
    unfold F_field_blocked_L4
    dsimp only
    rw [if_pos (by omega), row2_b hn hm hk, Option.bind_some]
    dsimp only
    rw [if_pos (by unfold inI64; omega)]; rfl
  rw [loopF_l first]
  have := loopF_list (step := F_field_blocked_L4 (n' + 1) A a1 a2 a3 a4 (k : Int) m.tup) (fun (s : List (Nat × Nat)) (j : Nat) => (.inl (rowS k j s) : List (Nat × Nat) ⊕ (Unit ⊕ List D))) (fun s => .inr (s.map (encF m k)))
    (fun i s => .inr ((i : Int), s.map (encF m k))) (List.range k) (fun i s => s.length = i * k)
    (fun i s x hx hi => by
      obtain ⟨rfl, hxk⟩ := range_at hx
      dsimp only
      refine ⟨?_, by rw [rowS_len, hi, Nat.add_mul, Nat.one_mul]⟩
      unfold F_field_blocked_L4
      dsimp only
      rw [if_pos (by omega), row3_b hn hm hk hxk hi, Option.bind_some, if_pos (by unfold inI64; omega)]; rfl)
    (fun s _ => by unfold F_field_blocked_L4; dsimp only; rw [if_neg (by simp)]) n' 1 (rowS k 0 []) (by rw [rowS_len]; simp) (by simp; omega) (by simp; omega)
  rw [this, runL_inl (fun (s : List (Nat × Nat)) j => rowS k j s)]
  have hr : List.range k = 0 :: (List.range k).drop 1 := by
    obtain ⟨k', rfl⟩ : ∃ k', k = k' + 1 := ⟨k - 1, by omega⟩
    rw [List.range_succ_eq_map]; rfl
  unfold allS
  conv => rhs; rw [hr]
  rfl
def gM (mi k : Int) (f al : Vec) (e : Bool) (s : Nat) (m : Mir) : Nat ⊕ (Unit ⊕ Unit) := if (s : Int) = mi then .inl (s + 1) else if meetV m k f al e = true then .inr (.inl ()) else .inl (s + 1)
def metR (ms : List Mir) (mi k : Int) (f al : Vec) (e : Bool) : Unit ⊕ Unit := runL (gM mi k f al e) (fun _ => .inr ()) ms 0
def metB (ms : List Mir) (mi k : Int) (f al : Vec) (e : Bool) : Bool := match metR ms mi k f al e with
  | .inl _ => true
  | .inr _ => false
theorem met_eq {n : Nat} {ms : List Mir} (hl : ms.length < n) (hl2 : ms.length ≤ 64) (hok : ∀ m, m ∈ ms → m.Ok) (mi : Int) {k : Int} (hk : 1 ≤ k ∧ k ≤ 8) {f al : Vec} (hf : Bd 131072 f) (ha : Bd 131072 al) (e : Bool) :
    F_field_met n (ms.map encM) mi k f.1 f.2.1 f.2.2 al.1 al.2.1 al.2.2 e = some (metB ms mi k f al e) := by
  unfold F_field_met
  have := loopF_list0 (step := F_field_met_L1 n (ms.map encM) mi k f.1 f.2.1 f.2.2 al.1 al.2.1 al.2.2 e) (gM mi k f al e) (fun _ => .inr ()) (fun i _ => (i : Int)) ms (fun i s => s = i)
    (fun i s x hx hi => by
      have hlt := (List.getElem?_eq_some_iff.1 hx).1
      have hm := meets_eq (n := n) (hok x (List.mem_of_getElem? hx)) hk hf ha e
      have hi2 : inI64 ((i : Int) + 1) := by unfold inI64; omega
      subst hi
      unfold gM F_field_met_L1
      by_cases h : (s : Int) = mi
      · rw [if_pos h]
        refine ⟨?_, rfl⟩
        rw [if_pos (lenlt hx), elM hx, Option.bind_some, if_pos h, if_pos hi2]; rfl
      · rw [if_neg h]
        by_cases h2 : meetV x k f al e = true
        · rw [if_pos h2]
          dsimp only
          rw [if_pos (lenlt hx), elM hx, Option.bind_some, if_neg h]
          unfold Mir.tup
          dsimp only
          rw [hm, Option.bind_some, if_pos h2]
        · rw [if_neg h2]
          refine ⟨?_, rfl⟩
          rw [if_pos (lenlt hx), elM hx, Option.bind_some, if_neg h]
          unfold Mir.tup
          dsimp only
          rw [hm, Option.bind_some, if_neg h2, if_pos hi2]; rfl)
    (fun s _ => by unfold F_field_met_L1; rw [if_neg (by simp)]) (s := 0) (k := n) rfl hl
  rw [show (0 : Int) = ((0 : Nat) : Int) from rfl, this, Option.bind_some]
  unfold metB metR
  cases runL (gM mi k f al e) (fun _ => .inr ()) ms 0 <;> rfl
def encB (b : Bool) : D := B b
def darkB (ms : List Mir) (mi k : Int) (m : Mir) (sun : Vec) (p : Nat × Nat) : Bool := if vdot m.nrm sun > 0 then metB ms mi k (fc m k p) sun false else true
structure Asked (ms : List Mir) (q k : Nat) (m : Mir) : Prop where
  at_ : ms[q]? = some m
  len : ms.length ≤ 64
  ok : ∀ x, x ∈ ms → x.Ok
  k : 1 ≤ k ∧ k ≤ 8
theorem Asked.m {ms : List Mir} {q k : Nat} {m : Mir} (h : Asked ms q k m) : m.Ok := h.ok m (List.mem_of_getElem? h.at_)
theorem Asked.f {ms : List Mir} {q k : Nat} {m : Mir} (h : Asked ms q k m) {p : Nat × Nat} (hp : p ∈ allS k) : Bd 131072 (fc m k p) := (FB.of h.m h.k (allS_mem p hp).1 (allS_mem p hp).2).t.mono (by decide)
theorem dark5 {n : Nat} {ms : List Mir} {q k : Nat} {m : Mir} (h : Asked ms q k m) (hn : 100 ≤ n) {sun : Vec} (hs : Bd 1024 sun) :
    loopF (F_field_dark_L5 n (ms.map encM) (q : Int) sun.1 sun.2.1 sun.2.2 (k : Int) m.tup (vdot m.nrm sun) ((allS k).map (encF m k))) n (0, []) = some ((allS k).map fun p => encB (darkB ms q k m sun p)) := by
  have hq := sq_le h.k.2
  have hl := allS_len k
  have := loopF_list0 (step := F_field_dark_L5 n (ms.map encM) (q : Int) sun.1 sun.2.1 sun.2.2 (k : Int) m.tup (vdot m.nrm sun) ((allS k).map (encF m k))) (fun (s : List D) (p : Nat × Nat) => (.inl (s ++ [encB (darkB ms q k m sun p)]) : List D ⊕ List D)) id
    (fun i s => ((i : Int), s)) (allS k) (fun i s => s.length = i)
    (fun i s x hx hi => by
      have hlt := (List.getElem?_eq_some_iff.1 hx).1
      have hf := h.f (List.mem_of_getElem? hx)
      have hm := met_eq (n := n) (ms := ms) (Nat.lt_of_le_of_lt h.len (by omega)) h.len h.ok (q : Int) (k := (k : Int)) ⟨by have := h.k; omega, by have := h.k; omega⟩ hf (hs.mono (by decide)) false
      dsimp only
      refine ⟨?_, by simp [hi]⟩
      unfold F_field_dark_L5 darkB
      dsimp only
      have hll := lenlt (f := encF m k) hx
      rw [if_pos hll, if_pos ⟨by omega, hll⟩, Int.toNat_natCast, nth_get?, List.getElem?_map, hx]
      show ((some (encF m k x)).bind un_Ai4Z).bind _ = _
      rw [Option.bind_some, show un_Ai4Z (encF m k x) = some ((x.1 : Int) * k + (x.2 : Int), (fc m k x).1, (fc m k x).2.1, (fc m k x).2.2) from rfl, Option.bind_some]
      by_cases hd : vdot m.nrm sun > 0
      · rw [if_pos (by simpa using hd), if_pos hd]
        dsimp only
        rw [hm, Option.bind_some, if_pos (by unfold roomP; omega), if_pos (by unfold inI64; omega)]; rfl
      · rw [if_neg (by simpa using hd), if_neg hd, if_pos (by unfold roomP; omega), if_pos (by unfold inI64; omega)]; rfl)
    (fun s _ => by unfold F_field_dark_L5; dsimp only; rw [if_neg (by simp)]; rfl) (s := []) (k := n) rfl (by omega)
  rw [show ((0 : Int), ([] : List D)) = (((0 : Nat) : Int), []) from rfl, this, runL_app]
  rfl
theorem dark_eq {n : Nat} {ms : List Mir} {q k : Nat} {m : Mir} (h : Asked ms q k m) (hn : 100 ≤ n) {sun : Vec} (hs : Bd 1024 sun) :
    F_field_dark n (ms.map encM) (q : Int) sun.1 sun.2.1 sun.2.2 (k : Int) = some ((allS k).map fun p => encB (darkB ms q k m sun p)) := by
  unfold F_field_dark
  have e1 := normal_eq n h.m
  have e2 := dot_eq n (h.m.nrm.dot hs (show (8192 : Int) * 1024 = 8388608 by decide) (by decide) (by decide)) (by decide)
  rw [elM h.at_, Option.bind_some]
  show (F_field_Mirror_normal n m.name m.c.1 m.c.2.1 m.c.2.2 m.u.1 m.u.2.1 m.u.2.2 m.v.1 m.v.2.1 m.v.2.2).bind _ = _
  rw [e1, Option.bind_some, e2, Option.bind_some, row4_d hn h.m h.k, Option.bind_some]
  dsimp only
  rw [dark5 h hn hs]; rfl
def alo (m : Mir) (k : Int) (t : Vec) (p : Nat × Nat) : Vec := vplus (vtimes k t) (vtimes (-1) (fc m k p))
def blockB (ms : List Mir) (mi k : Int) (m : Mir) (t : Vec) (p : Nat × Nat) : Bool := if vdot m.nrm (alo m k t p) ≤ 0 then true else metB ms mi k (fc m k p) (alo m k t p) true
structure AB (m : Mir) (k : Nat) (t : Vec) (p : Nat × Nat) : Prop where
  tt : Bd 32768 (vtimes (k : Int) t)
  f : Bd 33792 (vtimes (-1) (fc m k p))
  a : Bd 66560 (alo m k t p)
  d : DotB 545259520 m.nrm (alo m k t p)
theorem AB.of {ms : List Mir} {q k : Nat} {m : Mir} (h : Asked ms q k m) {t : Vec} (ht : Bd 4096 t) {p : Nat × Nat} (hp : p ∈ allS k) : AB m k t p := by
  have h1 : Bd 32768 (vtimes (k : Int) t) := Bd.times (K := 8) ⟨by have := h.k; omega, by have := h.k; omega⟩ ht (by decide) (by decide) (by decide)
  have h2 : Bd 33792 (vtimes (-1) (fc m k p)) := Bd.times (K := 1) (by decide) (FB.of h.m h.k (allS_mem p hp).1 (allS_mem p hp).2).t (by decide) (by decide) (by decide)
  have h3 : Bd 66560 (alo m k t p) := (h1.plus h2).mono (by decide)
  exact ⟨h1, h2, h3, h.m.nrm.dot h3 (by decide) (by decide) (by decide)⟩
theorem block5 {n : Nat} {ms : List Mir} {q k : Nat} {m : Mir} (h : Asked ms q k m) (hn : 100 ≤ n) {t : Vec} (ht : Bd 4096 t) :
    loopF (F_field_blocked_L5 n (ms.map encM) (q : Int) t.1 t.2.1 t.2.2 (k : Int) m.tup ((allS k).map (encF m k))) n (0, []) = some ((allS k).map fun p => encB (blockB ms q k m t p)) := by
  have hq := sq_le h.k.2
  have hl := allS_len k
  have e1 := normal_eq n h.m
  have := loopF_list0 (step := F_field_blocked_L5 n (ms.map encM) (q : Int) t.1 t.2.1 t.2.2 (k : Int) m.tup ((allS k).map (encF m k))) (fun (s : List D) (p : Nat × Nat) => (.inl (s ++ [encB (blockB ms q k m t p)]) : List D ⊕ List D)) id
    (fun i s => ((i : Int), s)) (allS k) (fun i s => s.length = i)
    (fun i s x hx hi => by
      have hlt := (List.getElem?_eq_some_iff.1 hx).1
      have hxm := List.mem_of_getElem? hx
      have hf := h.f hxm
      have b := AB.of h ht hxm
      have hm := met_eq (n := n) (ms := ms) (Nat.lt_of_le_of_lt h.len (by omega)) h.len h.ok (q : Int) (k := (k : Int)) ⟨by have := h.k; omega, by have := h.k; omega⟩ hf (b.a.mono (by decide)) true
      dsimp only
      refine ⟨?_, by simp [hi]⟩
      unfold F_field_blocked_L5 blockB
      dsimp only [Mir.tup]
      have hll := lenlt (f := encF m k) hx
      rw [if_pos hll, if_pos ⟨by omega, hll⟩, Int.toNat_natCast, nth_get?, List.getElem?_map, hx]
      show ((some (encF m k x)).bind un_Ai4Z).bind _ = _
      rw [Option.bind_some, show un_Ai4Z (encF m k x) = some ((x.1 : Int) * k + (x.2 : Int), (fc m k x).1, (fc m k x).2.1, (fc m k x).2.2) from rfl, Option.bind_some]
      dsimp only
      rw [times_eq n b.tt (by decide), Option.bind_some, times_eq n b.f (by decide), Option.bind_some, plus_eq n (v := vtimes (-1) (fc m k x)) b.a (by decide), Option.bind_some, e1, Option.bind_some]
      show (F_field_dot n m.nrm.1 m.nrm.2.1 m.nrm.2.2 (alo m k t x).1 (alo m k t x).2.1 (alo m k t x).2.2).bind _ = _
      rw [dot_eq n b.d (by decide), Option.bind_some]
      by_cases hd : vdot m.nrm (alo m k t x) ≤ 0
      · rw [if_pos hd, if_pos hd, if_pos (by unfold roomP; omega), if_pos (by unfold inI64; omega)]; rfl
      · rw [if_neg hd, if_neg hd]
        show (F_field_met n (ms.map encM) (q : Int) (k : Int) (fc m k x).1 (fc m k x).2.1 (fc m k x).2.2 (alo m k t x).1 (alo m k t x).2.1 (alo m k t x).2.2 true).bind _ = _
        rw [hm, Option.bind_some, if_pos (by unfold roomP; omega), if_pos (by unfold inI64; omega)]; rfl)
    (fun s _ => by unfold F_field_blocked_L5; dsimp only; rw [if_neg (by simp)]; rfl) (s := []) (k := n) rfl (by omega)
  rw [show ((0 : Int), ([] : List D)) = (((0 : Nat) : Int), []) from rfl, this, runL_app]
  rfl
theorem block_eq {n : Nat} {ms : List Mir} {q k : Nat} {m : Mir} (h : Asked ms q k m) (hn : 100 ≤ n) {t : Vec} (ht : Bd 4096 t) :
    F_field_blocked n (ms.map encM) (q : Int) t.1 t.2.1 t.2.2 (k : Int) = some ((allS k).map fun p => encB (blockB ms q k m t p)) := by
  unfold F_field_blocked
  rw [elM h.at_, Option.bind_some, row4_b hn h.m h.k, Option.bind_some]
  dsimp only
  rw [block5 h hn ht]; rfl
end Go.Proofs.YtiogobiijlaalaaDoor
