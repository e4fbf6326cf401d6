/-
  FieldHidden, the plain law: Dark and Blocked answer as the reference does. An own text.
-/
import Derived.Test.YtbjibgaknkaifaaGreatDoorFac
import Derived.Test.YtbjibgaknkaifaaGreatDoorHidden1
set_option linter.unusedVariables false
set_option linter.unusedSimpArgs false
set_option linter.unnecessarySimpa false
set_option maxRecDepth 20000
namespace Go.Proofs.YtbjibgaknkaifaaGreatDoor
open Go.SX

theorem row3_d {A : List D} {a1 a2 a3 a4 t3 : Int} {n : Nat} (hn : 100 ≤ n) {m : Mir} (hm : m.Ok) {k : Nat} (hk : 1 ≤ k ∧ k ≤ 8) {j : Nat} (hj : j < k) {s : List (Nat × Nat)} (hs : s.length = j * k) (q : List D) :
    loopF (F_field_dark_L3 n A a1 a2 a3 a4 (k : Int) m.tup t3 ((j : Int), q)) n (0, s.map (encF m k)) = some ((rowS k j s).map (encF m k)) := by
  have hq := sq_le hk.2
  have hjk := jk_le hj
  have := loopF_list0 (step := F_field_dark_L3 n A a1 a2 a3 a4 (k : Int) m.tup t3 ((j : Int), q)) (fun (s : List (Nat × Nat)) (i : Nat) => (.inl (s ++ [(j, i)]) : List (Nat × Nat) ⊕ List D)) (fun s => s.map (encF m k))
    (fun i s => ((i : Int), s.map (encF m k))) (List.range k) (fun i s => s.length = j * k + i)
    (fun i s x hx hi => by
      obtain ⟨rfl, hxk⟩ := range_at hx
      have b := FB.of hm hk (p := (j, x)) hj hxk
      have hjc : (j : Int) * (k : Int) = ((j * k : Nat) : Int) := (Int.natCast_mul j k).symm
      dsimp only
      refine ⟨?_, by rw [List.length_append, hi]; rfl⟩
      unfold F_field_dark_L3
      dsimp only [Mir.tup]
      have e1 := times_eq n b.c (by decide)
      have e2 := times_eq n b.u (by decide)
      have e3 := times_eq n b.v (by decide)
      have e4 := plus_eq n b.s (by decide)
      have e5 := plus_eq n (u := vtimes (k : Int) m.c) (v := vplus (vtimes (2 * (x : Int) + 1 - (k : Int)) m.u) (vtimes (2 * (j : Int) + 1 - (k : Int)) m.v)) b.t (by decide)
      dsimp only at e1 e2 e3 e4
      rw [if_pos (by omega), e1, Option.bind_some, if_pos (by unfold inI64; omega), if_pos (by unfold inI64; omega), if_pos (by unfold inI64; omega), e2, Option.bind_some, if_pos (by unfold inI64; omega), if_pos (by unfold inI64; omega), if_pos (by unfold inI64; omega), e3, Option.bind_some, e4, Option.bind_some,
        e5, Option.bind_some, if_pos (by rw [hjc]; unfold inI64; omega), if_pos (by rw [hjc]; unfold inI64; omega), if_pos (by unfold roomP; rw [List.length_map]; omega), if_pos (by unfold inI64; omega), List.map_append]; rfl)
    (fun s _ => by unfold F_field_dark_L3; dsimp only [Mir.tup]; rw [if_neg (by simp)]) (s := s) (k := n) (by simpa using hs) (by simp; omega)
  rw [show ((0 : Int), s.map (encF m k)) = (((0 : Nat) : Int), s.map (encF m k)) from rfl, this, runL_inl (fun (s : List (Nat × Nat)) i => s ++ [(j, i)])]
  rfl
theorem row2_d {A : List D} {a1 a2 a3 a4 t3 : Int} {n : Nat} (hn : 100 ≤ n) {m : Mir} (hm : m.Ok) {k : Nat} (hk : 1 ≤ k ∧ k ≤ 8) :
    loopF (F_field_dark_L2 n A a1 a2 a3 a4 (k : Int) m.tup t3 0) n (.inl ()) = some (.inr ((rowS k 0 []).map (encF m k))) := by
  obtain ⟨n', rfl⟩ : ∃ n', n = n' + 1 := ⟨n - 1, by omega⟩
  have hq := sq_le hk.2
  have body : ∀ (x : Nat), x < k → ∀ (s : List (Nat × Nat)), s.length = x → F_field_dark_L2 (n' + 1) A a1 a2 a3 a4 (k : Int) m.tup t3 0 (.inr ((x : Int), s.map (encF m k))) =
      some (.inl (.inr (((x + 1 : Nat) : Int), (s ++ [(0, x)]).map (encF m k)))) := by
    intro x hxk s hs
    have b := FB.of hm hk (p := (0, x)) (by omega) hxk
    unfold F_field_dark_L2
    dsimp only [Mir.tup]
    have e1 := times_eq (n' + 1) b.c (by decide)
    have e2 := times_eq (n' + 1) b.u (by decide)
    have e3 := times_eq (n' + 1) b.v (by decide)
    have e4 := plus_eq (n' + 1) b.s (by decide)
    have e5 := plus_eq (n' + 1) (u := vtimes (k : Int) m.c) (v := vplus (vtimes (2 * (x : Int) + 1 - (k : Int)) m.u) (vtimes (2 * ((0 : Nat) : Int) + 1 - (k : Int)) m.v)) b.t (by decide)
    dsimp only at e1 e2 e3 e4
    rw [if_pos (by omega), e1, Option.bind_some, if_pos (by unfold inI64; omega), if_pos (by unfold inI64; omega), if_pos (by unfold inI64; omega), e2, Option.bind_some, if_pos (by unfold inI64; omega), if_pos (by unfold inI64; omega), if_pos (by unfold inI64; omega)]
    show (F_field_times (n' + 1) (2 * ((0 : Nat) : Int) + 1 - (k : Int)) m.v.1 m.v.2.1 m.v.2.2).bind _ = _
    rw [e3, Option.bind_some, e4, Option.bind_some, e5, Option.bind_some, if_pos (by unfold inI64; omega), if_pos (by unfold inI64; omega), if_pos (by unfold roomP; rw [List.length_map]; omega), if_pos (by unfold inI64; omega), List.map_append]; rfl
  have first : F_field_dark_L2 (n' + 1) A a1 a2 a3 a4 (k : Int) m.tup t3 0 (.inl ()) = some (.inl (.inr (((1 : Nat) : Int), [(0, 0)].map (encF m k)))) := by
    have b := FB.of hm hk (p := (0, 0)) (by omega) (by omega)
    unfold F_field_dark_L2
    dsimp only [Mir.tup]
    have e1 := times_eq (n' + 1) b.c (by decide)
    have e2 := times_eq (n' + 1) b.u (by decide)
    have e3 := times_eq (n' + 1) b.v (by decide)
    have e4 := plus_eq (n' + 1) b.s (by decide)
    have e5 := plus_eq (n' + 1) (u := vtimes (k : Int) m.c) (v := vplus (vtimes (2 * ((0 : Nat) : Int) + 1 - (k : Int)) m.u) (vtimes (2 * ((0 : Nat) : Int) + 1 - (k : Int)) m.v)) b.t (by decide)
    dsimp only at e1 e2 e3 e4
    have z1 : (2 * ((0 : Nat) : Int) + 1 - (k : Int)) = 1 - (k : Int) := by omega
    rw [z1] at e2 e3 e4 e5
    rw [if_pos (by omega), e1, Option.bind_some, if_pos (by unfold inI64; omega), e2, Option.bind_some, if_pos (by unfold inI64; omega), if_pos (by unfold inI64; omega), if_pos (by unfold inI64; omega)]
    rw [show (2 * (0 : Int) + 1 - (k : Int)) = 1 - (k : Int) by omega, e3, Option.bind_some, e4, Option.bind_some, e5, Option.bind_some, if_pos (by unfold inI64; omega), if_pos (by unfold inI64; omega)]
    simp only [List.map_cons, List.map_nil, encF, fc, z1]
    rfl
  rw [loopF_l first]
  have := loopF_list (step := F_field_dark_L2 (n' + 1) A a1 a2 a3 a4 (k : Int) m.tup t3 0) (fun (s : List (Nat × Nat)) (i : Nat) => (.inl (s ++ [(0, i)]) : List (Nat × Nat) ⊕ (Unit ⊕ List D))) (fun s => .inr (s.map (encF m k)))
    (fun i s => .inr ((i : Int), s.map (encF m k))) (List.range k) (fun i s => s.length = i)
    (fun i s x hx hi => by
      obtain ⟨rfl, hxk⟩ := range_at hx
      exact ⟨body x hxk s hi, by rw [List.length_append, hi]; rfl⟩)
    (fun s _ => by unfold F_field_dark_L2; dsimp only [Mir.tup]; rw [if_neg (by simp)]) n' 1 [(0, 0)] rfl (by simp; omega) (by simp; omega)
  rw [this, runL_inl (fun (s : List (Nat × Nat)) i => s ++ [(0, i)])]
  have hr : List.range k = 0 :: (List.range k).drop 1 := by
    obtain ⟨k', rfl⟩ : ∃ k', k = k' + 1 := ⟨k - 1, by omega⟩
    rw [List.range_succ_eq_map]; rfl
  unfold rowS
  conv => rhs; rw [hr]
  rfl
theorem row4_d {A : List D} {a1 a2 a3 a4 t3 : Int} {n : Nat} (hn : 100 ≤ n) {m : Mir} (hm : m.Ok) {k : Nat} (hk : 1 ≤ k ∧ k ≤ 8) :
    loopF (F_field_dark_L4 n A a1 a2 a3 a4 (k : Int) m.tup t3) n (.inl 0) = some (.inr ((allS k).map (encF m k))) := by
  obtain ⟨n', rfl⟩ : ∃ n', n = n' + 1 := ⟨n - 1, by omega⟩
  have first : F_field_dark_L4 (n' + 1) A a1 a2 a3 a4 (k : Int) m.tup t3 (.inl 0) = some (.inl (.inr (((1 : Nat) : Int), (rowS k 0 []).map (encF m k)))) := by
    unfold F_field_dark_L4
    dsimp only
    rw [if_pos (by omega), row2_d hn hm hk, Option.bind_some]
    dsimp only
    rw [if_pos (by unfold inI64; omega)]; rfl
  rw [loopF_l first]
  have := loopF_list (step := F_field_dark_L4 (n' + 1) A a1 a2 a3 a4 (k : Int) m.tup t3) (fun (s : List (Nat × Nat)) (j : Nat) => (.inl (rowS k j s) : List (Nat × Nat) ⊕ (Unit ⊕ List D))) (fun s => .inr (s.map (encF m k)))
    (fun i s => .inr ((i : Int), s.map (encF m k))) (List.range k) (fun i s => s.length = i * k)
    (fun i s x hx hi => by
      obtain ⟨rfl, hxk⟩ := range_at hx
      dsimp only
      refine ⟨?_, by rw [rowS_len, hi, Nat.add_mul, Nat.one_mul]⟩
      unfold F_field_dark_L4
      dsimp only
      rw [if_pos (by omega), row3_d hn hm hk hxk hi, Option.bind_some, if_pos (by unfold inI64; omega)]; rfl)
    (fun s _ => by unfold F_field_dark_L4; dsimp only; rw [if_neg (by simp)]) n' 1 (rowS k 0 []) (by rw [rowS_len]; simp) (by simp; omega) (by simp; omega)
  rw [this, runL_inl (fun (s : List (Nat × Nat)) j => rowS k j s)]
  have hr : List.range k = 0 :: (List.range k).drop 1 := by
    obtain ⟨k', rfl⟩ : ∃ k', k = k' + 1 := ⟨k - 1, by omega⟩
    rw [List.range_succ_eq_map]; rfl
  unfold allS
  conv => rhs; rw [hr]
  rfl
theorem row3_b {A : List D} {a1 a2 a3 a4 : Int} {n : Nat} (hn : 100 ≤ n) {m : Mir} (hm : m.Ok) {k : Nat} (hk : 1 ≤ k ∧ k ≤ 8) {j : Nat} (hj : j < k) {s : List (Nat × Nat)} (hs : s.length = j * k) (q : List D) :
    loopF (F_field_blocked_L3 n A a1 a2 a3 a4 (k : Int) m.tup ((j : Int), q)) n (0, s.map (encF m k)) = some ((rowS k j s).map (encF m k)) := by
  have hq := sq_le hk.2
  have hjk := jk_le hj
  have := loopF_list0 (step := F_field_blocked_L3 n A a1 a2 a3 a4 (k : Int) m.tup ((j : Int), q)) (fun (s : List (Nat × Nat)) (i : Nat) => (.inl (s ++ [(j, i)]) : List (Nat × Nat) ⊕ List D)) (fun s => s.map (encF m k))
    (fun i s => ((i : Int), s.map (encF m k))) (List.range k) (fun i s => s.length = j * k + i)
    (fun i s x hx hi => by
      obtain ⟨rfl, hxk⟩ := range_at hx
      have b := FB.of hm hk (p := (j, x)) hj hxk
      have hjc : (j : Int) * (k : Int) = ((j * k : Nat) : Int) := (Int.natCast_mul j k).symm
      dsimp only
      refine ⟨?_, by rw [List.length_append, hi]; rfl⟩
      unfold F_field_blocked_L3
      dsimp only [Mir.tup]
      have e1 := times_eq n b.c (by decide)
      have e2 := times_eq n b.u (by decide)
      have e3 := times_eq n b.v (by decide)
      have e4 := plus_eq n b.s (by decide)
      have e5 := plus_eq n (u := vtimes (k : Int) m.c) (v := vplus (vtimes (2 * (x : Int) + 1 - (k : Int)) m.u) (vtimes (2 * (j : Int) + 1 - (k : Int)) m.v)) b.t (by decide)
      dsimp only at e1 e2 e3 e4
      rw [if_pos (by omega), e1, Option.bind_some, if_pos (by unfold inI64; omega), if_pos (by unfold inI64; omega), if_pos (by unfold inI64; omega), e2, Option.bind_some, if_pos (by unfold inI64; omega), if_pos (by unfold inI64; omega), if_pos (by unfold inI64; omega), e3, Option.bind_some, e4, Option.bind_some,
        e5, Option.bind_some, if_pos (by rw [hjc]; unfold inI64; omega), if_pos (by rw [hjc]; unfold inI64; omega), if_pos (by unfold roomP; rw [List.length_map]; omega), if_pos (by unfold inI64; omega), List.map_append]; rfl)
    (fun s _ => by unfold F_field_blocked_L3; dsimp only [Mir.tup]; rw [if_neg (by simp)]) (s := s) (k := n) (by simpa using hs) (by simp; omega)
  rw [show ((0 : Int), s.map (encF m k)) = (((0 : Nat) : Int), s.map (encF m k)) from rfl, this, runL_inl (fun (s : List (Nat × Nat)) i => s ++ [(j, i)])]
  rfl
theorem row2_b {A : List D} {a1 a2 a3 a4 : Int} {n : Nat} (hn : 100 ≤ n) {m : Mir} (hm : m.Ok) {k : Nat} (hk : 1 ≤ k ∧ k ≤ 8) :
    loopF (F_field_blocked_L2 n A a1 a2 a3 a4 (k : Int) m.tup 0) n (.inl ()) = some (.inr ((rowS k 0 []).map (encF m k))) := by
  obtain ⟨n', rfl⟩ : ∃ n', n = n' + 1 := ⟨n - 1, by omega⟩
  have hq := sq_le hk.2
  have body : ∀ (x : Nat), x < k → ∀ (s : List (Nat × Nat)), s.length = x → F_field_blocked_L2 (n' + 1) A a1 a2 a3 a4 (k : Int) m.tup 0 (.inr ((x : Int), s.map (encF m k))) =
      some (.inl (.inr (((x + 1 : Nat) : Int), (s ++ [(0, x)]).map (encF m k)))) := by
    intro x hxk s hs
    have b := FB.of hm hk (p := (0, x)) (by omega) hxk
    unfold F_field_blocked_L2
    dsimp only [Mir.tup]
    have e1 := times_eq (n' + 1) b.c (by decide)
    have e2 := times_eq (n' + 1) b.u (by decide)
    have e3 := times_eq (n' + 1) b.v (by decide)
    have e4 := plus_eq (n' + 1) b.s (by decide)
    have e5 := plus_eq (n' + 1) (u := vtimes (k : Int) m.c) (v := vplus (vtimes (2 * (x : Int) + 1 - (k : Int)) m.u) (vtimes (2 * ((0 : Nat) : Int) + 1 - (k : Int)) m.v)) b.t (by decide)
    dsimp only at e1 e2 e3 e4
    rw [if_pos (by omega), e1, Option.bind_some, if_pos (by unfold inI64; omega), if_pos (by unfold inI64; omega), if_pos (by unfold inI64; omega), e2, Option.bind_some, if_pos (by unfold inI64; omega), if_pos (by unfold inI64; omega), if_pos (by unfold inI64; omega)]
    show (F_field_times (n' + 1) (2 * ((0 : Nat) : Int) + 1 - (k : Int)) m.v.1 m.v.2.1 m.v.2.2).bind _ = _
    rw [e3, Option.bind_some, e4, Option.bind_some, e5, Option.bind_some, if_pos (by unfold inI64; omega), if_pos (by unfold inI64; omega), if_pos (by unfold roomP; rw [List.length_map]; omega), if_pos (by unfold inI64; omega), List.map_append]; rfl
  have first : F_field_blocked_L2 (n' + 1) A a1 a2 a3 a4 (k : Int) m.tup 0 (.inl ()) = some (.inl (.inr (((1 : Nat) : Int), [(0, 0)].map (encF m k)))) := by
    have b := FB.of hm hk (p := (0, 0)) (by omega) (by omega)
    unfold F_field_blocked_L2
    dsimp only [Mir.tup]
    have e1 := times_eq (n' + 1) b.c (by decide)
    have e2 := times_eq (n' + 1) b.u (by decide)
    have e3 := times_eq (n' + 1) b.v (by decide)
    have e4 := plus_eq (n' + 1) b.s (by decide)
    have e5 := plus_eq (n' + 1) (u := vtimes (k : Int) m.c) (v := vplus (vtimes (2 * ((0 : Nat) : Int) + 1 - (k : Int)) m.u) (vtimes (2 * ((0 : Nat) : Int) + 1 - (k : Int)) m.v)) b.t (by decide)
    dsimp only at e1 e2 e3 e4
    have z1 : (2 * ((0 : Nat) : Int) + 1 - (k : Int)) = 1 - (k : Int) := by omega
    rw [z1] at e2 e3 e4 e5
    rw [if_pos (by omega), e1, Option.bind_some, if_pos (by unfold inI64; omega), e2, Option.bind_some, if_pos (by unfold inI64; omega), if_pos (by unfold inI64; omega), if_pos (by unfold inI64; omega)]
    rw [show (2 * (0 : Int) + 1 - (k : Int)) = 1 - (k : Int) by omega, e3, Option.bind_some, e4, Option.bind_some, e5, Option.bind_some, if_pos (by unfold inI64; omega), if_pos (by unfold inI64; omega)]
    simp only [List.map_cons, List.map_nil, encF, fc, z1]
    rfl
  rw [loopF_l first]
  have := loopF_list (step := F_field_blocked_L2 (n' + 1) A a1 a2 a3 a4 (k : Int) m.tup 0) (fun (s : List (Nat × Nat)) (i : Nat) => (.inl (s ++ [(0, i)]) : List (Nat × Nat) ⊕ (Unit ⊕ List D))) (fun s => .inr (s.map (encF m k)))
    (fun i s => .inr ((i : Int), s.map (encF m k))) (List.range k) (fun i s => s.length = i)
    (fun i s x hx hi => by
      obtain ⟨rfl, hxk⟩ := range_at hx
      exact ⟨body x hxk s hi, by rw [List.length_append, hi]; rfl⟩)
    (fun s _ => by unfold F_field_blocked_L2; dsimp only [Mir.tup]; rw [if_neg (by simp)]) n' 1 [(0, 0)] rfl (by simp; omega) (by simp; omega)
  rw [this, runL_inl (fun (s : List (Nat × Nat)) i => s ++ [(0, i)])]
  have hr : List.range k = 0 :: (List.range k).drop 1 := by
    obtain ⟨k', rfl⟩ : ∃ k', k = k' + 1 := ⟨k - 1, by omega⟩
    rw [List.range_succ_eq_map]; rfl
  unfold rowS
  conv => rhs; rw [hr]
  rfl
theorem row4_b {A : List D} {a1 a2 a3 a4 : Int} {n : Nat} (hn : 100 ≤ n) {m : Mir} (hm : m.Ok) {k : Nat} (hk : 1 ≤ k ∧ k ≤ 8) :
    loopF (F_field_blocked_L4 n A a1 a2 a3 a4 (k : Int) m.tup) n (.inl 0) = some (.inr ((allS k).map (encF m k))) := by
  obtain ⟨n', rfl⟩ : ∃ n', n = n' + 1 := ⟨n - 1, by omega⟩
  have first : F_field_blocked_L4 (n' + 1) A a1 a2 a3 a4 (k : Int) m.tup (.inl 0) = some (.inl (.inr (((1 : Nat) : Int), (rowS k 0 []).map (encF m k)))) := by
    unfold F_field_blocked_L4
    dsimp only
    rw [if_pos (by omega), row2_b hn hm hk, Option.bind_some]
    dsimp only
    rw [if_pos (by unfold inI64; omega)]; rfl
  rw [loopF_l first]
  have := loopF_list (step := F_field_blocked_L4 (n' + 1) A a1 a2 a3 a4 (k : Int) m.tup) (fun (s : List (Nat × Nat)) (j : Nat) => (.inl (rowS k j s) : List (Nat × Nat) ⊕ (Unit ⊕ List D))) (fun s => .inr (s.map (encF m k)))
    (fun i s => .inr ((i : Int), s.map (encF m k))) (List.range k) (fun i s => s.length = i * k)
    (fun i s x hx hi => by
      obtain ⟨rfl, hxk⟩ := range_at hx
      dsimp only
      refine ⟨?_, by rw [rowS_len, hi, Nat.add_mul, Nat.one_mul]⟩
      unfold F_field_blocked_L4
      dsimp only
      rw [if_pos (by omega), row3_b hn hm hk hxk hi, Option.bind_some, if_pos (by unfold inI64; omega)]; rfl)
    (fun s _ => by unfold F_field_blocked_L4; dsimp only; rw [if_neg (by simp)]) n' 1 (rowS k 0 []) (by rw [rowS_len]; simp) (by simp; omega) (by simp; omega)
  rw [this, runL_inl (fun (s : List (Nat × Nat)) j => rowS k j s)]
  have hr : List.range k = 0 :: (List.range k).drop 1 := by
    obtain ⟨k', rfl⟩ : ∃ k', k = k' + 1 := ⟨k - 1, by omega⟩
    rw [List.range_succ_eq_map]; rfl
  unfold allS
  conv => rhs; rw [hr]
  rfl

/-! Whether another mirror is met. -/
def gM (mi k : Int) (f al : Vec) (e : Bool) (s : Nat) (m : Mir) : Nat ⊕ (Unit ⊕ Unit) := if (s : Int) = mi then .inl (s + 1) else if meetV m k f al e = true then .inr (.inl ()) else .inl (s + 1)
def metR (ms : List Mir) (mi k : Int) (f al : Vec) (e : Bool) : Unit ⊕ Unit := runL (gM mi k f al e) (fun _ => .inr ()) ms 0
def metB (ms : List Mir) (mi k : Int) (f al : Vec) (e : Bool) : Bool := match metR ms mi k f al e with
  | .inl _ => true
  | .inr _ => false
theorem met_eq {n : Nat} {ms : List Mir} (hl : ms.length < n) (hl2 : ms.length ≤ 64) (hok : ∀ m, m ∈ ms → m.Ok) (mi : Int) {k : Int} (hk : 1 ≤ k ∧ k ≤ 8) {f al : Vec} (hf : Bd 131072 f) (ha : Bd 131072 al) (e : Bool) :
    F_field_met n (ms.map encM) mi k f.1 f.2.1 f.2.2 al.1 al.2.1 al.2.2 e = some (metB ms mi k f al e) := by
  unfold F_field_met
  have := loopF_list0 (step := F_field_met_L1 n (ms.map encM) mi k f.1 f.2.1 f.2.2 al.1 al.2.1 al.2.2 e) (gM mi k f al e) (fun _ => .inr ()) (fun i _ => (i : Int)) ms (fun i s => s = i)
    (fun i s x hx hi => by
      have hlt := (List.getElem?_eq_some_iff.1 hx).1
      have hm := meets_eq (n := n) (hok x (List.mem_of_getElem? hx)) hk hf ha e
      have hi2 : inI64 ((i : Int) + 1) := by unfold inI64; omega
      subst hi
      unfold gM F_field_met_L1
      by_cases h : (s : Int) = mi
      · rw [if_pos h]
        refine ⟨?_, rfl⟩
        rw [if_pos (lenlt hx), elM hx, Option.bind_some, if_pos h, if_pos hi2]; rfl
      · rw [if_neg h]
        by_cases h2 : meetV x k f al e = true
        · rw [if_pos h2]
          dsimp only
          rw [if_pos (lenlt hx), elM hx, Option.bind_some, if_neg h]
          unfold Mir.tup
          dsimp only
          rw [hm, Option.bind_some, if_pos h2]
        · rw [if_neg h2]
          refine ⟨?_, rfl⟩
          rw [if_pos (lenlt hx), elM hx, Option.bind_some, if_neg h]
          unfold Mir.tup
          dsimp only
          rw [hm, Option.bind_some, if_neg h2, if_pos hi2]; rfl)
    (fun s _ => by unfold F_field_met_L1; rw [if_neg (by simp)]) (s := 0) (k := n) rfl hl
  rw [show (0 : Int) = ((0 : Nat) : Int) from rfl, this, Option.bind_some]
  unfold metB metR
  cases runL (gM mi k f al e) (fun _ => .inr ()) ms 0 <;> rfl
theorem refMet_eq {n : Nat} {ms : List Mir} (hl : ms.length < n) (hl2 : ms.length ≤ 64) (hok : ∀ m, m ∈ ms → m.Ok) (mi : Int) {k : Int} (hk : 1 ≤ k ∧ k ≤ 8) {f al : Vec} (hf : Bd 131072 f) (ha : Bd 131072 al) (e : Bool) :
    F_ref04_hidden n (ms.map encM) mi k f.1 f.2.1 f.2.2 al.1 al.2.1 al.2.2 e = some (metB ms mi k f al e) := by
  unfold F_ref04_hidden
  have := loopF_list0 (step := F_ref04_hidden_L1 n (ms.map encM) mi k f.1 f.2.1 f.2.2 al.1 al.2.1 al.2.2 e) (gM mi k f al e) (fun _ => .inr ()) (fun i _ => (i : Int)) ms (fun i s => s = i)
    (fun i s x hx hi => by
      have hlt := (List.getElem?_eq_some_iff.1 hx).1
      have hm := refMeets_eq (n := n) (hok x (List.mem_of_getElem? hx)) hk hf ha e
      have hi2 : inI64 ((i : Int) + 1) := by unfold inI64; omega
      subst hi
      unfold gM F_ref04_hidden_L1
      by_cases h : (s : Int) = mi
      · rw [if_pos h]
        refine ⟨?_, rfl⟩
        rw [if_pos (lenlt hx), if_pos h, if_pos hi2]; rfl
      · rw [if_neg h]
        by_cases h2 : meetV x k f al e = true
        · rw [if_pos h2]
          dsimp only
          rw [if_pos (lenlt hx), if_neg h, elM hx, Option.bind_some]
          unfold Mir.tup
          dsimp only
          rw [hm, Option.bind_some, if_pos h2]
        · rw [if_neg h2]
          refine ⟨?_, rfl⟩
          rw [if_pos (lenlt hx), if_neg h, elM hx, Option.bind_some]
          unfold Mir.tup
          dsimp only
          rw [hm, Option.bind_some, if_neg h2, if_pos hi2]; rfl)
    (fun s _ => by unfold F_ref04_hidden_L1; rw [if_neg (by simp)]) (s := 0) (k := n) rfl hl
  rw [show (0 : Int) = ((0 : Nat) : Int) from rfl, this, Option.bind_some]
  unfold metB metR
  cases runL (gM mi k f al e) (fun _ => .inr ()) ms 0 <;> rfl

/-! Dark. -/
def encB (b : Bool) : D := B b
def darkB (ms : List Mir) (mi k : Int) (m : Mir) (sun : Vec) (p : Nat × Nat) : Bool := if vdot m.nrm sun > 0 then metB ms mi k (fc m k p) sun false else true
structure Asked (ms : List Mir) (q k : Nat) (m : Mir) : Prop where
  at_ : ms[q]? = some m
  len : ms.length ≤ 64
  ok : ∀ x, x ∈ ms → x.Ok
  k : 1 ≤ k ∧ k ≤ 8
theorem Asked.m {ms : List Mir} {q k : Nat} {m : Mir} (h : Asked ms q k m) : m.Ok := h.ok m (List.mem_of_getElem? h.at_)
theorem Asked.f {ms : List Mir} {q k : Nat} {m : Mir} (h : Asked ms q k m) {p : Nat × Nat} (hp : p ∈ allS k) : Bd 131072 (fc m k p) := (FB.of h.m h.k (allS_mem p hp).1 (allS_mem p hp).2).t.mono (by decide)
theorem dark5 {n : Nat} {ms : List Mir} {q k : Nat} {m : Mir} (h : Asked ms q k m) (hn : 100 ≤ n) {sun : Vec} (hs : Bd 1024 sun) :
    loopF (F_field_dark_L5 n (ms.map encM) (q : Int) sun.1 sun.2.1 sun.2.2 (k : Int) m.tup (vdot m.nrm sun) ((allS k).map (encF m k))) n (0, []) = some ((allS k).map fun p => encB (darkB ms q k m sun p)) := by
  have hq := sq_le h.k.2
  have hl := allS_len k
  have := loopF_list0 (step := F_field_dark_L5 n (ms.map encM) (q : Int) sun.1 sun.2.1 sun.2.2 (k : Int) m.tup (vdot m.nrm sun) ((allS k).map (encF m k))) (fun (s : List D) (p : Nat × Nat) => (.inl (s ++ [encB (darkB ms q k m sun p)]) : List D ⊕ List D)) id
    (fun i s => ((i : Int), s)) (allS k) (fun i s => s.length = i)
    (fun i s x hx hi => by
      have hlt := (List.getElem?_eq_some_iff.1 hx).1
      have hf := h.f (List.mem_of_getElem? hx)
      have hm := met_eq (n := n) (ms := ms) (Nat.lt_of_le_of_lt h.len (by omega)) h.len h.ok (q : Int) (k := (k : Int)) ⟨by have := h.k; omega, by have := h.k; omega⟩ hf (hs.mono (by decide)) false
      dsimp only
      refine ⟨?_, by simp [hi]⟩
      unfold F_field_dark_L5 darkB
      dsimp only
      have hll := lenlt (f := encF m k) hx
      rw [if_pos hll, if_pos ⟨by omega, hll⟩, Int.toNat_natCast, nth_get?, List.getElem?_map, hx]
      show ((some (encF m k x)).bind un_Ai4Z).bind _ = _
      rw [Option.bind_some, show un_Ai4Z (encF m k x) = some ((x.1 : Int) * k + (x.2 : Int), (fc m k x).1, (fc m k x).2.1, (fc m k x).2.2) from rfl, Option.bind_some]
      by_cases hd : vdot m.nrm sun > 0
      · rw [if_pos (by simpa using hd), if_pos hd]
        dsimp only
        rw [hm, Option.bind_some, if_pos (by unfold roomP; omega), if_pos (by unfold inI64; omega)]; rfl
      · rw [if_neg (by simpa using hd), if_neg hd, if_pos (by unfold roomP; omega), if_pos (by unfold inI64; omega)]; rfl)
    (fun s _ => by unfold F_field_dark_L5; dsimp only; rw [if_neg (by simp)]; rfl) (s := []) (k := n) rfl (by omega)
  rw [show ((0 : Int), ([] : List D)) = (((0 : Nat) : Int), []) from rfl, this, runL_app]
  rfl
theorem dark_eq {n : Nat} {ms : List Mir} {q k : Nat} {m : Mir} (h : Asked ms q k m) (hn : 100 ≤ n) {sun : Vec} (hs : Bd 1024 sun) :
    F_field_dark n (ms.map encM) (q : Int) sun.1 sun.2.1 sun.2.2 (k : Int) = some ((allS k).map fun p => encB (darkB ms q k m sun p)) := by
  unfold F_field_dark
  have e1 := normal_eq n h.m
  have e2 := dot_eq n (h.m.nrm.dot hs (show (8192 : Int) * 1024 = 8388608 by decide) (by decide) (by decide)) (by decide)
  rw [elM h.at_, Option.bind_some]
  show (F_field_Mirror_normal n m.name m.c.1 m.c.2.1 m.c.2.2 m.u.1 m.u.2.1 m.u.2.2 m.v.1 m.v.2.1 m.v.2.2).bind _ = _
  rw [e1, Option.bind_some, e2, Option.bind_some, row4_d hn h.m h.k, Option.bind_some]
  dsimp only
  rw [dark5 h hn hs]; rfl
theorem refDark_eq {n : Nat} {ms : List Mir} {q k : Nat} {m : Mir} (h : Asked ms q k m) (hn : 100 ≤ n) {sun : Vec} (hs : Bd 1024 sun) :
    F_ref04_Dark n (ms.map encM) (q : Int) sun.1 sun.2.1 sun.2.2 (k : Int) = some ((allS k).map fun p => encB (darkB ms q k m sun p)) := by
  unfold F_ref04_Dark
  have e0 := refFacets_eq hn h.m h.k
  have e1 := refNormal_eq n h.m
  have e2 := refDot_eq n (h.m.nrm.dot hs (show (8192 : Int) * 1024 = 8388608 by decide) (by decide) (by decide)) (by decide)
  rw [elM h.at_, Option.bind_some]
  show (F_ref04_Facets n m.name m.c.1 m.c.2.1 m.c.2.2 m.u.1 m.u.2.1 m.u.2.2 m.v.1 m.v.2.1 m.v.2.2 (k : Int)).bind _ = _
  rw [e0, Option.bind_some]
  have hq := sq_le h.k.2
  have hl := allS_len k
  have := loopF_list0 (step := F_ref04_Dark_L1 n (ms.map encM) (q : Int) sun.1 sun.2.1 sun.2.2 (k : Int) ((allS k).map fun p => encV (fc m k p))) (fun (s : List D) (p : Nat × Nat) => (.inl (s ++ [encB (darkB ms q k m sun p)]) : List D ⊕ List D)) id
    (fun i s => ((i : Int), s)) (allS k) (fun i s => s.length = i)
    (fun i s x hx hi => by
      have hlt := (List.getElem?_eq_some_iff.1 hx).1
      have hf := h.f (List.mem_of_getElem? hx)
      have hm := refMet_eq (n := n) (ms := ms) (Nat.lt_of_le_of_lt h.len (by omega)) h.len h.ok (q : Int) (k := (k : Int)) ⟨by have := h.k; omega, by have := h.k; omega⟩ hf (hs.mono (by decide)) false
      have hel : el un_Ai3Z ((allS k).map fun p => encV (fc m k p)) (i : Int) = some (fc m k x) := by
        have := el_enc (un := un_Ai3Z) (enc := encV) unV (l := (allS k).map (fc m k)) (i := i) (x := fc m k x) (by rw [List.getElem?_map, hx]; rfl)
        rw [List.map_map] at this
        exact this
      dsimp only
      refine ⟨?_, by simp [hi]⟩
      unfold F_ref04_Dark_L1 darkB
      dsimp only
      rw [if_pos (lenlt (f := fun p => encV (fc m k p)) hx), elM h.at_, Option.bind_some]
      unfold Mir.tup
      dsimp only
      rw [e1, Option.bind_some, e2, Option.bind_some]
      by_cases hd : vdot m.nrm sun > 0
      · rw [if_neg (by omega), if_pos hd, hel, Option.bind_some, hm, Option.bind_some, if_pos (by unfold roomP; omega), if_pos (by unfold inI64; omega)]; rfl
      · rw [if_pos (by omega), if_neg hd, if_pos (by unfold roomP; omega), if_pos (by unfold inI64; omega)]; rfl)
    (fun s _ => by unfold F_ref04_Dark_L1; dsimp only; rw [if_neg (by simp)]; rfl) (s := []) (k := n) rfl (by omega)
  rw [show ((0 : Int), ([] : List D)) = (((0 : Nat) : Int), []) from rfl, this, runL_app]
  rfl

/-! Blocked. -/
def alo (m : Mir) (k : Int) (t : Vec) (p : Nat × Nat) : Vec := vplus (vtimes k t) (vtimes (-1) (fc m k p))
def blockB (ms : List Mir) (mi k : Int) (m : Mir) (t : Vec) (p : Nat × Nat) : Bool := if vdot m.nrm (alo m k t p) ≤ 0 then true else metB ms mi k (fc m k p) (alo m k t p) true
structure AB (m : Mir) (k : Nat) (t : Vec) (p : Nat × Nat) : Prop where
  tt : Bd 32768 (vtimes (k : Int) t)
  f : Bd 33792 (vtimes (-1) (fc m k p))
  a : Bd 66560 (alo m k t p)
  d : DotB 545259520 m.nrm (alo m k t p)
theorem AB.of {ms : List Mir} {q k : Nat} {m : Mir} (h : Asked ms q k m) {t : Vec} (ht : Bd 4096 t) {p : Nat × Nat} (hp : p ∈ allS k) : AB m k t p := by
  have h1 : Bd 32768 (vtimes (k : Int) t) := Bd.times (K := 8) ⟨by have := h.k; omega, by have := h.k; omega⟩ ht (by decide) (by decide) (by decide)
  have h2 : Bd 33792 (vtimes (-1) (fc m k p)) := Bd.times (K := 1) (by decide) (FB.of h.m h.k (allS_mem p hp).1 (allS_mem p hp).2).t (by decide) (by decide) (by decide)
  have h3 : Bd 66560 (alo m k t p) := (h1.plus h2).mono (by decide)
  exact ⟨h1, h2, h3, h.m.nrm.dot h3 (by decide) (by decide) (by decide)⟩
theorem block5 {n : Nat} {ms : List Mir} {q k : Nat} {m : Mir} (h : Asked ms q k m) (hn : 100 ≤ n) {t : Vec} (ht : Bd 4096 t) :
    loopF (F_field_blocked_L5 n (ms.map encM) (q : Int) t.1 t.2.1 t.2.2 (k : Int) m.tup ((allS k).map (encF m k))) n (0, []) = some ((allS k).map fun p => encB (blockB ms q k m t p)) := by
  have hq := sq_le h.k.2
  have hl := allS_len k
  have e1 := normal_eq n h.m
  have := loopF_list0 (step := F_field_blocked_L5 n (ms.map encM) (q : Int) t.1 t.2.1 t.2.2 (k : Int) m.tup ((allS k).map (encF m k))) (fun (s : List D) (p : Nat × Nat) => (.inl (s ++ [encB (blockB ms q k m t p)]) : List D ⊕ List D)) id
    (fun i s => ((i : Int), s)) (allS k) (fun i s => s.length = i)
    (fun i s x hx hi => by
      have hlt := (List.getElem?_eq_some_iff.1 hx).1
      have hxm := List.mem_of_getElem? hx
      have hf := h.f hxm
      have b := AB.of h ht hxm
      have hm := met_eq (n := n) (ms := ms) (Nat.lt_of_le_of_lt h.len (by omega)) h.len h.ok (q : Int) (k := (k : Int)) ⟨by have := h.k; omega, by have := h.k; omega⟩ hf (b.a.mono (by decide)) true
      dsimp only
      refine ⟨?_, by simp [hi]⟩
      unfold F_field_blocked_L5 blockB
      dsimp only [Mir.tup]
      have hll := lenlt (f := encF m k) hx
      rw [if_pos hll, if_pos ⟨by omega, hll⟩, Int.toNat_natCast, nth_get?, List.getElem?_map, hx]
      show ((some (encF m k x)).bind un_Ai4Z).bind _ = _
      rw [Option.bind_some, show un_Ai4Z (encF m k x) = some ((x.1 : Int) * k + (x.2 : Int), (fc m k x).1, (fc m k x).2.1, (fc m k x).2.2) from rfl, Option.bind_some]
      dsimp only
      rw [times_eq n b.tt (by decide), Option.bind_some, times_eq n b.f (by decide), Option.bind_some, plus_eq n (v := vtimes (-1) (fc m k x)) b.a (by decide), Option.bind_some, e1, Option.bind_some]
      show (F_field_dot n m.nrm.1 m.nrm.2.1 m.nrm.2.2 (alo m k t x).1 (alo m k t x).2.1 (alo m k t x).2.2).bind _ = _
      rw [dot_eq n b.d (by decide), Option.bind_some]
      by_cases hd : vdot m.nrm (alo m k t x) ≤ 0
      · rw [if_pos hd, if_pos hd, if_pos (by unfold roomP; omega), if_pos (by unfold inI64; omega)]; rfl
      · rw [if_neg hd, if_neg hd]
        show (F_field_met n (ms.map encM) (q : Int) (k : Int) (fc m k x).1 (fc m k x).2.1 (fc m k x).2.2 (alo m k t x).1 (alo m k t x).2.1 (alo m k t x).2.2 true).bind _ = _
        rw [hm, Option.bind_some, if_pos (by unfold roomP; omega), if_pos (by unfold inI64; omega)]; rfl)
    (fun s _ => by unfold F_field_blocked_L5; dsimp only; rw [if_neg (by simp)]; rfl) (s := []) (k := n) rfl (by omega)
  rw [show ((0 : Int), ([] : List D)) = (((0 : Nat) : Int), []) from rfl, this, runL_app]
  rfl
theorem block_eq {n : Nat} {ms : List Mir} {q k : Nat} {m : Mir} (h : Asked ms q k m) (hn : 100 ≤ n) {t : Vec} (ht : Bd 4096 t) :
    F_field_blocked n (ms.map encM) (q : Int) t.1 t.2.1 t.2.2 (k : Int) = some ((allS k).map fun p => encB (blockB ms q k m t p)) := by
  unfold F_field_blocked
  rw [elM h.at_, Option.bind_some, row4_b hn h.m h.k, Option.bind_some]
  dsimp only
  rw [block5 h hn ht]; rfl
theorem refBlock_eq {n : Nat} {ms : List Mir} {q k : Nat} {m : Mir} (h : Asked ms q k m) (hn : 100 ≤ n) {t : Vec} (ht : Bd 4096 t) :
    F_ref04_Blocked n (ms.map encM) (q : Int) t.1 t.2.1 t.2.2 (k : Int) = some ((allS k).map fun p => encB (blockB ms q k m t p)) := by
  unfold F_ref04_Blocked
  have e0 := refFacets_eq hn h.m h.k
  have e1 := refNormal_eq n h.m
  rw [elM h.at_, Option.bind_some]
  show (F_ref04_Facets n m.name m.c.1 m.c.2.1 m.c.2.2 m.u.1 m.u.2.1 m.u.2.2 m.v.1 m.v.2.1 m.v.2.2 (k : Int)).bind _ = _
  rw [e0, Option.bind_some]
  have hq := sq_le h.k.2
  have hl := allS_len k
  have := loopF_list0 (step := F_ref04_Blocked_L1 n (ms.map encM) (q : Int) t.1 t.2.1 t.2.2 (k : Int) ((allS k).map fun p => encV (fc m k p))) (fun (s : List D) (p : Nat × Nat) => (.inl (s ++ [encB (blockB ms q k m t p)]) : List D ⊕ List D)) id
    (fun i s => ((i : Int), s)) (allS k) (fun i s => s.length = i)
    (fun i s x hx hi => by
      have hlt := (List.getElem?_eq_some_iff.1 hx).1
      have hxm := List.mem_of_getElem? hx
      have hf := h.f hxm
      have b := AB.of h ht hxm
      have hm := refMet_eq (n := n) (ms := ms) (Nat.lt_of_le_of_lt h.len (by omega)) h.len h.ok (q : Int) (k := (k : Int)) ⟨by have := h.k; omega, by have := h.k; omega⟩ hf (b.a.mono (by decide)) true
      have hel : el un_Ai3Z ((allS k).map fun p => encV (fc m k p)) (i : Int) = some (fc m k x) := by
        have := el_enc (un := un_Ai3Z) (enc := encV) unV (l := (allS k).map (fc m k)) (i := i) (x := fc m k x) (by rw [List.getElem?_map, hx]; rfl)
        rw [List.map_map] at this
        exact this
      dsimp only
      refine ⟨?_, by simp [hi]⟩
      unfold F_ref04_Blocked_L1 blockB
      dsimp only
      rw [if_pos (lenlt (f := fun p => encV (fc m k p)) hx), refTimes_eq n b.tt (by decide), Option.bind_some, hel, Option.bind_some, refTimes_eq n b.f (by decide), Option.bind_some, refPlus_eq n (v := vtimes (-1) (fc m k x)) b.a (by decide), Option.bind_some, elM h.at_, Option.bind_some]
      unfold Mir.tup
      dsimp only
      rw [e1, Option.bind_some]
      show (F_ref04_Dot n m.nrm.1 m.nrm.2.1 m.nrm.2.2 (alo m k t x).1 (alo m k t x).2.1 (alo m k t x).2.2).bind _ = _
      rw [refDot_eq n b.d (by decide), Option.bind_some]
      by_cases hd : vdot m.nrm (alo m k t x) ≤ 0
      · rw [if_pos hd, if_pos hd, if_pos (by unfold roomP; omega), if_pos (by unfold inI64; omega)]; rfl
      · rw [if_neg hd, if_neg hd]
        show (F_ref04_hidden n (ms.map encM) (q : Int) (k : Int) (fc m k x).1 (fc m k x).2.1 (fc m k x).2.2 (alo m k t x).1 (alo m k t x).2.1 (alo m k t x).2.2 true).bind _ = _
        rw [hm, Option.bind_some, if_pos (by unfold roomP; omega), if_pos (by unfold inI64; omega)]; rfl)
    (fun s _ => by unfold F_ref04_Blocked_L1; dsimp only; rw [if_neg (by simp)]; rfl) (s := []) (k := n) rfl (by omega)
  rw [show ((0 : Int), ([] : List D)) = (((0 : Nat) : Int), []) from rfl, this, runL_app]
  rfl

/-! The checks. -/
def idxE (ms : List Mir) (mi : Int) : Int := firstNZ [chkM ms, if mi < 0 then 10 else whenI (decide (mi ≥ (ms.length : Int))) 10]
theorem runC_ok : ∀ (l : List Mir) (s : List ByteArray), (match runL gC (fun _ => .inr ()) l s with
    | .inl e => e
    | .inr _ => (0 : Int)) = 0 → ∀ m, m ∈ l → mirE m = 0
  | [], _, _, m, hm => by cases hm
  | x :: l, s, h, m, hm => by
    unfold runL gC at h
    by_cases h0 : mE s x = 0
    · rw [if_pos h0] at h
      cases hm with
      | head => exact firstNZ_zero h0 (mirE x) (by simp)
      | tail _ hm => exact runC_ok l _ h m hm
    · rw [if_neg h0] at h
      exact absurd h h0
theorem chkM_ok {ms : List Mir} (h : chkM ms = 0) : ms.length ≤ 64 ∧ ∀ m, m ∈ ms → m.Ok := by
  unfold chkM at h
  by_cases hl : (ms.length : Int) > 64
  · rw [if_pos hl] at h; omega
  · rw [if_neg hl] at h
    exact ⟨by omega, fun m hm => mirE_zero (runC_ok ms [] h m hm)⟩
theorem idx_eq {n : Nat} (hn : 100 ≤ n) (ms : List Mir) (hz : ∀ m, m ∈ ms → m.name.size < n) (mi : Int) : F_field_checkIndex n (ms.map encM) mi = some (idxE ms mi) := by
  unfold F_field_checkIndex idxE
  rw [checkMs_eq hn ms hz, Option.bind_some, List.length_map]
  by_cases h : mi < 0
  · rw [if_pos h, if_pos h, show F_field_when_4 n = some 10 from rfl, Option.bind_some, first2 (by omega)]; rfl
  · rw [if_neg h, if_neg h, when_eq, Option.bind_some, first2 (by omega)]; rfl
theorem refIdx_eq {n : Nat} (hn : 100 ≤ n) (ms : List Mir) (mi : Int) : F_law04_checkMirror n (ms.map encM) mi = some (idxE ms mi) := by
  unfold F_law04_checkMirror idxE
  rw [refMs_eq hn ms, Option.bind_some, List.length_map]
  by_cases h0 : chkM ms = 0
  · rw [if_pos h0]
    simp only [firstNZ, if_pos h0]
    by_cases h : mi < 0
    · rw [if_pos h, if_pos h]; rfl
    · rw [if_neg h, if_neg h, refWhen_eq]
      by_cases hw : whenI (decide (mi ≥ (ms.length : Int))) 10 = 0
      · rw [if_pos hw, hw]; rfl
      · rw [if_neg hw]; rfl
  · rw [if_neg h0]
    simp only [firstNZ, if_neg h0]
theorem asked_of {ms : List Mir} {mi k : Int} (h : idxE ms mi = 0) (hk : inR k 1 8 = 0) : ∃ q k' : Nat, ∃ m, mi = (q : Int) ∧ k = (k' : Int) ∧ Asked ms q k' m := by
  have h1 := firstNZ_zero h (chkM ms) (by simp)
  have h2 := firstNZ_zero h (if mi < 0 then 10 else whenI (decide (mi ≥ (ms.length : Int))) 10) (by simp)
  have h3 := inR_zero hk
  obtain ⟨h4, h5⟩ := chkM_ok h1
  by_cases hm : mi < 0
  · rw [if_pos hm] at h2; omega
  · rw [if_neg hm] at h2
    have hlt : mi < (ms.length : Int) := by
      unfold whenI at h2
      split at h2
      · omega
      · rename_i hc; simp at hc; omega
    have hq : mi.toNat < ms.length := by omega
    exact ⟨mi.toNat, k.toNat, ms[mi.toNat], by omega, by omega, List.getElem?_eq_getElem hq, h4, h5, by omega⟩
theorem same_b {n : Nat} (bs : List Bool) (hn : bs.length < n) (hl : bs.length < 1000) : F_ref04_SameFlags n (bs.map encB) (bs.map encB) = some true := by
  unfold F_ref04_SameFlags
  have ue : ∀ b, un_b (encB b) = some b := fun b => rfl
  have := loopF_list0 (step := F_ref04_SameFlags_L1 n (bs.map encB) (bs.map encB)) (fun (_ : Unit) (_ : Bool) => (.inl () : Unit ⊕ (Unit ⊕ Unit))) (fun _ => .inr ()) (fun i _ => (i : Int)) bs (fun _ _ => True)
    (fun i s x hx _ => by
      have hi := (List.getElem?_eq_some_iff.1 hx).1
      refine ⟨?_, trivial⟩
      unfold F_ref04_SameFlags_L1
      rw [if_pos (lenlt hx), el_enc ue hx, Option.bind_some, Option.bind_some, if_neg (by simp), if_pos (by unfold inI64; omega)]; rfl)
    (fun s _ => by unfold F_ref04_SameFlags_L1; rw [if_neg (by simp)]) (s := ()) (k := n) trivial hn
  rw [if_pos rfl, show (0 : Int) = ((0 : Nat) : Int) from rfl, this, runL_inl (fun (_ : Unit) (_ : Bool) => ())]
  rfl
theorem flags_bad (n : Nat) {e : Int} (h : ¬ e = 0) (l : List D) : F_law04_flags n [] e e l = some true := by
  unfold F_law04_flags
  rw [if_pos rfl, if_neg h]; rfl
theorem flags_ok {n : Nat} (hn : 100 ≤ n) {k : Nat} (hk : k ≤ 8) (f : Nat × Nat → Bool) : F_law04_flags n ((allS k).map fun p => encB (f p)) 0 0 ((allS k).map fun p => encB (f p)) = some true := by
  unfold F_law04_flags
  have hq := sq_le hk
  have h := same_b (n := n) ((allS k).map f) (by rw [List.length_map, allS_len]; omega) (by rw [List.length_map, allS_len]; omega)
  rw [List.map_map] at h
  replace h : F_ref04_SameFlags n ((allS k).map fun p => encB (f p)) ((allS k).map fun p => encB (f p)) = some true := h
  rw [if_pos rfl, if_pos rfl, h]; rfl
theorem law_hidden (ms : List Mir) (mi : Int) (sun t : Vec) (k : Int) (hl : ms.length ≤ 9223372036854775807) :
    F_law04_FieldHidden (1000 + ms.length) (ms.map encM) mi sun.1 sun.2.1 sun.2.2 t.1 t.2.1 t.2.2 k = some true := by
  have hn : 100 ≤ 1000 + ms.length := by omega
  unfold F_law04_FieldHidden
  rw [show F_law04_awake (1000 + ms.length) = some true from rfl, Option.bind_some, if_pos rfl, short_eq ms (by omega) hl, Option.bind_some]
  by_cases h2 : (ms.all shortB && (decide (ms.length ≤ 6) || decide (ms.length = 65))) = true
  · rw [if_pos h2]
    simp only [Bool.and_eq_true, Bool.or_eq_true, decide_eq_true_eq, List.all_eq_true] at h2
    obtain ⟨h3, h4⟩ := h2
    have hzs : ∀ x, x ∈ ms → x.name.size < 1000 + ms.length := fun x hx => by
      have : (x.name.size : Int) ≤ 40 := of_decide_eq_true (h3 x hx)
      omega
    have c1 : F_field_Dark (1000 + ms.length) (ms.map encM) mi sun.1 sun.2.1 sun.2.2 k = if firstNZ [idxE ms mi, dirE sun 1024, inR k 1 8] = 0 then (F_field_dark (1000 + ms.length) (ms.map encM) mi sun.1 sun.2.1 sun.2.2 k).bind fun t6 => some (t6, 0) else some ([], firstNZ [idxE ms mi, dirE sun 1024, inR k 1 8]) := by
      unfold F_field_Dark
      rw [idx_eq hn ms hzs, Option.bind_some, dir_eq (by omega) sun (by decide), Option.bind_some, checkK_eq, Option.bind_some, first3 (by omega), Option.bind_some]
    have c2 : F_field_Blocked (1000 + ms.length) (ms.map encM) mi t.1 t.2.1 t.2.2 k = if firstNZ [idxE ms mi, pE t 4096, inR k 1 8] = 0 then (F_field_blocked (1000 + ms.length) (ms.map encM) mi t.1 t.2.1 t.2.2 k).bind fun t6 => some (t6, 0) else some ([], firstNZ [idxE ms mi, pE t 4096, inR k 1 8]) := by
      unfold F_field_Blocked
      rw [idx_eq hn ms hzs, Option.bind_some, parts_eq (by omega) t (by decide), Option.bind_some, checkK_eq, Option.bind_some, first3 (by omega), Option.bind_some]
    have c3 : F_ref04_CheckDirection (1000 + ms.length) sun.1 sun.2.1 sun.2.2 = some (dirE sun 1024) := by
      unfold F_ref04_CheckDirection
      rw [refParts_eq (by omega) sun (by decide), Option.bind_some, refWhen_eq, Option.bind_some, refFirst2 (by omega)]; rfl
    have c4 : F_ref04_CheckTarget (1000 + ms.length) t.1 t.2.1 t.2.2 = some (pE t 4096) := by
      unfold F_ref04_CheckTarget
      rw [refParts_eq (by omega) t (by decide)]; rfl
    rw [own_eq ms (by omega) (by omega), Option.bind_some, c1, c2, refIdx_eq hn, c3, refCheckK_eq, c4]
    simp only [Option.bind_some, refFirst3 (show 10 ≤ 1000 + ms.length by omega)]
    have d1 : firstNZ [idxE ms mi, dirE sun 1024, inR k 1 8] = 0 → ∃ l, F_field_dark (1000 + ms.length) (ms.map encM) mi sun.1 sun.2.1 sun.2.2 k = some l ∧ F_ref04_Dark (1000 + ms.length) (ms.map encM) mi sun.1 sun.2.1 sun.2.2 k = some l ∧ F_law04_flags (1000 + ms.length) l 0 0 l = some true := fun h => by
      obtain ⟨q, k', m, rfl, rfl, ha⟩ := asked_of (firstNZ_zero h (idxE ms mi) (by simp)) (firstNZ_zero h (inR k 1 8) (by simp))
      have hs := dirE_zero (firstNZ_zero h (dirE sun 1024) (by simp))
      exact ⟨_, dark_eq ha hn hs, refDark_eq ha hn hs, flags_ok hn ha.k.2 _⟩
    have d2 : firstNZ [idxE ms mi, pE t 4096, inR k 1 8] = 0 → ∃ l, F_field_blocked (1000 + ms.length) (ms.map encM) mi t.1 t.2.1 t.2.2 k = some l ∧ F_ref04_Blocked (1000 + ms.length) (ms.map encM) mi t.1 t.2.1 t.2.2 k = some l ∧ F_law04_flags (1000 + ms.length) l 0 0 l = some true := fun h => by
      obtain ⟨q, k', m, rfl, rfl, ha⟩ := asked_of (firstNZ_zero h (idxE ms mi) (by simp)) (firstNZ_zero h (inR k 1 8) (by simp))
      have hs := pE_zero (firstNZ_zero h (pE t 4096) (by simp))
      exact ⟨_, block_eq ha hn hs, refBlock_eq ha hn hs, flags_ok hn ha.k.2 _⟩
    generalize firstNZ [idxE ms mi, dirE sun 1024, inR k 1 8] = P at *
    generalize firstNZ [idxE ms mi, pE t 4096, inR k 1 8] = Q at *
    by_cases hP : P = 0
    · obtain ⟨l1, x1, x2, x3⟩ := d1 hP
      by_cases hQ : Q = 0
      · obtain ⟨l2, y1, y2, y3⟩ := d2 hQ
        subst hP; subst hQ
        simp only [if_true, x1, x2, x3, y1, y2, y3, Option.bind_some]
      · subst hP
        simp only [if_true, if_neg hQ, x1, x2, x3, Option.bind_some, flags_bad _ hQ]
    · by_cases hQ : Q = 0
      · obtain ⟨l2, y1, y2, y3⟩ := d2 hQ
        subst hQ
        simp only [if_true, if_neg hP, y1, y2, y3, Option.bind_some, flags_bad _ hP]
      · simp only [if_true, if_neg hP, if_neg hQ, Option.bind_some, flags_bad _ hP, flags_bad _ hQ]
  · rw [if_neg h2]
theorem law_FieldHidden (l : List Mir10) (a1 a2 a3 a4 a5 a6 a7 a8 : Int) (hl : l.length ≤ 9223372036854775807) :
    F_law04_FieldHidden (1000 + l.length) (l.map fun x => encM (Mir.of x)) a1 a2 a3 a4 a5 a6 a7 a8 = some true := by
  have := law_hidden (l.map Mir.of) a1 (a2, a3, a4) (a5, a6, a7) a8 (by simpa using hl)
  rw [List.length_map, List.map_map] at this
  exact this
end Go.Proofs.YtbjibgaknkaifaaGreatDoor
