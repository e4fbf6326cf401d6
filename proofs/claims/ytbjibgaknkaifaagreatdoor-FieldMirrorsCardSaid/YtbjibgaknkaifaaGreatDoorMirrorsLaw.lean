/-
  FieldMirrors, the plain law: CheckMirror, CheckMirrors, Corners, Normal and Facets answer as the reference does. An own text.
-/
import Derived.Test.YtbjibgaknkaifaaGreatDoorFac
import Derived.Test.YtbjibgaknkaifaaGreatDoorMirrors1
set_option linter.unusedVariables false
set_option linter.unusedSimpArgs false
set_option linter.unnecessarySimpa false
set_option maxRecDepth 20000
namespace Go.Proofs.YtbjibgaknkaifaaGreatDoor
open Go.SX

/-! The program's facets. -/
theorem row3_eq {n : Nat} (hn : 100 ≤ n) {m : Mir} (hm : m.Ok) {k : Nat} (hk : 1 ≤ k ∧ k ≤ 8) {j : Nat} (hj : j < k) {s : List (Nat × Nat)} (hs : s.length = j * k) (q : List D) :
    loopF (F_field_Facets_L3 n m.name m.c.1 m.c.2.1 m.c.2.2 m.u.1 m.u.2.1 m.u.2.2 m.v.1 m.v.2.1 m.v.2.2 (k : Int) ((j : Int), q)) n (0, s.map (encF m k)) = some ((rowS k j s).map (encF m k)) := by
  have hq := sq_le hk.2
  have hjk := jk_le hj
  have := loopF_list0 (step := F_field_Facets_L3 n m.name m.c.1 m.c.2.1 m.c.2.2 m.u.1 m.u.2.1 m.u.2.2 m.v.1 m.v.2.1 m.v.2.2 (k : Int) ((j : Int), q)) (fun (s : List (Nat × Nat)) (i : Nat) => (.inl (s ++ [(j, i)]) : List (Nat × Nat) ⊕ List D)) (fun s => s.map (encF m k))
    (fun i s => ((i : Int), s.map (encF m k))) (List.range k) (fun i s => s.length = j * k + i)
    (fun i s x hx hi => by
      obtain ⟨rfl, hxk⟩ := range_at hx
      have b := FB.of hm hk (p := (j, x)) hj hxk
      have hjc : (j : Int) * (k : Int) = ((j * k : Nat) : Int) := (Int.natCast_mul j k).symm
      dsimp only
      refine ⟨?_, by rw [List.length_append, hi]; rfl⟩
      unfold F_field_Facets_L3
      dsimp only
      have e1 := times_eq n b.c (by decide)
      have e2 := times_eq n b.u (by decide)
      have e3 := times_eq n b.v (by decide)
      have e4 := plus_eq n b.s (by decide)
      have e5 := plus_eq n (u := vtimes (k : Int) m.c) (v := vplus (vtimes (2 * (x : Int) + 1 - (k : Int)) m.u) (vtimes (2 * (j : Int) + 1 - (k : Int)) m.v)) b.t (by decide)
      dsimp only at e1 e2 e3 e4
      rw [if_pos (by omega), e1, Option.bind_some, if_pos (by unfold inI64; omega), if_pos (by unfold inI64; omega), if_pos (by unfold inI64; omega), e2, Option.bind_some, if_pos (by unfold inI64; omega), if_pos (by unfold inI64; omega), if_pos (by unfold inI64; omega), e3, Option.bind_some, e4, Option.bind_some,
        e5, Option.bind_some, if_pos (by rw [hjc]; unfold inI64; omega), if_pos (by rw [hjc]; unfold inI64; omega), if_pos (by unfold roomP; rw [List.length_map]; omega), if_pos (by unfold inI64; omega), List.map_append]; rfl)
    (fun s _ => by unfold F_field_Facets_L3; dsimp only; rw [if_neg (by simp)]) (s := s) (k := n) (by simpa using hs) (by simp; omega)
  rw [show ((0 : Int), s.map (encF m k)) = (((0 : Nat) : Int), s.map (encF m k)) from rfl, this, runL_inl (fun (s : List (Nat × Nat)) i => s ++ [(j, i)])]
  rfl
theorem row2_eq {n : Nat} (hn : 100 ≤ n) {m : Mir} (hm : m.Ok) {k : Nat} (hk : 1 ≤ k ∧ k ≤ 8) :
    loopF (F_field_Facets_L2 n m.name m.c.1 m.c.2.1 m.c.2.2 m.u.1 m.u.2.1 m.u.2.2 m.v.1 m.v.2.1 m.v.2.2 (k : Int) 0) n (.inl ()) = some (.inr ((rowS k 0 []).map (encF m k))) := by
  obtain ⟨n', rfl⟩ : ∃ n', n = n' + 1 := ⟨n - 1, by omega⟩
  have hq := sq_le hk.2
  have body : ∀ (x : Nat), x < k → ∀ (s : List (Nat × Nat)), s.length = x → F_field_Facets_L2 (n' + 1) m.name m.c.1 m.c.2.1 m.c.2.2 m.u.1 m.u.2.1 m.u.2.2 m.v.1 m.v.2.1 m.v.2.2 (k : Int) 0 (.inr ((x : Int), s.map (encF m k))) =
      some (.inl (.inr (((x + 1 : Nat) : Int), (s ++ [(0, x)]).map (encF m k)))) := by
    intro x hxk s hs
    have b := FB.of hm hk (p := (0, x)) (by omega) hxk
    unfold F_field_Facets_L2
    dsimp only
    have e1 := times_eq (n' + 1) b.c (by decide)
    have e2 := times_eq (n' + 1) b.u (by decide)
    have e3 := times_eq (n' + 1) b.v (by decide)
    have e4 := plus_eq (n' + 1) b.s (by decide)
    have e5 := plus_eq (n' + 1) (u := vtimes (k : Int) m.c) (v := vplus (vtimes (2 * (x : Int) + 1 - (k : Int)) m.u) (vtimes (2 * ((0 : Nat) : Int) + 1 - (k : Int)) m.v)) b.t (by decide)
    dsimp only at e1 e2 e3 e4
    rw [if_pos (by omega), e1, Option.bind_some, if_pos (by unfold inI64; omega), if_pos (by unfold inI64; omega), if_pos (by unfold inI64; omega), e2, Option.bind_some, if_pos (by unfold inI64; omega), if_pos (by unfold inI64; omega), if_pos (by unfold inI64; omega)]
    show (F_field_times (n' + 1) (2 * ((0 : Nat) : Int) + 1 - (k : Int)) m.v.1 m.v.2.1 m.v.2.2).bind _ = _
    rw [e3, Option.bind_some, e4, Option.bind_some, e5, Option.bind_some, if_pos (by unfold inI64; omega), if_pos (by unfold inI64; omega), if_pos (by unfold roomP; rw [List.length_map]; omega), if_pos (by unfold inI64; omega), List.map_append]; rfl
  have first : F_field_Facets_L2 (n' + 1) m.name m.c.1 m.c.2.1 m.c.2.2 m.u.1 m.u.2.1 m.u.2.2 m.v.1 m.v.2.1 m.v.2.2 (k : Int) 0 (.inl ()) = some (.inl (.inr (((1 : Nat) : Int), [(0, 0)].map (encF m k)))) := by
    have b := FB.of hm hk (p := (0, 0)) (by omega) (by omega)
    unfold F_field_Facets_L2
    dsimp only
    have e1 := times_eq (n' + 1) b.c (by decide)
    have e2 := times_eq (n' + 1) b.u (by decide)
    have e3 := times_eq (n' + 1) b.v (by decide)
    have e4 := plus_eq (n' + 1) b.s (by decide)
    have e5 := plus_eq (n' + 1) (u := vtimes (k : Int) m.c) (v := vplus (vtimes (2 * ((0 : Nat) : Int) + 1 - (k : Int)) m.u) (vtimes (2 * ((0 : Nat) : Int) + 1 - (k : Int)) m.v)) b.t (by decide)
    dsimp only at e1 e2 e3 e4
    have z1 : (2 * ((0 : Nat) : Int) + 1 - (k : Int)) = 1 - (k : Int) := by omega
    rw [z1] at e2 e3 e4 e5
    rw [if_pos (by omega), e1, Option.bind_some, if_pos (by unfold inI64; omega), e2, Option.bind_some, if_pos (by unfold inI64; omega), if_pos (by unfold inI64; omega), if_pos (by unfold inI64; omega)]
    rw [show (2 * (0 : Int) + 1 - (k : Int)) = 1 - (k : Int) by omega, e3, Option.bind_some, e4, Option.bind_some, e5, Option.bind_some, if_pos (by unfold inI64; omega), if_pos (by unfold inI64; omega)]
    simp only [List.map_cons, List.map_nil, encF, fc, z1]
    rfl
  rw [loopF_l first]
  have := loopF_list (step := F_field_Facets_L2 (n' + 1) m.name m.c.1 m.c.2.1 m.c.2.2 m.u.1 m.u.2.1 m.u.2.2 m.v.1 m.v.2.1 m.v.2.2 (k : Int) 0) (fun (s : List (Nat × Nat)) (i : Nat) => (.inl (s ++ [(0, i)]) : List (Nat × Nat) ⊕ (Unit ⊕ List D))) (fun s => .inr (s.map (encF m k)))
    (fun i s => .inr ((i : Int), s.map (encF m k))) (List.range k) (fun i s => s.length = i)
    (fun i s x hx hi => by
      obtain ⟨rfl, hxk⟩ := range_at hx
      exact ⟨body x hxk s hi, by rw [List.length_append, hi]; rfl⟩)
    (fun s _ => by unfold F_field_Facets_L2; dsimp only; rw [if_neg (by simp)]) n' 1 [(0, 0)] rfl (by simp; omega) (by simp; omega)
  rw [this, runL_inl (fun (s : List (Nat × Nat)) i => s ++ [(0, i)])]
  have hr : List.range k = 0 :: (List.range k).drop 1 := by
    obtain ⟨k', rfl⟩ : ∃ k', k = k' + 1 := ⟨k - 1, by omega⟩
    rw [List.range_succ_eq_map]; rfl
  unfold rowS
  conv => rhs; rw [hr]
  rfl
theorem row4_eq {n : Nat} (hn : 100 ≤ n) {m : Mir} (hm : m.Ok) {k : Nat} (hk : 1 ≤ k ∧ k ≤ 8) :
    loopF (F_field_Facets_L4 n m.name m.c.1 m.c.2.1 m.c.2.2 m.u.1 m.u.2.1 m.u.2.2 m.v.1 m.v.2.1 m.v.2.2 (k : Int)) n (.inl 0) = some (.inr ((allS k).map (encF m k))) := by
  obtain ⟨n', rfl⟩ : ∃ n', n = n' + 1 := ⟨n - 1, by omega⟩
  have first : F_field_Facets_L4 (n' + 1) m.name m.c.1 m.c.2.1 m.c.2.2 m.u.1 m.u.2.1 m.u.2.2 m.v.1 m.v.2.1 m.v.2.2 (k : Int) (.inl 0) = some (.inl (.inr (((1 : Nat) : Int), (rowS k 0 []).map (encF m k)))) := by
    unfold F_field_Facets_L4
    dsimp only
    rw [if_pos (by omega), row2_eq hn hm hk, Option.bind_some]
    dsimp only
    rw [if_pos (by unfold inI64; omega)]; rfl
  rw [loopF_l first]
  have := loopF_list (step := F_field_Facets_L4 (n' + 1) m.name m.c.1 m.c.2.1 m.c.2.2 m.u.1 m.u.2.1 m.u.2.2 m.v.1 m.v.2.1 m.v.2.2 (k : Int)) (fun (s : List (Nat × Nat)) (j : Nat) => (.inl (rowS k j s) : List (Nat × Nat) ⊕ (Unit ⊕ List D))) (fun s => .inr (s.map (encF m k)))
    (fun i s => .inr ((i : Int), s.map (encF m k))) (List.range k) (fun i s => s.length = i * k)
    (fun i s x hx hi => by
      obtain ⟨rfl, hxk⟩ := range_at hx
      dsimp only
      refine ⟨?_, by rw [rowS_len, hi, Nat.add_mul, Nat.one_mul]⟩
      unfold F_field_Facets_L4
      dsimp only
      rw [if_pos (by omega), row3_eq hn hm hk hxk hi, Option.bind_some, if_pos (by unfold inI64; omega)]; rfl)
    (fun s _ => by unfold F_field_Facets_L4; dsimp only; rw [if_neg (by simp)]) n' 1 (rowS k 0 []) (by rw [rowS_len]; simp) (by simp; omega) (by simp; omega)
  rw [this, runL_inl (fun (s : List (Nat × Nat)) j => rowS k j s)]
  have hr : List.range k = 0 :: (List.range k).drop 1 := by
    obtain ⟨k', rfl⟩ : ∃ k', k = k' + 1 := ⟨k - 1, by omega⟩
    rw [List.range_succ_eq_map]; rfl
  unfold allS
  conv => rhs; rw [hr]
  rfl
theorem row5_eq {n : Nat} (hn : 100 ≤ n) {m : Mir} {k : Nat} (hk : k ≤ 8) :
    loopF (F_field_Facets_L5 n m.name m.c.1 m.c.2.1 m.c.2.2 m.u.1 m.u.2.1 m.u.2.2 m.v.1 m.v.2.1 m.v.2.2 (k : Int) ((allS k).map (encF m k))) n (0, []) = some ((allS k).map fun p => encV (fc m k p)) := by
  have hq := sq_le hk
  have hl := allS_len k
  have := loopF_list0 (step := F_field_Facets_L5 n m.name m.c.1 m.c.2.1 m.c.2.2 m.u.1 m.u.2.1 m.u.2.2 m.v.1 m.v.2.1 m.v.2.2 (k : Int) ((allS k).map (encF m k))) (fun (s : List D) (p : Nat × Nat) => (.inl (s ++ [encV (fc m k p)]) : List D ⊕ List D)) id
    (fun i s => ((i : Int), s)) (allS k) (fun i s => s.length = i)
    (fun i s x hx hi => by
      have hlt := (List.getElem?_eq_some_iff.1 hx).1
      dsimp only
      refine ⟨?_, by simp [hi]⟩
      unfold F_field_Facets_L5 F_field_Facets_c1
      dsimp only
      have hll := lenlt (f := encF m k) hx
      rw [if_pos hll, if_pos ⟨by omega, hll⟩, Int.toNat_natCast, nth_get?, List.getElem?_map, hx]
      show ((some (encF m k x)).bind un_Ai4Z).bind _ = _
      rw [Option.bind_some, show un_Ai4Z (encF m k x) = some ((x.1 : Int) * k + (x.2 : Int), (fc m k x).1, (fc m k x).2.1, (fc m k x).2.2) from rfl, Option.bind_some, Option.bind_some, if_pos (by unfold roomP; omega), if_pos (by unfold inI64; omega)]; rfl)
    (fun s _ => by unfold F_field_Facets_L5; dsimp only; rw [if_neg (by simp)]; rfl) (s := []) (k := n) rfl (by omega)
  rw [show ((0 : Int), ([] : List D)) = (((0 : Nat) : Int), []) from rfl, this, runL_app]
  rfl
theorem facets_eq {n : Nat} (hn : 100 ≤ n) {m : Mir} (hz : m.name.size < n) (k : Int) :
    F_field_Facets n m.name m.c.1 m.c.2.1 m.c.2.2 m.u.1 m.u.2.1 m.u.2.2 m.v.1 m.v.2.1 m.v.2.2 k = some (if firstNZ [mirE m, inR k 1 8] = 0 then ((allS k.toNat).map fun p => encV (fc m k p), 0) else ([], firstNZ [mirE m, inR k 1 8])) := by
  unfold F_field_Facets
  rw [check_eq hn hz, Option.bind_some, checkK_eq, Option.bind_some, first2 (by omega), Option.bind_some]
  by_cases h : firstNZ [mirE m, inR k 1 8] = 0
  · have hm := mirE_zero (firstNZ_zero h (mirE m) (by simp))
    have hk := inR_zero (firstNZ_zero h (inR k 1 8) (by simp))
    obtain ⟨q, rfl⟩ : ∃ q : Nat, k = (q : Int) := ⟨k.toNat, by omega⟩
    rw [if_pos h, if_pos h, row4_eq hn hm (by omega), Option.bind_some]
    dsimp only
    rw [row5_eq hn (by omega)]; rfl
  · rw [if_neg h, if_neg h]

/-! Corners. -/
def corA (m : Mir) (a b : Int) : Vec := vplus m.c (vplus (vtimes a m.u) (vtimes b m.v))
theorem one_times (v : Vec) : vtimes 1 v = v := by unfold vtimes; simp
theorem cor_b {m : Mir} (hm : m.Ok) {a b : Int} (ha : -1 ≤ a ∧ a ≤ 1) (hb : -1 ≤ b ∧ b ≤ 1) : Bd 64 (vtimes a m.u) ∧ Bd 64 (vtimes b m.v) ∧ Bd 128 (vplus (vtimes a m.u) (vtimes b m.v)) ∧ Bd 4224 (corA m a b) := by
  have u : Bd 64 (vtimes a m.u) := Bd.times (K := 1) (by omega) hm.u (by decide) (by decide) (by decide)
  have v : Bd 64 (vtimes b m.v) := Bd.times (K := 1) (by omega) hm.v (by decide) (by decide) (by decide)
  have s := (u.plus v).mono (show (64 : Int) + 64 ≤ 128 by decide)
  exact ⟨u, v, s, (hm.c.plus s).mono (by decide)⟩
abbrev V12 := Int × Int × Int × Int × Int × Int × Int × Int × Int × Int × Int × Int
def cor12 (m : Mir) : V12 :=
  ((corA m (-1) (-1)).1, (corA m (-1) (-1)).2.1, (corA m (-1) (-1)).2.2, (corA m 1 (-1)).1, (corA m 1 (-1)).2.1, (corA m 1 (-1)).2.2, (corA m 1 1).1, (corA m 1 1).2.1, (corA m 1 1).2.2, (corA m (-1) 1).1, (corA m (-1) 1).2.1, (corA m (-1) 1).2.2)
theorem corners_eq {n : Nat} (hn : 100 ≤ n) {m : Mir} (hz : m.name.size < n) :
    F_field_Corners n m.name m.c.1 m.c.2.1 m.c.2.2 m.u.1 m.u.2.1 m.u.2.2 m.v.1 m.v.2.1 m.v.2.2 = some (if mirE m = 0 then ((corA m (-1) (-1)).1, (corA m (-1) (-1)).2.1, (corA m (-1) (-1)).2.2, (corA m 1 (-1)).1, (corA m 1 (-1)).2.1, (corA m 1 (-1)).2.2, (corA m 1 1).1, (corA m 1 1).2.1, (corA m 1 1).2.2, (corA m (-1) 1).1, (corA m (-1) 1).2.1, (corA m (-1) 1).2.2, 0) else (0, 0, 0, 0, 0, 0, 0, 0, 0, 0, 0, 0, mirE m)) := by
  unfold F_field_Corners
  rw [check_eq hn hz, Option.bind_some]
  by_cases h : mirE m = 0
  · have hm := mirE_zero h
    obtain ⟨u1, v1, s1, t1⟩ := cor_b hm (a := -1) (b := -1) (by decide) (by decide)
    obtain ⟨u2, v2, s2, t2⟩ := cor_b hm (a := 1) (b := 1) (by decide) (by decide)
    obtain ⟨_, _, s3, t3⟩ := cor_b hm (a := 1) (b := -1) (by decide) (by decide)
    obtain ⟨_, _, s4, t4⟩ := cor_b hm (a := -1) (b := 1) (by decide) (by decide)
    rw [if_pos h, if_pos h, times_eq n u1 (by decide), Option.bind_some, times_eq n v1 (by decide), Option.bind_some, plus_eq n s1 (by decide), Option.bind_some, plus_eq n (v := vplus (vtimes (-1) m.u) (vtimes (-1) m.v)) t1 (by decide), Option.bind_some,
      times_eq n u2 (by decide), Option.bind_some, plus_eq n s3 (by decide), Option.bind_some, plus_eq n (v := vplus (vtimes 1 m.u) (vtimes (-1) m.v)) t3 (by decide), Option.bind_some,
      times_eq n v2 (by decide), Option.bind_some, plus_eq n s2 (by decide), Option.bind_some, plus_eq n (v := vplus (vtimes 1 m.u) (vtimes 1 m.v)) t2 (by decide), Option.bind_some,
      plus_eq n s4 (by decide), Option.bind_some, plus_eq n (v := vplus (vtimes (-1) m.u) (vtimes 1 m.v)) t4 (by decide), Option.bind_some]
    rfl
  · rw [if_neg h, if_neg h]
theorem refCorners_eq (n : Nat) {m : Mir} (hm : m.Ok) : F_ref04_Corners n m.name m.c.1 m.c.2.1 m.c.2.2 m.u.1 m.u.2.1 m.u.2.2 m.v.1 m.v.2.1 m.v.2.2 = some (cor12 m) := by
  obtain ⟨u1, v1, s1, t1⟩ := cor_b hm (a := -1) (b := -1) (by decide) (by decide)
  obtain ⟨_, _, s2, t2⟩ := cor_b hm (a := 1) (b := 1) (by decide) (by decide)
  obtain ⟨_, _, s3, t3⟩ := cor_b hm (a := 1) (b := -1) (by decide) (by decide)
  obtain ⟨_, _, s4, t4⟩ := cor_b hm (a := -1) (b := 1) (by decide) (by decide)
  have t2' := t2
  have t3' := t3
  have t4' := t4
  unfold corA at t2' t3' t4'
  rw [one_times, one_times] at s2 t2'
  rw [one_times] at s3 t3' s4 t4'
  unfold F_ref04_Corners
  rw [refTimes_eq n u1 (by decide), Option.bind_some, refTimes_eq n v1 (by decide), Option.bind_some, refPlus_eq n s1 (by decide), Option.bind_some, refPlus_eq n (v := vplus (vtimes (-1) m.u) (vtimes (-1) m.v)) t1 (by decide), Option.bind_some,
    refPlus_eq n s3 (by decide), Option.bind_some, refPlus_eq n t3' (by decide), Option.bind_some, refPlus_eq n s2 (by decide), Option.bind_some, refPlus_eq n t2' (by decide), Option.bind_some,
    refPlus_eq n s4 (by decide), Option.bind_some, refPlus_eq n t4' (by decide), Option.bind_some]
  unfold cor12 corA
  simp only [one_times]
theorem normalA_eq {n : Nat} (hn : 100 ≤ n) {m : Mir} (hz : m.name.size < n) : F_field_Normal n m.name m.c.1 m.c.2.1 m.c.2.2 m.u.1 m.u.2.1 m.u.2.2 m.v.1 m.v.2.1 m.v.2.2 = some (if mirE m = 0 then (m.nrm.1, m.nrm.2.1, m.nrm.2.2, 0) else (0, 0, 0, mirE m)) := by
  unfold F_field_Normal
  rw [check_eq hn hz, Option.bind_some]
  by_cases h : mirE m = 0
  · rw [if_pos h, if_pos h, normal_eq n (mirE_zero h)]; rfl
  · rw [if_neg h, if_neg h]
theorem same_eq {n : Nat} (vs : List Vec) (hn : vs.length < n) (hl : vs.length < 1000) : F_ref04_SameVectors n (vs.map encV) (vs.map encV) = some true := by
  unfold F_ref04_SameVectors
  have := loopF_list0 (step := F_ref04_SameVectors_L1 n (vs.map encV) (vs.map encV)) (fun (_ : Unit) (_ : Vec) => (.inl () : Unit ⊕ (Unit ⊕ Unit))) (fun _ => .inr ()) (fun i _ => (i : Int)) vs (fun _ _ => True)
    (fun i s x hx _ => by
      have hi := (List.getElem?_eq_some_iff.1 hx).1
      refine ⟨?_, trivial⟩
      unfold F_ref04_SameVectors_L1
      rw [if_pos (lenlt hx), el_enc unV hx, Option.bind_some, Option.bind_some, if_pos (by simp), if_pos (by unfold inI64; omega)]; rfl)
    (fun s _ => by unfold F_ref04_SameVectors_L1; rw [if_neg (by simp)]) (s := ()) (k := n) trivial hn
  rw [if_pos rfl, show (0 : Int) = ((0 : Nat) : Int) from rfl, this, runL_inl (fun (_ : Unit) (_ : Vec) => ())]
  rfl
theorem law_mirrors (m : Mir) (ms : List Mir) (k : Int) (hl : ms.length ≤ 9223372036854775807) :
    F_law04_FieldMirrors (1000 + ms.length) m.name m.c.1 m.c.2.1 m.c.2.2 m.u.1 m.u.2.1 m.u.2.2 m.v.1 m.v.2.1 m.v.2.2 (ms.map encM) k = some true := by
  have hn : 100 ≤ 1000 + ms.length := by omega
  unfold F_law04_FieldMirrors
  rw [show F_law04_awake (1000 + ms.length) = some true from rfl, Option.bind_some, if_pos rfl, show F_ref04_ShortMirror (1000 + ms.length) m.name m.c.1 m.c.2.1 m.c.2.2 m.u.1 m.u.2.1 m.u.2.2 m.v.1 m.v.2.1 m.v.2.2 = some (shortB m) from rfl, Option.bind_some, short_eq ms (by omega) hl, Option.bind_some]
  by_cases h1 : shortB m = true
  · rw [if_pos h1]
    by_cases h2 : (ms.all shortB && (decide (ms.length ≤ 6) || decide (ms.length = 65))) = true
    · rw [if_pos h2]
      simp only [Bool.and_eq_true, Bool.or_eq_true, decide_eq_true_eq, List.all_eq_true] at h2
      obtain ⟨h3, h4⟩ := h2
      have hz : m.name.size < 1000 + ms.length := by
        have : (m.name.size : Int) ≤ 40 := of_decide_eq_true h1
        omega
      have hzs : ∀ x, x ∈ ms → x.name.size < 1000 + ms.length := fun x hx => by
        have : (x.name.size : Int) ≤ 40 := of_decide_eq_true (h3 x hx)
        omega
      have c1 := corners_eq hn hz
      have c2 := normalA_eq hn hz
      have c3 := facets_eq hn hz k
      have c4 := refCheck_eq hn m
      have c5 := refFirst2 (n := 1000 + ms.length) (by omega) (mirE m) (inR k 1 8)
      have c6 : F_field_CheckMirror (1000 + ms.length) m.name m.c.1 m.c.2.1 m.c.2.2 m.u.1 m.u.2.1 m.u.2.2 m.v.1 m.v.2.1 m.v.2.2 = some (mirE m) := by
        unfold F_field_CheckMirror
        rw [check_eq hn hz]; rfl
      have c7 := own_eq (n := 1000 + ms.length) ms (by omega) (by omega)
      have c8 := checkMs_eq hn ms hzs
      have c9 := refMs_eq hn ms
      rw [c1, Option.bind_some, c2, Option.bind_some, c3, Option.bind_some, c4, Option.bind_some, refCheckK_eq, Option.bind_some, c5, Option.bind_some]
      have s0 : F_ref04_SameVectors (1000 + ms.length) [] [] = some true := same_eq (n := 1000 + ms.length) [] (by simp; omega) (by simp)
      by_cases hm : mirE m = 0
      · have r1 := refCorners_eq (1000 + ms.length) (mirE_zero hm)
        have r2 := refNormal_eq (1000 + ms.length) (mirE_zero hm)
        by_cases hk : firstNZ [mirE m, inR k 1 8] = 0
        · have hkk := inR_zero (firstNZ_zero hk (inR k 1 8) (by simp))
          have r3 := refFacets_eq hn (mirE_zero hm) (k := k.toNat) (by omega)
          rw [show ((k.toNat : Nat) : Int) = k by omega] at r3
          have s1 := same_eq (n := 1000 + ms.length) ((allS k.toNat).map (fc m k)) (by rw [List.length_map, allS_len]; have := sq_le (show k.toNat ≤ 8 by omega); omega) (by rw [List.length_map, allS_len]; have := sq_le (show k.toNat ≤ 8 by omega); omega)
          rw [List.map_map] at s1
          replace s1 : F_ref04_SameVectors (1000 + ms.length) ((allS k.toNat).map fun p => encV (fc m k p)) ((allS k.toNat).map fun p => encV (fc m k p)) = some true := s1
          generalize firstNZ [mirE m, inR k 1 8] = Q at *
          subst hk
          simp only [r1, r2, r3, c6, c7, c8, c9, hm, if_true, Option.bind_some, cor12, beq_self_eq_true, Bool.and_self, s1]
        · generalize firstNZ [mirE m, inR k 1 8] = Q at *
          simp only [r1, r2, c6, c7, c8, c9, hm, if_true, if_neg hk, Option.bind_some, cor12, beq_self_eq_true, Bool.and_self, s0]
      · have hk : ¬ firstNZ [mirE m, inR k 1 8] = 0 := by simp only [firstNZ, if_neg hm]; exact hm
        generalize firstNZ [mirE m, inR k 1 8] = Q at *
        simp only [c6, c7, c8, c9, if_neg hm, if_true, if_neg hk, Option.bind_some, beq_self_eq_true, Bool.and_self, s0]
    · rw [if_neg h2]
  · rw [if_neg h1]
theorem law_FieldMirrors (a0 : ByteArray) (a1 a2 a3 a4 a5 a6 a7 a8 a9 : Int) (l : List Mir10) (a11 : Int) (hl : l.length ≤ 9223372036854775807) :
    F_law04_FieldMirrors (1000 + l.length) a0 a1 a2 a3 a4 a5 a6 a7 a8 a9 (l.map fun x => encM (Mir.of x)) a11 = some true := by
  have := law_mirrors ⟨a0, (a1, a2, a3), (a4, a5, a6), (a7, a8, a9)⟩ (l.map Mir.of) a11 (by simpa using hl)
  rw [List.length_map, List.map_map] at this
  exact this
end Go.Proofs.YtbjibgaknkaifaaGreatDoor
