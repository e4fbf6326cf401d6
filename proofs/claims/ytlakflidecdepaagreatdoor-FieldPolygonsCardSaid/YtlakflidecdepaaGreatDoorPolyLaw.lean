/-
  FieldPolygons, the plain law: CheckPolygon, Area and Holds answer as the reference does. An own text.
-/
import Derived.Test.YtlakflidecdepaaGreatDoorFCom
set_option linter.unusedVariables false
set_option linter.unusedSimpArgs false
set_option linter.unnecessarySimpa false
set_option maxRecDepth 20000
namespace Go.Proofs.YtlakflidecdepaaGreatDoor
open Go.SX

theorem points_eq (n : Nat) {l : List D} (h : l.length ≤ 100) : F_law04_points n l = some l := by
  unfold F_law04_points
  rw [if_pos (by unfold roomP; omega)]
  cases l with
  | nil => rfl
  | cons a l => rfl

/-! The errors of the points. -/
theorem mapped_eq {n : Nat} (hn : 100 ≤ n) (ps : List Pt) (hl : ps.length ≤ 65) : F_field_mapped_g n (ps.map encP) = some ((ps.map ptE).map I) := by
  unfold F_field_mapped_g
  have key : ∀ (l : List Pt) (s : List D), runL (fun (s : List D) (p : Pt) => (.inl (s ++ [I (ptE p)]) : List D ⊕ List D)) id l s = s ++ (l.map ptE).map I := by
    intro l
    induction l with
    | nil => intro s; simp [runL]
    | cons p l ih => intro s; simp [runL, ih]
  have := loopF_list0 (step := F_field_mapped_g_L1 n (ps.map encP)) (fun (s : List D) (p : Pt) => (.inl (s ++ [I (ptE p)]) : List D ⊕ List D)) id (fun i s => ((i : Int), s)) ps (fun i s => s.length = i)
    (fun i s x hx hi => by
      have hlt := (List.getElem?_eq_some_iff.1 hx).1
      dsimp only
      refine ⟨?_, by simp [hi]⟩
      unfold F_field_mapped_g_L1
      dsimp only
      rw [if_pos (lenlt hx), el_enc unP hx, Option.bind_some, point_eq (by omega), Option.bind_some, if_pos (by unfold roomP; omega), if_pos (by unfold inI64; omega)]
      rfl)
    (fun s _ => by unfold F_field_mapped_g_L1; dsimp only; rw [if_neg (by simp)]; rfl) (s := []) (k := n) (by rfl) (by omega)
  rw [show ((0 : Int), ([] : List D)) = (((0 : Nat) : Int), []) from rfl, this, key]
  rfl

/-! Corners. -/
def nx (m i : Nat) : Nat := (i + 1) % m
theorem nx_lt {m i : Nat} (h : 0 < m) : nx m i < m := Nat.mod_lt _ h
theorem tmod_nx (m i : Nat) : Int.tmod ((i : Int) + 1) (m : Int) = ((nx m i : Nat) : Int) := by
  unfold nx
  rw [show (i : Int) + 1 = ((i + 1 : Nat) : Int) from rfl, Int.ofNat_tmod]
def at0 (ps : List Pt) (i : Nat) : Pt := ps.getD i (0, 0)
theorem at_some {ps : List Pt} {i : Nat} (h : i < ps.length) : ps[i]? = some (at0 ps i) := by
  unfold at0
  rw [List.getD_eq_getElem?_getD, List.getElem?_eq_getElem h]; rfl
theorem el_at {ps : List Pt} {i : Nat} (h : i < ps.length) : el un_Ai2Z (ps.map encP) (i : Int) = some (at0 ps i) := el_enc unP (at_some h)
theorem len_ne {ps : List Pt} {i : Nat} (h : i < ps.length) : ((ps.map encP).length : Int) ≠ 0 := by rw [List.length_map]; omega
theorem edge_eq (n : Nat) {ps : List Pt} {i : Nat} (h : i < ps.length) (hl : ps.length ≤ 65) : F_field_edge n (ps.map encP) (i : Int) = some ((at0 ps i).1, (at0 ps i).2, (at0 ps (nx ps.length i)).1, (at0 ps (nx ps.length i)).2) := by
  unfold F_field_edge
  have hm := nx_lt (m := ps.length) (i := i) (by omega)
  rw [el_at h, Option.bind_some, if_pos (by unfold inI64; omega), if_pos (len_ne h), List.length_map, tmod_nx, el_at hm, Option.bind_some]
theorem next_eq (n : Nat) {ps : List Pt} {i : Nat} (h : i < ps.length) (hl : ps.length ≤ 65) : F_ref04_next n (ps.map encP) (i : Int) = some (at0 ps (nx ps.length i)) := by
  unfold F_ref04_next
  have hm := nx_lt (m := ps.length) (i := i) (by omega)
  rw [if_pos (by unfold inI64; omega), if_pos (len_ne h), List.length_map, tmod_nx, el_at hm, Option.bind_some]
theorem at_small {ps : List Pt} (hs : ∀ p, p ∈ ps → Small p) {i : Nat} (h : i < ps.length) : Small (at0 ps i) := hs _ (List.mem_of_getElem? (at_some h))

/-! Whether corners are those of a polygon. -/
def sideAt (ps : List Pt) (i k : Nat) : Int := side (at0 ps i) (at0 ps (nx ps.length i)) (at0 ps k)
def gRow (ps : List Pt) (i : Nat) (_ : Unit) (k : Nat) : Unit ⊕ (Unit ⊕ Unit) :=
  if k = i then .inl () else if k = nx ps.length i then .inl () else if sideAt ps i k ≤ 0 then .inr (.inl ()) else .inl ()
def rowE (ps : List Pt) (i : Nat) : Unit ⊕ Unit := runL (gRow ps i) (fun _ => .inr ()) (List.range ps.length) ()
def gAll (ps : List Pt) (_ : Unit) (i : Nat) : Unit ⊕ (Unit ⊕ Unit) := match rowE ps i with
  | .inl _ => .inr (.inl ())
  | .inr _ => .inl ()
def allE (ps : List Pt) : Unit ⊕ Unit := runL (gAll ps) (fun _ => .inr ()) (List.range ps.length) ()
theorem range_at {m i k : Nat} (h : (List.range m)[i]? = some k) : k = i ∧ i < m := by
  have := List.getElem?_eq_some_iff.1 h
  obtain ⟨h1, h2⟩ := this
  simp at h1 h2
  exact ⟨h2.symm, h1⟩
theorem row_eq {n : Nat} (hn : 100 ≤ n) {ps : List Pt} (hs : ∀ p, p ∈ ps → Small p) (hl : ps.length ≤ 65) {i : Nat} (h : i < ps.length) :
    loopF (F_field_CheckPolygon_L2 n (ps.map encP) (i : Int) ((at0 ps i).1, (at0 ps i).2, (at0 ps (nx ps.length i)).1, (at0 ps (nx ps.length i)).2)) n 0 = some (rowE ps i) := by
  have hm := nx_lt (m := ps.length) (i := i) (by omega)
  refine loopF_list0 (step := F_field_CheckPolygon_L2 n (ps.map encP) (i : Int) _) (gRow ps i) (fun _ => .inr ()) (fun k _ => (k : Int)) (List.range ps.length) (fun _ _ => True)
    (fun k s x hx _ => ?_) (fun s _ => ?_) (s := ()) trivial (by simp; omega)
  · obtain ⟨rfl, hk⟩ := range_at hx
    have hlt : ((x : Nat) : Int) < (((ps.map encP).length : Nat) : Int) := by simp; omega
    unfold gRow F_field_CheckPolygon_L2
    by_cases h1 : x = i
    · rw [if_pos h1]
      refine ⟨?_, trivial⟩
      rw [if_pos hlt, el_at hk, Option.bind_some, if_pos (by omega), if_pos (by unfold inI64; omega)]; rfl
    rw [if_neg h1]
    by_cases h2 : x = nx ps.length i
    · rw [if_pos h2]
      refine ⟨?_, trivial⟩
      rw [if_pos hlt, el_at hk, Option.bind_some, if_neg (by omega), if_pos (by unfold inI64; omega), if_pos (len_ne h), List.length_map, tmod_nx, if_pos (by omega), if_pos (by unfold inI64; omega)]; rfl
    rw [if_neg h2]
    have hq := left_eq n (at_small hs h) (at_small hs hm) (at_small hs hk)
    by_cases h3 : sideAt ps i x ≤ 0
    · rw [if_pos h3]
      dsimp only
      rw [if_pos hlt, el_at hk, Option.bind_some, if_neg (by omega), if_pos (by unfold inI64; omega), if_pos (len_ne h), List.length_map, tmod_nx, if_neg (by omega), hq, Option.bind_some]
      exact if_pos h3
    · rw [if_neg h3]
      refine ⟨?_, trivial⟩
      dsimp only
      rw [if_pos hlt, el_at hk, Option.bind_some, if_neg (by omega), if_pos (by unfold inI64; omega), if_pos (len_ne h), List.length_map, tmod_nx, if_neg (by omega), hq, Option.bind_some]
      rw [if_neg (show ¬ side _ _ _ ≤ 0 from h3), if_pos (by unfold inI64; omega)]; rfl
  · unfold F_field_CheckPolygon_L2
    rw [if_neg (by simp)]
theorem refRow_eq {n : Nat} (hn : 100 ≤ n) {ps : List Pt} (hs : ∀ p, p ∈ ps → Small p) (hl : ps.length ≤ 65) {i : Nat} (h : i < ps.length) :
    loopF (F_ref04_convex_L2 n (ps.map encP) (i : Int)) n 0 = some (rowE ps i) := by
  have hm := nx_lt (m := ps.length) (i := i) (by omega)
  refine loopF_list0 (step := F_ref04_convex_L2 n (ps.map encP) (i : Int)) (gRow ps i) (fun _ => .inr ()) (fun k _ => (k : Int)) (List.range ps.length) (fun _ _ => True)
    (fun k s x hx _ => ?_) (fun s _ => ?_) (s := ()) trivial (by simp; omega)
  · obtain ⟨rfl, hk⟩ := range_at hx
    have hlt : ((x : Nat) : Int) < (((ps.map encP).length : Nat) : Int) := by simp; omega
    unfold gRow F_ref04_convex_L2
    by_cases h1 : x = i
    · rw [if_pos h1]
      refine ⟨?_, trivial⟩
      rw [if_pos hlt, if_pos (by omega), if_pos (by unfold inI64; omega)]; rfl
    rw [if_neg h1]
    by_cases h2 : x = nx ps.length i
    · rw [if_pos h2]
      refine ⟨?_, trivial⟩
      rw [if_pos hlt, if_neg (by omega), if_pos (by unfold inI64; omega), if_pos (len_ne h), List.length_map, tmod_nx, if_pos (by omega), if_pos (by unfold inI64; omega)]; rfl
    rw [if_neg h2]
    have hq := refSide_eq n (at_small hs h) (at_small hs hm) (at_small hs hk)
    by_cases h3 : sideAt ps i x ≤ 0
    · rw [if_pos h3]
      rw [if_pos hlt, if_neg (by omega), if_pos (by unfold inI64; omega), if_pos (len_ne h), List.length_map, tmod_nx, if_neg (by omega), el_at h, Option.bind_some, next_eq n h hl, Option.bind_some, el_at hk, Option.bind_some, hq, Option.bind_some]
      exact if_pos h3
    · rw [if_neg h3]
      refine ⟨?_, trivial⟩
      rw [if_pos hlt, if_neg (by omega), if_pos (by unfold inI64; omega), if_pos (len_ne h), List.length_map, tmod_nx, if_neg (by omega), el_at h, Option.bind_some, next_eq n h hl, Option.bind_some, el_at hk, Option.bind_some, hq, Option.bind_some]
      rw [if_neg (show ¬ side _ _ _ ≤ 0 from h3), if_pos (by unfold inI64; omega)]; rfl
  · unfold F_ref04_convex_L2
    rw [if_neg (by simp)]
theorem all_eq {n : Nat} (hn : 100 ≤ n) {ps : List Pt} (hs : ∀ p, p ∈ ps → Small p) (hl : ps.length ≤ 65) : loopF (F_field_CheckPolygon_L3 n (ps.map encP)) n 0 = some (allE ps) := by
  refine loopF_list0 (step := F_field_CheckPolygon_L3 n (ps.map encP)) (gAll ps) (fun _ => .inr ()) (fun k _ => (k : Int)) (List.range ps.length) (fun _ _ => True)
    (fun k s x hx _ => ?_) (fun s _ => ?_) (s := ()) trivial (by simp; omega)
  · obtain ⟨rfl, hk⟩ := range_at hx
    have hlt : ((x : Nat) : Int) < (((ps.map encP).length : Nat) : Int) := by simp; omega
    have hr := row_eq hn hs hl hk
    unfold gAll F_field_CheckPolygon_L3
    cases hq : rowE ps x with
    | inl u =>
      rw [hq] at hr
      dsimp only
      rw [if_pos hlt, edge_eq n hk hl, Option.bind_some, hr, Option.bind_some]
    | inr u =>
      rw [hq] at hr
      refine ⟨?_, trivial⟩
      rw [if_pos hlt, edge_eq n hk hl, Option.bind_some, hr, Option.bind_some]
      dsimp only
      rw [if_pos (by unfold inI64; omega)]; rfl
  · unfold F_field_CheckPolygon_L3
    rw [if_neg (by simp)]
theorem refAll_eq {n : Nat} (hn : 100 ≤ n) {ps : List Pt} (hs : ∀ p, p ∈ ps → Small p) (hl : ps.length ≤ 65) : loopF (F_ref04_convex_L3 n (ps.map encP)) n 0 = some (allE ps) := by
  refine loopF_list0 (step := F_ref04_convex_L3 n (ps.map encP)) (gAll ps) (fun _ => .inr ()) (fun k _ => (k : Int)) (List.range ps.length) (fun _ _ => True)
    (fun k s x hx _ => ?_) (fun s _ => ?_) (s := ()) trivial (by simp; omega)
  · obtain ⟨rfl, hk⟩ := range_at hx
    have hlt : ((x : Nat) : Int) < (((ps.map encP).length : Nat) : Int) := by simp; omega
    have hr := refRow_eq hn hs hl hk
    unfold gAll F_ref04_convex_L3
    cases hq : rowE ps x with
    | inl u =>
      rw [hq] at hr
      dsimp only
      rw [if_pos hlt, hr, Option.bind_some]
    | inr u =>
      rw [hq] at hr
      refine ⟨?_, trivial⟩
      rw [if_pos hlt, hr, Option.bind_some]
      dsimp only
      rw [if_pos (by unfold inI64; omega)]; rfl
  · unfold F_ref04_convex_L3
    rw [if_neg (by simp)]

/-- The error of a polygon. -/
def polyE (ps : List Pt) : Int :=
  if firstNZ [whenI (decide ((ps.length : Int) < 3)) 16, whenI (decide ((ps.length : Int) > 16)) 5] = 0 then
    if firstNZ (ps.map ptE) = 0 then match allE ps with
      | .inl _ => 2
      | .inr _ => 0
    else firstNZ (ps.map ptE)
  else firstNZ [whenI (decide ((ps.length : Int) < 3)) 16, whenI (decide ((ps.length : Int) > 16)) 5]
theorem small_of {ps : List Pt} (h : firstNZ (ps.map ptE) = 0) : ∀ p, p ∈ ps → Small p := fun p hp => ptE_zero (firstNZ_zero h _ (List.mem_map.2 ⟨p, hp, rfl⟩))
theorem check_eq {n : Nat} (hn : 100 ≤ n) (ps : List Pt) (hl : ps.length ≤ 65) : F_field_CheckPolygon n (ps.map encP) = some (polyE ps) := by
  unfold F_field_CheckPolygon polyE
  rw [List.length_map, when_eq, Option.bind_some, when_eq, Option.bind_some, first2 (by omega), Option.bind_some]
  by_cases h1 : firstNZ [whenI (decide ((ps.length : Int) < 3)) 16, whenI (decide ((ps.length : Int) > 16)) 5] = 0
  · rw [if_pos h1, if_pos h1, mapped_eq hn ps hl, Option.bind_some, first_eq _ (by simp; omega) (by simp; omega), Option.bind_some]
    by_cases h2 : firstNZ (ps.map ptE) = 0
    · rw [if_pos h2, if_pos h2, all_eq hn (small_of h2) hl, Option.bind_some]
      cases allE ps <;> rfl
    · rw [if_neg h2, if_neg h2]
  · rw [if_neg h1, if_neg h1]
theorem refCheck_eq {n : Nat} (hn : 100 ≤ n) (ps : List Pt) (hl : ps.length ≤ 65) : F_ref04_CheckPolygon n (ps.map encP) = some (polyE ps) := by
  unfold F_ref04_CheckPolygon polyE
  rw [List.length_map, refWhen_eq, Option.bind_some, refWhen_eq, Option.bind_some, refFirst2 (by omega), Option.bind_some]
  by_cases h1 : firstNZ [whenI (decide ((ps.length : Int) < 3)) 16, whenI (decide ((ps.length : Int) > 16)) 5] = 0
  · rw [if_pos h1, if_pos h1]
    have key : ∀ (l : List Pt), runL (fun (_ : Unit) (p : Pt) => (if ptE p = 0 then .inl () else .inr (.inl (ptE p)) : Unit ⊕ (Int ⊕ Unit))) (fun _ => .inr ()) l () = if firstNZ (l.map ptE) = 0 then .inr () else .inl (firstNZ (l.map ptE)) := by
      intro l
      induction l with
      | nil => rfl
      | cons p l ih =>
        unfold runL
        by_cases h : ptE p = 0
        · rw [if_pos h]; simp only [List.map_cons, firstNZ, if_pos h]; exact ih
        · rw [if_neg h]; simp only [List.map_cons, firstNZ, if_neg h]
    have := loopF_list0 (step := F_ref04_CheckPolygon_L1 n (ps.map encP)) (fun (_ : Unit) (p : Pt) => (if ptE p = 0 then .inl () else .inr (.inl (ptE p)) : Unit ⊕ (Int ⊕ Unit))) (fun _ => .inr ()) (fun i _ => (i : Int)) ps (fun _ _ => True)
      (fun i s x hx _ => by
        have hi := (List.getElem?_eq_some_iff.1 hx).1
        unfold F_ref04_CheckPolygon_L1
        by_cases h : ptE x = 0
        · rw [if_pos h]
          refine ⟨?_, trivial⟩
          rw [if_pos (lenlt hx), el_enc unP hx, Option.bind_some, refPoint_eq (by omega), Option.bind_some, if_pos h, if_pos (by unfold inI64; omega)]; rfl
        · rw [if_neg h]
          dsimp only
          rw [if_pos (lenlt hx), el_enc unP hx, Option.bind_some, refPoint_eq (by omega), Option.bind_some, if_neg h])
      (fun s _ => by unfold F_ref04_CheckPolygon_L1; rw [if_neg (by simp)]) (s := ()) (k := n) trivial (by omega)
    rw [show (0 : Int) = ((0 : Nat) : Int) from rfl, this, key]
    by_cases h2 : firstNZ (ps.map ptE) = 0
    · rw [if_pos h2, if_pos (show firstNZ (ps.map ptE) = ((0 : Nat) : Int) from h2)]
      dsimp only [Option.bind_some]
      unfold F_ref04_convex
      rw [refAll_eq hn (small_of h2) hl, Option.bind_some]
      cases allE ps <;> rfl
    · rw [if_neg h2, if_neg (show ¬ firstNZ (ps.map ptE) = ((0 : Nat) : Int) from h2)]; rfl
  · rw [if_neg h1, if_neg h1]
theorem polyE_zero {ps : List Pt} (h : polyE ps = 0) : 3 ≤ ps.length ∧ ps.length ≤ 16 ∧ ∀ p, p ∈ ps → Small p := by
  unfold polyE at h
  by_cases h1 : firstNZ [whenI (decide ((ps.length : Int) < 3)) 16, whenI (decide ((ps.length : Int) > 16)) 5] = 0
  · rw [if_pos h1] at h
    have a1 := firstNZ_zero h1 (whenI (decide ((ps.length : Int) < 3)) 16) (by simp)
    have a2 := firstNZ_zero h1 (whenI (decide ((ps.length : Int) > 16)) 5) (by simp)
    by_cases h2 : firstNZ (ps.map ptE) = 0
    · refine ⟨?_, ?_, small_of h2⟩
      · unfold whenI at a1; split at a1
        · omega
        · rename_i hc; simp at hc; omega
      · unfold whenI at a2; split at a2
        · omega
        · rename_i hc; simp at hc; omega
    · rw [if_neg h2] at h; exact absurd h h2
  · rw [if_neg h1] at h; exact absurd h h1

/-! The area. -/
def cr (ps : List Pt) (i : Nat) : Int := (at0 ps i).1 * (at0 ps (nx ps.length i)).2 - (at0 ps i).2 * (at0 ps (nx ps.length i)).1
def areaE (ps : List Pt) : Int := runL (fun (s : Int) (i : Nat) => (.inl (s + cr ps i) : Int ⊕ Int)) id (List.range ps.length) 0
theorem cr_b {p q : Pt} (hp : Small p) (hq : Small q) : (-281474976710656 ≤ p.1 * q.2 ∧ p.1 * q.2 ≤ 281474976710656) ∧ (-281474976710656 ≤ p.2 * q.1 ∧ p.2 * q.1 ≤ 281474976710656) := by
  unfold Small at hp hq
  have h1 := mul_pq (g := p.1) (c := q.2) (p := 16777216) (q := 16777216) (by omega) (by omega) (by omega) (by omega)
  have h2 := mul_pq (g := p.2) (c := q.1) (p := 16777216) (q := 16777216) (by omega) (by omega) (by omega) (by omega)
  omega
theorem area_loop {n : Nat} (hn : 100 ≤ n) {ps : List Pt} (hs : ∀ p, p ∈ ps → Small p) (hl : ps.length ≤ 16) : loopF (F_field_Area_L1 n (ps.map encP)) n (0, 0) = some (areaE ps) := by
  refine loopF_list0 (step := F_field_Area_L1 n (ps.map encP)) (fun (s : Int) (i : Nat) => (.inl (s + cr ps i) : Int ⊕ Int)) id (fun k s => (s, (k : Int))) (List.range ps.length) (fun k s => -562949953421312 * (k : Int) ≤ s ∧ s ≤ 562949953421312 * (k : Int))
    (fun k s x hx hi => ?_) (fun s _ => ?_) (s := 0) (by simp) (by simp; omega)
  · obtain ⟨rfl, hk⟩ := range_at hx
    have hlt : ((x : Nat) : Int) < (((ps.map encP).length : Nat) : Int) := by simp; omega
    have hm := nx_lt (m := ps.length) (i := x) (by omega)
    obtain ⟨b1, b2⟩ := cr_b (at_small hs hk) (at_small hs hm)
    dsimp only at hi ⊢
    unfold F_field_Area_L1 cr
    dsimp only
    rw [if_pos hlt, edge_eq n hk (by omega), Option.bind_some]
    dsimp only
    generalize (at0 ps x).1 * (at0 ps (nx ps.length x)).2 = u at *
    generalize (at0 ps x).2 * (at0 ps (nx ps.length x)).1 = v at *
    rw [if_pos (by unfold inI64; omega), if_pos (by unfold inI64; omega), if_pos (by unfold inI64; omega), if_pos (by unfold inI64; omega), if_pos (by unfold inI64; omega)]
    exact ⟨rfl, by omega, by omega⟩
  · unfold F_field_Area_L1
    dsimp only
    rw [if_neg (by simp)]; rfl
theorem refArea_eq {n : Nat} (hn : 100 ≤ n) {ps : List Pt} (hs : ∀ p, p ∈ ps → Small p) (hl : ps.length ≤ 16) : F_ref04_Area n (ps.map encP) = some (areaE ps) := by
  unfold F_ref04_Area
  have : loopF (F_ref04_Area_L1 n (ps.map encP)) n (0, 0) = some (areaE ps) := by
    refine loopF_list0 (step := F_ref04_Area_L1 n (ps.map encP)) (fun (s : Int) (i : Nat) => (.inl (s + cr ps i) : Int ⊕ Int)) id (fun k s => (s, (k : Int))) (List.range ps.length) (fun k s => -562949953421312 * (k : Int) ≤ s ∧ s ≤ 562949953421312 * (k : Int))
      (fun k s x hx hi => ?_) (fun s _ => ?_) (s := 0) (by simp) (by simp; omega)
    · obtain ⟨rfl, hk⟩ := range_at hx
      have hlt : ((x : Nat) : Int) < (((ps.map encP).length : Nat) : Int) := by simp; omega
      have hm := nx_lt (m := ps.length) (i := x) (by omega)
      obtain ⟨b1, b2⟩ := cr_b (at_small hs hk) (at_small hs hm)
      dsimp only at hi ⊢
      unfold F_ref04_Area_L1 cr
      dsimp only
      rw [if_pos hlt, next_eq n hk (by omega), Option.bind_some, el_at hk, Option.bind_some]
      generalize (at0 ps x).1 * (at0 ps (nx ps.length x)).2 = u at *
      generalize (at0 ps x).2 * (at0 ps (nx ps.length x)).1 = v at *
      rw [if_pos (by unfold inI64; omega), if_pos (by unfold inI64; omega), if_pos (by unfold inI64; omega), if_pos (by unfold inI64; omega), if_pos (by unfold inI64; omega)]
      refine ⟨?_, by omega, by omega⟩
      rw [Int.add_sub_assoc]; rfl
    · unfold F_ref04_Area_L1
      dsimp only
      rw [if_neg (by simp)]; rfl
  rw [this]; rfl
theorem area_eq {n : Nat} (hn : 100 ≤ n) (ps : List Pt) (hl : ps.length ≤ 65) : F_field_Area n (ps.map encP) = some (if polyE ps = 0 then (areaE ps, 0) else (0, polyE ps)) := by
  unfold F_field_Area
  rw [check_eq hn ps hl, Option.bind_some]
  by_cases h : polyE ps = 0
  · obtain ⟨_, h2, h3⟩ := polyE_zero h
    rw [if_pos h, if_pos h, area_loop hn h3 h2]; rfl
  · rw [if_neg h, if_neg h]

/-! Where a point lies. -/
def sgn (x : Int) : Int := if x < 0 then -1 else if x > 0 then 1 else 0
theorem compare_eq (n : Nat) (x : Int) : F_cmp_Compare_g n x 0 = some (sgn x) := by
  unfold F_cmp_Compare_g F_cmp_isNaN_g sgn
  simp only [bne_self_eq_false, Option.bind_some, Bool.false_eq_true, if_false]
  repeat' split
  all_goals first | rfl | omega
def sx (ps : List Pt) (x : Pt) (i : Nat) : Int := side (at0 ps i) (at0 ps (nx ps.length i)) x
def gH (ps : List Pt) (x : Pt) (s : Int) (i : Nat) : Int ⊕ Int := .inl (minI s (sgn (sx ps x i)))
def gR (ps : List Pt) (x : Pt) (s : Int) (i : Nat) : Int ⊕ (Unit ⊕ Int) := if sx ps x i < 0 then .inr (.inl ()) else if sx ps x i = 0 then .inl 0 else .inl s
def holdsE (ps : List Pt) (x : Pt) : Int := runL (gH ps x) id (List.range ps.length) 1
def outR (r : Unit ⊕ Int) : Int := match r with
  | .inl _ => -1
  | .inr v => v
theorem sgn_neg {x : Int} (h : x < 0) : sgn x = -1 := by unfold sgn; rw [if_pos h]
theorem sgn_zero {x : Int} (h : x = 0) : sgn x = 0 := by subst h; rfl
theorem sgn_pos {x : Int} (h1 : ¬ x < 0) (h2 : ¬ x = 0) : sgn x = 1 := by unfold sgn; rw [if_neg h1, if_pos (by omega)]
theorem run_low (ps : List Pt) (x : Pt) : ∀ (l : List Nat), runL (gH ps x) id l (-1) = -1
  | [] => rfl
  | i :: l => by
    unfold runL gH
    have : minI (-1) (sgn (sx ps x i)) = -1 := by
      unfold minI sgn
      repeat' split
      all_goals first | rfl | omega
    dsimp only
    rw [this]; exact run_low ps x l
theorem run_same (ps : List Pt) (x : Pt) : ∀ (l : List Nat) (s : Int), s = 0 ∨ s = 1 → outR (runL (gR ps x) (fun v => .inr v) l s) = runL (gH ps x) id l s
  | [], s, _ => rfl
  | i :: l, s, hs => by
    unfold runL gR
    by_cases h1 : sx ps x i < 0
    · rw [if_pos h1]
      have : minI s (sgn (sx ps x i)) = -1 := by
        rw [sgn_neg h1]
        unfold minI
        split <;> omega
      show (-1 : Int) = runL (gH ps x) id l (minI s (sgn (sx ps x i)))
      rw [this, run_low]
    · rw [if_neg h1]
      by_cases h2 : sx ps x i = 0
      · rw [if_pos h2]
        have : minI s (sgn (sx ps x i)) = 0 := by
          rw [sgn_zero h2]
          unfold minI
          split <;> omega
        show outR (runL (gR ps x) (fun v => .inr v) l 0) = runL (gH ps x) id l (minI s (sgn (sx ps x i)))
        rw [this]; exact run_same ps x l 0 (.inl rfl)
      · rw [if_neg h2]
        have : minI s (sgn (sx ps x i)) = s := by
          rw [sgn_pos h1 h2]
          unfold minI
          split <;> omega
        show outR (runL (gR ps x) (fun v => .inr v) l s) = runL (gH ps x) id l (minI s (sgn (sx ps x i)))
        rw [this]; exact run_same ps x l s hs
theorem holds_loop {n : Nat} (hn : 100 ≤ n) {ps : List Pt} (hs : ∀ p, p ∈ ps → Small p) (hl : ps.length ≤ 16) {x : Pt} (hx0 : Small x) : loopF (F_field_Holds_L1 n (ps.map encP) x.1 x.2) n (1, 0) = some (holdsE ps x) := by
  refine loopF_list0 (step := F_field_Holds_L1 n (ps.map encP) x.1 x.2) (gH ps x) id (fun k s => (s, (k : Int))) (List.range ps.length) (fun _ _ => True)
    (fun k s i hx _ => ?_) (fun s _ => ?_) (s := 1) trivial (by simp; omega)
  · obtain ⟨rfl, hk⟩ := range_at hx
    have hlt : ((i : Nat) : Int) < (((ps.map encP).length : Nat) : Int) := by simp; omega
    have hm := nx_lt (m := ps.length) (i := i) (by omega)
    unfold gH F_field_Holds_L1
    refine ⟨?_, trivial⟩
    dsimp only
    rw [if_pos hlt, edge_eq n hk (by omega), Option.bind_some]
    dsimp only
    rw [left_eq n (at_small hs hk) (at_small hs hm) hx0, Option.bind_some, compare_eq, Option.bind_some, if_pos (by unfold inI64; omega)]; rfl
  · unfold F_field_Holds_L1
    dsimp only
    rw [if_neg (by simp)]; rfl
theorem refHolds_eq {n : Nat} (hn : 100 ≤ n) {ps : List Pt} (hs : ∀ p, p ∈ ps → Small p) (hl : ps.length ≤ 16) {x : Pt} (hx0 : Small x) : F_ref04_Holds n (ps.map encP) x.1 x.2 = some (holdsE ps x) := by
  unfold F_ref04_Holds
  have : loopF (F_ref04_Holds_L1 n (ps.map encP) x.1 x.2) n (1, 0) = some (runL (gR ps x) (fun v => .inr v) (List.range ps.length) 1) := by
    refine loopF_list0 (step := F_ref04_Holds_L1 n (ps.map encP) x.1 x.2) (gR ps x) (fun v => .inr v) (fun k s => (s, (k : Int))) (List.range ps.length) (fun _ _ => True)
      (fun k s i hx _ => ?_) (fun s _ => ?_) (s := 1) trivial (by simp; omega)
    · obtain ⟨rfl, hk⟩ := range_at hx
      have hlt : ((i : Nat) : Int) < (((ps.map encP).length : Nat) : Int) := by simp; omega
      have hm := nx_lt (m := ps.length) (i := i) (by omega)
      have hq := refSide_eq n (at_small hs hk) (at_small hs hm) hx0
      unfold gR F_ref04_Holds_L1
      by_cases h1 : sx ps x i < 0
      · rw [if_pos h1]
        dsimp only
        rw [if_pos hlt, el_at hk, Option.bind_some, next_eq n hk (by omega), Option.bind_some, hq, Option.bind_some]
        exact if_pos h1
      · rw [if_neg h1]
        by_cases h2 : sx ps x i = 0
        · rw [if_pos h2]
          refine ⟨?_, trivial⟩
          dsimp only
          rw [if_pos hlt, el_at hk, Option.bind_some, next_eq n hk (by omega), Option.bind_some, hq, Option.bind_some, if_neg (show ¬ side _ _ _ < 0 from h1), if_pos (show side _ _ _ = 0 from h2), if_pos (by unfold inI64; omega)]; rfl
        · rw [if_neg h2]
          refine ⟨?_, trivial⟩
          dsimp only
          rw [if_pos hlt, el_at hk, Option.bind_some, next_eq n hk (by omega), Option.bind_some, hq, Option.bind_some, if_neg (show ¬ side _ _ _ < 0 from h1), if_neg (show ¬ side _ _ _ = 0 from h2), if_pos (by unfold inI64; omega)]; rfl
    · unfold F_ref04_Holds_L1
      dsimp only
      rw [if_neg (by simp)]
  rw [this, Option.bind_some]
  have h := run_same ps x (List.range ps.length) 1 (.inr rfl)
  unfold holdsE
  rw [← h]
  cases runL (gR ps x) (fun v => .inr v) (List.range ps.length) 1 <;> rfl
theorem holds_eq {n : Nat} (hn : 100 ≤ n) (ps : List Pt) (hl : ps.length ≤ 65) (x : Pt) : F_field_Holds n (ps.map encP) x.1 x.2 = some (if firstNZ [polyE ps, ptE x] = 0 then (holdsE ps x, 0) else (0, firstNZ [polyE ps, ptE x])) := by
  unfold F_field_Holds
  rw [check_eq hn ps hl, Option.bind_some, point_eq (by omega), Option.bind_some, first2 (by omega), Option.bind_some]
  by_cases h : firstNZ [polyE ps, ptE x] = 0
  · obtain ⟨_, h2, h3⟩ := polyE_zero (firstNZ_zero h (polyE ps) (by simp))
    rw [if_pos h, if_pos h, holds_loop hn h3 h2 (ptE_zero (firstNZ_zero h (ptE x) (by simp)))]; rfl
  · rw [if_neg h, if_neg h]

/-! The law. -/
theorem number_eq (n : Nat) (a e : Int) : F_law04_number n (if e = 0 then (a, (0 : Int)) else (0, e)).1 (if e = 0 then (a, (0 : Int)) else (0, e)).2 e (if e = 0 then a else 0) = some true := by
  unfold F_law04_number
  by_cases h : e = 0
  · simp [h]
  · simp [h]
theorem short_cases (n : Nat) (ps : List Pt) : F_ref04_ShortPoints n (ps.map encP) = some (decide (ps.length ≤ 12 ∨ ps.length = 17 ∨ ps.length = 65)) := by
  unfold F_ref04_ShortPoints
  rw [List.length_map]
  by_cases h1 : (ps.length : Int) ≤ 12
  · rw [if_pos h1]; simp; left; omega
  · rw [if_neg h1]
    by_cases h2 : (ps.length : Int) = 17
    · rw [if_pos h2]; simp; right; left; omega
    · rw [if_neg h2]
      congr 1
      rw [Bool.eq_iff_iff]
      simp only [beq_iff_eq, decide_eq_true_eq]
      omega
theorem law_FieldPolygons (ps : List Pt) (a1 a2 : Int) : F_law04_FieldPolygons 1000 (ps.map encP) a1 a2 = some true := by
  have hn : 100 ≤ 1000 := by omega
  unfold F_law04_FieldPolygons
  rw [show F_law04_awake 1000 = some true from rfl, Option.bind_some, if_pos rfl, short_cases, Option.bind_some]
  by_cases hs : ps.length ≤ 12 ∨ ps.length = 17 ∨ ps.length = 65
  · have hl : ps.length ≤ 65 := by omega
    have hH := holds_eq hn ps hl (a1, a2)
    have hP := refPoint_eq (n := 1000) (by omega) (a1, a2)
    dsimp only at hH hP
    rw [if_pos (by simpa using hs), points_eq _ (by simp; omega), Option.bind_some, area_eq hn ps hl, Option.bind_some, hH, Option.bind_some, refCheck_eq hn ps hl, Option.bind_some, hP, Option.bind_some, refFirst2 (by omega), Option.bind_some, check_eq hn ps hl]
    have n1 := number_eq 1000 (areaE ps) (polyE ps)
    have n2 := number_eq 1000 (holdsE ps (a1, a2)) (firstNZ [polyE ps, ptE (a1, a2)])
    have hA : polyE ps = 0 → F_ref04_Area 1000 (ps.map encP) = some (areaE ps) := fun h1 => by
      obtain ⟨_, h2, h3⟩ := polyE_zero h1
      exact refArea_eq hn h3 h2
    have hR : firstNZ [polyE ps, ptE (a1, a2)] = 0 → F_ref04_Holds 1000 (ps.map encP) a1 a2 = some (holdsE ps (a1, a2)) := fun h4 => by
      obtain ⟨_, h2, h3⟩ := polyE_zero (firstNZ_zero h4 (polyE ps) (by simp))
      exact refHolds_eq hn h3 h2 (x := (a1, a2)) (ptE_zero (firstNZ_zero h4 (ptE (a1, a2)) (by simp)))
    have hPQ : ¬ polyE ps = 0 → ¬ firstNZ [polyE ps, ptE (a1, a2)] = 0 := fun h1 => by simp only [firstNZ, if_neg h1]; exact h1
    clear hH hP
    generalize firstNZ [polyE ps, ptE (a1, a2)] = Q at *
    generalize polyE ps = R at *
    by_cases h1 : R = 0
    · subst h1
      rw [if_pos rfl] at n1
      rw [if_pos rfl, hA rfl]
      by_cases h4 : Q = 0
      · subst h4
        rw [if_pos rfl] at n2
        rw [if_pos rfl, hR rfl]
        simp only [Option.bind_some, if_true] at n1 n2 ⊢
        rw [n1]
        simp only [Option.bind_some, if_true]
        rw [n2]; rfl
      · rw [if_neg h4] at n2 ⊢
        simp only [Option.bind_some, if_true, if_neg h4] at n1 n2 ⊢
        rw [n1]
        simp only [Option.bind_some, if_true]
        rw [n2]; rfl
    · have h4 := hPQ h1
      rw [if_neg h1] at n1 ⊢
      rw [if_neg h4] at n2 ⊢
      simp only [Option.bind_some, if_true, if_neg h1, if_neg h4] at n1 n2 ⊢
      rw [n1]
      simp only [Option.bind_some, if_true]
      rw [n2]; rfl
  · rw [if_neg (by simpa using hs)]
end Go.Proofs.YtlakflidecdepaaGreatDoor
