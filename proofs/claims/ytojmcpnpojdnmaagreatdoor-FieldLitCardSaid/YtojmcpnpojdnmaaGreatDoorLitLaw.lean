/-
  Plain law of FieldLit: dark, blocked and left facets are counted alike, and the sort by what is left is the reference's order. An own text.
-/
import Derived.Test.YtojmcpnpojdnmaaGreatDoorHid
import Derived.Test.YtojmcpnpojdnmaaGreatDoorNums
set_option linter.unusedVariables false
set_option linter.unusedSimpArgs false
set_option linter.unnecessarySimpa false
set_option maxRecDepth 20000
namespace Go.Proofs.YtojmcpnpojdnmaaGreatDoor
open Go.SX

def litG (d b : Nat × Nat → Bool) (s : Int × Int × Int) (p : Nat × Nat) : Int × Int × Int :=
  if d p = true then (s.1 + 1, s.2.1, s.2.2) else if b p = true then (s.1, s.2.1 + 1, s.2.2) else (s.1, s.2.1, s.2.2 + 1)
structure Le3 (s : Int × Int × Int) (i : Nat) : Prop where
  a : 0 ≤ s.1 ∧ s.1 ≤ (i : Int)
  b : 0 ≤ s.2.1 ∧ s.2.1 ≤ (i : Int)
  c : 0 ≤ s.2.2 ∧ s.2.2 ≤ (i : Int)
theorem Le3.step {s : Int × Int × Int} {i : Nat} (h : Le3 s i) (d b : Nat × Nat → Bool) (p : Nat × Nat) : Le3 (litG d b s p) (i + 1) := by
  obtain ⟨h1, h2, h3⟩ := h
  unfold litG
  split
  · exact ⟨by dsimp only; omega, by dsimp only; omega, by dsimp only; omega⟩
  · split
    · exact ⟨by dsimp only; omega, by dsimp only; omega, by dsimp only; omega⟩
    · exact ⟨by dsimp only; omega, by dsimp only; omega, by dsimp only; omega⟩
theorem Le3.fold (d b : Nat × Nat → Bool) : ∀ (l : List (Nat × Nat)) (s : Int × Int × Int) (i : Nat), Le3 s i → Le3 (l.foldl (litG d b) s) (i + l.length)
  | [], s, i, h => h
  | p :: l, s, i, h => by
    have := Le3.fold d b l _ (i + 1) (h.step d b p)
    rw [List.foldl_cons, List.length_cons, show i + (l.length + 1) = i + 1 + l.length by omega]
    exact this
def litR (d b : Nat × Nat → Bool) (k : Nat) : Int × Int × Int := (allS k).foldl (litG d b) (0, 0, 0)
theorem litR_le (d b : Nat × Nat → Bool) (k : Nat) : Le3 (litR d b k) (k * k) := by
  have := Le3.fold d b (allS k) (0, 0, 0) 0 ⟨by decide, by decide, by decide⟩
  rw [Nat.zero_add, allS_len] at this
  exact this
theorem elB {l : List (Nat × Nat)} {f : Nat × Nat → Bool} {i : Nat} {p : Nat × Nat} (h : l[i]? = some p) : el un_b (l.map fun p => encB (f p)) (i : Int) = some (f p) := by
  have := el_enc (un := un_b) (enc := B) (fun _ => rfl) (l := l.map f) (i := i) (x := f p) (by rw [List.getElem?_map, h]; rfl)
  rw [List.map_map] at this
  exact this
theorem lit_loop {n : Nat} (hn : 100 ≤ n) {k : Nat} (hk : k ≤ 8) (d b : Nat × Nat → Bool) :
    loopF (F_field_lit_L1 n ((allS k).map fun p => encB (b p)) ((allS k).map fun p => encB (d p))) n (0, 0, 0, 0) = some (litR d b k) := by
  have hq := sq_le hk
  have hl := allS_len k
  have := loopF_list0 (step := F_field_lit_L1 n ((allS k).map fun p => encB (b p)) ((allS k).map fun p => encB (d p))) (fun (s : Int × Int × Int) (p : Nat × Nat) => (.inl (litG d b s p) : (Int × Int × Int) ⊕ (Int × Int × Int))) id
    (fun i s => ((i : Int), s.1, s.2.1, s.2.2)) (allS k) (fun i s => Le3 s i)
    (fun i s x hx hi => by
      have hlt := (List.getElem?_eq_some_iff.1 hx).1
      obtain ⟨h1, h2, h3⟩ := hi
      dsimp only
      refine ⟨?_, Le3.step ⟨h1, h2, h3⟩ d b x⟩
      unfold F_field_lit_L1 litG
      dsimp only
      rw [if_pos (lenlt (f := fun p => encB (d p)) hx), elB (f := d) hx, Option.bind_some]
      by_cases hd : d x = true
      · rw [if_pos hd, if_pos hd, if_pos (by unfold inI64; omega), if_pos (by unfold inI64; omega)]; rfl
      · rw [if_neg hd, if_neg hd, elB (f := b) hx, Option.bind_some]
        by_cases hb : b x = true
        · rw [if_pos hb, if_pos hb, if_pos (by unfold inI64; omega), if_pos (by unfold inI64; omega)]; rfl
        · rw [if_neg hb, if_neg hb, if_pos (by unfold inI64; omega), if_pos (by unfold inI64; omega)]; rfl)
    (fun s _ => by unfold F_field_lit_L1; dsimp only; rw [if_neg (by simp)]; rfl) (s := (0, 0, 0)) (k := n) ⟨by decide, by decide, by decide⟩ (by omega)
  rw [runL_inl] at this
  exact this
theorem refLit_loop {n : Nat} (hn : 100 ≤ n) {k : Nat} (hk : k ≤ 8) (d b : Nat × Nat → Bool) :
    loopF (F_ref04_Lit_L1 n ((allS k).map fun p => encB (d p)) ((allS k).map fun p => encB (b p))) n (0, 0, 0, 0) = some (litR d b k) := by
  have hq := sq_le hk
  have hl := allS_len k
  have := loopF_list0 (step := F_ref04_Lit_L1 n ((allS k).map fun p => encB (d p)) ((allS k).map fun p => encB (b p))) (fun (s : Int × Int × Int) (p : Nat × Nat) => (.inl (litG d b s p) : (Int × Int × Int) ⊕ (Int × Int × Int))) id
    (fun i s => ((i : Int), s.1, s.2.1, s.2.2)) (allS k) (fun i s => Le3 s i)
    (fun i s x hx hi => by
      have hlt := (List.getElem?_eq_some_iff.1 hx).1
      obtain ⟨h1, h2, h3⟩ := hi
      dsimp only
      refine ⟨?_, Le3.step ⟨h1, h2, h3⟩ d b x⟩
      unfold F_ref04_Lit_L1 litG
      dsimp only
      rw [if_pos (lenlt (f := fun p => encB (d p)) hx), elB (f := d) hx, Option.bind_some]
      by_cases hd : d x = true
      · rw [if_pos hd, if_pos hd, if_pos (by unfold inI64; omega), if_pos (by unfold inI64; omega)]; rfl
      · rw [if_neg hd, if_neg hd, elB (f := b) hx, Option.bind_some]
        by_cases hb : b x = true
        · rw [if_pos hb, if_pos hb, if_pos (by unfold inI64; omega), if_pos (by unfold inI64; omega)]; rfl
        · rw [if_neg hb, if_neg hb, if_pos (by unfold inI64; omega), if_pos (by unfold inI64; omega)]; rfl)
    (fun s _ => by unfold F_ref04_Lit_L1; dsimp only; rw [if_neg (by simp)]; rfl) (s := (0, 0, 0)) (k := n) ⟨by decide, by decide, by decide⟩ (by omega)
  rw [runL_inl] at this
  exact this
/-- What is counted at a mirror. -/
def litM (ms : List Mir) (k : Nat) (sun t : Vec) (m : Mir) (q : Nat) : Int × Int × Int := litR (darkB ms (q : Int) (k : Int) m sun) (blockB ms q k m t) k
theorem lit_eq {n : Nat} {ms : List Mir} {q k : Nat} {m : Mir} (h : Asked ms q k m) (hn : 100 ≤ n) {sun t : Vec} (hs : Bd 1024 sun) (ht : Bd 4096 t) :
    F_field_lit n (ms.map encM) (q : Int) sun.1 sun.2.1 sun.2.2 t.1 t.2.1 t.2.2 (k : Int) = some (litM ms k sun t m q) := by
  unfold F_field_lit
  rw [block_eq h hn ht, Option.bind_some, dark_eq h hn hs, Option.bind_some, lit_loop hn h.k.2, Option.bind_some]; rfl
theorem refLit_eq {n : Nat} {ms : List Mir} {q k : Nat} {m : Mir} (h : Asked ms q k m) (hn : 100 ≤ n) {sun t : Vec} (hs : Bd 1024 sun) (ht : Bd 4096 t) :
    F_ref04_Lit n (ms.map encM) (q : Int) sun.1 sun.2.1 sun.2.2 t.1 t.2.1 t.2.2 (k : Int) = some (litM ms k sun t m q) := by
  unfold F_ref04_Lit
  rw [refDark_eq h hn hs, Option.bind_some, refBlock_eq h hn ht, Option.bind_some, refLit_loop hn h.k.2, Option.bind_some]; rfl

/-! The order by what is left. -/
def leftM (ms : List Mir) (k : Nat) (sun t : Vec) (i : Nat) : Int := (litM ms k sun t (atM ms i) i).2.2
def rankK (ms : List Mir) (k : Nat) (sun t : Vec) (i : Nat) : Int := -(leftM ms k sun t i)
theorem left_le (ms : List Mir) (k : Nat) (sun t : Vec) (i : Nat) : 0 ≤ leftM ms k sun t i ∧ leftM ms k sun t i ≤ ((k * k : Nat) : Int) := (litR_le _ _ k).c
theorem rank_loop {n : Nat} (hn : 100 ≤ n) {ms : List Mir} (hl : ms.length ≤ 64) (ho : ∀ m, m ∈ ms → m.Ok) {k : Nat} (hk : 1 ≤ k ∧ k ≤ 8) {sun t : Vec} (hs : Bd 1024 sun) (ht : Bd 4096 t) :
    loopF (F_field_Ranked_L1 n (ms.map encM) sun.1 sun.2.1 sun.2.2 t.1 t.2.1 t.2.2 (k : Int)) n (0, []) = some ((List.range ms.length).map (encK (atM ms) (rankK ms k sun t))) := by
  have hq := sq_le hk.2
  have := loopF_list0 (step := F_field_Ranked_L1 n (ms.map encM) sun.1 sun.2.1 sun.2.2 t.1 t.2.1 t.2.2 (k : Int)) (fun (s : List D) (i : Nat) => (.inl (s ++ [encK (atM ms) (rankK ms k sun t) i]) : List D ⊕ List D)) id
    (fun i s => ((i : Int), s)) (List.range ms.length) (fun i s => s.length = i)
    (fun i s x hx hi => by
      obtain ⟨rfl, hxk⟩ := rangeAt hx
      have hx' := List.getElem?_eq_getElem hxk
      generalize ms[x] = mx at hx'
      have hle := left_le ms k sun t x
      have hlit := lit_eq (n := n) (q := x) ⟨hx', hl, ho, hk⟩ hn hs ht
      have he : leftM ms k sun t x = (litM ms k sun t mx x).2.2 := by unfold leftM; rw [atM_eq hx']
      have hkk : encK (atM ms) (rankK ms k sun t) x = .agg [.v (.string mx.name), I mx.c.1, I mx.c.2.1, I mx.c.2.2, I mx.u.1, I mx.u.2.1, I mx.u.2.2, I mx.v.1, I mx.v.2.1, I mx.v.2.2, I (-((litM ms k sun t mx x).2.2)), I (x : Int)] := by
        unfold encK rankK
        rw [he, atM_eq hx']
      dsimp only
      refine ⟨?_, by simp [hi]⟩
      unfold F_field_Ranked_L1
      dsimp only
      rw [if_pos (lenlt (f := encM) hx'), elM hx', Option.bind_some, hlit, Option.bind_some, wrapN_eq (by rw [← he]; unfold L; omega), if_pos (by unfold roomP; omega), if_pos (by unfold inI64; omega), hkk]; rfl)
    (fun s _ => by unfold F_field_Ranked_L1; dsimp only; rw [if_neg (by simp)]; rfl) (s := []) (k := n) rfl (by simp; omega)
  rw [runL_app] at this
  exact this
theorem refRank1 {n : Nat} (hn : 100 ≤ n) {ms : List Mir} (hl : ms.length ≤ 64) (ho : ∀ m, m ∈ ms → m.Ok) {k : Nat} (hk : 1 ≤ k ∧ k ≤ 8) {sun t : Vec} (hs : Bd 1024 sun) (ht : Bd 4096 t) :
    loopF (F_ref04_Ranked_L1 n (ms.map encM) sun.1 sun.2.1 sun.2.2 t.1 t.2.1 t.2.2 (k : Int)) n (0, []) = some ((List.range ms.length).map fun i => I (leftM ms k sun t i)) := by
  have := loopF_list0 (step := F_ref04_Ranked_L1 n (ms.map encM) sun.1 sun.2.1 sun.2.2 t.1 t.2.1 t.2.2 (k : Int)) (fun (s : List D) (i : Nat) => (.inl (s ++ [I (leftM ms k sun t i)]) : List D ⊕ List D)) id
    (fun i s => ((i : Int), s)) (List.range ms.length) (fun i s => s.length = i)
    (fun i s x hx hi => by
      obtain ⟨rfl, hxk⟩ := rangeAt hx
      have hx' := List.getElem?_eq_getElem hxk
      generalize ms[x] = mx at hx'
      have hlit := refLit_eq (n := n) (q := x) ⟨hx', hl, ho, hk⟩ hn hs ht
      have he : leftM ms k sun t x = (litM ms k sun t mx x).2.2 := by unfold leftM; rw [atM_eq hx']
      dsimp only
      refine ⟨?_, by simp [hi]⟩
      unfold F_ref04_Ranked_L1
      dsimp only
      rw [if_pos (lenlt (f := encM) hx'), hlit, Option.bind_some, if_pos (by unfold roomP; omega), if_pos (by unfold inI64; omega), he]; rfl)
    (fun s _ => by unfold F_ref04_Ranked_L1; dsimp only; rw [if_neg (by simp)]; rfl) (s := []) (k := n) rfl (by simp; omega)
  rw [runL_app] at this
  exact this
def rowL (N : Nat) (left : Nat → Int) (v : Nat) : List Nat := (List.range N).filter fun i => decide (left i = (v : Int))
theorem rowL_len (N : Nat) (left : Nat → Int) (v : Nat) : (rowL N left v).length ≤ N := by
  unfold rowL
  have := List.length_filter_le (fun i => decide (left i = (v : Int))) (List.range N)
  rwa [List.length_range] at this
theorem runL_flt2 (p : Nat → Bool) (enc : List Nat → List D) : ∀ (l s : List Nat), runL (fun (s : List Nat) (i : Nat) => (.inl (if p i = true then s ++ [i] else s) : List Nat ⊕ List D)) enc l s = enc (s ++ l.filter p)
  | [], s => by simp [runL]
  | x :: l, s => by
    unfold runL
    dsimp only
    rw [runL_flt2 p enc l]
    by_cases h : p x = true
    · rw [if_pos h, List.filter_cons_of_pos h]; simp
    · rw [if_neg h, List.filter_cons_of_neg h]
theorem refRank3 {n : Nat} (hn : 100 ≤ n) {A : List D} {N : Nat} (hA : A.length = N) (hN : N ≤ 64) (left : Nat → Int) (v : Nat) (q : List D) {s : List Nat} (hs : s.length ≤ 10000) :
    loopF (F_ref04_Ranked_L3 n A ((List.range N).map fun i => I (left i)) ((v : Int), q)) n (0, s.map encI) = some ((s ++ rowL N left v).map encI) := by
  have := loopF_list0 (step := F_ref04_Ranked_L3 n A ((List.range N).map fun i => I (left i)) ((v : Int), q)) (fun (s : List Nat) (i : Nat) => (.inl (if decide (left i = (v : Int)) = true then s ++ [i] else s) : List Nat ⊕ List D)) (fun s => s.map encI)
    (fun i s => ((i : Int), s.map encI)) (List.range N) (fun i s => s.length ≤ 10000 + i)
    (fun i s x hx hi => by
      obtain ⟨rfl, hxk⟩ := rangeAt hx
      have hnth : nth ((List.range N).map fun i => I (left i)) x = some (I (left x)) := by rw [nth_get?, List.getElem?_map, hx]; rfl
      have hll : (x : Int) < (((List.range N).map fun i => I (left i)).length : Int) := by simp; omega
      dsimp only
      unfold F_ref04_Ranked_L3
      dsimp only
      rw [if_pos (by omega), if_pos ⟨by omega, hll⟩, Int.toNat_natCast, hnth, Option.bind_some, show un_i (I (left x)) = some (left x) from rfl, Option.bind_some]
      by_cases h : left x = (v : Int)
      · rw [if_pos h, if_pos (by unfold roomP; rw [List.length_map]; omega), if_pos (by unfold inI64; omega), if_pos (decide_eq_true h), List.map_append]
        exact ⟨rfl, by simp; omega⟩
      · rw [if_neg h, if_pos (by unfold inI64; omega), if_neg (by simpa using h)]
        exact ⟨rfl, by omega⟩)
    (fun s _ => by unfold F_ref04_Ranked_L3; dsimp only; rw [if_neg (by simp; omega)]) (s := s) (k := n) hs (by simp; omega)
  rw [show ((0 : Int), s.map encI) = (((0 : Nat) : Int), s.map encI) from rfl, this, runL_flt2]; rfl
def downL (N : Nat) (left : Nat → Int) (K : Nat) : List Nat := ((List.range (K + 1)).map fun i => K - i).flatMap (rowL N left)
theorem runL_flat (f : Nat → List Nat) (enc : List Nat → List D) : ∀ (l : List Nat) (s : List Nat), runL (fun (s : List Nat) (i : Nat) => (.inl (s ++ f i) : List Nat ⊕ List D)) enc l s = enc (s ++ l.flatMap f)
  | [], s => by simp [runL]
  | x :: l, s => by
    unfold runL
    dsimp only
    rw [runL_flat f enc l]; simp
theorem refRank4 {n : Nat} (hn : 100 ≤ n) {A : List D} {N : Nat} (hA : A.length = N) (hN : N ≤ 64) (left : Nat → Int) {K : Nat} (hK : K ≤ 64) :
    loopF (F_ref04_Ranked_L4 n A ((List.range N).map fun i => I (left i))) n ((K : Int), []) = some ((downL N left K).map encI) := by
  have := loopF_list0 (step := F_ref04_Ranked_L4 n A ((List.range N).map fun i => I (left i))) (fun (s : List Nat) (v : Nat) => (.inl (s ++ rowL N left v) : List Nat ⊕ List D)) (fun s => s.map encI)
    (fun i s => ((K : Int) - (i : Int), s.map encI)) ((List.range (K + 1)).map fun i => K - i) (fun i s => s.length ≤ 64 * i)
    (fun i s x hx hi => by
      have hlt := (List.getElem?_eq_some_iff.1 hx).1
      rw [List.length_map, List.length_range] at hlt
      have hxe : x = K - i := by
        rw [List.getElem?_map, List.getElem?_range hlt] at hx
        exact (Option.some.inj hx).symm
      have hxi : (K : Int) - (i : Int) = (x : Int) := by omega
      have hr := rowL_len N left x
      dsimp only
      refine ⟨?_, by rw [List.length_append]; omega⟩
      unfold F_ref04_Ranked_L4
      rw [hxi]
      dsimp only
      rw [if_pos (by omega), refRank3 hn hA hN left x _ (by omega), Option.bind_some, if_pos (by unfold inI64; omega)]
      have : (x : Int) - 1 = (K : Int) - ((i + 1 : Nat) : Int) := by omega
      rw [this])
    (fun s _ => by
      unfold F_ref04_Ranked_L4
      dsimp only
      rw [List.length_map, List.length_range, if_neg (by omega)]) (s := []) (k := n) (by simp) (by simp; omega)
  rw [show ((K : Int), ([] : List D)) = ((K : Int) - ((0 : Nat) : Int), ([] : List Nat).map encI) by simp, this, runL_flat]; rfl
theorem down_ord (N : Nat) (left : Nat → Int) (K : Nat) : (downL N left K).Pairwise (Ord fun i => -(left i)) := by
  unfold downL
  rw [List.pairwise_flatMap]
  constructor
  · intro v _
    unfold rowL
    refine (List.Pairwise.filter _ List.pairwise_lt_range).imp_of_mem ?_
    intro a b ha hb hab
    have h1 := of_decide_eq_true (List.mem_filter.1 ha).2
    have h2 := of_decide_eq_true (List.mem_filter.1 hb).2
    unfold Ord; dsimp only; omega
  · rw [List.pairwise_map]
    refine (List.pairwise_lt_range (n := K + 1)).imp_of_mem ?_
    intro a b ha hb hab x hx y hy
    have ha' := List.mem_range.1 ha
    have hb' := List.mem_range.1 hb
    unfold rowL at hx hy
    have h1 := of_decide_eq_true (List.mem_filter.1 hx).2
    have h2 := of_decide_eq_true (List.mem_filter.1 hy).2
    unfold Ord; dsimp only at h1 h2 ⊢; omega
theorem down_mem {N : Nat} {left : Nat → Int} {K : Nat} (h : ∀ i, 0 ≤ left i ∧ left i ≤ (K : Int)) (x : Nat) : x ∈ downL N left K ↔ x ∈ List.range N := by
  unfold downL rowL
  rw [List.mem_flatMap]
  constructor
  · rintro ⟨v, _, hv⟩
    exact (List.mem_filter.1 hv).1
  · intro hx
    have hl := h x
    refine ⟨(left x).toNat, ?_, List.mem_filter.2 ⟨hx, decide_eq_true (by omega)⟩⟩
    exact List.mem_map.2 ⟨K - (left x).toNat, List.mem_range.2 (by omega), by omega⟩
theorem refRank_eq {n : Nat} (hn : 100 ≤ n) {ms : List Mir} (hl : ms.length ≤ 64) (ho : ∀ m, m ∈ ms → m.Ok) {k : Nat} (hk : 1 ≤ k ∧ k ≤ 8) {sun t : Vec} (hs : Bd 1024 sun) (ht : Bd 4096 t) :
    F_ref04_Ranked n (ms.map encM) sun.1 sun.2.1 sun.2.2 t.1 t.2.1 t.2.2 (k : Int) = some ((srt (rankK ms k sun t) (List.range ms.length)).map encI) := by
  have hq := sq_le hk.2
  have hkk : (k : Int) * (k : Int) = ((k * k : Nat) : Int) := (Int.natCast_mul k k).symm
  unfold F_ref04_Ranked
  rw [refRank1 hn hl ho hk hs ht, Option.bind_some, hkk, if_pos (by unfold inI64; omega), refRank4 hn (List.length_map _) hl (leftM ms k sun t) (by omega), Option.bind_some,
    srt_eq (key := rankK ms k sun t) List.nodup_range (down_ord ms.length (leftM ms k sun t) (k * k)) (down_mem fun i => left_le ms k sun t i)]
theorem rank_eq {n : Nat} (hn : 100 ≤ n) {ms : List Mir} (hl : ms.length ≤ 12) (ho : ∀ m, m ∈ ms → m.Ok) {k : Nat} (hk : 1 ≤ k ∧ k ≤ 8) {sun t : Vec} (hs : Bd 1024 sun) (ht : Bd 4096 t) :
    ((loopF (F_field_Ranked_L1 n (ms.map encM) sun.1 sun.2.1 sun.2.2 t.1 t.2.1 t.2.2 (k : Int)) n (0, [])).bind fun t7 =>
    (F_field_indices n t7).bind fun t8 => some (t8, (0 : Int))) = some ((srt (rankK ms k sun t) (List.range ms.length)).map encI, 0) := by
  rw [rank_loop hn (by omega) ho hk hs ht, Option.bind_some, indices_eq hn (by simpa using hl) List.nodup_range, Option.bind_some]
theorem first_first (a b c d : Int) : firstNZ [a, firstNZ [b, c, d]] = firstNZ [a, b, c, d] := by
  simp only [firstNZ]
  repeat' split
  all_goals omega
theorem law_lit (ms : List Mir) (mi : Int) (sun t : Vec) (k : Int) (hl : ms.length ≤ 9223372036854775807) :
    F_law04_FieldLit (1000 + ms.length) (ms.map encM) mi sun.1 sun.2.1 sun.2.2 t.1 t.2.1 t.2.2 k = some true := by
  have hn : 100 ≤ 1000 + ms.length := by omega
  unfold F_law04_FieldLit
  rw [show F_law04_awake (1000 + ms.length) = some true from rfl, Option.bind_some, if_pos rfl, short_eq ms (by omega) hl, Option.bind_some]
  by_cases h2 : (ms.all shortB && (decide (ms.length ≤ 6) || decide (ms.length = 65))) = true
  · rw [if_pos h2]
    simp only [Bool.and_eq_true, Bool.or_eq_true, decide_eq_true_eq, List.all_eq_true] at h2
    obtain ⟨h3, h4⟩ := h2
    have hzs : ∀ x, x ∈ ms → x.name.size < 1000 + ms.length := fun x hx => by
      have : (x.name.size : Int) ≤ 40 := of_decide_eq_true (h3 x hx)
      omega
    have c1 : F_field_Lit (1000 + ms.length) (ms.map encM) mi sun.1 sun.2.1 sun.2.2 t.1 t.2.1 t.2.2 k = if firstNZ [idxE ms mi, dirE sun 1024, pE t 4096, inR k 1 8] = 0 then (F_field_lit (1000 + ms.length) (ms.map encM) mi sun.1 sun.2.1 sun.2.2 t.1 t.2.1 t.2.2 k).bind fun t7 => some (t7.1, t7.2.1, t7.2.2, (0 : Int)) else some (0, 0, 0, firstNZ [idxE ms mi, dirE sun 1024, pE t 4096, inR k 1 8]) := by
      unfold F_field_Lit
      rw [idx_eq hn ms hzs, Option.bind_some, dir_eq (by omega) sun (by decide), Option.bind_some, parts_eq (by omega) t (by decide), Option.bind_some, checkK_eq, Option.bind_some, first4 (by omega), Option.bind_some]
    have c2 : F_field_Ranked (1000 + ms.length) (ms.map encM) sun.1 sun.2.1 sun.2.2 t.1 t.2.1 t.2.2 k = if firstNZ [chkM ms, dirE sun 1024, pE t 4096, inR k 1 8] = 0 then ((loopF (F_field_Ranked_L1 (1000 + ms.length) (ms.map encM) sun.1 sun.2.1 sun.2.2 t.1 t.2.1 t.2.2 k) (1000 + ms.length) (0, [])).bind fun t7 =>
        (F_field_indices (1000 + ms.length) t7).bind fun t8 => some (t8, (0 : Int))) else some ([], firstNZ [chkM ms, dirE sun 1024, pE t 4096, inR k 1 8]) := by
      unfold F_field_Ranked
      rw [checkMs_eq hn ms hzs, Option.bind_some, dir_eq (by omega) sun (by decide), Option.bind_some, parts_eq (by omega) t (by decide), Option.bind_some, checkK_eq, Option.bind_some, first4 (by omega), Option.bind_some]
    have c3 : F_ref04_CheckDirection (1000 + ms.length) sun.1 sun.2.1 sun.2.2 = some (dirE sun 1024) := by
      unfold F_ref04_CheckDirection
      rw [refParts_eq (by omega) sun (by decide), Option.bind_some, refWhen_eq, Option.bind_some, refFirst2 (by omega)]; rfl
    have c4 : F_ref04_CheckTarget (1000 + ms.length) t.1 t.2.1 t.2.2 = some (pE t 4096) := by
      unfold F_ref04_CheckTarget
      rw [refParts_eq (by omega) t (by decide)]; rfl
    rw [own_eq ms (by omega) (by omega), Option.bind_some, c1, c2, refIdx_eq hn, c3, refCheckK_eq, c4, refMs_eq hn ms]
    simp only [Option.bind_some, refFirst3 (show 10 ≤ 1000 + ms.length by omega), refFirst2 (show 10 ≤ 1000 + ms.length by omega), first_first]
    have d1 : firstNZ [idxE ms mi, dirE sun 1024, pE t 4096, inR k 1 8] = 0 → ∃ r, F_field_lit (1000 + ms.length) (ms.map encM) mi sun.1 sun.2.1 sun.2.2 t.1 t.2.1 t.2.2 k = some r ∧ F_ref04_Lit (1000 + ms.length) (ms.map encM) mi sun.1 sun.2.1 sun.2.2 t.1 t.2.1 t.2.2 k = some r := fun h => by
      obtain ⟨q, k', m, rfl, rfl, ha⟩ := asked_of (firstNZ_zero h (idxE ms mi) (by simp)) (firstNZ_zero h (inR k 1 8) (by simp))
      have hs := dirE_zero (firstNZ_zero h (dirE sun 1024) (by simp))
      have ht := pE_zero (firstNZ_zero h (pE t 4096) (by simp))
      exact ⟨_, lit_eq ha hn hs ht, refLit_eq ha hn hs ht⟩
    have d2 : firstNZ [chkM ms, dirE sun 1024, pE t 4096, inR k 1 8] = 0 → ∃ l : List Nat, ((loopF (F_field_Ranked_L1 (1000 + ms.length) (ms.map encM) sun.1 sun.2.1 sun.2.2 t.1 t.2.1 t.2.2 k) (1000 + ms.length) (0, [])).bind fun t7 =>
        (F_field_indices (1000 + ms.length) t7).bind fun t8 => some (t8, (0 : Int))) = some (l.map encI, 0) ∧ F_ref04_Ranked (1000 + ms.length) (ms.map encM) sun.1 sun.2.1 sun.2.2 t.1 t.2.1 t.2.2 k = some (l.map encI) ∧ F_law04_numbers (1000 + ms.length) (l.map encI) 0 0 (l.map encI) = some true := fun h => by
      obtain ⟨g3, g4⟩ := chkM_ok (firstNZ_zero h (chkM ms) (by simp))
      have hs := dirE_zero (firstNZ_zero h (dirE sun 1024) (by simp))
      have ht := pE_zero (firstNZ_zero h (pE t 4096) (by simp))
      have hk := inR_zero (firstNZ_zero h (inR k 1 8) (by simp))
      obtain ⟨k', rfl⟩ : ∃ k' : Nat, k = (k' : Int) := ⟨k.toNat, by omega⟩
      have hk' : 1 ≤ k' ∧ k' ≤ 8 := by omega
      refine ⟨_, rank_eq hn (by omega) g4 hk' hs ht, refRank_eq hn g3 g4 hk' hs ht, numbers_ok _ ?_ hn⟩
      rw [(srt_ok (key := rankK ms k' sun t) List.nodup_range).2.2, List.length_range]
      exact g3
    generalize firstNZ [idxE ms mi, dirE sun 1024, pE t 4096, inR k 1 8] = P at *
    generalize firstNZ [chkM ms, dirE sun 1024, pE t 4096, inR k 1 8] = Q at *
    by_cases hP : P = 0
    · obtain ⟨r, x1, x2⟩ := d1 hP
      subst hP
      by_cases hQ : Q = 0
      · obtain ⟨l2, y1, y2, y3⟩ := d2 hQ
        subst hQ
        simp [x1, x2, y1, y2, y3]
      · simp [x1, x2, hQ, numbers_bad _ hQ]
    · by_cases hQ : Q = 0
      · obtain ⟨l2, y1, y2, y3⟩ := d2 hQ
        subst hQ
        simp [hP, y1, y2, y3]
      · simp [hP, hQ, numbers_bad _ hQ]
  · rw [if_neg h2]
theorem law_FieldLit (l : List Mir10) (a1 a2 a3 a4 a5 a6 a7 a8 : Int) (hl : l.length ≤ 9223372036854775807) :
    F_law04_FieldLit (1000 + l.length) (l.map fun x => encM (Mir.of x)) a1 a2 a3 a4 a5 a6 a7 a8 = some true := by
  have := law_lit (l.map Mir.of) a1 (a2, a3, a4) (a5, a6, a7) a8 (by simpa using hl)
  rw [List.length_map, List.map_map] at this
  exact this
end Go.Proofs.YtojmcpnpojdnmaaGreatDoor
