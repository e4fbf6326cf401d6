/-
  FieldShadows, the plain part: who meets a ray whatever the order of the others is; what is left; and that a mirror that is met has the ray's foot in its shadow. An own text.
-/
import Derived.Test.YtojmcpnpojdnmaaGreatDoorCom3
set_option linter.unusedVariables false
set_option maxRecDepth 20000
namespace Go.Proofs.YtojmcpnpojdnmaaGreatDoor
open Go.SX

/-! Who meets. -/
theorem met_from (q : Nat) (k : Int) (f al : Vec) (e : Bool) : ∀ (l : List Mir) (s : Nat), runL (gM (q : Int) k f al e) (fun _ => .inr ()) l s = .inl () ↔ ∃ i m, l[i]? = some m ∧ s + i ≠ q ∧ meetV m k f al e = true
  | [], s => by
    constructor
    · intro h; cases h
    · rintro ⟨i, m, h, _⟩; simp at h
  | x :: l, s => by
    unfold runL
    rw [show gM (q : Int) k f al e s x = (if (s : Int) = (q : Int) then .inl (s + 1) else if meetV x k f al e = true then .inr (.inl ()) else .inl (s + 1)) from rfl]
    by_cases hs : (s : Int) = (q : Int)
    · rw [if_pos hs]
      dsimp only
      rw [met_from q k f al e l (s + 1)]
      constructor
      · rintro ⟨i, m, h1, h2, h3⟩
        exact ⟨i + 1, m, by simpa using h1, by omega, h3⟩
      · rintro ⟨i, m, h1, h2, h3⟩
        cases i with
        | zero => omega
        | succ i => exact ⟨i, m, by simpa using h1, by omega, h3⟩
    · rw [if_neg hs]
      by_cases hm : meetV x k f al e = true
      · rw [if_pos hm]
        exact ⟨fun _ => ⟨0, x, rfl, by omega, hm⟩, fun _ => rfl⟩
      · rw [if_neg hm]
        dsimp only
        rw [met_from q k f al e l (s + 1)]
        constructor
        · rintro ⟨i, m, h1, h2, h3⟩; exact ⟨i + 1, m, by simpa using h1, by omega, h3⟩
        · rintro ⟨i, m, h1, h2, h3⟩
          cases i with
          | zero =>
            simp at h1
            subst h1
            exact absurd h3 hm
          | succ i => exact ⟨i, m, by simpa using h1, by omega, h3⟩
theorem metB_iff {ms : List Mir} {q : Nat} {k : Int} {f al : Vec} {e : Bool} : metB ms (q : Int) k f al e = true ↔ ∃ i m, ms[i]? = some m ∧ i ≠ q ∧ meetV m k f al e = true := by
  have h := met_from q k f al e ms 0
  simp only [Nat.zero_add] at h
  rw [← h]
  unfold metB metR
  cases runL (gM (q : Int) k f al e) (fun _ => .inr ()) ms 0 with
  | inl u => cases u; simp
  | inr u => simp
def nilM : Mir := ⟨ByteArray.empty, (0, 0, 0), (0, 0, 0), (0, 0, 0)⟩
def atM (ms : List Mir) (i : Nat) : Mir := (ms[i]?).getD nilM
theorem atM_eq {ms : List Mir} {i : Nat} {m : Mir} (h : ms[i]? = some m) : atM ms i = m := by unfold atM; rw [h]; rfl
theorem atM_get {ms : List Mir} {i : Nat} (h : i < ms.length) : ms[i]? = some (atM ms i) := by
  unfold atM; rw [List.getElem?_eq_getElem h]; rfl
theorem metB_pick {ms : List Mir} {J : List Nat} {q : Nat} {k : Int} {f al : Vec} {e : Bool} : metB ((J ++ [q]).map (atM ms)) (J.length : Int) k f al e = true ↔ ∃ i, i ∈ J ∧ meetV (atM ms i) k f al e = true := by
  rw [metB_iff]
  constructor
  · rintro ⟨i, m, h1, h2, h3⟩
    rw [List.getElem?_map] at h1
    have hi : i < J.length := by
      by_cases hlt : i < J.length
      · exact hlt
      · have h0 : (J ++ [q])[i]? = none := by rw [List.getElem?_eq_none_iff]; simp; omega
        rw [h0] at h1; cases h1
    rw [List.getElem?_append_left hi] at h1
    obtain ⟨x, hx, rfl⟩ := Option.map_eq_some_iff.1 h1
    exact ⟨x, List.mem_of_getElem? hx, h3⟩
  · rintro ⟨x, hx, h3⟩
    obtain ⟨i, hi⟩ := List.getElem?_of_mem hx
    have hlt := (List.getElem?_eq_some_iff.1 hi).1
    refine ⟨i, atM ms x, ?_, by omega, h3⟩
    rw [List.getElem?_map, List.getElem?_append_left hlt, hi]; rfl
theorem metB_all {ms : List Mir} {J : List Nat} {q : Nat} (hJ : ∀ i, i ∈ J ↔ i < ms.length ∧ i ≠ q) {k : Int} {f al : Vec} {e : Bool} : metB ms (q : Int) k f al e = true ↔ ∃ i, i ∈ J ∧ meetV (atM ms i) k f al e = true := by
  rw [metB_iff]
  constructor
  · rintro ⟨i, m, h1, h2, h3⟩
    have hlt := (List.getElem?_eq_some_iff.1 h1).1
    exact ⟨i, (hJ i).2 ⟨hlt, h2⟩, by rw [atM_eq h1]; exact h3⟩
  · rintro ⟨i, hi, h3⟩
    obtain ⟨h1, h2⟩ := (hJ i).1 hi
    exact ⟨i, atM ms i, atM_get h1, h2, h3⟩
theorem met_same {ms : List Mir} {J : List Nat} {q : Nat} (hJ : ∀ i, i ∈ J ↔ i < ms.length ∧ i ≠ q) (k : Int) (f al : Vec) (e : Bool) : metB ((J ++ [q]).map (atM ms)) (J.length : Int) k f al e = metB ms (q : Int) k f al e := by
  rw [Bool.eq_iff_iff, metB_pick, metB_all hJ]
theorem met_less {ms : List Mir} {J J' : List Nat} {q : Nat} (hJ : ∀ i, i ∈ J ↔ i < ms.length ∧ i ≠ q) (hs : ∀ i, i ∈ J' → i ∈ J) {k : Int} {f al : Vec} {e : Bool} (h : metB ((J' ++ [q]).map (atM ms)) (J'.length : Int) k f al e = true) : metB ms (q : Int) k f al e = true := by
  rw [metB_pick] at h
  rw [metB_all hJ]
  obtain ⟨i, hi, h3⟩ := h
  exact ⟨i, hs i hi, h3⟩

/-! What is counted. -/
theorem lit_same {ms : List Mir} {J : List Nat} {q : Nat} (hJ : ∀ i, i ∈ J ↔ i < ms.length ∧ i ≠ q) (k : Nat) (sun t : Vec) (m : Mir) : litM ((J ++ [q]).map (atM ms)) k sun t m J.length = litM ms k sun t m q := by
  unfold litM
  have h1 : darkB ((J ++ [q]).map (atM ms)) (J.length : Int) (k : Int) m sun = darkB ms (q : Int) (k : Int) m sun := by
    funext p
    unfold darkB
    rw [met_same hJ]
  have h2 : blockB ((J ++ [q]).map (atM ms)) (J.length : Int) (k : Int) m t = blockB ms (q : Int) (k : Int) m t := by
    funext p
    unfold blockB
    rw [met_same hJ]
  rw [h1, h2]
theorem litG_mono {d b d' b' : Nat × Nat → Bool} (hd : ∀ p, d' p = true → d p = true) (hb : ∀ p, b' p = true → b p = true) : ∀ (l : List (Nat × Nat)) (s s' : Int × Int × Int), s.2.2 ≤ s'.2.2 → (l.foldl (litG d b) s).2.2 ≤ (l.foldl (litG d' b') s').2.2
  | [], s, s', h => h
  | p :: l, s, s', h => by
    rw [List.foldl_cons, List.foldl_cons]
    refine litG_mono hd hb l _ _ ?_
    unfold litG
    by_cases h1 : d p = true
    · rw [if_pos h1]
      dsimp only
      split
      · exact h
      · split
        · exact h
        · dsimp only; omega
    · have h1' : ¬ d' p = true := fun e => h1 (hd p e)
      rw [if_neg h1, if_neg h1']
      by_cases h2 : b p = true
      · rw [if_pos h2]
        dsimp only
        split
        · exact h
        · dsimp only; omega
      · have h2' : ¬ b' p = true := fun e => h2 (hb p e)
        rw [if_neg h2, if_neg h2']
        dsimp only; omega
theorem lit_more {ms : List Mir} {J J' : List Nat} {q : Nat} (hJ : ∀ i, i ∈ J ↔ i < ms.length ∧ i ≠ q) (hs : ∀ i, i ∈ J' → i ∈ J) (k : Nat) (sun t : Vec) (m : Mir) : (litM ms k sun t m q).2.2 ≤ (litM ((J' ++ [q]).map (atM ms)) k sun t m J'.length).2.2 := by
  unfold litM litR
  refine litG_mono (fun p hp => ?_) (fun p hp => ?_) _ _ _ (Int.le_refl _)
  · unfold darkB at hp ⊢
    by_cases h : vdot m.nrm sun > 0
    · rw [if_pos h] at hp ⊢
      exact met_less hJ hs hp
    · rw [if_neg h]
  · unfold blockB at hp ⊢
    by_cases h : vdot m.nrm (alo m k t p) ≤ 0
    · rw [if_pos h]
    · rw [if_neg h] at hp ⊢
      exact met_less hJ hs hp
theorem litG_sum (d b : Nat × Nat → Bool) : ∀ (l : List (Nat × Nat)) (s : Int × Int × Int), (l.foldl (litG d b) s).1 + (l.foldl (litG d b) s).2.1 + (l.foldl (litG d b) s).2.2 = s.1 + s.2.1 + s.2.2 + (l.length : Int)
  | [], s => by simp
  | p :: l, s => by
    rw [List.foldl_cons, litG_sum d b l, List.length_cons]
    unfold litG
    split
    · dsimp only; omega
    · split
      · dsimp only; omega
      · dsimp only; omega
theorem lit_sum (ms : List Mir) (k : Nat) (sun t : Vec) (m : Mir) (q : Nat) : (litM ms k sun t m q).1 + (litM ms k sun t m q).2.1 + (litM ms k sun t m q).2.2 = ((k * k : Nat) : Int) := by
  unfold litM litR
  rw [litG_sum, allS_len]; simp

/-! The check of mirrors in another order. -/
theorem mE_iff {s : List ByteArray} {x : Mir} : mE s x = 0 ↔ mirE x = 0 ∧ x.name ∉ s := by
  constructor
  · intro h
    exact ⟨firstNZ_zero h (mirE x) (by simp), mE_new h⟩
  · rintro ⟨h1, h2⟩
    unfold mE whenI
    simp [firstNZ, h1, h2]
theorem runC_iff : ∀ (l : List Mir) (s : List ByteArray), (match runL gC (fun _ => .inr ()) l s with
    | .inl e => e
    | .inr _ => (0 : Int)) = 0 ↔ (∀ m, m ∈ l → mirE m = 0) ∧ (∀ m, m ∈ l → m.name ∉ s) ∧ (l.map Mir.name).Nodup
  | [], s => by simp [runL]
  | x :: l, s => by
    unfold runL
    rw [show gC s x = (if mE s x = 0 then .inl (s ++ [x.name]) else .inr (.inl (mE s x))) from rfl]
    by_cases h0 : mE s x = 0
    · rw [if_pos h0]
      dsimp only
      rw [runC_iff l (s ++ [x.name])]
      have hx := mE_iff.1 h0
      constructor
      · rintro ⟨a, b, c⟩
        refine ⟨fun m hm => ?_, fun m hm => ?_, ?_⟩
        · rcases List.mem_cons.1 hm with rfl | hm
          · exact hx.1
          · exact a m hm
        · rcases List.mem_cons.1 hm with rfl | hm
          · exact hx.2
          · exact fun h => b m hm (List.mem_append_left _ h)
        · rw [List.map_cons, List.nodup_cons]
          refine ⟨fun h => ?_, c⟩
          obtain ⟨m, hm, he⟩ := List.mem_map.1 h
          exact b m hm (by rw [he]; simp)
      · rintro ⟨a, b, c⟩
        rw [List.map_cons, List.nodup_cons] at c
        refine ⟨fun m hm => a m (List.mem_cons_of_mem _ hm), fun m hm h => ?_, c.2⟩
        rcases List.mem_append.1 h with h | h
        · exact b m (List.mem_cons_of_mem _ hm) h
        · simp at h
          exact c.1 (h ▸ List.mem_map_of_mem hm)
    · rw [if_neg h0]
      dsimp only
      constructor
      · intro h; exact absurd h h0
      · rintro ⟨a, b, c⟩
        exact absurd (mE_iff.2 ⟨a x List.mem_cons_self, b x List.mem_cons_self⟩) h0
theorem chkM_iff (ms : List Mir) : chkM ms = 0 ↔ ms.length ≤ 64 ∧ (∀ m, m ∈ ms → mirE m = 0) ∧ (ms.map Mir.name).Nodup := by
  unfold chkM
  by_cases hl : (ms.length : Int) > 64
  · rw [if_pos hl]
    constructor
    · intro h; omega
    · intro h; omega
  · rw [if_neg hl]
    unfold chkR
    refine (runC_iff ms []).trans ?_
    constructor
    · rintro ⟨a, _, c⟩; exact ⟨by omega, a, c⟩
    · rintro ⟨_, a, c⟩; exact ⟨a, fun m _ => by simp, c⟩
theorem chk_pick {ms : List Mir} (h : chkM ms = 0) {J : List Nat} (hn : J.Nodup) (hb : ∀ i, i ∈ J → i < ms.length) (hl : J.length ≤ 64) : chkM (J.map (atM ms)) = 0 := by
  rw [chkM_iff] at h ⊢
  obtain ⟨_, h2, h3⟩ := h
  refine ⟨by simpa using hl, fun m hm => ?_, ?_⟩
  · obtain ⟨i, hi, rfl⟩ := List.mem_map.1 hm
    exact h2 _ (List.mem_of_getElem? (atM_get (hb i hi)))
  · rw [List.map_map]
    unfold List.Nodup at hn h3 ⊢
    rw [List.pairwise_map]
    rw [List.pairwise_map, List.pairwise_iff_getElem] at h3
    refine hn.imp_of_mem ?_
    intro a b ha hb' hab
    have la := hb a ha
    have lb := hb b hb'
    have ea : atM ms a = ms[a] := atM_eq (List.getElem?_eq_getElem la)
    have eb : atM ms b = ms[b] := atM_eq (List.getElem?_eq_getElem lb)
    show (atM ms a).name ≠ (atM ms b).name
    rw [ea, eb]
    rcases Nat.lt_or_gt_of_ne hab with hlt | hlt
    · exact h3 a b la lb hlt
    · exact (h3 b a lb la hlt).symm

/-! The shadow of a mirror that is met. -/
def sideK (k : Int) (a b g : Pt) : Int := (b.1 - a.1) * (g.2 - k * a.2) - (b.2 - a.2) * (g.1 - k * a.1)
def tt (m : Mir) (k : Int) (f s : Vec) : Vec := vcross s (vplus f (vtimes (-k) m.c))
theorem cross_prj (s p q : Vec) : (prj s p).1 * (prj s q).2 - (prj s p).2 * (prj s q).1 = s.2.2 * vdot s (vcross p q) := by
  obtain ⟨s1, s2, s3⟩ := s
  obtain ⟨p1, p2, p3⟩ := p
  obtain ⟨q1, q2, q3⟩ := q
  unfold prj vdot vcross
  dsimp only
  grind
theorem left_4 (m : Mir) (s : Vec) : leftP (prj s (corA m (-1) (-1))) (prj s (corA m 1 (-1))) (prj s (corA m 1 1)) = 4 * (s.2.2 * vdot m.nrm s) := by
  obtain ⟨nm, ⟨c1, c2, c3⟩, ⟨u1, u2, u3⟩, ⟨v1, v2, v3⟩⟩ := m
  obtain ⟨s1, s2, s3⟩ := s
  unfold leftP prj corA vplus vtimes vdot Mir.nrm vcross
  dsimp only
  grind
theorem side_u (m : Mir) (k a b e : Int) (f s : Vec) : sideK k (prj s (corA m a b)) (prj s (corA m (a + 2 * e) b)) (prj s f) = e * (2 * (s.2.2 * (-(vdot (tt m k f s) m.u) - b * (k * vdot m.nrm s)))) := by
  obtain ⟨nm, ⟨c1, c2, c3⟩, ⟨u1, u2, u3⟩, ⟨v1, v2, v3⟩⟩ := m
  obtain ⟨s1, s2, s3⟩ := s
  obtain ⟨f1, f2, f3⟩ := f
  simp only [sideK, prj, corA, vplus, vtimes, vdot, Mir.nrm, tt, vcross]
  grind
theorem side_v (m : Mir) (k a b e : Int) (f s : Vec) : sideK k (prj s (corA m a b)) (prj s (corA m a (b + 2 * e))) (prj s f) = e * (2 * (s.2.2 * (-(vdot (tt m k f s) m.v) + a * (k * vdot m.nrm s)))) := by
  obtain ⟨nm, ⟨c1, c2, c3⟩, ⟨u1, u2, u3⟩, ⟨v1, v2, v3⟩⟩ := m
  obtain ⟨s1, s2, s3⟩ := s
  obtain ⟨f1, f2, f3⟩ := f
  simp only [sideK, prj, corA, vplus, vtimes, vdot, Mir.nrm, tt, vcross]
  grind
structure Met (m : Mir) (k : Int) (f s : Vec) : Prop where
  d : vdot m.nrm s ≠ 0
  u : vdot (tt m k f s) m.u ≤ k * (if vdot m.nrm s < 0 then -(vdot m.nrm s) else vdot m.nrm s) ∧ -(vdot (tt m k f s) m.u) ≤ k * (if vdot m.nrm s < 0 then -(vdot m.nrm s) else vdot m.nrm s)
  v : vdot (tt m k f s) m.v ≤ k * (if vdot m.nrm s < 0 then -(vdot m.nrm s) else vdot m.nrm s) ∧ -(vdot (tt m k f s) m.v) ≤ k * (if vdot m.nrm s < 0 then -(vdot m.nrm s) else vdot m.nrm s)
theorem absI_le {x y : Int} (h : absI x ≤ y) : x ≤ y ∧ -x ≤ y := by
  unfold absI maxI at h
  split at h <;> omega
theorem Met.of {m : Mir} {k : Int} {f s : Vec} (h : meetV m k f s false = true) : Met m k f s := by
  unfold meetV at h
  simp only [Bool.and_eq_true, Bool.not_eq_true', decide_eq_true_eq, decide_eq_false_iff_not] at h
  obtain ⟨⟨⟨⟨h1, _⟩, _⟩, h4⟩, h5⟩ := h
  exact ⟨h1, absI_le h5, absI_le h4⟩
def insideP (k : Int) (g a b c e : Pt) : Bool := decide (sideK k a b g ≥ 0) && decide (sideK k b c g ≥ 0) && decide (sideK k c e g ≥ 0) && decide (sideK k e a g ≥ 0)
theorem inside_of {m : Mir} {k : Int} {f s : Vec} (hz : 1 ≤ s.2.2) (h : Met m k f s) :
    (leftP (prj s (corA m (-1) (-1))) (prj s (corA m 1 (-1))) (prj s (corA m 1 1)) ≠ 0) ∧
    (leftP (prj s (corA m (-1) (-1))) (prj s (corA m 1 (-1))) (prj s (corA m 1 1)) < 0 → insideP k (prj s f) (prj s (corA m (-1) (-1))) (prj s (corA m (-1) 1)) (prj s (corA m 1 1)) (prj s (corA m 1 (-1))) = true) ∧
    (¬ leftP (prj s (corA m (-1) (-1))) (prj s (corA m 1 (-1))) (prj s (corA m 1 1)) < 0 → insideP k (prj s f) (prj s (corA m (-1) (-1))) (prj s (corA m 1 (-1))) (prj s (corA m 1 1)) (prj s (corA m (-1) 1)) = true) := by
  obtain ⟨hd, hu, hv⟩ := h
  have hl := left_4 m s
  have pos : ∀ {x : Int}, 0 ≤ x → 0 ≤ s.2.2 * x := fun hx => Int.mul_nonneg (by omega) hx
  have e1 := side_u m k (-1) (-1) 1 f s
  have e2 := side_v m k 1 (-1) 1 f s
  have e3 := side_u m k 1 1 (-1) f s
  have e4 := side_v m k (-1) 1 (-1) f s
  have r1 := side_v m k (-1) (-1) 1 f s
  have r2 := side_u m k (-1) 1 1 f s
  have r3 := side_v m k 1 1 (-1) f s
  have r4 := side_u m k 1 (-1) (-1) f s
  simp only [show (-1 : Int) + 2 * 1 = 1 from rfl, show (1 : Int) + 2 * (-1) = -1 from rfl, Int.one_mul] at e1 e2 e3 e4 r1 r2 r3 r4
  have neg : k * -(vdot m.nrm s) = -(k * vdot m.nrm s) := Int.mul_neg _ _
  generalize vdot (tt m k f s) m.u = tu at *
  generalize vdot (tt m k f s) m.v = tv at *
  rw [hl]
  by_cases hneg : vdot m.nrm s < 0
  · rw [if_pos hneg, neg] at hu hv
    have hp : s.2.2 * vdot m.nrm s < 0 := Int.mul_neg_of_pos_of_neg (by omega) hneg
    refine ⟨by omega, fun _ => ?_, fun h => by omega⟩
    generalize k * vdot m.nrm s = kd at *
    have q1 := pos (x := -tv + -1 * kd) (by omega)
    have q2 := pos (x := -tu - kd) (by omega)
    have q3 := pos (x := tv - kd) (by omega)
    have q4 := pos (x := tu - kd) (by omega)
    unfold insideP
    simp only [Bool.and_eq_true, decide_eq_true_eq]
    refine ⟨⟨⟨?_, ?_⟩, ?_⟩, ?_⟩
    · rw [r1]; omega
    · rw [r2]; omega
    · rw [r3]
      have : s.2.2 * (-tv + kd) = -(s.2.2 * (tv - kd)) := by rw [← Int.mul_neg]; congr 1; omega
      omega
    · rw [r4]
      have : s.2.2 * (-tu - -1 * kd) = -(s.2.2 * (tu - kd)) := by rw [← Int.mul_neg]; congr 1; omega
      omega
  · rw [if_neg hneg] at hu hv
    have hp : 0 < s.2.2 * vdot m.nrm s := Int.mul_pos (by omega) (by omega)
    refine ⟨by omega, fun h => by omega, fun _ => ?_⟩
    generalize k * vdot m.nrm s = kd at *
    have q1 := pos (x := -tu - -1 * kd) (by omega)
    have q2 := pos (x := -tv + kd) (by omega)
    have q3 := pos (x := tu + kd) (by omega)
    have q4 := pos (x := tv + kd) (by omega)
    unfold insideP
    simp only [Bool.and_eq_true, decide_eq_true_eq]
    refine ⟨⟨⟨?_, ?_⟩, ?_⟩, ?_⟩
    · rw [e1]; omega
    · rw [e2]; omega
    · rw [e3]
      have : s.2.2 * (-tu - kd) = -(s.2.2 * (tu + kd)) := by rw [← Int.mul_neg]; congr 1; omega
      omega
    · rw [e4]
      have : s.2.2 * (-tv + -1 * kd) = -(s.2.2 * (tv + kd)) := by rw [← Int.mul_neg]; congr 1; omega
      omega
end Go.Proofs.YtojmcpnpojdnmaaGreatDoor
