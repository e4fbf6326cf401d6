/-
  Plain law of FieldShadows: the loops of the statement answer as their closed forms say. An own text.
-/
import Derived.Test.YtojmcpnpojdnmaaGreatDoorShadGeo
set_option linter.unusedVariables false
set_option maxRecDepth 20000
namespace Go.Proofs.YtojmcpnpojdnmaaGreatDoor
open Go.SX

/-! The program's own answers, for what is asked rightly. -/
theorem cosine_ok {n : Nat} (hn : 500 ≤ n) {m : Mir} (hz : m.name.size < n) {d : Vec} (h1 : mirE m = 0) (h2 : dirE d 1024 = 0) :
    ∃ a b, F_field_Cosine n m.name m.c.1 m.c.2.1 m.c.2.2 m.u.1 m.u.2.1 m.u.2.2 m.v.1 m.v.2.1 m.v.2.2 d.1 d.2.1 d.2.2 = some (cmpI (vdot m.nrm d) 0, a, b, 0) := by
  have b := CB.of h1 h2
  have hm := (mirE_zero h1).nrm
  have hd := dirE_zero h2
  have hl := lowest_eq hn (a := (vdot m.nrm d * vdot m.nrm d).toNat) (b := (vdot m.nrm m.nrm * vdot d d).toNat) (by have := b.q; omega) (by have := b.pp; rw [pow62]; omega) (by have := b.q; rw [pow62]; omega)
  rw [Int.toNat_of_nonneg b.pp.1, Int.toNat_of_nonneg (by have := b.q; omega)] at hl
  refine ⟨((low (vdot m.nrm d * vdot m.nrm d).toNat (vdot m.nrm m.nrm * vdot d d).toNat).1 : Int), ((low (vdot m.nrm d * vdot m.nrm d).toNat (vdot m.nrm m.nrm * vdot d d).toNat).2 : Int), ?_⟩
  unfold F_field_Cosine
  rw [check_eq (by omega) hz, Option.bind_some, dir_eq (by omega) d (by decide), Option.bind_some, first2 (by omega), Option.bind_some, if_pos (by rw [h1, h2]; rfl),
    normal_eq n (mirE_zero h1), Option.bind_some, dot_eq n (hm.dot hd (show (8192 : Int) * 1024 = 8388608 by decide) (by decide) (by decide)) (by decide), Option.bind_some, compare_eq, Option.bind_some,
    if_pos (by have := b.pp; unfold inI64; omega), dot_eq n (hm.dot hm (show (8192 : Int) * 8192 = 67108864 by decide) (by decide) (by decide)) (by decide), Option.bind_some,
    dot_eq n (hd.dot hd (show (1024 : Int) * 1024 = 1048576 by decide) (by decide) (by decide)) (by decide), Option.bind_some, if_pos (by have := b.q; unfold inI64; omega), hl]
  rfl
theorem idx_zero {ms : List Mir} {q : Nat} (hc : chkM ms = 0) (hq : q < ms.length) : idxE ms (q : Int) = 0 := by
  unfold idxE whenI
  rw [hc, if_neg (by omega), decide_eq_false (by omega)]; rfl
theorem litP_eq {n : Nat} (hn : 100 ≤ n) {ms : List Mir} {q k : Nat} {m : Mir} (h : Asked ms q k m) (hz : ∀ x, x ∈ ms → x.name.size < n) (hc : chkM ms = 0) {sun t : Vec} (hs : dirE sun 1024 = 0) (ht : pE t 4096 = 0) :
    F_field_Lit n (ms.map encM) (q : Int) sun.1 sun.2.1 sun.2.2 t.1 t.2.1 t.2.2 (k : Int) = some ((litM ms k sun t m q).1, (litM ms k sun t m q).2.1, (litM ms k sun t m q).2.2, 0) := by
  have hk : inR (k : Int) 1 8 = 0 := by have := h.k; unfold inR; rw [if_neg (by omega), if_neg (by omega)]
  unfold F_field_Lit
  rw [idx_eq hn ms hz, Option.bind_some, dir_eq (by omega) sun (by decide), Option.bind_some, parts_eq (by omega) t (by decide), Option.bind_some, checkK_eq, Option.bind_some, first4 (by omega), Option.bind_some,
    if_pos (by rw [idx_zero hc (List.getElem?_eq_some_iff.1 h.at_).1, hs, ht, hk]; rfl), lit_eq h hn (dirE_zero hs) (pE_zero ht)]
  rfl
theorem darkP_eq {n : Nat} (hn : 100 ≤ n) {ms : List Mir} {q k : Nat} {m : Mir} (h : Asked ms q k m) (hz : ∀ x, x ∈ ms → x.name.size < n) (hc : chkM ms = 0) {sun : Vec} (hs : dirE sun 1024 = 0) :
    F_field_Dark n (ms.map encM) (q : Int) sun.1 sun.2.1 sun.2.2 (k : Int) = some ((allS k).map fun p => encB (darkB ms q k m sun p), 0) := by
  have hk : inR (k : Int) 1 8 = 0 := by have := h.k; unfold inR; rw [if_neg (by omega), if_neg (by omega)]
  unfold F_field_Dark
  rw [idx_eq hn ms hz, Option.bind_some, dir_eq (by omega) sun (by decide), Option.bind_some, checkK_eq, Option.bind_some, first3 (by omega), Option.bind_some,
    if_pos (by rw [idx_zero hc (List.getElem?_eq_some_iff.1 h.at_).1, hs, hk]; rfl), dark_eq h hn (dirE_zero hs)]
  rfl

/-! A shadow's corners, one after the other. -/
theorem checkP_ok {n : Nat} (hn : 10 ≤ n) {p : Pt} (h : PBd p) : F_ref04_CheckPoint n p.1 p.2 = some 0 := by
  obtain ⟨h1, h2⟩ := h
  unfold F_ref04_CheckPoint
  rw [range_eq, Option.bind_some, range_eq, Option.bind_some, refFirst2 hn, Option.bind_some]
  unfold inR
  rw [if_neg (by omega), if_neg (by omega), if_neg (by omega), if_neg (by omega)]; rfl
def GBd (g : Pt) : Prop := (-268435456 ≤ g.1 ∧ g.1 ≤ 268435456) ∧ (-268435456 ≤ g.2 ∧ g.2 ≤ 268435456)
theorem corner_step {n : Nat} (hn : 10 ≤ n) {A : List D} {a1 a5 a6 a7 : Int} {s : Vec} {k : Int} (hk : 1 ≤ k ∧ k ≤ 8) {t17 : Mir10} {t18 t20 : List D × Int} {t21 t22 : Int × Int × Int × Int} {sa : Int} {f : Vec} {sb : Bool × Int} {sh : List D} {e : Int} {i j : Int} {p q : Pt}
    (hi : 0 ≤ i) (hlt : i < (sh.length : Int)) (hij : i + 1 = j) (hjb : j ≤ 100) (h0 : ((sh.length : Int)) ≠ 0) (hp : el un_Ai2Z sh i = some p) (hq : el un_Ai2Z sh (Int.tmod (i + 1) (sh.length : Int)) = some q) (bp : PBd p) (bq : PBd q) (bg : GBd (prj s f)) (b : Bool)
    (x1 : inI64 (f.2.1 * s.2.2)) (x2 : inI64 (f.2.2 * s.2.1)) :
    F_law04_FieldShadows_L5 n A a1 s.1 s.2.1 s.2.2 a5 a6 a7 k t17 t18 t20 t21 t22 sa f sb (sh, e) (b, i) = some (.inl (b && decide (sideK k p q (prj s f) ≥ 0), j)) := by
  obtain ⟨p1, p2⟩ := bp
  obtain ⟨q1, q2⟩ := bq
  obtain ⟨g1, g2⟩ := bg
  have m1 := mul_k (g := k) (c := p.2) (p := 8) (q := 8650752) (by omega) (by omega) rfl (by decide) (by decide)
  have m2 := mul_k (g := k) (c := p.1) (p := 8) (q := 8650752) (by omega) (by omega) rfl (by decide) (by decide)
  have m3 := mul_k (g := q.1 - p.1) (c := (prj s f).2 - k * p.2) (p := 17301504) (q := 400000000) (by omega) (by omega) rfl (by decide) (by decide)
  have m4 := mul_k (g := q.2 - p.2) (c := (prj s f).1 - k * p.1) (p := 17301504) (q := 400000000) (by omega) (by omega) rfl (by decide) (by decide)
  unfold F_law04_FieldShadows_L5
  dsimp only
  rw [if_pos hlt, hp, Option.bind_some, if_pos (by unfold inI64; omega), if_pos h0, hq, Option.bind_some]
  cases b with
  | false => rw [if_neg (by simp), hij]; rfl
  | true =>
    rw [if_pos rfl, checkP_ok hn ⟨p1, p2⟩, Option.bind_some, if_pos rfl, checkP_ok hn ⟨q1, q2⟩, Option.bind_some, if_pos rfl]
    unfold sideK
    rw [show f.2.1 * s.2.2 - f.2.2 * s.2.1 = (prj s f).2 from rfl, show f.1 * s.2.2 - f.2.2 * s.1 = (prj s f).1 from rfl]
    generalize (prj s f).1 = g at *
    generalize (prj s f).2 = g' at *
    generalize k * p.1 = kp at *
    generalize k * p.2 = kp' at *
    rw [if_pos (by unfold inI64; omega), if_pos (by unfold inI64; omega), if_pos (by unfold inI64; omega)]
    generalize (q.1 - p.1) * (g' - kp') = u at *
    generalize (q.2 - p.2) * (g - kp) = v at *
    iterate 6 rw [if_pos (by unfold inI64; omega)]
    rw [hij, Bool.true_and]
theorem corners_eq {n : Nat} (hn : 10 ≤ n) {A : List D} {a1 a5 a6 a7 : Int} {s : Vec} {k : Int} (hk : 1 ≤ k ∧ k ≤ 8) {t17 : Mir10} {t18 t20 : List D × Int} {t21 t22 : Int × Int × Int × Int} {sa : Int} {f : Vec} {sb : Bool × Int} {e : Int} {a b c d : Pt}
    (ba : PBd a) (bb : PBd b) (bc : PBd c) (bd : PBd d) (bg : GBd (prj s f)) (x1 : inI64 (f.2.1 * s.2.2)) (x2 : inI64 (f.2.2 * s.2.1)) :
    loopF (F_law04_FieldShadows_L5 n A a1 s.1 s.2.1 s.2.2 a5 a6 a7 k t17 t18 t20 t21 t22 sa f sb ([encP a, encP b, encP c, encP d], e)) n (true, 0) = some (insideP k (prj s f) a b c d) := by
  obtain ⟨r, rfl⟩ : ∃ r, n = r + 5 := ⟨n - 5, by omega⟩
  have s1 := corner_step (n := r + 5) hn (A := A) (a1 := a1) (a5 := a5) (a6 := a6) (a7 := a7) hk (t17 := t17) (t18 := t18) (t20 := t20) (t21 := t21) (t22 := t22) (sa := sa) (sb := sb) (sh := [encP a, encP b, encP c, encP d]) (e := e) (i := 0) (j := 1) (p := a) (q := b) (by decide) (by show (0 : Int) < 4; decide) rfl (by decide) (by show (4 : Int) ≠ 0; decide) rfl rfl ba bb bg true x1 x2
  have s2 := corner_step (n := r + 5) hn (A := A) (a1 := a1) (a5 := a5) (a6 := a6) (a7 := a7) hk (t17 := t17) (t18 := t18) (t20 := t20) (t21 := t21) (t22 := t22) (sa := sa) (sb := sb) (sh := [encP a, encP b, encP c, encP d]) (e := e) (i := 1) (j := 2) (p := b) (q := c) (by decide) (by show (1 : Int) < 4; decide) rfl (by decide) (by show (4 : Int) ≠ 0; decide) rfl rfl bb bc bg (true && decide (sideK k a b (prj s f) ≥ 0)) x1 x2
  have s3 := corner_step (n := r + 5) hn (A := A) (a1 := a1) (a5 := a5) (a6 := a6) (a7 := a7) hk (t17 := t17) (t18 := t18) (t20 := t20) (t21 := t21) (t22 := t22) (sa := sa) (sb := sb) (sh := [encP a, encP b, encP c, encP d]) (e := e) (i := 2) (j := 3) (p := c) (q := d) (by decide) (by show (2 : Int) < 4; decide) rfl (by decide) (by show (4 : Int) ≠ 0; decide) rfl rfl bc bd bg ((true && decide (sideK k a b (prj s f) ≥ 0)) && decide (sideK k b c (prj s f) ≥ 0)) x1 x2
  have s4 := corner_step (n := r + 5) hn (A := A) (a1 := a1) (a5 := a5) (a6 := a6) (a7 := a7) hk (t17 := t17) (t18 := t18) (t20 := t20) (t21 := t21) (t22 := t22) (sa := sa) (sb := sb) (sh := [encP a, encP b, encP c, encP d]) (e := e) (i := 3) (j := 4) (p := d) (q := a) (by decide) (by show (3 : Int) < 4; decide) rfl (by decide) (by show (4 : Int) ≠ 0; decide) rfl (by kernel_rfl) bd ba bg (((true && decide (sideK k a b (prj s f) ≥ 0)) && decide (sideK k b c (prj s f) ≥ 0)) && decide (sideK k c d (prj s f) ≥ 0)) x1 x2
  rw [loopF_l s1, loopF_l s2, loopF_l s3, loopF_l s4, loopF_r (e := insideP k (prj s f) a b c d) ?_]
  unfold insideP
  rw [Bool.true_and]
  rfl

/-! Whether a place lies in a mirror's shadow. -/
def insM (s : Vec) (k : Int) (f : Vec) (m : Mir) : Bool := match shA m s with
  | ([a, b, c, d], 0) => insideP k (prj s f) a b c d
  | _ => false
theorem insM_met {s : Vec} {k : Int} {f : Vec} {m : Mir} (hz : 1 ≤ s.2.2) (h : meetV m k f s false = true) : insM s k f m = true := by
  obtain ⟨h1, h2, h3⟩ := inside_of hz (Met.of h)
  unfold insM shA shR
  rw [if_neg h1]
  by_cases h4 : leftP (prj s (corA m (-1) (-1))) (prj s (corA m 1 (-1))) (prj s (corA m 1 1)) < 0
  · rw [if_pos h4]; exact h2 h4
  · rw [if_neg h4]; exact h3 h4
theorem gbd {s f : Vec} (hs : Bd 1024 s) (hf : Bd 131072 f) : GBd (prj s f) ∧ inI64 (f.2.1 * s.2.2) ∧ inI64 (f.2.2 * s.2.1) := by
  have p1 := mul_k (g := f.1) (c := s.2.2) (p := 131072) (q := 1024) hf.1 hs.2.2 rfl (by decide) (by decide)
  have p2 := mul_k (g := f.2.2) (c := s.1) (p := 131072) (q := 1024) hf.2.2 hs.1 rfl (by decide) (by decide)
  have p3 := mul_k (g := f.2.1) (c := s.2.2) (p := 131072) (q := 1024) hf.2.1 hs.2.2 rfl (by decide) (by decide)
  have p4 := mul_k (g := f.2.2) (c := s.2.1) (p := 131072) (q := 1024) hf.2.2 hs.2.1 rfl (by decide) (by decide)
  unfold GBd prj inI64
  dsimp only
  omega
def gS (s : Vec) (k : Int) (f : Vec) (q : Nat) (b : Bool × Nat) (m : Mir) : Bool × Nat := (if b.2 = q then b.1 else b.1 || insM s k f m, b.2 + 1)
theorem shadow_step {n : Nat} (hn : 500 ≤ n) {ms : List Mir} (hl : ms.length ≤ 100) {q : Nat} {a5 a6 a7 : Int} {s : Vec} (hs : dirE s 1024 = 0) (hz : 1 ≤ s.2.2) {k : Int} (hk : 1 ≤ k ∧ k ≤ 8) {t17 : Mir10} {t18 t20 : List D × Int} {t21 t22 : Int × Int × Int × Int} {sa : Int} {f : Vec} (hf : Bd 131072 f) {m : Mir} (hm : mirE m = 0) (hn2 : m.name.size < n)
    {b : Bool} {i : Nat} (hx : ms[i]? = some m) :
    F_law04_FieldShadows_L6 n (ms.map encM) (q : Int) s.1 s.2.1 s.2.2 a5 a6 a7 k t17 t18 t20 t21 t22 sa f (b, (i : Int)) = some (.inl ((gS s k f q (b, i) m).1, ((i + 1 : Nat) : Int))) := by
  have hlt := (List.getElem?_eq_some_iff.1 hx).1
  obtain ⟨bg, x1, x2⟩ := gbd (dirE_zero hs) hf
  have hi2 : inI64 ((i : Int) + 1) := by unfold inI64; omega
  unfold F_law04_FieldShadows_L6 gS
  dsimp only
  rw [if_pos (lenlt (f := encM) hx), elM hx, Option.bind_some]
  by_cases hq : i = q
  · subst hq
    rw [if_pos rfl, if_pos rfl, if_pos hi2]; rfl
  · rw [if_neg (by omega), if_neg hq]
    have hsh := shadow_body (n := n) (mirE_zero hm) (mirE_nz hm) (dirE_zero hs) (by omega) hn2 (by rw [hm, hs, decide_eq_false (by omega)]; rfl)
    unfold Mir.tup
    dsimp only
    rw [hsh, Option.bind_some]
    dsimp only
    unfold insM
    obtain ⟨_, _, _, t1⟩ := cor_b (mirE_zero hm) (a := -1) (b := -1) (by decide) (by decide)
    obtain ⟨_, _, _, t2⟩ := cor_b (mirE_zero hm) (a := 1) (b := 1) (by decide) (by decide)
    obtain ⟨_, _, _, t3⟩ := cor_b (mirE_zero hm) (a := 1) (b := -1) (by decide) (by decide)
    obtain ⟨_, _, _, t4⟩ := cor_b (mirE_zero hm) (a := -1) (b := 1) (by decide) (by decide)
    have bA := (PB.of (dirE_zero hs) t1).p
    have bB := (PB.of (dirE_zero hs) t3).p
    have bC := (PB.of (dirE_zero hs) t2).p
    have bE := (PB.of (dirE_zero hs) t4).p
    unfold shA
    generalize prj s (corA m (-1) (-1)) = A at *
    generalize prj s (corA m 1 (-1)) = B at *
    generalize prj s (corA m 1 1) = C at *
    generalize prj s (corA m (-1) 1) = E at *
    have fin : ∀ (r : Bool), (if b = true then if inI64 ((i : Int) + 1) then some (.inl (true, ((i : Int) + 1))) else none else if inI64 ((i : Int) + 1) then some (.inl (r, ((i : Int) + 1))) else none : Option ((Bool × Int) ⊕ (Unit ⊕ Bool))) = some (.inl (b || r, ((i + 1 : Nat) : Int))) := fun r => by
      cases b with
      | true => rw [if_pos rfl, if_pos hi2]; rfl
      | false => rw [if_neg (by simp), if_pos hi2]; rfl
    unfold shR
    by_cases h1 : leftP A B C = 0
    · rw [if_pos h1]
      dsimp only
      rw [if_neg (by decide), if_pos rfl, if_pos hi2, Bool.or_false]; rfl
    · rw [if_neg h1]
      by_cases h2 : leftP A B C < 0
      · rw [if_pos h2]
        dsimp only
        rw [if_pos rfl]
        have := corners_eq (n := n) (by omega) (A := ms.map encM) (a1 := (q : Int)) (a5 := a5) (a6 := a6) (a7 := a7) (s := s) hk (t17 := t17) (t18 := t18) (t20 := t20) (t21 := t21) (t22 := t22) (sa := sa) (f := f) (sb := (b, (i : Int))) (e := 0) bA bE bC bB bg x1 x2
        show (loopF (F_law04_FieldShadows_L5 n (ms.map encM) (q : Int) s.1 s.2.1 s.2.2 a5 a6 a7 k t17 t18 t20 t21 t22 sa f (b, (i : Int)) ([encP A, encP E, encP C, encP B], 0)) n (true, 0)).bind _ = _
        rw [this, Option.bind_some, fin]; rfl
      · rw [if_neg h2]
        dsimp only
        rw [if_pos rfl]
        have := corners_eq (n := n) (by omega) (A := ms.map encM) (a1 := (q : Int)) (a5 := a5) (a6 := a6) (a7 := a7) (s := s) hk (t17 := t17) (t18 := t18) (t20 := t20) (t21 := t21) (t22 := t22) (sa := sa) (f := f) (sb := (b, (i : Int))) (e := 0) bA bB bC bE bg x1 x2
        show (loopF (F_law04_FieldShadows_L5 n (ms.map encM) (q : Int) s.1 s.2.1 s.2.2 a5 a6 a7 k t17 t18 t20 t21 t22 sa f (b, (i : Int)) ([encP A, encP B, encP C, encP E], 0)) n (true, 0)).bind _ = _
        rw [this, Option.bind_some, fin]; rfl
theorem gS_fold {s : Vec} {k : Int} {f : Vec} {q : Nat} : ∀ (l : List Mir) (b : Bool × Nat), (b.1 = true ∨ ∃ i m, l[i]? = some m ∧ b.2 + i ≠ q ∧ insM s k f m = true) → (l.foldl (gS s k f q) b).1 = true
  | [], b, h => by
    rcases h with h | ⟨i, m, h, _⟩
    · exact h
    · simp at h
  | x :: l, b, h => by
    rw [List.foldl_cons]
    apply gS_fold l
    unfold gS
    dsimp only
    rcases h with h | ⟨i, m, h1, h2, h3⟩
    · left
      rw [h]; split <;> simp
    · cases i with
      | zero =>
        simp at h1
        subst h1
        left
        rw [if_neg (by omega), h3]; simp
      | succ i =>
        right
        exact ⟨i, m, by simpa using h1, by omega, h3⟩
theorem shadows_eq {n : Nat} (hn : 500 ≤ n) {ms : List Mir} (hl : ms.length ≤ 100) {q : Nat} {a5 a6 a7 : Int} {s : Vec} (hs : dirE s 1024 = 0) (hz : 1 ≤ s.2.2) {k : Int} (hk : 1 ≤ k ∧ k ≤ 8) {t17 : Mir10} {t18 t20 : List D × Int} {t21 t22 : Int × Int × Int × Int} {sa : Int} {f : Vec} (hf : Bd 131072 f) (hm : ∀ m, m ∈ ms → mirE m = 0) (hn2 : ∀ m, m ∈ ms → m.name.size < n) :
    loopF (F_law04_FieldShadows_L6 n (ms.map encM) (q : Int) s.1 s.2.1 s.2.2 a5 a6 a7 k t17 t18 t20 t21 t22 sa f) n (false, 0) = some (.inr (ms.foldl (gS s k f q) (false, 0)).1) := by
  have := loopF_list0 (step := F_law04_FieldShadows_L6 n (ms.map encM) (q : Int) s.1 s.2.1 s.2.2 a5 a6 a7 k t17 t18 t20 t21 t22 sa f) (fun (b : Bool × Nat) (m : Mir) => (.inl (gS s k f q b m) : (Bool × Nat) ⊕ (Unit ⊕ Bool))) (fun b => .inr b.1)
    (fun i b => (b.1, (i : Int))) ms (fun i b => b.2 = i)
    (fun i b x hx hi => by
      have hmem := List.mem_of_getElem? hx
      dsimp only
      refine ⟨?_, by unfold gS; dsimp only; omega⟩
      obtain ⟨b1, b2⟩ := b
      dsimp only at hi
      subst hi
      exact shadow_step hn hl hs hz hk hf (hm x hmem) (hn2 x hmem) hx)
    (fun b _ => by unfold F_law04_FieldShadows_L6; dsimp only; rw [if_neg (by simp)]) (s := (false, 0)) (k := n) rfl (by omega)
  rw [runL_inl] at this
  exact this

/-! The facets. -/
theorem facets_loop {n : Nat} (hn : 500 ≤ n) {ms : List Mir} {q k : Nat} {m : Mir} (h : Asked ms q k m) {a5 a6 a7 : Int} {s : Vec} (hs : dirE s 1024 = 0) (hz : 1 ≤ s.2.2) {t17 : Mir10} {e e' : Int} {t21 : Int × Int × Int × Int} {c2 c3 c4 : Int} (hm : ∀ m, m ∈ ms → mirE m = 0) (hn2 : ∀ m, m ∈ ms → m.name.size < n) :
    loopF (F_law04_FieldShadows_L7 n (ms.map encM) (q : Int) s.1 s.2.1 s.2.2 a5 a6 a7 (k : Int) t17 ((allS k).map fun p => encV (fc m k p), e) ((allS k).map fun p => encB (darkB ms q k m s p), e') t21 (cmpI (vdot m.nrm s) 0, c2, c3, c4)) n 0 = some (.inr ()) := by
  have hq := sq_le h.k.2
  have hl := allS_len k
  have := loopF_list0 (step := F_law04_FieldShadows_L7 n (ms.map encM) (q : Int) s.1 s.2.1 s.2.2 a5 a6 a7 (k : Int) t17 ((allS k).map fun p => encV (fc m k p), e) ((allS k).map fun p => encB (darkB ms q k m s p), e') t21 (cmpI (vdot m.nrm s) 0, c2, c3, c4)) (fun (_ : Unit) (_ : Nat × Nat) => (.inl () : Unit ⊕ (Unit ⊕ Unit))) (fun _ => .inr ())
    (fun i _ => (i : Int)) (allS k) (fun _ _ => True)
    (fun i _ x hx _ => by
      have hlt := (List.getElem?_eq_some_iff.1 hx).1
      have hf := h.f (List.mem_of_getElem? hx)
      have hsb := dirE_zero hs
      dsimp only
      refine ⟨?_, trivial⟩
      have hE : el un_Ai3Z ((allS k).map fun p => encV (fc m k p)) (i : Int) = some (fc m k x) := by
        have := el_enc (un := un_Ai3Z) (enc := encV) unV (l := (allS k).map fun p => fc m k p) (i := i) (x := fc m k x) (by rw [List.getElem?_map, hx]; rfl)
        rw [List.map_map] at this
        exact this
      have hB := elB (f := darkB ms q k m s) hx
      have hS := shadows_eq (n := n) hn (ms := ms) (by have := h.len; omega) (q := q) (a5 := a5) (a6 := a6) (a7 := a7) hs hz (k := (k : Int)) (by have := h.k; omega) (t17 := t17) (t18 := ((allS k).map fun p => encV (fc m k p), e)) (t20 := ((allS k).map fun p => encB (darkB ms q k m s p), e')) (t21 := t21) (t22 := (cmpI (vdot m.nrm s) 0, c2, c3, c4)) (sa := (i : Int)) hf hm hn2
      have hd : vdot m.nrm s > 0 → darkB ms q k m s x = true → (ms.foldl (gS s k (fc m k x) q) (false, 0)).1 = true := fun hp hd => by
        unfold darkB at hd
        rw [if_pos hp] at hd
        obtain ⟨j, y, g1, g2, g3⟩ := metB_iff.1 hd
        exact gS_fold ms _ (.inr ⟨j, y, g1, by dsimp only; omega, insM_met hz g3⟩)
      have hnd : ¬ vdot m.nrm s > 0 → darkB ms q k m s x = true := fun hp => by unfold darkB; rw [if_neg hp]
      generalize darkB ms q k m s x = dk at *
      generalize (ms.foldl (gS s k (fc m k x) q) (false, 0)).1 = sh at *
      obtain ⟨gg, x1, x2⟩ := gbd hsb hf
      have p1 := mul_k (g := (fc m k x).1) (c := s.2.2) (p := 131072) (q := 1024) hf.1 hsb.2.2 rfl (by decide) (by decide)
      have p2 := mul_k (g := (fc m k x).2.2) (c := s.1) (p := 131072) (q := 1024) hf.2.2 hsb.1 rfl (by decide) (by decide)
      have p3 := mul_k (g := (fc m k x).2.1) (c := s.2.2) (p := 131072) (q := 1024) hf.2.1 hsb.2.2 rfl (by decide) (by decide)
      have p4 := mul_k (g := (fc m k x).2.2) (c := s.2.1) (p := 131072) (q := 1024) hf.2.2 hsb.2.1 rfl (by decide) (by decide)
      have hin : ∀ {y : Int}, -131072 ≤ y ∧ y ≤ 131072 → inR y (-131072) 131072 = 0 := fun hy => by unfold inR; rw [if_neg (by omega), if_neg (by omega)]
      unfold F_law04_FieldShadows_L7
      rw [if_pos (lenlt (f := fun p => encV (fc m k p)) hx), hE, Option.bind_some, range_eq, Option.bind_some, if_pos (hin hf.1), range_eq, Option.bind_some, if_pos (hin hf.2.1), range_eq, Option.bind_some, if_pos (hin hf.2.2),
        if_pos (by unfold inI64; omega), if_pos (by unfold inI64; omega), if_pos (by unfold inI64; omega), if_pos x1, if_pos x2, if_pos (by unfold inI64; omega), hS, Option.bind_some]
      dsimp only
      have hi2 : inI64 ((i : Int) + 1) := by unfold inI64; omega
      unfold cmpI
      by_cases c : vdot m.nrm s > 0
      · rw [if_neg (show ¬ vdot m.nrm s < 0 by omega), if_pos c, if_neg (by decide), if_pos (by decide), hB, Option.bind_some]
        cases hdk : dk with
        | true => rw [if_pos rfl, if_pos (hd c hdk), if_pos hi2]; rfl
        | false => rw [if_neg (by simp), if_pos hi2]; rfl
      · have hdk := hnd c
        subst hdk
        by_cases c' : vdot m.nrm s < 0
        · rw [if_pos c', if_pos (by decide), hB, Option.bind_some, if_pos rfl, if_neg (by decide), if_pos hi2]; rfl
        · rw [if_neg c', if_neg c, if_pos (by decide), hB, Option.bind_some, if_pos rfl, if_neg (by decide), if_pos hi2]; rfl)
    (fun _ _ => by unfold F_law04_FieldShadows_L7; dsimp only; rw [if_neg (by simp)]) (s := ()) (k := n) trivial (by omega)
  refine Eq.trans this ?_
  congr 1
  generalize allS k = l
  induction l with
  | nil => rfl
  | cons p l ih => unfold runL; exact ih

/-! The others in the opposite order, and without one of them. -/
def backL (N q : Nat) : List Nat := (List.range N).reverse.filter fun i => decide (i ≠ q)
theorem runL_flt3 (p : Nat → Bool) (enc : Nat → D) : ∀ (l s : List Nat), runL (fun (s : List Nat) (i : Nat) => (.inl (if p i = true then s ++ [i] else s) : List Nat ⊕ List D)) (fun s => s.map enc) l s = (s ++ l.filter p).map enc
  | [], s => by simp [runL]
  | x :: l, s => by
    unfold runL
    dsimp only
    rw [runL_flt3 p enc l]
    by_cases h : p x = true
    · rw [if_pos h, List.filter_cons_of_pos h]; simp
    · rw [if_neg h, List.filter_cons_of_neg h]
def encI' (ms : List Mir) (i : Nat) : D := encM (atM ms i)
theorem back_loop {n : Nat} (hn : 100 ≤ n) {ms : List Mir} (hl : ms.length ≤ 64) {q : Nat} {a2 a3 a4 a5 a6 a7 a8 : Int} {t17 : Mir10} {t21 : Int × Int × Int × Int} :
    loopF (F_law04_FieldShadows_L8 n (ms.map encM) (q : Int) a2 a3 a4 a5 a6 a7 a8 t17 t21) n ((ms.length : Int) - 1, []) = some ((backL ms.length q).map (encI' ms)) := by
  have := loopF_list0 (step := F_law04_FieldShadows_L8 n (ms.map encM) (q : Int) a2 a3 a4 a5 a6 a7 a8 t17 t21) (fun (s : List Nat) (i : Nat) => (.inl (if decide (i ≠ q) = true then s ++ [i] else s) : List Nat ⊕ List D)) (fun s => s.map (encI' ms))
    (fun i s => ((ms.length : Int) - 1 - (i : Int), s.map (encI' ms))) (List.range ms.length).reverse (fun i s => s.length ≤ i)
    (fun i s x hx hi => by
      have hlt := (List.getElem?_eq_some_iff.1 hx).1
      rw [List.length_reverse, List.length_range] at hlt
      have hxe : x = ms.length - 1 - i := by
        rw [List.getElem?_reverse (by simpa using hlt), List.length_range, List.getElem?_range (by omega)] at hx
        exact (Option.some.inj hx).symm
      have hxl : x < ms.length := by omega
      have hxi : (ms.length : Int) - 1 - (i : Int) = (x : Int) := by omega
      have hn1 : (ms.length : Int) - 1 - ((i + 1 : Nat) : Int) = (x : Int) - 1 := by omega
      dsimp only
      unfold F_law04_FieldShadows_L8
      dsimp only
      rw [hxi, hn1, if_pos (by omega)]
      by_cases h : x = q
      · subst h
        rw [if_pos rfl, if_pos (by unfold inI64; omega), if_neg (by simp)]
        exact ⟨rfl, by omega⟩
      · rw [if_neg (by omega), elM (atM_get hxl), Option.bind_some, if_pos (by unfold roomP; rw [List.length_map]; omega), if_pos (by unfold inI64; omega), if_pos (by simpa using h), List.map_append]
        exact ⟨rfl, by simp; omega⟩)
    (fun s _ => by
      unfold F_law04_FieldShadows_L8
      dsimp only
      rw [List.length_reverse, List.length_range, if_neg (by omega)]) (s := []) (k := n) (by simp) (by simp; omega)
  rw [runL_flt3] at this
  rw [show ((ms.length : Int) - 1, ([] : List D)) = ((ms.length : Int) - 1 - ((0 : Nat) : Int), ([] : List Nat).map (encI' ms)) by simp]
  exact this
theorem back_ok (N q : Nat) : ∀ i, i ∈ backL N q ↔ i < N ∧ i ≠ q := by
  intro i
  unfold backL
  simp
theorem back_nodup (N q : Nat) : (backL N q).Nodup := by
  unfold backL
  refine List.Pairwise.filter _ ?_
  rw [List.pairwise_reverse]
  exact List.nodup_range.imp fun h => h.symm
theorem back_len (N q : Nat) : (backL N q).length ≤ N := by
  unfold backL
  have := List.length_filter_le (fun i => decide (i ≠ q)) (List.range N).reverse
  rwa [List.length_reverse, List.length_range] at this
theorem tail_map {α β : Type} (f : α → β) (l : List α) : (l.drop 1).map f = (l.map f).drop 1 := by cases l <;> rfl
theorem less_loop {n : Nat} (hn : 100 ≤ n) {ms : List Mir} {J : List Nat} (hl : J.length ≤ 64) {a1 a2 a3 a4 a5 a6 a7 a8 : Int} {t17 : Mir10} {t21 : Int × Int × Int × Int} :
    loopF (F_law04_FieldShadows_L9 n a1 a2 a3 a4 a5 a6 a7 a8 t17 t21 (J.map (encI' ms))) n (0, []) = some ((J.drop 1).map (encI' ms)) := by
  have := loopF_list0 (step := F_law04_FieldShadows_L9 n a1 a2 a3 a4 a5 a6 a7 a8 t17 t21 (J.map (encI' ms))) (fun (s : List Nat × Nat) (i : Nat) => (.inl (if s.2 = 0 then s.1 else s.1 ++ [i], s.2 + 1) : (List Nat × Nat) ⊕ List D)) (fun s => s.1.map (encI' ms))
    (fun i s => ((i : Int), s.1.map (encI' ms))) J (fun i s => s.2 = i ∧ s.1.length ≤ i)
    (fun i s x hx hi => by
      obtain ⟨s1, s2⟩ := s
      obtain ⟨h1, h2⟩ := hi
      dsimp only at h1 h2
      subst h1
      have hlt := (List.getElem?_eq_some_iff.1 hx).1
      have hnth : nth (J.map (encI' ms)) s2 = some (encM (atM ms x)) := by rw [nth_get?, List.getElem?_map, hx]; rfl
      have hll := lenlt (f := encI' ms) hx
      dsimp only
      unfold F_law04_FieldShadows_L9
      dsimp only
      rw [if_pos hll, if_pos ⟨by omega, hll⟩, Int.toNat_natCast, hnth, Option.bind_some, show un_Asi9Z (encM (atM ms x)) = some (atM ms x).tup from rfl, Option.bind_some]
      by_cases h : s2 = 0
      · subst h
        rw [if_neg (by omega), if_pos (by unfold inI64; omega), if_pos rfl]
        exact ⟨rfl, rfl, by omega⟩
      · rw [if_pos (by omega), if_pos (by unfold roomP; rw [List.length_map]; omega), if_pos (by unfold inI64; omega), if_neg h, List.map_append]
        exact ⟨rfl, rfl, by simp; omega⟩)
    (fun s _ => by unfold F_law04_FieldShadows_L9; dsimp only; rw [if_neg (by simp)]) (s := ([], 0)) (k := n) ⟨rfl, by simp⟩ (by omega)
  have key : ∀ (l : List Nat) (s : List Nat) (i : Nat), i ≠ 0 → runL (fun (s : List Nat × Nat) (i : Nat) => (.inl (if s.2 = 0 then s.1 else s.1 ++ [i], s.2 + 1) : (List Nat × Nat) ⊕ List D)) (fun s => s.1.map (encI' ms)) l (s, i) = (s ++ l).map (encI' ms) := by
    intro l
    induction l with
    | nil => intro s i _; simp [runL]
    | cons x l ih =>
      intro s i hi
      unfold runL
      dsimp only
      rw [if_neg hi, ih _ _ (by omega)]; simp
  rw [show ((0 : Int), ([] : List D)) = (((0 : Nat) : Int), (([] : List Nat), 0).1.map (encI' ms)) from rfl, this]
  cases J with
  | nil => rfl
  | cons x l =>
    unfold runL
    dsimp only
    rw [if_pos rfl, key _ _ _ (by omega)]; rfl

/-! The statement. -/
theorem picked {n : Nat} (hn : 100 ≤ n) {ms : List Mir} {q k : Nat} {m : Mir} (h : Asked ms q k m) (hz : ∀ x, x ∈ ms → x.name.size < n) (hc : chkM ms = 0) (hb : ∀ x, x ∈ ms → mirE x = 0) {sun t : Vec} (hs : dirE sun 1024 = 0) (ht : pE t 4096 = 0)
    {J : List Nat} (hJ : ∀ i, i ∈ J → i < ms.length ∧ i ≠ q) (hJn : J.Nodup) (hJl : J.length ≤ 63) :
    F_law04_own n ((J ++ [q]).map (encI' ms)) = some (((J ++ [q]).map (atM ms)).map encM) ∧
    F_field_Lit n (((J ++ [q]).map (atM ms)).map encM) (J.length : Int) sun.1 sun.2.1 sun.2.2 t.1 t.2.1 t.2.2 (k : Int) = some ((litM ((J ++ [q]).map (atM ms)) k sun t m J.length).1, (litM ((J ++ [q]).map (atM ms)) k sun t m J.length).2.1, (litM ((J ++ [q]).map (atM ms)) k sun t m J.length).2.2, 0) := by
  have hq := (List.getElem?_eq_some_iff.1 h.at_).1
  have hlt : ∀ i, i ∈ J ++ [q] → i < ms.length := fun i hi => by
    rcases List.mem_append.1 hi with hi | hi
    · exact (hJ i hi).1
    · simp at hi; omega
  have hin : ∀ x, x ∈ (J ++ [q]).map (atM ms) → x ∈ ms := fun x hx => by
    obtain ⟨i, hi, rfl⟩ := List.mem_map.1 hx
    exact List.mem_of_getElem? (atM_get (hlt i hi))
  have hnd : (J ++ [q]).Nodup := by
    rw [List.nodup_append]
    refine ⟨hJn, by simp, ?_⟩
    intro a ha b hb' e
    simp at hb'
    have := (hJ a ha).2
    omega
  have hc2 := chk_pick hc hnd hlt (by simp; omega)
  have ha : Asked ((J ++ [q]).map (atM ms)) J.length k m := by
    refine ⟨?_, by simp; omega, fun x hx => h.ok x (hin x hx), h.k⟩
    rw [List.getElem?_map, List.getElem?_append_right (Nat.le_refl _), Nat.sub_self]
    show some (atM ms q) = some m
    rw [atM_eq h.at_]
  have ho := own_eq (n := n) ((J ++ [q]).map (atM ms)) (by simp; omega) (by simp; omega)
  rw [List.map_map] at ho
  refine ⟨?_, litP_eq hn ha (fun x hx => hz x (hin x hx)) hc2 hs ht⟩
  rw [List.map_map]
  exact ho
theorem law_shadows (ms : List Mir) (mi : Int) (sun t : Vec) (k : Int) (hl : ms.length ≤ 9223372036854775807) :
    F_law04_FieldShadows (1000 + ms.length) (ms.map encM) mi sun.1 sun.2.1 sun.2.2 t.1 t.2.1 t.2.2 k = some true := by
  have hn : 500 ≤ 1000 + ms.length := by omega
  unfold F_law04_FieldShadows
  rw [show F_law04_awake (1000 + ms.length) = some true from rfl, Option.bind_some, if_pos rfl, short_eq ms (by omega) hl, Option.bind_some]
  by_cases h1 : (ms.all shortB && (decide (ms.length ≤ 6) || decide (ms.length = 65))) = true
  · rw [if_pos h1]
    simp only [Bool.and_eq_true, Bool.or_eq_true, decide_eq_true_eq, List.all_eq_true] at h1
    have hzs : ∀ x, x ∈ ms → x.name.size < 1000 + ms.length := fun x hx => by
      have : (x.name.size : Int) ≤ 40 := of_decide_eq_true (h1.1 x hx)
      omega
    rw [refMs_eq (by omega) ms, Option.bind_some]
    by_cases hc : chkM ms = 0
    · rw [if_pos hc, List.length_map]
      obtain ⟨g3, g4⟩ := chkM_ok hc
      have hb := (chkM_iff ms).1 hc
      by_cases h4 : (ms.length : Int) > 4
      · rw [if_pos h4]
      rw [if_neg h4]
      by_cases h5 : mi < 0
      · rw [if_pos h5]
      rw [if_neg h5]
      by_cases h6 : mi ≥ (ms.length : Int)
      · rw [if_pos h6]
      rw [if_neg h6]
      have c3 : F_ref04_CheckDirection (1000 + ms.length) sun.1 sun.2.1 sun.2.2 = some (dirE sun 1024) := by
        unfold F_ref04_CheckDirection
        rw [refParts_eq (by omega) sun (by decide), Option.bind_some, refWhen_eq, Option.bind_some, refFirst2 (by omega)]; rfl
      have c4 : F_ref04_CheckTarget (1000 + ms.length) t.1 t.2.1 t.2.2 = some (pE t 4096) := by
        unfold F_ref04_CheckTarget
        rw [refParts_eq (by omega) t (by decide)]; rfl
      rw [c3, Option.bind_some]
      by_cases h7 : dirE sun 1024 = 0
      case neg => rw [if_neg h7]
      rw [if_pos h7]
      by_cases h8 : sun.2.2 < 1
      · rw [if_pos h8]
      rw [if_neg h8, c4, Option.bind_some]
      by_cases h9 : pE t 4096 = 0
      case neg => rw [if_neg h9]
      rw [if_pos h9, range_eq, Option.bind_some]
      by_cases h10 : inR k 1 4 = 0
      case neg => rw [if_neg h10]
      rw [if_pos h10]
      have hk := inR_zero h10
      obtain ⟨k', rfl⟩ : ∃ k' : Nat, k = (k' : Int) := ⟨k.toNat, by omega⟩
      obtain ⟨q, rfl⟩ : ∃ q : Nat, mi = (q : Int) := ⟨mi.toNat, by omega⟩
      have hq : q < ms.length := by omega
      have hx := List.getElem?_eq_getElem hq
      generalize ms[q] = m at hx
      have hm0 := hb.2.1 m (List.mem_of_getElem? hx)
      have ha : Asked ms q k' m := ⟨hx, g3, g4, by omega⟩
      obtain ⟨ca, cb, hcos⟩ := cosine_ok (n := 1000 + ms.length) hn (hzs m (List.mem_of_getElem? hx)) hm0 h7
      have hlit := litP_eq (n := 1000 + ms.length) (by omega) ha hzs hc h7 h9
      have hdk := darkP_eq (n := 1000 + ms.length) (by omega) ha hzs hc h7
      have hfc := facets_eq (n := 1000 + ms.length) (by omega) (hzs m (List.mem_of_getElem? hx)) (k' : Int)
      have hk8 : inR (k' : Int) 1 8 = 0 := by unfold inR; rw [if_neg (by omega), if_neg (by omega)]
      rw [if_pos (by rw [hm0, hk8]; rfl), Int.toNat_natCast] at hfc
      have hle := litR_le (darkB ms (q : Int) (k' : Int) m sun) (blockB ms q k' m t) k'
      have hsum := lit_sum ms k' sun t m q
      have hlm : litM ms k' sun t m q = litR (darkB ms (q : Int) (k' : Int) m sun) (blockB ms q k' m t) k' := rfl
      have hfl := facets_loop (n := 1000 + ms.length) hn ha (a5 := t.1) (a6 := t.2.1) (a7 := t.2.2) h7 (by omega) (t17 := m.tup) (e := 0) (e' := 0) (t21 := ((litM ms k' sun t m q).1, (litM ms k' sun t m q).2.1, (litM ms k' sun t m q).2.2, 0)) (c2 := ca) (c3 := cb) (c4 := 0) hb.2.1 hzs
      have hbk := back_loop (n := 1000 + ms.length) (by omega) (ms := ms) g3 (q := q) (a2 := sun.1) (a3 := sun.2.1) (a4 := sun.2.2) (a5 := t.1) (a6 := t.2.1) (a7 := t.2.2) (a8 := (k' : Int)) (t17 := m.tup) (t21 := ((litM ms k' sun t m q).1, (litM ms k' sun t m q).2.1, (litM ms k' sun t m q).2.2, 0))
      have hbl := back_len ms.length q
      have hls := less_loop (n := 1000 + ms.length) (by omega) (ms := ms) (J := backL ms.length q) (by omega) (a1 := (q : Int)) (a2 := sun.1) (a3 := sun.2.1) (a4 := sun.2.2) (a5 := t.1) (a6 := t.2.1) (a7 := t.2.2) (a8 := (k' : Int)) (t17 := m.tup) (t21 := ((litM ms k' sun t m q).1, (litM ms k' sun t m q).2.1, (litM ms k' sun t m q).2.2, 0))
      have hJ := back_ok ms.length q
      have hsub : ∀ i, i ∈ (backL ms.length q).drop 1 → i ∈ backL ms.length q := fun i hi => List.mem_of_mem_drop hi
      obtain ⟨o1, l1⟩ := picked (n := 1000 + ms.length) (by omega) ha hzs hc hb.2.1 h7 h9 (J := backL ms.length q) (fun i hi => (hJ i).1 hi) (back_nodup _ _) (by omega)
      obtain ⟨o2, l2⟩ := picked (n := 1000 + ms.length) (by omega) ha hzs hc hb.2.1 h7 h9 (J := (backL ms.length q).drop 1) (fun i hi => (hJ i).1 (hsub i hi)) ((List.drop_sublist _ _).nodup (back_nodup _ _)) (by simp; omega)
      have same := lit_same hJ k' sun t m
      have more := lit_more hJ hsub k' sun t m
      rw [same] at l1
      have hkk : (k' : Int) * (k' : Int) = ((k' * k' : Nat) : Int) := (Int.natCast_mul k' k').symm
      have hk16 := sq_le (k := k') (by omega)
      have tupE : [D.agg [.v (.string m.tup.1), I m.tup.2.1, I m.tup.2.2.1, I m.tup.2.2.2.1, I m.tup.2.2.2.2.1, I m.tup.2.2.2.2.2.1, I m.tup.2.2.2.2.2.2.1, I m.tup.2.2.2.2.2.2.2.1, I m.tup.2.2.2.2.2.2.2.2.1, I m.tup.2.2.2.2.2.2.2.2.2]] = [q].map (encI' ms) := by
        show [encM m] = [encM (atM ms q)]
        rw [atM_eq hx]
      rw [elM hx, Option.bind_some]
      show (F_field_Facets (1000 + ms.length) m.name m.c.1 m.c.2.1 m.c.2.2 m.u.1 m.u.2.1 m.u.2.2 m.v.1 m.v.2.1 m.v.2.2 (k' : Int)).bind _ = _
      rw [hfc, Option.bind_some, own_eq ms (by omega) (by omega), Option.bind_some, hdk, Option.bind_some, hlit, Option.bind_some]
      show (F_field_Cosine (1000 + ms.length) m.name m.c.1 m.c.2.1 m.c.2.2 m.u.1 m.u.2.1 m.u.2.2 m.v.1 m.v.2.1 m.v.2.2 sun.1 sun.2.1 sun.2.2).bind _ = _
      rw [hcos, Option.bind_some]
      generalize hLL : litM ms k' sun t m q = LL at *
      dsimp only
      rw [if_pos rfl, if_pos rfl, if_pos rfl, if_pos rfl, hkk, if_pos (by unfold inI64; omega), List.length_map, allS_len, if_pos rfl, List.length_map, allS_len, if_pos rfl]
      rw [← hlm] at hle
      obtain ⟨e1, e2, e3⟩ := hle
      rw [if_pos (by unfold inI64; omega), if_pos (by unfold inI64; omega), if_pos hsum, if_neg (by unfold minI; split <;> split <;> omega)]
      rw [hfl, Option.bind_some]
      dsimp only
      rw [if_pos (by unfold inI64; omega), hbk, Option.bind_some, hls, Option.bind_some, if_pos (by unfold roomP; rw [List.length_map]; omega), tupE, ← List.map_append, o1, Option.bind_some, List.length_map, l1, Option.bind_some,
        if_pos (by unfold roomP; simp; omega), List.length_map, ← List.map_append, o2, Option.bind_some, l2, Option.bind_some, if_pos rfl, if_pos rfl]
      dsimp only
      rw [if_pos (by simp)]
      rw [decide_eq_true more]
    · rw [if_neg hc]
  · rw [if_neg h1]
theorem law_FieldShadows (l : List Mir10) (a1 a2 a3 a4 a5 a6 a7 a8 : Int) (hl : l.length ≤ 9223372036854775807) :
    F_law04_FieldShadows (1000 + l.length) (l.map fun x => encM (Mir.of x)) a1 a2 a3 a4 a5 a6 a7 a8 = some true := by
  have := law_shadows (l.map Mir.of) a1 (a2, a3, a4) (a5, a6, a7) a8 (by simpa using hl)
  rw [List.length_map, List.map_map] at this
  exact this
end Go.Proofs.YtojmcpnpojdnmaaGreatDoor
