/-
  Objects: calls that are told of a variable of the run's own, and of the rows that it holds.
-/
import Derived.Test.YtclmbhokfhjnoaaGreatDoorSxTwelve
set_option linter.unusedVariables false
set_option linter.unusedSimpArgs false
set_option linter.unnecessarySimpa false
namespace Go.SX

theorem ocAV_get : ∀ (cs : List OC) (i j : Nat), (ocAV i cs)[j]? = match cs[j]? with
    | none => none
    | some (.dat x) => some (.d x)
    | some (.row _ _) => some (.own (i + j) 0)
  | [], i, j => by simp [ocAV]
  | .dat x :: l, i, 0 => by simp [ocAV]
  | .row s e :: l, i, 0 => by simp [ocAV]
  | .dat x :: l, i, j + 1 => by
    simp only [ocAV, List.getElem?_cons_succ]
    rw [ocAV_get l (i + 1) j, show i + 1 + j = i + (j + 1) by omega]
  | .row s e :: l, i, j + 1 => by
    simp only [ocAV, List.getElem?_cons_succ]
    rw [ocAV_get l (i + 1) j, show i + 1 + j = i + (j + 1) by omega]
theorem ocAV_len : ∀ (cs : List OC) (i : Nat), (ocAV i cs).length = cs.length
  | [], _ => rfl
  | .dat x :: l, i => by simp [ocAV, ocAV_len l]
  | .row s e :: l, i => by simp [ocAV, ocAV_len l]
theorem ocRows_look : ∀ (cs : List OC) (i n : Nat) (k : Blk), look (ocRows i cs) n = some k ↔ ∃ j sz es, n = i + j ∧ cs[j]? = some (.row sz es) ∧ k = .row 0 sz es
  | [], i, n, k => by simp [ocRows, look]
  | .dat x :: l, i, n, k => by
    simp only [ocRows]
    rw [ocRows_look l (i + 1) n k]
    constructor
    · rintro ⟨j, sz, es, h1, h2, h3⟩; exact ⟨j + 1, sz, es, by omega, by simpa using h2, h3⟩
    · rintro ⟨j, sz, es, h1, h2, h3⟩
      cases j with
      | zero => simp at h2
      | succ j => exact ⟨j, sz, es, by omega, by simpa using h2, h3⟩
  | .row s e :: l, i, n, k => by
    simp only [ocRows]
    by_cases hn : i = n
    · subst hn
      rw [look_cons_same]
      constructor
      · intro h; cases h; exact ⟨0, s, e, by omega, by simp, rfl⟩
      · rintro ⟨j, sz, es, h1, h2, h3⟩
        have : j = 0 := by omega
        subst this
        simp only [List.getElem?_cons_zero, Option.some.injEq, OC.row.injEq] at h2
        rw [h3, h2.1, h2.2]
    · rw [look_cons_other _ _ hn, ocRows_look l (i + 1) n k]
      constructor
      · rintro ⟨j, sz, es, h1, h2, h3⟩; exact ⟨j + 1, sz, es, by omega, by simpa using h2, h3⟩
      · rintro ⟨j, sz, es, h1, h2, h3⟩
        cases j with
        | zero => omega
        | succ j => exact ⟨j, sz, es, by omega, by simpa using h2, h3⟩
theorem objHp_zero (cs : List OC) : look (objHp cs) 0 = some (.box (AV.norm (.agg (ocAV 1 cs)))) := look_cons_same _ _ _
theorem objHp_row {cs : List OC} {j sz : Nat} {es : List D} (h : cs[j]? = some (.row sz es)) : look (objHp cs) (j + 1) = some (.row 0 sz es) := by
  rw [objHp, look_cons_other _ _ (by omega)]
  exact (ocRows_look cs 1 (j + 1) _).2 ⟨j, sz, es, by omega, h, rfl⟩
theorem objHp_cases {cs : List OC} {n : Nat} {k : Blk} (h : look (objHp cs) n = some k) : (n = 0 ∧ k = .box (AV.norm (.agg (ocAV 1 cs)))) ∨ ∃ j sz es, n = j + 1 ∧ cs[j]? = some (.row sz es) ∧ k = .row 0 sz es := by
  by_cases hn : n = 0
  · subst hn; rw [objHp_zero] at h; cases h; exact .inl ⟨rfl, rfl⟩
  · right
    rw [objHp, look_cons_other _ _ (by omega)] at h
    obtain ⟨j, sz, es, h1, h2, h3⟩ := (ocRows_look cs 1 n k).1 h
    exact ⟨j, sz, es, by omega, h2, h3⟩

/-- The cells of a list of cells, taken together. -/
theorem norm_cells {l : List AV} (h : allOne l = true) : (AV.norm (.agg l)).cells.isSome = true := by
  unfold AV.norm
  split
  · rename_i y hy
    simp only [AV.toD] at hy
    split at hy
    case h_2 => cases hy
    rename_i ds hds
    simp only [Option.some.injEq] at hy; subst hy
    have key : ∀ (l : List AV) (ds : List D), allOne l = true → toDs l = some ds → allOne (ds.map .d) = true := by
      intro l
      induction l with
      | nil => intro ds _ h; simp only [toDs, Option.some.injEq] at h; subst h; rfl
      | cons x l ih =>
        intro ds ho h
        simp only [toDs] at h
        split at h
        case h_2 => cases h
        rename_i y ys hy hys
        simp only [Option.some.injEq] at h; subst h
        simp only [allOne, Bool.and_eq_true] at ho
        simp only [List.map_cons, allOne, Bool.and_eq_true]
        refine ⟨?_, ih ys ho.2 hys⟩
        have hx := ho.1
        cases x with
        | d z => simp only [AV.toD, Option.some.injEq] at hy; subst hy; exact hx
        | fn f a b =>
          simp only [AV.toD] at hy
          split at hy
          · simp only [Option.some.injEq] at hy; subst hy; rfl
          · cases hy
        | agg _ => simp [AV.isOne] at hx
        | tup _ => simp [AV.isOne] at hx
        | junk => simp [AV.isOne] at hx
        | _ => simp [AV.toD] at hy
    simp only [AV.cells, key l ds h hds]; rfl
  · simp only [AV.cells, h]; rfl

/-- Names for the cells of an object that are rows. -/
structure Names (ns : List (Option (Nat × Nat))) (cs : List OC) : Prop where
  row : ∀ (i sz : Nat) (es : List D), cs[i]? = some (.row sz es) → ∃ p, ns[i]? = some (some p)
  dat : ∀ (i : Nat) (x : D), cs[i]? = some (.dat x) → ns[i]? = some none
  len : ns.length = cs.length
theorem Names.tail {p : Option (Nat × Nat)} {ns : List (Option (Nat × Nat))} {c : OC} {cs : List OC} (h : Names (p :: ns) (c :: cs)) : Names ns cs :=
  ⟨fun i sz es hc => by simpa using h.row (i + 1) sz es (by simpa using hc), fun i x hc => by simpa using h.dat (i + 1) x (by simpa using hc), by simpa using h.len⟩
theorem Names.rowOf {ns : List (Option (Nat × Nat))} {cs : List OC} (h : Names ns cs) {i : Nat} {p : Nat × Nat} (hi : ns[i]? = some (some p)) : ∃ sz es, cs[i]? = some (.row sz es) := by
  have hlt : i < cs.length := by rw [← h.len]; exact (List.getElem?_eq_some_iff.1 hi).1
  cases hc : cs[i] with
  | dat x => have := h.dat i x (by rw [List.getElem?_eq_getElem hlt, hc]); rw [hi] at this; cases this
  | row sz es => exact ⟨sz, es, by rw [List.getElem?_eq_getElem hlt, hc]⟩

theorem outCells_dat : ∀ {ns : List (Option (Nat × Nat))} {cs : List OC}, Names ns cs → ∀ (i : Nat) (x : D), cs[i]? = some (.dat x) → (outCells ns cs)[i]? = some (.d x)
  | _, [], _, i, x, h => by simp at h
  | [], c :: cs, hn, i, x, h => by have := hn.len; simp at this
  | p :: ns, c :: cs, hn, 0, x, h => by
    simp only [List.getElem?_cons_zero, Option.some.injEq] at h; subst h
    have := hn.dat 0 x rfl
    simp only [List.getElem?_cons_zero, Option.some.injEq] at this; subst this
    simp [outCells]
  | p :: ns, c :: cs, hn, i + 1, x, h => by
    have ih := outCells_dat hn.tail i x (by simpa using h)
    cases c with
    | dat y =>
      have := hn.dat 0 y rfl
      simp only [List.getElem?_cons_zero, Option.some.injEq] at this; subst this
      simpa [outCells] using ih
    | row s e =>
      obtain ⟨⟨a, b⟩, hq⟩ := hn.row 0 s e rfl
      simp only [List.getElem?_cons_zero, Option.some.injEq] at hq; subst hq
      simpa [outCells] using ih
theorem outCells_row : ∀ {ns : List (Option (Nat × Nat))} {cs : List OC}, Names ns cs → ∀ (i n v : Nat), ns[i]? = some (some (n, v)) → (outCells ns cs)[i]? = some (.own n v)
  | _, [], hn, i, n, v, h => by
    have h0 := hn.len
    simp only [List.length_nil, List.length_eq_zero_iff] at h0
    subst h0; simp at h
  | [], c :: cs, hn, i, n, v, h => by simp at h
  | p :: ns, c :: cs, hn, 0, n, v, h => by
    simp only [List.getElem?_cons_zero, Option.some.injEq] at h; subst h
    obtain ⟨sz, es, hc⟩ := hn.rowOf (i := 0) rfl
    simp only [List.getElem?_cons_zero, Option.some.injEq] at hc; subst hc
    simp [outCells]
  | p :: ns, c :: cs, hn, i + 1, n, v, h => by
    have ih := outCells_row hn.tail i n v (by simpa using h)
    cases c with
    | dat y =>
      have := hn.dat 0 y rfl
      simp only [List.getElem?_cons_zero, Option.some.injEq] at this; subst this
      simpa [outCells] using ih
    | row s e =>
      obtain ⟨⟨a, b⟩, hq⟩ := hn.row 0 s e rfl
      simp only [List.getElem?_cons_zero, Option.some.injEq] at hq; subst hq
      simpa [outCells] using ih
theorem outCells_len : ∀ {ns : List (Option (Nat × Nat))} {cs : List OC}, Names ns cs → (outCells ns cs).length = cs.length
  | [], [], hn => rfl
  | p :: ns, [], hn => by have := hn.len; simp at this
  | [], c :: cs, hn => by have := hn.len; simp at this
  | p :: ns, c :: cs, hn => by
    have ih := outCells_len hn.tail
    cases c with
    | dat y =>
      have := hn.dat 0 y rfl
      simp only [List.getElem?_cons_zero, Option.some.injEq] at this; subst this
      simp [outCells, ih]
    | row s e =>
      obtain ⟨⟨a, b⟩, hq⟩ := hn.row 0 s e rfl
      simp only [List.getElem?_cons_zero, Option.some.injEq] at hq; subst hq
      simp [outCells, ih]

/-- Names are told apart. -/
theorem freshIn_spec {n : Nat} : ∀ {ns : List (Option (Nat × Nat))}, freshIn n ns = true → ∀ (i v : Nat), ns[i]? ≠ some (some (n, v))
  | [], _, i, v => by simp
  | none :: l, h, 0, v => by simp
  | none :: l, h, i + 1, v => by simpa using freshIn_spec (ns := l) h i v
  | some (m, u) :: l, h, 0, v => by
    simp only [freshIn, Bool.and_eq_true] at h
    intro he
    simp only [List.getElem?_cons_zero, Option.some.injEq, Prod.mk.injEq] at he
    rw [he.1] at h
    simp at h
  | some (m, u) :: l, h, i + 1, v => by
    simp only [freshIn, Bool.and_eq_true] at h
    simpa using freshIn_spec (ns := l) h.2 i v
theorem okNs_spec {bn : Nat} {fz : List Nat} : ∀ {ns : List (Option (Nat × Nat))}, okNs bn fz ns = true → ∀ (i n v : Nat), ns[i]? = some (some (n, v)) →
    n ≠ bn ∧ ¬ n ∈ fz ∧ ∀ (j u : Nat), ns[j]? = some (some (n, u)) → j = i
  | [], _, i, n, v, hi => by simp at hi
  | none :: l, h, 0, n, v, hi => by simp at hi
  | none :: l, h, i + 1, n, v, hi => by
    obtain ⟨h1, h2, h3⟩ := okNs_spec (ns := l) h i n v (by simpa using hi)
    refine ⟨h1, h2, fun j u hj => ?_⟩
    cases j with
    | zero => simp at hj
    | succ j => rw [h3 j u (by simpa using hj)]
  | some (m, u) :: l, h, 0, n, v, hi => by
    simp only [List.getElem?_cons_zero, Option.some.injEq, Prod.mk.injEq] at hi
    obtain ⟨rfl, rfl⟩ := hi
    simp only [okNs, Bool.and_eq_true] at h
    obtain ⟨⟨⟨h1, h2⟩, h3⟩, h4⟩ := h
    refine ⟨fun e => by subst e; simp at h2, fun hm => by simp at h3; exact h3 hm, fun j u hj => ?_⟩
    cases j with
    | zero => rfl
    | succ j => exact absurd (by simpa using hj) (freshIn_spec h1 j u)
  | some (m, u) :: l, h, i + 1, n, v, hi => by
    simp only [okNs, Bool.and_eq_true] at h
    obtain ⟨⟨⟨h1, h2⟩, h3⟩, h4⟩ := h
    obtain ⟨k1, k2, k3⟩ := okNs_spec (ns := l) h4 i n v (by simpa using hi)
    refine ⟨k1, k2, fun j u hj => ?_⟩
    cases j with
    | zero =>
      simp only [List.getElem?_cons_zero, Option.some.injEq, Prod.mk.injEq] at hj
      rw [← hj.1] at hi
      exact absurd (by simpa using hi) (freshIn_spec h1 i v)
    | succ j => rw [k3 j u (by simpa using hj)]

def idxN (n : Nat) : List (Option (Nat × Nat)) → Nat → Option Nat
  | [], _ => none
  | none :: l, k => idxN n l (k + 1)
  | some p :: l, k => if p.1 = n then some k else idxN n l (k + 1)
theorem idxN_some {n : Nat} : ∀ {ns : List (Option (Nat × Nat))} {k j : Nat}, idxN n ns k = some j → ∃ (i v : Nat), j = k + i ∧ ns[i]? = some (some (n, v))
  | [], k, j, h => by simp [idxN] at h
  | none :: l, k, j, h => by
    obtain ⟨i, v, h1, h2⟩ := idxN_some (ns := l) (k := k + 1) h
    exact ⟨i + 1, v, by omega, by simpa using h2⟩
  | some p :: l, k, j, h => by
    simp only [idxN] at h
    split at h
    · rename_i hp
      simp only [Option.some.injEq] at h
      obtain ⟨a, b⟩ := p
      simp only at hp; subst hp
      exact ⟨0, b, by omega, rfl⟩
    · obtain ⟨i, v, h1, h2⟩ := idxN_some (ns := l) (k := k + 1) h
      exact ⟨i + 1, v, by omega, by simpa using h2⟩
theorem idxN_none {n : Nat} : ∀ {ns : List (Option (Nat × Nat))} {k : Nat}, idxN n ns k = none → ∀ (i v : Nat), ns[i]? ≠ some (some (n, v))
  | [], k, h, i, v => by simp
  | none :: l, k, h, 0, v => by simp
  | none :: l, k, h, i + 1, v => by simpa using idxN_none (ns := l) (k := k + 1) h i v
  | some p :: l, k, h, i, v => by
    simp only [idxN] at h
    split at h
    · cases h
    · rename_i hp
      cases i with
      | zero =>
        intro he
        simp only [List.getElem?_cons_zero, Option.some.injEq] at he
        exact hp (by rw [he])
      | succ i => simpa using idxN_none (ns := l) (k := k + 1) h i v
theorem outRows_look {n : Nat} {k : Blk} : ∀ {ns : List (Option (Nat × Nat))} {cs : List OC}, look (outRows ns cs) n = some k → ∃ (i v sz : Nat) (es : List D), ns[i]? = some (some (n, v)) ∧ cs[i]? = some (.row sz es) ∧ k = .row v sz es
  | [], cs, h => by simp [outRows, look] at h
  | p :: ns, [], h => by cases p <;> simp [outRows, look] at h
  | none :: ns, c :: cs, h => by
    obtain ⟨i, v, sz, es, h1, h2, h3⟩ := outRows_look (ns := ns) (cs := cs) (by cases c <;> simpa [outRows] using h)
    exact ⟨i + 1, v, sz, es, by simpa using h1, by simpa using h2, h3⟩
  | some (m, u) :: ns, .dat x :: cs, h => by
    obtain ⟨i, v, sz, es, h1, h2, h3⟩ := outRows_look (ns := ns) (cs := cs) (by simpa [outRows] using h)
    exact ⟨i + 1, v, sz, es, by simpa using h1, by simpa using h2, h3⟩
  | some (m, u) :: ns, .row s e :: cs, h => by
    simp only [outRows] at h
    by_cases hm : m = n
    · subst hm
      rw [look_cons_same] at h; cases h
      exact ⟨0, u, s, e, rfl, rfl, rfl⟩
    · rw [look_cons_other _ _ hm] at h
      obtain ⟨i, v, sz, es, h1, h2, h3⟩ := outRows_look (ns := ns) (cs := cs) h
      exact ⟨i + 1, v, sz, es, by simpa using h1, by simpa using h2, h3⟩
theorem outRows_none {n : Nat} : ∀ {ns : List (Option (Nat × Nat))} {cs : List OC}, look (outRows ns cs) n = none → ∀ (i v sz : Nat) (es : List D), ns[i]? = some (some (n, v)) → cs[i]? ≠ some (.row sz es)
  | [], cs, h, i, v, sz, es, hi => by simp at hi
  | p :: ns, [], h, i, v, sz, es, hi => by simp
  | none :: ns, c :: cs, h, 0, v, sz, es, hi => by simp at hi
  | none :: ns, c :: cs, h, i + 1, v, sz, es, hi => by
    simpa using outRows_none (ns := ns) (cs := cs) (by cases c <;> simpa [outRows] using h) i v sz es (by simpa using hi)
  | some (m, u) :: ns, .dat x :: cs, h, 0, v, sz, es, hi => by simp
  | some (m, u) :: ns, .dat x :: cs, h, i + 1, v, sz, es, hi => by
    simpa using outRows_none (ns := ns) (cs := cs) (by simpa [outRows] using h) i v sz es (by simpa using hi)
  | some (m, u) :: ns, .row s e :: cs, h, i, v, sz, es, hi => by
    simp only [outRows] at h
    by_cases hm : m = n
    · subst hm; rw [look_cons_same] at h; cases h
    · rw [look_cons_other _ _ hm] at h
      cases i with
      | zero =>
        simp only [List.getElem?_cons_zero, Option.some.injEq, Prod.mk.injEq] at hi
        exact absurd hi.1 hm
      | succ i => simpa using outRows_none (ns := ns) (cs := cs) h i v sz es (by simpa using hi)

def glueR (ns : List (Option (Nat × Nat))) (bn : Nat) (ρ ρ' : Nat → Value) (n : Nat) : Value := match idxN n ns 1 with
  | some j => ρ' j
  | none => if n = bn then ρ' 0 else ρ n
def glueH (ns : List (Option (Nat × Nat))) (bn : Nat) (cs : List OC) (H : List (Nat × Blk)) : List (Nat × Blk) := (bn, .box (AV.norm (.agg (outCells ns cs)))) :: (outRows ns cs ++ H)

/-- An object that a call has left behind is laid back among the other blocks. -/
theorem glue {cx : Cx} {F : Nat → Prop} {H : List (Nat × Blk)} {ρ : Nat → Value} {w : World} (g1 : HSim cx F H ρ w) {hin : List (Nat × Blk)} {ρc : Nat → Value} (hmi : ∀ r, Mut hin ρc r → Mut H ρ r)
    {cs : List OC} {ns : List (Option (Nat × Nat))} {bn : Nat} {fz : List Nat} (hal : Names ns cs) (hok : okNs bn fz ns = true)
    (hold : ∀ n k r, look H n = some k → k.live = true → rootOf (ρ n) = some r → Mut hin ρc r → n = bn ∨ ∃ (i v : Nat), ns[i]? = some (some (n, v)))
    (hver : ∀ (i n v : Nat) (k : Blk), ns[i]? = some (some (n, v)) → look H n = some k → k.ver < v)
    {w' : World} {ρ' : Nat → Value} (hbn : ∀ k, look H bn = some k → k.ver = 0 ∧ ρ' 0 = ρ bn)
    (q1 : HSim cx (fun r => F r ∨ (Mut H ρ r ∧ ¬ Mut hin ρc r)) (objHp cs) ρ' w') (q2 : Ext w (Mut hin ρc) w') (q3 : ∀ q, q < w.heap.size → Mut (objHp cs) ρ' q → Mut hin ρc q) :
    HSim cx F (glueH ns bn cs H) (glueR ns bn ρ ρ') w' ∧ Steps1 H ρ w (glueH ns bn cs H) (glueR ns bn ρ ρ') w' ∧
      (∀ r, MM F (glueH ns bn cs H) (glueR ns bn ρ ρ') r → MM (fun r => F r ∨ (Mut H ρ r ∧ ¬ Mut hin ρc r)) (objHp cs) ρ' r) ∧
      look (glueH ns bn cs H) bn = some (.box (AV.norm (.agg (outCells ns cs)))) ∧ glueR ns bn ρ ρ' bn = ρ' 0 := by
  have hob : ∀ {i n v : Nat}, ns[i]? = some (some (n, v)) → n ≠ bn := fun h => (okNs_spec hok _ _ _ h).1
  have hbi : idxN bn ns 1 = none := by
    cases hi : idxN bn ns 1 with
    | none => rfl
    | some j =>
      obtain ⟨i, v, _, h2⟩ := idxN_some hi
      exact absurd rfl (hob h2)
  have hrb : glueR ns bn ρ ρ' bn = ρ' 0 := by simp only [glueR, hbi, if_true]
  have hrn : ∀ {i n v : Nat}, ns[i]? = some (some (n, v)) → glueR ns bn ρ ρ' n = ρ' (i + 1) := by
    intro i n v h
    unfold glueR
    cases hi : idxN n ns 1 with
    | none => exact absurd h (idxN_none hi i v)
    | some j =>
      obtain ⟨i', v', h1, h2⟩ := idxN_some hi
      have := (okNs_spec hok _ _ _ h).2.2 i' v' h2
      subst this
      simp only [h1, Nat.add_comm]
  have hro : ∀ {n}, n ≠ bn → (∀ (i v : Nat), ns[i]? ≠ some (some (n, v))) → glueR ns bn ρ ρ' n = ρ n := by
    intro n h1 h2
    unfold glueR
    cases hi : idxN n ns 1 with
    | none => simp only [if_neg h1]
    | some j =>
      obtain ⟨i', v', _, h⟩ := idxN_some hi
      exact absurd h (h2 i' v')
  have hlb : look (glueH ns bn cs H) bn = some (.box (AV.norm (.agg (outCells ns cs)))) := look_cons_same _ _ _
  have hln : ∀ {i n v sz : Nat} {es : List D}, ns[i]? = some (some (n, v)) → cs[i]? = some (.row sz es) → look (glueH ns bn cs H) n = some (.row v sz es) := by
    intro i n v sz es h1 h2
    rw [glueH, look_cons_other _ _ (Ne.symm (hob h1)), look_append]
    cases hl : look (outRows ns cs) n with
    | none => exact absurd h2 (outRows_none hl i v sz es h1)
    | some k =>
      obtain ⟨i', v', sz', es', k1, k2, rfl⟩ := outRows_look hl
      have := (okNs_spec hok _ _ _ h1).2.2 i' v' k1
      subst this
      rw [h1] at k1; cases k1
      rw [h2] at k2; cases k2
      rfl
  have hlo : ∀ {n}, n ≠ bn → (∀ (i v : Nat), ns[i]? ≠ some (some (n, v))) → look (glueH ns bn cs H) n = look H n := by
    intro n h1 h2
    rw [glueH, look_cons_other _ _ (Ne.symm h1), look_append]
    cases hl : look (outRows ns cs) n with
    | none => rfl
    | some k =>
      obtain ⟨i', v', sz', es', k1, k2, rfl⟩ := outRows_look hl
      exact absurd k1 (h2 i' v')
  -- the three kinds of names
  have hkind : ∀ {n k}, look (glueH ns bn cs H) n = some k → (n = bn ∧ k = .box (AV.norm (.agg (outCells ns cs)))) ∨ (∃ (i v sz : Nat) (es : List D), ns[i]? = some (some (n, v)) ∧ cs[i]? = some (.row sz es) ∧ k = .row v sz es) ∨
      (n ≠ bn ∧ (∀ (i v : Nat), ns[i]? ≠ some (some (n, v))) ∧ look H n = some k) := by
    intro n k h
    by_cases h1 : n = bn
    · subst h1; rw [hlb] at h; cases h; exact .inl ⟨rfl, rfl⟩
    · by_cases h2 : ∃ (i v : Nat), ns[i]? = some (some (n, v))
      · obtain ⟨i, v, hi⟩ := h2
        obtain ⟨sz, es, hc⟩ := hal.rowOf hi
        rw [hln hi hc] at h; cases h
        exact .inr (.inl ⟨i, v, sz, es, hi, hc, rfl⟩)
      · have h3 : ∀ (i v : Nat), ns[i]? ≠ some (some (n, v)) := fun i v hh => h2 ⟨i, v, hh⟩
        rw [hlo h1 h3] at h
        exact .inr (.inr ⟨h1, h3, h⟩)
  -- roots
  have hroot : ∀ {n k r}, look (glueH ns bn cs H) n = some k → k.live = true → rootOf (glueR ns bn ρ ρ' n) = some r →
      (∃ m, (∃ k', look (objHp cs) m = some k' ∧ k'.live = true) ∧ rootOf (ρ' m) = some r ∧ Mut (objHp cs) ρ' r ∧ ((n = bn ∧ m = 0) ∨ ∃ (i v : Nat), ns[i]? = some (some (n, v)) ∧ m = i + 1)) ∨
      (n ≠ bn ∧ (∀ (i v : Nat), ns[i]? ≠ some (some (n, v))) ∧ look H n = some k ∧ rootOf (ρ n) = some r ∧ Mut H ρ r ∧ ¬ Mut hin ρc r) := by
    intro n k r h hl hr
    rcases hkind h with ⟨rfl, rfl⟩ | ⟨i, v, sz, es, h1, h2, rfl⟩ | ⟨h1, h2, h3⟩
    · rw [hrb] at hr
      exact .inl ⟨0, ⟨_, objHp_zero cs, rfl⟩, hr, ⟨0, _, objHp_zero cs, rfl, hr⟩, .inl ⟨rfl, rfl⟩⟩
    · rw [hrn h1] at hr
      exact .inl ⟨i + 1, ⟨_, objHp_row h2, rfl⟩, hr, ⟨i + 1, _, objHp_row h2, rfl, hr⟩, .inr ⟨i, v, h1, rfl⟩⟩
    · rw [hro h1 h2] at hr
      refine .inr ⟨h1, h2, h3, hr, ⟨n, k, h3, hl, hr⟩, fun hm => ?_⟩
      rcases hold n k r h3 hl hr hm with h4 | ⟨i, v, h4⟩
      · exact h1 h4
      · exact h2 i v h4
  have hMM : ∀ r, MM F (glueH ns bn cs H) (glueR ns bn ρ ρ') r → MM (fun r => F r ∨ (Mut H ρ r ∧ ¬ Mut hin ρc r)) (objHp cs) ρ' r := by
    rintro r (hf | ⟨n, k, h1, h2, h3⟩)
    · exact .inl (.inl hf)
    · rcases hroot h1 h2 h3 with ⟨m, _, _, hm, _⟩ | ⟨_, _, _, _, h4, h5⟩
      · exact .inr hm
      · exact .inl (.inr ⟨h4, h5⟩)
  have hst : Steps1 H ρ w (glueH ns bn cs H) (glueR ns bn ρ ρ') w' := by
    refine ⟨q2.mono hmi, fun r hr hm => ?_, ⟨fun n k hn => ?_⟩⟩
    · obtain ⟨n, k, h1, h2, h3⟩ := hm
      rcases hroot h1 h2 h3 with ⟨m, _, _, hm, _⟩ | ⟨_, _, _, _, h4, _⟩
      · exact hmi r (q3 r hr hm)
      · exact h4
    · by_cases h1 : n = bn
      · subst h1
        obtain ⟨hv, hp⟩ := hbn k hn
        exact ⟨_, hlb, by rw [hv]; exact Nat.zero_le _, fun _ => by rw [hrb]; exact hp⟩
      · by_cases h2 : ∃ (i v : Nat), ns[i]? = some (some (n, v))
        · obtain ⟨i, v, hi⟩ := h2
          obtain ⟨sz, es, hc⟩ := hal.rowOf hi
          have := hver i n v k hi hn
          exact ⟨_, hln hi hc, Nat.le_of_lt this, fun he => absurd he (Nat.ne_of_lt this)⟩
        · have h3 : ∀ (i v : Nat), ns[i]? ≠ some (some (n, v)) := fun i v hh => h2 ⟨i, v, hh⟩
          exact ⟨k, by rw [hlo h1 h3]; exact hn, Nat.le_refl _, fun _ => hro h1 h3⟩
  refine ⟨g1.step hst (fun n k hk => ?_) (fun n n' k k' r h1 h2 m1 m2 r1 r2 => ?_) (fun r hr hf => ?_), hst, hMM, hlb, hrb⟩
  · rcases hkind hk with ⟨rfl, rfl⟩ | ⟨i, v, sz, es, h1, h2, rfl⟩ | ⟨h1, h2, h3⟩
    · right
      obtain ⟨r, e, v, cs0, p1, p2, p3, p4⟩ := q1.blk 0 _ (objHp_zero cs)
      obtain ⟨c1, c2, c3⟩ := cells_vr p3 p4
      -- the cells, by the names that they have here
      have hv : ∃ ys : List Value, v = .agg ys.toArray ∧ ys.length = cs.length ∧ ∀ (i : Nat) (c : AV) (y : Value), (ocAV 1 cs)[i]? = some c → ys[i]? = some y → VR w' (MM (fun r => F r ∨ (Mut H ρ r ∧ ¬ Mut hin ρc r)) (objHp cs) ρ') (objHp cs) ρ' c y := by
        unfold AV.norm at p4
        split at p4
        · rename_i y hy
          simp only [AV.toD] at hy
          split at hy
          case h_2 => cases hy
          rename_i ds hds
          simp only [Option.some.injEq] at hy; subst hy
          cases p4 with
          | d _ _ hd =>
            cases hd with
            | agg _ ys hl hh =>
              have key : ∀ (l : List AV) (ds : List D), toDs l = some ds → (∀ (i : Nat) (c : AV), l[i]? = some c → (∃ x, c = .d x) ∨ ∃ b u, c = .own b u) → l = ds.map .d := by
                intro l
                induction l with
                | nil => intro ds h _; simp only [toDs, Option.some.injEq] at h; subst h; rfl
                | cons x l ih =>
                  intro ds h hk
                  simp only [toDs] at h
                  split at h
                  case h_2 => cases h
                  rename_i y ys hy hys
                  simp only [Option.some.injEq] at h; subst h
                  rcases hk 0 x rfl with ⟨z, rfl⟩ | ⟨b, u, rfl⟩
                  · simp only [AV.toD, Option.some.injEq] at hy; subst hy
                    rw [List.map_cons, ← ih ys hys fun i c hc => hk (i + 1) c (by simpa using hc)]
                  · simp [AV.toD] at hy
              have hds2 := key _ _ hds fun i c hc => by
                rw [ocAV_get] at hc
                split at hc
                · cases hc
                · cases hc; exact .inl ⟨_, rfl⟩
                · cases hc; exact .inr ⟨_, _, rfl⟩
              refine ⟨ys, rfl, by rw [← hl, ← ocAV_len cs 1, hds2, List.length_map], fun i c y hc hy => ?_⟩
              rw [hds2, List.getElem?_map, Option.map_eq_some_iff] at hc
              obtain ⟨d, hd, rfl⟩ := hc
              exact .d _ _ (hh i d y hd hy)
        · cases p4 with
          | agg _ ys hl hh => exact ⟨ys, rfl, by rw [← hl, ocAV_len], hh⟩
      obtain ⟨ys, rfl, hlen, hys⟩ := hv
      have hvr : VR w' (MM F (glueH ns n cs H) (glueR ns n ρ ρ')) (glueH ns n cs H) (glueR ns n ρ ρ') (.agg (outCells ns cs)) (.agg ys.toArray) := by
        refine .agg _ ys (by rw [outCells_len hal, hlen]) fun i c y hc hy => ?_
        have hlt : i < cs.length := by rw [← hlen]; exact (List.getElem?_eq_some_iff.1 hy).1
        cases hci : cs[i] with
        | dat x =>
          have hci' : cs[i]? = some (.dat x) := by rw [List.getElem?_eq_getElem hlt, hci]
          rw [outCells_dat hal i x hci'] at hc; cases hc
          have := hys i (.d x) y (by rw [ocAV_get, hci']) hy
          cases this with
          | d _ _ hd => exact .d _ _ (hd.ext (Nat.le_refl _) (fun _ _ _ => rfl) fun r _ hm => hMM r hm)
        | row sz es =>
          have hci' : cs[i]? = some (.row sz es) := by rw [List.getElem?_eq_getElem hlt, hci]
          obtain ⟨⟨m, u⟩, hp⟩ := hal.row i sz es hci'
          rw [outCells_row hal i m u hp] at hc; cases hc
          have := hys i (.own (1 + i) 0) y (by rw [ocAV_get, hci']) hy
          cases this with
          | own _ _ k0 _ hb0 hv0 ho0 hh0 =>
            rw [Nat.add_comm, objHp_row hci'] at hb0; cases hb0
            exact .own m u _ _ (hln hp hci') (Nat.le_refl _) ho0 fun _ => by rw [hrn hp, ← Nat.add_comm 1 i]; exact hh0 rfl
      have hone : allOne (outCells ns cs) = true := by
        have : ∀ (l : List AV), (∀ (i : Nat) (c : AV), l[i]? = some c → c.isOne = true) → allOne l = true := by
          intro l
          induction l with
          | nil => intro _; rfl
          | cons x l ih => intro h; simp only [allOne, Bool.and_eq_true]; exact ⟨h 0 x rfl, ih fun i c hc => h (i + 1) c (by simpa using hc)⟩
        refine this _ fun i c hc => ?_
        have hlt : i < cs.length := by rw [← outCells_len hal]; exact (List.getElem?_eq_some_iff.1 hc).1
        cases hci : cs[i] with
        | dat x =>
          have hci' : cs[i]? = some (.dat x) := by rw [List.getElem?_eq_getElem hlt, hci]
          rw [outCells_dat hal i x hci'] at hc; cases hc
          -- it is one cell of the object
          have hcx : (ocAV 1 cs)[i]? = some (.d x) := by rw [ocAV_get, hci']
          have h0 : allOne cs0 = true := c2
          unfold AV.norm at p3
          split at p3
          · rename_i y hy
            simp only [AV.toD] at hy
            split at hy
            case h_2 => cases hy
            rename_i ds hds
            simp only [Option.some.injEq] at hy; subst hy
            have hcs := cells_d p3
            have hdx : ds[i]? = some x := by
              have key : ∀ (l : List AV) (ds : List D) (i : Nat), toDs l = some ds → l[i]? = some (.d x) → ds[i]? = some x := by
                intro l
                induction l with
                | nil => intro ds i _ h; simp at h
                | cons z l ih =>
                  intro ds i h hi
                  simp only [toDs] at h
                  split at h
                  case h_2 => cases h
                  rename_i y ys hy hys
                  simp only [Option.some.injEq] at h; subst h
                  cases i with
                  | zero => simp only [List.getElem?_cons_zero, Option.some.injEq] at hi ⊢; subst hi; simp only [AV.toD, Option.some.injEq] at hy; exact hy.symm
                  | succ i => simpa using ih ys i hys (by simpa using hi)
              exact key _ _ i hds hcx
            refine allOne_get h0 (j := i) ?_
            rw [hcs]
            simp only [SX.D.cells, List.getElem?_map, hdx, Option.map_some]
          · simp only [AV.cells] at p3
            split at p3
            · cases p3; exact allOne_get h0 hcx
            · cases p3
        | row sz es =>
          have hci' : cs[i]? = some (.row sz es) := by rw [List.getElem?_eq_getElem hlt, hci]
          obtain ⟨⟨m, u⟩, hp⟩ := hal.row i sz es hci'
          rw [outCells_row hal i m u hp] at hc; cases hc
          rfl
      obtain ⟨cs1, hcs1⟩ := Option.isSome_iff_exists.1 (norm_cells hone)
      exact ⟨r, e, .agg ys.toArray, cs1, by rw [hrb]; exact p1, p2, hcs1, norm_vr hvr⟩
    · right
      have h0 : RowV w' _ (ρ' (i + 1)) sz es := q1.blk (i + 1) _ (objHp_row h2)
      have h3 : RowV w' (MM F (glueH ns bn cs H) (glueR ns bn ρ ρ')) (ρ' (i + 1)) sz es := h0.sub fun r _ hm => hMM r hm
      rw [← hrn h1] at h3
      exact h3
    · refine .inl ⟨h3, hro h1 h2, fun hl r hr => ?_⟩
      refine q2.same r ((g1.blk n k h3).root_lt hl hr) fun hm => ?_
      rcases hold n k r h3 hl hr hm with h4 | ⟨i, v, h4⟩
      · exact h1 h4
      · exact h2 i v h4
  · rcases hroot h1 m1 r1 with ⟨a, ⟨ka, a1, a2⟩, a3, a4, a5⟩ | ⟨a1, a2, a3, a4, a5, a6⟩ <;> rcases hroot h2 m2 r2 with ⟨b, ⟨kb, b1, b2⟩, b3, b4, b5⟩ | ⟨b1, b2, b3, b4, b5, b6⟩
    · have hab := q1.inj a b ka kb r a1 b1 a2 b2 a3 b3
      subst hab
      rcases a5 with ⟨rfl, rfl⟩ | ⟨i, v, hi, rfl⟩ <;> rcases b5 with ⟨rfl, hb0⟩ | ⟨j, u, hj, hb0⟩
      · rfl
      · omega
      · omega
      · have : i = j := by omega
        subst this
        rw [hi] at hj; cases hj; rfl
    · exact absurd (q3 r (g1.mut_lt b5) a4) b6
    · exact absurd (q3 r (g1.mut_lt a5) b4) a6
    · exact g1.inj n n' k k' r a3 b3 m1 m2 a4 b4
  · rcases hr with ⟨n, k, h1, h2, h3⟩
    rcases hroot h1 h2 h3 with ⟨m, _, _, hm, _⟩ | ⟨_, _, _, _, h4, _⟩
    · exact q1.forb r hm (.inl hf)
    · exact g1.forb r h4 hf
end Go.SX
