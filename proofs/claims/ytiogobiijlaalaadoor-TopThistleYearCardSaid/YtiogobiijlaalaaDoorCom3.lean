/-
  Plain lemmas about fields of mirrors. An own text.
-/
import Derived.Test.YtiogobiijlaalaaDoorCom2
set_option linter.unusedVariables false
set_option maxRecDepth 20000
namespace Go.Proofs.YtiogobiijlaalaaDoor
open Go.SX

theorem pow62 : (2 : Nat) ^ 62 = 4611686018427387904 := by decide
theorem tdiv_nat (a b : Nat) : Int.tdiv (a : Int) (b : Int) = ((a / b : Nat) : Int) := Int.ofNat_tdiv a b
theorem lowest_eq {n : Nat} (hn : 500 ≤ n) {a b : Nat} (hb : 0 < b) (ha : a < 2 ^ 62) (hb2 : b < 2 ^ 62) : F_field_lowest n (a : Int) (b : Int) = some (((low a b).1 : Int), ((low a b).2 : Int)) := by
  unfold F_field_lowest
  have hg : 0 < Nat.gcd a b := Nat.gcd_pos_of_pos_right _ hb
  have hp : a * b < 2 ^ 124 := by
    calc a * b < 2 ^ 62 * 2 ^ 62 := Nat.mul_lt_mul'' ha hb2
      _ = 2 ^ 124 := by decide
  rw [euclid (f := F_field_lowest_L1 n (a : Int) (b : Int)) (fun x y => by
    unfold F_field_lowest_L1
    dsimp only
    by_cases h : y = 0
    · rw [if_pos h, if_pos h]
    · rw [if_neg h, if_neg h, if_pos h]) hp (by omega), Option.bind_some, if_pos (by omega), tdiv_nat, tdiv_nat]
  have h1 := (low_le a b).1
  have h2 := (low_le a b).2
  unfold low at h1 h2 ⊢
  dsimp only at h1 h2 ⊢
  generalize a / Nat.gcd a b = x at *
  generalize b / Nat.gcd a b = y at *
  rw [pow62] at ha hb2
  rw [if_pos (by unfold inI64; omega), if_pos (by unfold inI64; omega)]
theorem sq_nn (x : Int) : 0 ≤ x * x := by
  rcases Int.le_total 0 x with h | h
  · exact Int.mul_nonneg h h
  · exact Int.mul_nonneg_of_nonpos_of_nonpos h h
theorem sq_pos {x : Int} (h : x ≠ 0) : 0 < x * x := by
  rcases Int.lt_trichotomy x 0 with h1 | h1 | h1
  · exact Int.mul_pos_of_neg_of_neg h1 h1
  · exact absurd h1 h
  · exact Int.mul_pos h1 h1
theorem zeroB_dot {v : Vec} (h : zeroB v = false) : 0 < vdot v v := by
  unfold vdot
  have a := sq_nn v.1
  have b := sq_nn v.2.1
  have c := sq_nn v.2.2
  by_cases h1 : v.1 = 0
  · by_cases h2 : v.2.1 = 0
    · by_cases h3 : v.2.2 = 0
      · unfold zeroB at h; simp [h1, h2, h3] at h
      · have := sq_pos h3; omega
    · have := sq_pos h2; omega
  · have := sq_pos h1; omega
theorem mirE_nz {m : Mir} (h : mirE m = 0) : zeroB m.nrm = false := by
  unfold mirE at h
  split at h
  · unfold whenI at h
    cases hz : zeroB m.nrm with
    | true => rw [hz] at h; simp at h
    | false => rfl
  · rename_i h1; exact absurd h h1
theorem dirE_nz {v : Vec} {k : Int} (h : dirE v k = 0) : zeroB v = false := by
  have := firstNZ_zero h (whenI (zeroB v) 6) (by simp)
  unfold whenI at this
  cases hz : zeroB v with
  | true => rw [hz] at this; simp at this
  | false => rfl
structure CB (m : Mir) (d : Vec) : Prop where
  p : -25165824 ≤ vdot m.nrm d ∧ vdot m.nrm d ≤ 25165824
  pp : 0 ≤ vdot m.nrm d * vdot m.nrm d ∧ vdot m.nrm d * vdot m.nrm d ≤ 25165824 * 25165824
  nn : 1 ≤ vdot m.nrm m.nrm ∧ vdot m.nrm m.nrm ≤ 201326592
  dd : 1 ≤ vdot d d ∧ vdot d d ≤ 3145728
  q : 1 ≤ vdot m.nrm m.nrm * vdot d d ∧ vdot m.nrm m.nrm * vdot d d ≤ 201326592 * 3145728
theorem CB.of {m : Mir} {d : Vec} (h1 : mirE m = 0) (h2 : dirE d 1024 = 0) : CB m d := by
  have hm := (mirE_zero h1).nrm
  have hd := dirE_zero h2
  have p := (hm.dot hd (show (8192 : Int) * 1024 = 8388608 by decide) (by decide) (by decide)).val
  have nn := (hm.dot hm (show (8192 : Int) * 8192 = 67108864 by decide) (by decide) (by decide)).val
  have dd := (hd.dot hd (show (1024 : Int) * 1024 = 1048576 by decide) (by decide) (by decide)).val
  have n1 := zeroB_dot (mirE_nz h1)
  have d1 := zeroB_dot (dirE_nz h2)
  have pp := mul_k (g := vdot m.nrm d) (c := vdot m.nrm d) (p := 25165824) (q := 25165824) (by omega) (by omega) rfl (by decide) (by decide)
  refine ⟨by omega, ⟨sq_nn _, pp.2⟩, by omega, by omega, ?_, ?_⟩
  · have := Int.mul_pos (a := vdot m.nrm m.nrm) (b := vdot d d) (by omega) (by omega)
    omega
  · exact Int.mul_le_mul (by omega) (by omega) (by omega) (by decide)
abbrev Pt := Int × Int
def prj (s x : Vec) : Pt := (x.1 * s.2.2 - x.2.2 * s.1, x.2.1 * s.2.2 - x.2.2 * s.2.1)
structure PB (s x : Vec) : Prop where
  a : -4325376 ≤ x.1 * s.2.2 ∧ x.1 * s.2.2 ≤ 4325376
  b : -4325376 ≤ x.2.2 * s.1 ∧ x.2.2 * s.1 ≤ 4325376
  c : -4325376 ≤ x.2.1 * s.2.2 ∧ x.2.1 * s.2.2 ≤ 4325376
  d : -4325376 ≤ x.2.2 * s.2.1 ∧ x.2.2 * s.2.1 ≤ 4325376
theorem PB.of {s x : Vec} (hs : Bd 1024 s) (hx : Bd 4224 x) : PB s x :=
  ⟨mul_k hx.1 hs.2.2 (by decide) (by decide) (by decide), mul_k hx.2.2 hs.1 (by decide) (by decide) (by decide), mul_k hx.2.1 hs.2.2 (by decide) (by decide) (by decide), mul_k hx.2.2 hs.2.1 (by decide) (by decide) (by decide)⟩
def PBd (p : Pt) : Prop := (-8650752 ≤ p.1 ∧ p.1 ≤ 8650752) ∧ (-8650752 ≤ p.2 ∧ p.2 ≤ 8650752)
theorem PB.p {s x : Vec} (h : PB s x) : PBd (prj s x) := by
  obtain ⟨a, b, c, d⟩ := h
  unfold PBd prj
  dsimp only
  omega
def litG (d b : Nat × Nat → Bool) (s : Int × Int × Int) (p : Nat × Nat) : Int × Int × Int :=
  if d p = true then (s.1 + 1, s.2.1, s.2.2) else if b p = true then (s.1, s.2.1 + 1, s.2.2) else (s.1, s.2.1, s.2.2 + 1)
structure Le3 (s : Int × Int × Int) (i : Nat) : Prop where
  a : 0 ≤ s.1 ∧ s.1 ≤ (i : Int)
  b : 0 ≤ s.2.1 ∧ s.2.1 ≤ (i : Int)
  c : 0 ≤ s.2.2 ∧ s.2.2 ≤ (i : Int)
theorem Le3.step {s : Int × Int × Int} {i : Nat} (h : Le3 s i) (d b : Nat × Nat → Bool) (p : Nat × Nat) : Le3 (litG d b s p) (i + 1) := by
  obtain ⟨h1, h2, h3⟩ := h
  unfold litG
  split
  · exact ⟨by dsimp only; omega, by dsimp only; omega, by dsimp only; omega⟩
  · split
    · exact ⟨by dsimp only; omega, by dsimp only; omega, by dsimp only; omega⟩
    · exact ⟨by dsimp only; omega, by dsimp only; omega, by dsimp only; omega⟩
def litR (d b : Nat × Nat → Bool) (k : Nat) : Int × Int × Int := (allS k).foldl (litG d b) (0, 0, 0)
theorem elB {l : List (Nat × Nat)} {f : Nat × Nat → Bool} {i : Nat} {p : Nat × Nat} (h : l[i]? = some p) : el un_b (l.map fun p => encB (f p)) (i : Int) = some (f p) := by
  have := el_enc (un := un_b) (enc := B) (fun _ => rfl) (l := l.map f) (i := i) (x := f p) (by rw [List.getElem?_map, h]; rfl)
  rw [List.map_map] at this
  exact this
theorem lit_loop {n : Nat} (hn : 100 ≤ n) {k : Nat} (hk : k ≤ 8) (d b : Nat × Nat → Bool) :
    loopF (F_field_lit_L1 n ((allS k).map fun p => encB (b p)) ((allS k).map fun p => encB (d p))) n (0, 0, 0, 0) = some (litR d b k) := by
  have hq := sq_le hk
  have hl := allS_len k
  have := loopF_list0 (step := F_field_lit_L1 n ((allS k).map fun p => encB (b p)) ((allS k).map fun p => encB (d p))) (fun (s : Int × Int × Int) (p : Nat × Nat) => (.inl (litG d b s p) : (Int × Int × Int) ⊕ (Int × Int × Int))) id
    (fun i s => ((i : Int), s.1, s.2.1, s.2.2)) (allS k) (fun i s => Le3 s i)
    (fun i s x hx hi => by
      have hlt := (List.getElem?_eq_some_iff.1 hx).1
      obtain ⟨h1, h2, h3⟩ := hi
      dsimp only
      refine ⟨?_, Le3.step ⟨h1, h2, h3⟩ d b x⟩
      unfold F_field_lit_L1 litG
      dsimp only
      rw [if_pos (lenlt (f := fun p => encB (d p)) hx), elB (f := d) hx, Option.bind_some]
      by_cases hd : d x = true
      · rw [if_pos hd, if_pos hd, if_pos (by unfold inI64; omega), if_pos (by unfold inI64; omega)]; rfl
      · rw [if_neg hd, if_neg hd, elB (f := b) hx, Option.bind_some]
        by_cases hb : b x = true
        · rw [if_pos hb, if_pos hb, if_pos (by unfold inI64; omega), if_pos (by unfold inI64; omega)]; rfl
        · rw [if_neg hb, if_neg hb, if_pos (by unfold inI64; omega), if_pos (by unfold inI64; omega)]; rfl)
    (fun s _ => by unfold F_field_lit_L1; dsimp only; rw [if_neg (by simp)]; rfl) (s := (0, 0, 0)) (k := n) ⟨by decide, by decide, by decide⟩ (by omega)
  rw [runL_inl] at this
  exact this
def litM (ms : List Mir) (k : Nat) (sun t : Vec) (m : Mir) (q : Nat) : Int × Int × Int := litR (darkB ms (q : Int) (k : Int) m sun) (blockB ms q k m t) k
theorem lit_eq {n : Nat} {ms : List Mir} {q k : Nat} {m : Mir} (h : Asked ms q k m) (hn : 100 ≤ n) {sun t : Vec} (hs : Bd 1024 sun) (ht : Bd 4096 t) :
    F_field_lit n (ms.map encM) (q : Int) sun.1 sun.2.1 sun.2.2 t.1 t.2.1 t.2.2 (k : Int) = some (litM ms k sun t m q) := by
  unfold F_field_lit
  rw [block_eq h hn ht, Option.bind_some, dark_eq h hn hs, Option.bind_some, lit_loop hn h.k.2, Option.bind_some]; rfl
theorem met_from (q : Nat) (k : Int) (f al : Vec) (e : Bool) : ∀ (l : List Mir) (s : Nat), runL (gM (q : Int) k f al e) (fun _ => .inr ()) l s = .inl () ↔ ∃ i m, l[i]? = some m ∧ s + i ≠ q ∧ meetV m k f al e = true
  | [], s => by
    constructor
    · intro h; cases h
    · rintro ⟨i, m, h, _⟩; simp at h
  | x :: l, s => by
    unfold runL
    rw [show gM (q : Int) k f al e s x = (if (s : Int) = (q : Int) then .inl (s + 1) else if meetV x k f al e = true then .inr (.inl ()) else .inl (s + 1)) from rfl]
    by_cases hs : (s : Int) = (q : Int)
    · rw [if_pos hs]
      dsimp only
      rw [met_from q k f al e l (s + 1)]
      constructor
      · rintro ⟨i, m, h1, h2, h3⟩
        exact ⟨i + 1, m, by simpa using h1, by omega, h3⟩
      · rintro ⟨i, m, h1, h2, h3⟩
        cases i with
        | zero => omega
        | succ i => exact ⟨i, m, by simpa using h1, by omega, h3⟩
    · rw [if_neg hs]
      by_cases hm : meetV x k f al e = true
      · rw [if_pos hm]
        exact ⟨fun _ => ⟨0, x, rfl, by omega, hm⟩, fun _ => rfl⟩
      · rw [if_neg hm]
        dsimp only
        rw [met_from q k f al e l (s + 1)]
        constructor
        · rintro ⟨i, m, h1, h2, h3⟩; exact ⟨i + 1, m, by simpa using h1, by omega, h3⟩
        · rintro ⟨i, m, h1, h2, h3⟩
          cases i with
          | zero =>
            simp at h1
            subst h1
            exact absurd h3 hm
          | succ i => exact ⟨i, m, by simpa using h1, by omega, h3⟩
theorem metB_iff {ms : List Mir} {q : Nat} {k : Int} {f al : Vec} {e : Bool} : metB ms (q : Int) k f al e = true ↔ ∃ i m, ms[i]? = some m ∧ i ≠ q ∧ meetV m k f al e = true := by
  have h := met_from q k f al e ms 0
  simp only [Nat.zero_add] at h
  rw [← h]
  unfold metB metR
  cases runL (gM (q : Int) k f al e) (fun _ => .inr ()) ms 0 with
  | inl u => cases u; simp
  | inr u => simp
theorem mE_iff {s : List ByteArray} {x : Mir} : mE s x = 0 ↔ mirE x = 0 ∧ x.name ∉ s := by
  constructor
  · intro h
    exact ⟨firstNZ_zero h (mirE x) (by simp), mE_new h⟩
  · rintro ⟨h1, h2⟩
    unfold mE whenI
    simp [firstNZ, h1, h2]
theorem runC_iff : ∀ (l : List Mir) (s : List ByteArray), (match runL gC (fun _ => .inr ()) l s with
    | .inl e => e
    | .inr _ => (0 : Int)) = 0 ↔ (∀ m, m ∈ l → mirE m = 0) ∧ (∀ m, m ∈ l → m.name ∉ s) ∧ (l.map Mir.name).Nodup
  | [], s => by simp [runL]
  | x :: l, s => by
    unfold runL
    rw [show gC s x = (if mE s x = 0 then .inl (s ++ [x.name]) else .inr (.inl (mE s x))) from rfl]
    by_cases h0 : mE s x = 0
    · rw [if_pos h0]
      dsimp only
      rw [runC_iff l (s ++ [x.name])]
      have hx := mE_iff.1 h0
      constructor
      · rintro ⟨a, b, c⟩
        refine ⟨fun m hm => ?_, fun m hm => ?_, ?_⟩
        · rcases List.mem_cons.1 hm with rfl | hm
          · exact hx.1
          · exact a m hm
        · rcases List.mem_cons.1 hm with rfl | hm
          · exact hx.2
          · exact fun h => b m hm (List.mem_append_left _ h)
        · rw [List.map_cons, List.nodup_cons]
          refine ⟨fun h => ?_, c⟩
          obtain ⟨m, hm, he⟩ := List.mem_map.1 h
          exact b m hm (by rw [he]; simp)
      · rintro ⟨a, b, c⟩
        rw [List.map_cons, List.nodup_cons] at c
        refine ⟨fun m hm => a m (List.mem_cons_of_mem _ hm), fun m hm h => ?_, c.2⟩
        rcases List.mem_append.1 h with h | h
        · exact b m (List.mem_cons_of_mem _ hm) h
        · simp at h
          exact c.1 (h ▸ List.mem_map_of_mem hm)
    · rw [if_neg h0]
      dsimp only
      constructor
      · intro h; exact absurd h h0
      · rintro ⟨a, b, c⟩
        exact absurd (mE_iff.2 ⟨a x List.mem_cons_self, b x List.mem_cons_self⟩) h0
theorem chkM_iff (ms : List Mir) : chkM ms = 0 ↔ ms.length ≤ 64 ∧ (∀ m, m ∈ ms → mirE m = 0) ∧ (ms.map Mir.name).Nodup := by
  unfold chkM
  by_cases hl : (ms.length : Int) > 64
  · rw [if_pos hl]
    constructor
    · intro h; omega
    · intro h; omega
  · rw [if_neg hl]
    unfold chkR
    refine (runC_iff ms []).trans ?_
    constructor
    · rintro ⟨a, _, c⟩; exact ⟨by omega, a, c⟩
    · rintro ⟨_, a, c⟩; exact ⟨a, fun m _ => by simp, c⟩
def tt (m : Mir) (k : Int) (f s : Vec) : Vec := vcross s (vplus f (vtimes (-k) m.c))
structure Met (m : Mir) (k : Int) (f s : Vec) : Prop where
  d : vdot m.nrm s ≠ 0
  u : vdot (tt m k f s) m.u ≤ k * (if vdot m.nrm s < 0 then -(vdot m.nrm s) else vdot m.nrm s) ∧ -(vdot (tt m k f s) m.u) ≤ k * (if vdot m.nrm s < 0 then -(vdot m.nrm s) else vdot m.nrm s)
  v : vdot (tt m k f s) m.v ≤ k * (if vdot m.nrm s < 0 then -(vdot m.nrm s) else vdot m.nrm s) ∧ -(vdot (tt m k f s) m.v) ≤ k * (if vdot m.nrm s < 0 then -(vdot m.nrm s) else vdot m.nrm s)
theorem absI_le {x y : Int} (h : absI x ≤ y) : x ≤ y ∧ -x ≤ y := by
  unfold absI maxI at h
  split at h <;> omega
theorem Met.of {m : Mir} {k : Int} {f s : Vec} (h : meetV m k f s false = true) : Met m k f s := by
  unfold meetV at h
  simp only [Bool.and_eq_true, Bool.not_eq_true', decide_eq_true_eq, decide_eq_false_iff_not] at h
  obtain ⟨⟨⟨⟨h1, _⟩, _⟩, h4⟩, h5⟩ := h
  exact ⟨h1, absI_le h5, absI_le h4⟩
theorem idx_zero {ms : List Mir} {q : Nat} (hc : chkM ms = 0) (hq : q < ms.length) : idxE ms (q : Int) = 0 := by
  unfold idxE whenI
  rw [hc, if_neg (by omega), decide_eq_false (by omega)]; rfl
theorem litP_eq {n : Nat} (hn : 100 ≤ n) {ms : List Mir} {q k : Nat} {m : Mir} (h : Asked ms q k m) (hz : ∀ x, x ∈ ms → x.name.size < n) (hc : chkM ms = 0) {sun t : Vec} (hs : dirE sun 1024 = 0) (ht : pE t 4096 = 0) :
    F_field_Lit n (ms.map encM) (q : Int) sun.1 sun.2.1 sun.2.2 t.1 t.2.1 t.2.2 (k : Int) = some ((litM ms k sun t m q).1, (litM ms k sun t m q).2.1, (litM ms k sun t m q).2.2, 0) := by
  have hk : inR (k : Int) 1 8 = 0 := by have := h.k; unfold inR; rw [if_neg (by omega), if_neg (by omega)]
  unfold F_field_Lit
  rw [idx_eq hn ms hz, Option.bind_some, dir_eq (by omega) sun (by decide), Option.bind_some, parts_eq (by omega) t (by decide), Option.bind_some, checkK_eq, Option.bind_some, first4 (by omega), Option.bind_some,
    if_pos (by rw [idx_zero hc (List.getElem?_eq_some_iff.1 h.at_).1, hs, ht, hk]; rfl), lit_eq h hn (dirE_zero hs) (pE_zero ht)]
  rfl
end Go.Proofs.YtiogobiijlaalaaDoor
