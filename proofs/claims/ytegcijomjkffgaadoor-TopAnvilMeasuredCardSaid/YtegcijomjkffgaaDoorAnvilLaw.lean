/-
  The law TopAnvilMeasured holds: looks at the beam of a pair permit this pair, and the count that is told for a target hits it by the pair, before and behind a further look. An own text.
-/
import Derived.Test.YtegcijomjkffgaaDoorSun
set_option linter.unusedVariables false
set_option linter.unusedSimpArgs false
set_option linter.unnecessarySimpa false
set_option maxRecDepth 20000
namespace Go.Proofs.YtegcijomjkffgaaDoor
open Go.SX

def an (g o : Int) (y : Int × Int × Int) : Int × Int × Int := (Int.tmod y.1 60, o + g * Int.tmod y.1 60 - y.2.1, o + g * Int.tmod y.1 60 + y.2.2)
def LookOk (y : Int × Int × Int) : Prop := (-128 ≤ y.1 ∧ y.1 ≤ 127) ∧ (0 ≤ y.2.1 ∧ y.2.1 ≤ 255) ∧ (0 ≤ y.2.2 ∧ y.2.2 ≤ 255)
theorem an_b {g o : Int} {y : Int × Int × Int} (hg : -20 ≤ g ∧ g ≤ 20) : (-60 < Int.tmod y.1 60 ∧ Int.tmod y.1 60 < 60) ∧ -1200 ≤ g * Int.tmod y.1 60 ∧ g * Int.tmod y.1 60 ≤ 1200 := by
  have h1 := tmod_b y.1 (m := 60) (by decide)
  have h6 := mul_pq (g := g) (c := Int.tmod y.1 60) (p := 20) (q := 60) (by decide) hg (by decide) (by omega)
  exact ⟨h1, by omega, by omega⟩
theorem an_ok {g o : Int} {y : Int × Int × Int} (hg : -20 ≤ g ∧ g ≤ 20) (ho : -1000 ≤ o ∧ o ≤ 1000) (hy : LookOk y) : SpG g o (an g o y) := by
  obtain ⟨h1, h2, h3⟩ := an_b (o := o) (y := y) hg
  obtain ⟨_, k2, k3⟩ := hy
  refine ⟨?_, ?_, ?_, ?_, ?_⟩ <;> unfold an <;> dsimp only <;> omega
theorem un_enc_l (y : Int × Int × Int) : un_Ai28iu8iu8Z (enc_Ai28iu8iu8Z y) = some y := by simp [un_Ai28iu8iu8Z, enc_Ai28iu8iu8Z, un_int]
theorem an_loop {a0 a1 a3 a4 a5 a6 a7 a8 a9 a10 a11 : Int} (h0 : -32768 ≤ a0 ∧ a0 ≤ 32767) (h1 : -32768 ≤ a1 ∧ a1 ≤ 32767) (h9 : 0 ≤ a9 ∧ a9 ≤ 255) (l : List (Int × Int × Int)) (hy : ∀ y, y ∈ l → LookOk y) (hl : l.length < 1000) :
    loopF (F_top_TopAnvilMeasured_L1 5000 a0 a1 (l.map enc_Ai28iu8iu8Z) a3 a4 a5 a6 a7 a8 a9 a10 a11) 5000 (0, []) = some (.inr ((l.map (an (Int.tmod a0 21) (Int.tmod a1 1001))).map enc_Ai3Z)) := by
  have hw0 : IntKind.wrap .i64 a0 = a0 := wrap64 (by unfold inI64; omega)
  have hw1 : IntKind.wrap .i64 a1 = a1 := wrap64 (by unfold inI64; omega)
  have hw9 : IntKind.wrap .i64 a9 = a9 := wrap64 (by unfold inI64; omega)
  have hg := tmod_b a0 (m := 21) (by decide)
  have ho := tmod_b a1 (m := 1001) (by decide)
  rw [List.map_map, show l.map (enc_Ai3Z ∘ an (Int.tmod a0 21) (Int.tmod a1 1001)) = l.flatMap (fun y => [enc_Ai3Z (an (Int.tmod a0 21) (Int.tmod a1 1001) y)]) from (flat1 _ l).symm]
  refine loop_acc (E := Unit ⊕ List D) (fun out => .inr out) l (fun y => [enc_Ai3Z (an (Int.tmod a0 21) (Int.tmod a1 1001) y)]) (fun _ => Nat.le_refl _) (fun i out y hyi hio => ?_) (fun out _ => ?_) (by omega)
  · have hi := ixlt hyi
    have hb := hy y (List.mem_of_getElem? hyi)
    obtain ⟨p1, p2, p3⟩ := hb
    obtain ⟨k1, k2, k3⟩ := an_b (g := Int.tmod a0 21) (o := Int.tmod a1 1001) (y := y) (by omega)
    have w1 : IntKind.wrap .i64 y.1 = y.1 := wrap64 (by unfold inI64; omega)
    have w2 : IntKind.wrap .i64 y.2.1 = y.2.1 := wrap64 (by unfold inI64; omega)
    have w3 : IntKind.wrap .i64 y.2.2 = y.2.2 := wrap64 (by unfold inI64; omega)
    obtain ⟨G, q, v, r1, r2, r3, r4, r5, r6, r7, r8⟩ := reduced_hit (away := 100 + a9) (at' := Int.tmod a1 1001 + Int.tmod a0 21 * Int.tmod y.1 60) ⟨by omega, by omega, by omega, by omega⟩
    obtain ⟨n0, n1, n2, n3⟩ := r3
    have hcv : F_ref01_CheckVector 5000 q v 0 = some 0 := by
      unfold F_ref01_CheckVector
      rw [range_eq, Option.bind_some, range_eq, Option.bind_some, range_eq, Option.bind_some, inR0 (by omega) (by omega), inR0 (by omega) (by omega), inR0 (by decide) (by decide), refFirst3 (by omega)]
      rfl
    unfold F_top_TopAnvilMeasured_L1
    dsimp only
    rw [if_pos (lenlt hyi), el_enc un_enc_l hyi, Option.bind_some, hw0, hw1, hw9, w1, w2, w3, if_pos (by unfold inI64; omega), if_pos (by unfold inI64; omega), r7, Option.bind_some, if_pos rfl]
    dsimp only
    rw [hcv, Option.bind_some, if_pos rfl, if_neg (by omega), if_neg (by omega), r8, Option.bind_some]
    dsimp only
    rw [if_pos rfl, if_pos rfl, if_neg (by omega), if_neg (by omega), ← r6, if_pos (by unfold inI64; omega), if_pos rfl, if_pos (by unfold inI64; omega), if_pos (by unfold inI64; omega), if_pos (by unfold roomP; omega), if_pos (by unfold inI64; omega)]
    rfl
  · unfold F_top_TopAnvilMeasured_L1
    rw [if_neg notlt]

theorem fitted10 {t : List (Int × Int × Int)} {g o : Int} (h0 : 0 < t.length) (h1 : t.length ≤ 16) (hx : ∀ x, x ∈ t → SpG g o x) (hg : -100 ≤ g ∧ g ≤ 100) (ho : -10000 ≤ o ∧ o ≤ 10000) :
    F_drive_Fitted 5000 (t.map enc_Ai3Z) (g - 10) (g + 10) = some ((fitAll t (g - 10) (g + 10)).map enc_Ai3Z, 0) ∧ (0 < (fitAll t (g - 10) (g + 10)).length ∧ (fitAll t (g - 10) (g + 10)).length ≤ 64) ∧ modelE (fitAll t (g - 10) (g + 10)) = 0 ∧ (fitAll t (g - 10) (g + 10)).any (inB g o) = true := by
  obtain ⟨b, hb, hin⟩ := fitAll_pair (a1 := g - 10) (a2 := g + 10) hx ho (by omega) (by omega)
  have hpos : 0 < (fitAll t (g - 10) (g + 10)).length := List.length_pos_of_mem hb
  have hle : (fitAll t (g - 10) (g + 10)).length ≤ 64 := by
    unfold fitAll
    refine Nat.le_trans (flat_len (fun i => fit_len _ _) _) ?_
    rw [List.length_range]; omega
  refine ⟨?_, ⟨hpos, hle⟩, modelE0 hpos hle (fitAll_inc _ _ _) (fun b hb => fitAll_band (by omega) hb), List.any_eq_true.2 ⟨b, hb, hin⟩⟩
  have e : firstNZ [spotsE t, ivE (g - 10) (g + 10) (-1000) 1000] = 0 := by
    rw [spotsE0 h0 h1 (fun x h => (hx x h).ok), ivE0 (by omega) (by omega) (by omega)]; rfl
  rw [fitted_eq (Nat.le_refl _) (by omega), if_pos e]
  unfold fitE
  rw [if_neg (by omega), if_neg (by omega)]

/-- A refined model is hit, too. -/
theorem hit_ref {a2 a4 a5 t0 t1 m : Int} {A : List (Int × Int × Int)} {x : Int × Int × Int} (hA : A ≠ []) (hB : refAll A x ≠ []) (h : hitE a2 a4 a5 A t0 t1 m = true) : hitE a2 a4 a5 (refAll A x) t0 t1 m = true := by
  rw [hitE_iff hB]
  intro b' hb'
  unfold refAll at hb'
  obtain ⟨b, hb, hb2⟩ := List.mem_flatMap.1 hb'
  unfold refOne at hb2
  split at hb2
  · rw [List.mem_singleton] at hb2
    subst hb2
    have q := (hitE_iff hA).1 h b hb
    have p := perm_less b x
    unfold loB hiB at q
    constructor
    · show t0 ≤ (permE b x).2.1 + minI (b.1 * leftE m a2 a4) (b.1 * leftE m a2 a5)
      omega
    · show (permE b x).2.2 + maxI (b.1 * leftE m a2 a4) (b.1 * leftE m a2 a5) ≤ t1
      omega
  · cases hb2
/-- ... by each pair that the model has. -/
theorem hit_pair {a2 a4 a5 t0 t1 m g o : Int} {A : List (Int × Int × Int)} (hA : A ≠ []) (h : hitE a2 a4 a5 A t0 t1 m = true) (hp : A.any (inB g o) = true) :
    (t0 ≤ o + g * leftE m a2 a4 ∧ o + g * leftE m a2 a4 ≤ t1) ∧ t0 ≤ o + g * leftE m a2 a5 ∧ o + g * leftE m a2 a5 ≤ t1 := by
  obtain ⟨b, hb, hin⟩ := List.any_eq_true.1 hp
  obtain ⟨e, q1, q2⟩ := of_decide_eq_true hin
  have q := (hitE_iff hA).1 h b hb
  unfold loB hiB at q
  rw [e] at q
  have m1 : minI (g * leftE m a2 a4) (g * leftE m a2 a5) ≤ g * leftE m a2 a4 ∧ minI (g * leftE m a2 a4) (g * leftE m a2 a5) ≤ g * leftE m a2 a5 := by unfold minI; constructor <;> split <;> omega
  have m2 : g * leftE m a2 a4 ≤ maxI (g * leftE m a2 a4) (g * leftE m a2 a5) ∧ g * leftE m a2 a5 ≤ maxI (g * leftE m a2 a4) (g * leftE m a2 a5) := by unfold maxI; constructor <;> split <;> omega
  omega
theorem moved1 {k : Nat} (hk : 1000 ≤ k) {a0 a1 a2 a3 a4 a5 c : Int} (hS : stateE a0 a1 a2 a3 a4 a5 = 0) (h1 : a0 ≤ c) (h2 : c ≤ a1) :
    F_drive_Moved (k + 2) a0 a1 a2 a3 a4 a5 [I (c - a3)] = some (c, leftE c a2 a4, leftE c a2 a5, 0) := by
  obtain ⟨⟨l0, l1, l2, p0, p1⟩, m0, m1⟩ := stateE_zero hS
  have k1 : F_drive_Moved_L1 (k + 2) [I (c - a3)] (0, a0, a1, a2, a3, a4, a5) = some (.inl (1, a0, a1, a2, c, leftE c a2 a4, leftE c a2 a5)) := by
    unfold F_drive_Moved_L1
    dsimp only
    rw [if_pos (show (0 : Int) < (([I (c - a3)] : List D).length : Int) by simp), show el un_i [I (c - a3)] 0 = some (c - a3) from rfl, Option.bind_some, if_pos (by unfold inI64; omega), if_neg (by omega), if_pos (by unfold inI64; omega), if_neg (by omega), if_pos (by unfold inI64; omega)]
    unfold F_drive_posed_at
    rw [show a3 + (c - a3) = c by omega, if_pos (by unfold inI64; omega), Option.bind_some]
    rfl
  have k2 : F_drive_Moved_L1 (k + 2) [I (c - a3)] (1, a0, a1, a2, c, leftE c a2 a4, leftE c a2 a5) = some (.inr (.inr (a0, a1, a2, c, leftE c a2 a4, leftE c a2 a5))) := by
    unfold F_drive_Moved_L1
    rw [if_neg (show ¬ (1 : Int) < (([I (c - a3)] : List D).length : Int) by simp)]
  have hl : loopF (F_drive_Moved_L1 (k + 2) [I (c - a3)]) (k + 1 + 1) (0, a0, a1, a2, a3, a4, a5) = some (.inr (a0, a1, a2, c, leftE c a2 a4, leftE c a2 a5)) := by
    rw [loopF_l k1, loopF_r k2]
  unfold F_drive_Moved
  rw [posed_eq (by omega), hS, Option.bind_some, when_eq, Option.bind_some, show decide (((([I (c - a3)] : List D).length : Nat) : Int) > 256) = false from rfl, whenI_false, first2 (by omega), Option.bind_some, if_pos (by rfl)]
  rw [show k + 2 = k + 1 + 1 from rfl] at hl ⊢
  rw [hl]
  rfl
theorem isNil_map {α : Type} {f : α → D} {l : List α} (h : 0 < l.length) : isNilL (l.map f) = false := by
  cases l with
  | nil => simp at h
  | cons x l => rfl

theorem law_TopAnvilMeasured {a0 a1 a3 a4 a5 a6 a7 a8 a9 a10 a11 : Int} {l : List (Int × Int × Int)} (h0 : -32768 ≤ a0 ∧ a0 ≤ 32767) (h1 : -32768 ≤ a1 ∧ a1 ≤ 32767) (hy : ∀ y, y ∈ l → LookOk y) (h9 : 0 ≤ a9 ∧ a9 ≤ 255) (h10 : 0 ≤ a10 ∧ a10 ≤ 65535) (h11 : 0 ≤ a11 ∧ a11 ≤ 65535) :
    F_top_TopAnvilMeasured 5000 a0 a1 (l.map enc_Ai28iu8iu8Z) a3 a4 a5 a6 a7 a8 a9 a10 a11 = some true := by
  unfold F_top_TopAnvilMeasured
  rw [pair_awake, List.length_map]
  by_cases hl1 : (l.length : Int) < 2
  · rw [if_pos hl1]; rfl
  rw [if_neg hl1]
  by_cases hl2 : (l.length : Int) > 6
  · rw [if_pos hl2]; rfl
  rw [if_neg hl2, refState_eq (by omega), Option.bind_some]
  by_cases hS : stateE a3 a4 a5 a6 a7 a8 = 0
  case neg => rw [if_neg hS]; rfl
  obtain ⟨⟨l0, l1, l2, p0, p1⟩, m0, m1⟩ := stateE_zero hS
  have hw0 : IntKind.wrap .i64 a0 = a0 := wrap64 (by unfold inI64; omega)
  have hw1 : IntKind.wrap .i64 a1 = a1 := wrap64 (by unfold inI64; omega)
  have hw9 : IntKind.wrap .i64 a9 = a9 := wrap64 (by unfold inI64; omega)
  have hw10 : IntKind.wrap .i64 a10 = a10 := wrap64 (by unfold inI64; omega)
  have hw11 : IntKind.wrap .i64 a11 = a11 := wrap64 (by unfold inI64; omega)
  have hg := tmod_b a0 (m := 21) (by decide)
  have ho := tmod_b a1 (m := 1001) (by decide)
  have hsx : ∀ x, x ∈ l.map (an (Int.tmod a0 21) (Int.tmod a1 1001)) → SpG (Int.tmod a0 21) (Int.tmod a1 1001) x := by
    intro x hx
    obtain ⟨y, hyl, rfl⟩ := List.mem_map.1 hx
    exact an_ok (by omega) (by omega) (hy y hyl)
  have hlen : (l.map (an (Int.tmod a0 21) (Int.tmod a1 1001))).length = l.length := List.length_map ..
  rw [if_pos hS, hw9, if_pos (by unfold inI64; omega), an_loop h0 h1 h9 l hy (by omega), Option.bind_some, hw0, hw1, hw10, hw11]
  dsimp only
  generalize Int.tmod a0 21 = g at *
  generalize Int.tmod a1 1001 = o at *
  generalize l.map (an g o) = xs at *
  rw [← hlen] at hl1 hl2
  clear hy hlen
  have hlast := List.getElem?_eq_getElem (show xs.length - 1 < xs.length by omega)
  have hlm : (xs[xs.length - 1]'(by omega)) ∈ xs := List.getElem_mem _
  have hsplit : ∀ g', fitOne xs g' = (fitOne (xs.take (xs.length - 1)) g').flatMap (refOne (xs[xs.length - 1]'(by omega))) := by
    intro g'
    rw [← fitOne_snoc]
    congr 1
    have := List.take_append_drop (xs.length - 1) xs
    rw [List.drop_eq_getElem_cons (show xs.length - 1 < xs.length by omega), List.drop_eq_nil_of_le (by omega)] at this
    exact this.symm
  generalize xs[xs.length - 1]'(by omega) = last at *
  have hB := fitAll_ref hsplit (g - 10) (g + 10)
  have hts : ∀ x, x ∈ xs.take (xs.length - 1) → SpG g o x := fun x hx => hsx x (List.mem_of_mem_take hx)
  obtain ⟨fA, ⟨lA0, lA1⟩, mA, anA⟩ := fitted10 (t := xs.take (xs.length - 1)) (g := g) (o := o) (by rw [List.length_take]; omega) (by rw [List.length_take]; omega) hts (by omega) (by omega)
  obtain ⟨_, ⟨lB0, lB1⟩, mB, anB⟩ := fitted10 (t := xs) (g := g) (o := o) (by omega) (by omega) hsx (by omega) (by omega)
  have hso := spotT0 (hsx last hlm).ok
  have hR := refined_eq (n := 5000) (by omega) (fitAll (xs.take (xs.length - 1)) (g - 10) (g + 10)) last (by omega)
  have hfr : fullRef (fitAll (xs.take (xs.length - 1)) (g - 10) (g + 10)) last = (fitAll xs (g - 10) (g + 10), 0) := by
    unfold fullRef refinE
    rw [mA, hso, hB, if_pos (by rfl), if_neg (by omega)]
  rw [hfr] at hR
  have htl : (xs.take (xs.length - 1)).length = xs.length - 1 := by rw [List.length_take]; omega
  have htn := isNil_map (f := enc_Ai3Z) (l := xs.take (xs.length - 1)) (by omega)
  generalize fitAll (xs.take (xs.length - 1)) (g - 10) (g + 10) = A at *
  generalize fitAll xs (g - 10) (g + 10) = B at *
  have hAne : A ≠ [] := fun e => by rw [e] at lA0; simp at lA0
  have hBne : B ≠ [] := fun e => by rw [e] at lB0; simp at lB0
  have hHA : hasE A g o = (true, 0) := by
    unfold hasE
    rw [mA, inR0 (by omega) (by omega), inR0 (by omega) (by omega), if_pos (by rfl), anA]
  have hHB : hasE B g o = (true, 0) := by
    unfold hasE
    rw [mB, inR0 (by omega) (by omega), inR0 (by omega) (by omega), if_pos (by rfl), anB]
  have cA := has_eq (n := 5000) (by omega) A (by omega) g o
  have cB := has_eq (n := 5000) (by omega) B (by omega) g o
  rw [hHA] at cA; rw [hHB] at cB
  have nA := isNil_map (f := enc_Ai3Z) (l := A) lA0
  have nB := isNil_map (f := enc_Ai3Z) (l := B) lB0
  have hel : el un_Ai3Z (xs.map enc_Ai3Z) ((xs.length : Int) - 1) = some last := by
    rw [show (xs.length : Int) - 1 = ((xs.length - 1 : Nat) : Int) by omega]
    exact el_enc un3 hlast
  have htk : ((xs.map enc_Ai3Z).take (Int.toNat ((xs.length : Int) - 1))).drop (Int.toNat 0) = (xs.take (xs.length - 1)).map enc_Ai3Z := by
    rw [show Int.toNat ((xs.length : Int) - 1) = xs.length - 1 by omega, show Int.toNat 0 = 0 from rfl, List.drop_zero, List.map_take]
  have htm := tmod_b a10 (m := a4 - a3 + 1) (by omega)
  have htm0 := Int.tmod_nonneg (a := a10) (a4 - a3 + 1) h10.1
  generalize Int.tmod a10 (a4 - a3 + 1) = s at *
  have hgs := mul_pq (g := g) (c := a3 + s) (p := 20) (q := 1000) (by decide) (by omega) (by decide) (by omega)
  generalize hgo : o + g * (a3 + s) = goal at *
  have hT : ivE (goal - a11) (goal + a11) (-4294967296) 4294967296 = 0 := ivE0 (by omega) (by omega) (by omega)
  have hall : ∀ M, modelE M = 0 → allE a3 a4 a5 a6 a7 a8 M (goal - a11) (goal + a11) = 0 := by
    intro M hM
    unfold allE
    rw [hS, hM, hT]; rfl
  have iA := dInverted_eq (n := 5000) (Nat.le_refl _) a3 a4 a5 a6 a7 a8 A (goal - a11) (goal + a11) (by omega)
  rw [if_pos (hall A mA)] at iA
  have hbest := nearR_best (a0 := a3) (a1 := a4) (a3 := a6) (hit := hitE a5 a7 a8 A (goal - a11) (goal + a11))
  generalize nearR a3 a4 a6 (hitE a5 a7 a8 A (goal - a11) (goal + a11)) = R at *
  rw [List.length_map, if_pos (by unfold inI64; omega), if_pos (by unfold inI64; omega), if_pos (by unfold inI64; omega), if_pos ⟨Int.le_refl _, by omega, by omega, .inr rfl⟩, htk, if_pos (by unfold roomP; rw [List.length_map]; omega), if_pos htn, fA, Option.bind_some, if_pos rfl]
  dsimp only
  rw [if_pos (by unfold roomP; rw [List.length_map]; omega), if_pos nA, cA, Option.bind_some, hel, Option.bind_some, hR, Option.bind_some]
  dsimp only
  rw [if_pos rfl, if_pos rfl, if_pos rfl, if_pos (by unfold roomP; rw [List.length_map]; omega), if_pos nB, cB, Option.bind_some]
  dsimp only
  rw [if_pos rfl, if_pos rfl, if_pos (by unfold inI64; omega), if_pos (by unfold inI64; omega), if_pos (by omega), if_pos (by unfold inI64; omega), if_pos (by unfold inI64; omega), if_pos (by unfold inI64; omega), if_pos (by unfold inI64; omega), if_pos (by unfold inI64; omega), iA, Option.bind_some]
  unfold nearE
  by_cases hf : R.2 = true
  case neg => rw [if_neg hf]; dsimp only; rw [if_pos rfl]; rfl
  obtain ⟨⟨i, i1, i2⟩, hhit, _⟩ := hbest.2 hf
  rw [if_pos hf]
  dsimp only
  have c1 : a3 ≤ R.1 := by omega
  have c2 : R.1 ≤ a4 := by omega
  have hhB : hitE a5 a7 a8 B (goal - a11) (goal + a11) R.1 = true := by rw [← hB]; exact hit_ref hAne (by rw [hB]; exact hBne) hhit
  have iB := dCheckInverted_eq (n := 5000) (Nat.le_refl _) a3 a4 a5 a6 a7 a8 B (goal - a11) (goal + a11) R.1 (by omega)
  rw [if_pos (hall B mB), if_pos (inR0 c1 c2), if_pos hhB] at iB
  have mv := moved1 (k := 4998) (by decide) hS c1 c2
  have hpr := hit_pair hAne hhit anA
  have hre := of_decide_eq_true hhB
  have b1 := leftE_b (motor := R.1) (play := a5) (m := a7) (by omega) ⟨p0, p1⟩
  have b2 := leftE_b (motor := R.1) (play := a5) (m := a8) (by omega) ⟨p0, p1⟩
  have g1 := mul_pq (g := g) (c := leftE R.1 a5 a7) (p := 20) (q := 1100) (by decide) (by omega) (by decide) b1
  have g2 := mul_pq (g := g) (c := leftE R.1 a5 a8) (p := 20) (q := 1100) (by decide) (by omega) (by decide) b2
  rw [if_neg (by decide), if_pos rfl, if_neg (by omega), if_neg (by omega), iB, Option.bind_some, if_pos (by unfold inI64; omega), mv, Option.bind_some]
  dsimp only
  rw [if_pos rfl, if_pos rfl, if_neg (by omega), if_neg (by omega), if_pos (by unfold inI64; omega), if_pos (by unfold inI64; omega), if_neg (by omega), if_neg (by omega), if_pos (by unfold inI64; omega), if_pos (by unfold inI64; omega), if_neg (by omega), if_neg (by omega)]
  rfl
end Go.Proofs.YtegcijomjkffgaaDoor
