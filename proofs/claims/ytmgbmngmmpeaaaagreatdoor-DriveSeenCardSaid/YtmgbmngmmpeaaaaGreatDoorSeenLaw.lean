/-
  The law DriveSeen holds: spots that one gain and one offset lie within leave that pair in the fitted and in the refined model. An own text.
-/
import Derived.Test.YtmgbmngmmpeaaaaGreatDoorSeen2
import Derived.Test.YtmgbmngmmpeaaaaGreatDoorPairsLaw
import Derived.Test.YtmgbmngmmpeaaaaGreatDoorCom4
set_option linter.unusedVariables false
set_option linter.unusedSimpArgs false
set_option linter.unnecessarySimpa false
set_option maxRecDepth 20000
namespace Go.Proofs.YtmgbmngmmpeaaaaGreatDoor
open Go.SX

theorem tmod_b (a : Int) {m : Int} (hm : 0 < m) : -m < Int.tmod a m ∧ Int.tmod a m < m := ⟨Int.lt_tmod_of_pos a hm, Int.tmod_lt_of_pos a hm⟩
theorem mul_c {g c p q : Int} (hp : 0 ≤ p) (hg : -p ≤ g ∧ g ≤ p) (hq : 0 ≤ q) (hc : -q ≤ c ∧ c ≤ q) : -(p * q) ≤ g * c ∧ g * c ≤ p * q := by
  have h := Int.natAbs_mul g c
  have h1 : g.natAbs * c.natAbs ≤ p.natAbs * q.natAbs := Nat.mul_le_mul (by omega) (by omega)
  have h2 := Int.natAbs_mul p q
  have h3 : 0 ≤ p * q := Int.mul_nonneg hp hq
  omega
theorem inR0 {x a b : Int} (h1 : a ≤ x) (h2 : x ≤ b) : inR x a b = 0 := by unfold inR; rw [if_neg (by omega), if_neg (by omega)]
theorem ivE0 {lo hi a b : Int} (h1 : a ≤ lo) (h2 : lo ≤ hi) (h3 : hi ≤ b) : ivE lo hi a b = 0 := by
  unfold ivE
  rw [inR0 h1 (by omega), inR0 (by omega) h3, decide_eq_false (by omega)]
  rfl
theorem firstNZ0 : ∀ {l : List Int}, (∀ x, x ∈ l → x = 0) → firstNZ l = 0
  | [], _ => rfl
  | x :: l, h => by
    rw [firstNZ_cons, if_pos (h x List.mem_cons_self)]
    exact firstNZ0 fun y hy => h y (List.mem_cons_of_mem _ hy)
theorem spotT0 {x : Int × Int × Int} (h : SpotOk x) : spotT x = 0 := by
  unfold spotT spotE
  rw [inR0 h.c.1 h.c.2, ivE0 h.l h.m h.h]
  rfl
theorem spotsE0 {l : List (Int × Int × Int)} (h0 : 0 < l.length) (h1 : l.length ≤ 16) (h : ∀ x, x ∈ l → SpotOk x) : spotsE l = 0 := by
  unfold spotsE
  rw [if_neg (by omega), if_neg (by omega)]
  refine firstNZ0 fun e he => ?_
  obtain ⟨x, hx, rfl⟩ := List.mem_map.1 he
  exact spotT0 (h x hx)
theorem bandE0 {last : Int} {b : Int × Int × Int} (h : BandOk b) (hl : last < b.1) : bandE last b = 0 := by
  obtain ⟨h1, h2, h3, h4⟩ := h
  unfold bandE
  rw [inR0 h1.1 h1.2, ivE0 h2 h3 h4, decide_eq_false (by omega)]
  rfl
theorem modelRun0 : ∀ (l : List (Int × Int × Int)) (last : Int), (∀ b, b ∈ l → last < b.1) → l.Pairwise (fun a b => a.1 < b.1) → (∀ b, b ∈ l → BandOk b) → runL modelG (fun _ => .inr ()) l last = .inr ()
  | [], _, _, _, _ => rfl
  | c :: l, last, h, hp, hb => by
    have hp' := List.pairwise_cons.1 hp
    unfold runL
    have hg : modelG last c = .inl c.1 := by unfold modelG; rw [if_pos (bandE0 (hb c List.mem_cons_self) (h c List.mem_cons_self))]
    rw [hg]
    exact modelRun0 l c.1 hp'.1 hp'.2 fun b hx => hb b (List.mem_cons_of_mem _ hx)
theorem modelE0 {l : List (Int × Int × Int)} (h0 : 0 < l.length) (h1 : l.length ≤ 64) (hp : l.Pairwise (fun a b => a.1 < b.1)) (hb : ∀ b, b ∈ l → BandOk b) : modelE l = 0 := by
  unfold modelE
  rw [if_neg (by omega), if_neg (by omega), modelRun0 l _ (fun b hx => by have := (hb b hx).1; omega) hp hb]
  rfl

/-! A spot that the pair lies within. -/
structure SpG (g o : Int) (x : Int × Int × Int) : Prop where
  c : -500 ≤ x.1 ∧ x.1 ≤ 500
  l : x.2.1 ≤ o + g * x.1
  h : o + g * x.1 ≤ x.2.2
  a : -61000 ≤ x.2.1
  b : x.2.2 ≤ 61000
theorem SpG.ok {g o : Int} {x : Int × Int × Int} (h : SpG g o x) : SpotOk x := ⟨by have := h.c; omega, by have := h.a; omega, by have := h.l; have := h.h; omega, by have := h.b; omega⟩
def sp (g o : Int) (y : Int × Int × Int) : Int × Int × Int := (Int.tmod y.1 501, o + g * Int.tmod y.1 501 - Int.tmod y.2.1 128, o + g * Int.tmod y.1 501 + Int.tmod y.2.2 128)
theorem sp_ok {g o : Int} {y : Int × Int × Int} (hg : -100 ≤ g ∧ g ≤ 100) (ho : -10000 ≤ o ∧ o ≤ 10000) (hy : (-32768 ≤ y.1 ∧ y.1 ≤ 32767) ∧ (0 ≤ y.2.1 ∧ y.2.1 ≤ 255) ∧ (0 ≤ y.2.2 ∧ y.2.2 ≤ 255)) : SpG g o (sp g o y) := by
  have h1 := tmod_b y.1 (m := 501) (by decide)
  have h2 := tmod_b y.2.1 (m := 128) (by decide)
  have h3 := tmod_b y.2.2 (m := 128) (by decide)
  have h4 := Int.tmod_nonneg (a := y.2.1) 128 hy.2.1.1
  have h5 := Int.tmod_nonneg (a := y.2.2) 128 hy.2.2.1
  have h6 := mul_c (g := g) (c := Int.tmod y.1 501) (p := 100) (q := 500) (by decide) hg (by decide) (by omega)
  refine ⟨?_, ?_, ?_, ?_, ?_⟩ <;> unfold sp <;> dsimp only <;> omega

/-! What is left of a gain behind several spots. -/
theorem foldP_in (v : Int) : ∀ (xs : List (Int × Int × Int)) (b : Int × Int × Int), ((foldP b xs).2.1 ≤ v ∧ v ≤ (foldP b xs).2.2) ↔ (b.2.1 ≤ v ∧ v ≤ b.2.2) ∧ ∀ x, x ∈ xs → x.2.1 ≤ v + b.1 * x.1 ∧ v + b.1 * x.1 ≤ x.2.2
  | [], b => ⟨fun h => ⟨h, fun x hx => (by cases hx)⟩, fun h => h.1⟩
  | x :: xs, b => by
    have ih := foldP_in v xs (permE b x)
    have hx : ((permE b x).2.1 ≤ v ∧ v ≤ (permE b x).2.2) ↔ (b.2.1 ≤ v ∧ v ≤ b.2.2) ∧ (x.2.1 ≤ v + b.1 * x.1 ∧ v + b.1 * x.1 ≤ x.2.2) := by
      show (maxI b.2.1 (x.2.1 - b.1 * x.1) ≤ v ∧ v ≤ minI b.2.2 (x.2.2 - b.1 * x.1)) ↔ _
      unfold maxI minI
      (repeat' split) <;> omega
    show ((foldP (permE b x) xs).2.1 ≤ v ∧ v ≤ (foldP (permE b x) xs).2.2) ↔ _
    rw [ih, hx, List.forall_mem_cons]
    constructor
    · intro h; exact ⟨h.1.1, h.1.2, h.2⟩
    · intro h; exact ⟨⟨h.1, h.2.1⟩, h.2.2⟩
theorem foldP_snoc (b : Int × Int × Int) (xs : List (Int × Int × Int)) (x : Int × Int × Int) : foldP b (xs ++ [x]) = permE (foldP b xs) x := by
  unfold foldP; rw [List.foldl_append]; rfl
theorem perm_less (b x : Int × Int × Int) : b.2.1 ≤ (permE b x).2.1 ∧ (permE b x).2.2 ≤ b.2.2 := foldP_less [x] b
theorem perm_twice (b x : Int × Int × Int) : permE (permE b x) x = permE b x := by
  have h1 : maxI (maxI b.2.1 (x.2.1 - b.1 * x.1)) (x.2.1 - b.1 * x.1) = maxI b.2.1 (x.2.1 - b.1 * x.1) := by unfold maxI; (repeat' split) <;> omega
  have h2 : minI (minI b.2.2 (x.2.2 - b.1 * x.1)) (x.2.2 - b.1 * x.1) = minI b.2.2 (x.2.2 - b.1 * x.1) := by unfold minI; (repeat' split) <;> omega
  show (b.1, maxI (maxI b.2.1 (x.2.1 - b.1 * x.1)) (x.2.1 - b.1 * x.1), minI (minI b.2.2 (x.2.2 - b.1 * x.1)) (x.2.2 - b.1 * x.1)) = _
  rw [h1, h2]; rfl
theorem fitOne_snoc (xs : List (Int × Int × Int)) (x : Int × Int × Int) (g : Int) : fitOne (xs ++ [x]) g = (fitOne xs g).flatMap (refOne x) := by
  unfold fitOne
  rw [foldP_snoc]
  by_cases h : (foldP (g, -2000000, 2000000) xs).2.1 ≤ (foldP (g, -2000000, 2000000) xs).2.2
  · rw [if_pos h]
    show _ = refOne x _ ++ []
    rw [List.append_nil]; rfl
  · have := perm_less (foldP (g, -2000000, 2000000) xs) x
    rw [if_neg h, if_neg (by omega)]; rfl
theorem fitOne_twice (x : Int × Int × Int) (g : Int) : fitOne [x] g = (fitOne [x] g).flatMap (refOne x) := by
  unfold fitOne
  show (if (permE (g, -2000000, 2000000) x).2.1 ≤ (permE (g, -2000000, 2000000) x).2.2 then [permE (g, -2000000, 2000000) x] else []) = (if (permE (g, -2000000, 2000000) x).2.1 ≤ (permE (g, -2000000, 2000000) x).2.2 then [permE (g, -2000000, 2000000) x] else []).flatMap (refOne x)
  by_cases h : (permE (g, -2000000, 2000000) x).2.1 ≤ (permE (g, -2000000, 2000000) x).2.2
  · rw [if_pos h]
    show _ = refOne x _ ++ []
    rw [List.append_nil]
    unfold refOne
    rw [perm_twice, if_pos h]
  · rw [if_neg h]; rfl
theorem fitAll_ref {t xs : List (Int × Int × Int)} {x : Int × Int × Int} (h : ∀ g, fitOne xs g = (fitOne t g).flatMap (refOne x)) (a1 a2 : Int) : refAll (fitAll t a1 a2) x = fitAll xs a1 a2 := by
  unfold refAll fitAll
  rw [List.flatMap_assoc]
  congr 1
  funext i
  exact (h _).symm
theorem fitOne_mem {xs : List (Int × Int × Int)} {g : Int} {b : Int × Int × Int} (h : b ∈ fitOne xs g) : b = foldP (g, -2000000, 2000000) xs ∧ b.2.1 ≤ b.2.2 := by
  unfold fitOne at h
  split at h
  · rename_i hq
    rw [List.mem_singleton] at h
    rw [h]; exact ⟨rfl, hq⟩
  · cases h
theorem flat_len {α β : Type} {f : α → List β} (hf : ∀ x, (f x).length ≤ 1) : ∀ l : List α, (l.flatMap f).length ≤ l.length
  | [] => Nat.le_refl _
  | x :: l => by
    rw [List.flatMap_cons, List.length_append, List.length_cons]
    have := hf x; have := flat_len hf l
    omega
theorem fitAll_mem {xs : List (Int × Int × Int)} {a1 a2 : Int} {b : Int × Int × Int} (h : b ∈ fitAll xs a1 a2) : (a1 ≤ b.1 ∧ b.1 ≤ a2) ∧ b = foldP (b.1, -2000000, 2000000) xs ∧ b.2.1 ≤ b.2.2 := by
  unfold fitAll at h
  obtain ⟨i, hi, hb⟩ := List.mem_flatMap.1 h
  have hi' := List.mem_range.1 hi
  obtain ⟨h1, h2⟩ := fitOne_mem hb
  have hg : b.1 = a1 + (i : Int) := by rw [h1]; exact foldP_gain xs _
  exact ⟨by omega, by rw [hg]; exact h1, h2⟩
theorem fitAll_inc (xs : List (Int × Int × Int)) (a1 a2 : Int) : (fitAll xs a1 a2).Pairwise (fun a b => a.1 < b.1) := by
  unfold fitAll
  rw [List.pairwise_flatMap]
  refine ⟨fun i _ => ?_, ?_⟩
  · unfold fitOne
    split
    · exact List.pairwise_singleton _ _
    · exact .nil
  · refine List.Pairwise.imp ?_ List.pairwise_lt_range
    intro i j hij x hx y hy
    have h1 : x.1 = a1 + (i : Int) := by rw [(fitOne_mem hx).1]; exact foldP_gain xs _
    have h2 : y.1 = a1 + (j : Int) := by rw [(fitOne_mem hy).1]; exact foldP_gain xs _
    omega
theorem fitAll_band {xs : List (Int × Int × Int)} {a1 a2 : Int} (ha : -1000 ≤ a1 ∧ a2 ≤ 1000) {b : Int × Int × Int} (h : b ∈ fitAll xs a1 a2) : BandOk b := by
  obtain ⟨h1, h2, h3⟩ := fitAll_mem h
  have := foldP_less xs (b.1, -2000000, 2000000)
  rw [← h2] at this
  exact ⟨by omega, this.1, h3, this.2⟩
theorem fitAll_pair {xs : List (Int × Int × Int)} {g o a1 a2 : Int} (hx : ∀ x, x ∈ xs → SpG g o x) (ho : -10000 ≤ o ∧ o ≤ 10000) (h1 : a1 ≤ g) (h2 : g ≤ a2) : ∃ b, b ∈ fitAll xs a1 a2 ∧ inB g o b = true := by
  have hin := (foldP_in o xs (g, -2000000, 2000000)).2 ⟨by show (-2000000 : Int) ≤ o ∧ o ≤ 2000000; omega, fun x h => ⟨(hx x h).l, (hx x h).h⟩⟩
  refine ⟨foldP (g, -2000000, 2000000) xs, ?_, ?_⟩
  · unfold fitAll
    refine List.mem_flatMap.2 ⟨(g - a1).toNat, List.mem_range.2 (by omega), ?_⟩
    have e : a1 + ((g - a1).toNat : Int) = g := by omega
    rw [e]
    unfold fitOne
    rw [if_pos (by omega)]
    exact List.mem_singleton.2 rfl
  · unfold inB
    exact decide_eq_true ⟨foldP_gain xs _, hin.1, hin.2⟩

theorem pairsE_mono : ∀ (l : List (Int × Int × Int)) (x : Int × Int × Int) (s s' : Int), s ≤ s' → (∀ b, b ∈ l → BandOk b) → pairsE (refAll l x) s ≤ pairsE l s'
  | [], _, s, s', h, _ => h
  | b :: l, x, s, s', h, hb => by
    have hq := perm_less b x
    obtain ⟨_, _, hlh, _⟩ := hb b List.mem_cons_self
    have hb' : ∀ c, c ∈ l → BandOk c := fun c hc => hb c (List.mem_cons_of_mem _ hc)
    show pairsE ((b :: l).flatMap (refOne x)) s ≤ pairsE l (s' + (b.2.2 - b.2.1 + 1))
    rw [List.flatMap_cons]
    unfold refOne
    by_cases hn : (permE b x).2.1 ≤ (permE b x).2.2
    · rw [if_pos hn]
      exact pairsE_mono l x (s + ((permE b x).2.2 - (permE b x).2.1 + 1)) _ (by omega) hb'
    · rw [if_neg hn]
      exact pairsE_mono l x s _ (by omega) hb'

/-! Whether spots permit a pair. -/
def probeStep (xs : List D) (g v : Int) (sb : Bool × Int) : Option (((Bool × Int)) ⊕ ((Bool))) :=
  if sb.2 < ((xs).length : Int) then
    (el un_Ai3Z xs sb.2).bind fun tb2 =>
    if inI64 (g * tb2.1) then
    if inI64 (v + (g * tb2.1)) then
    if sb.1 = true then
      if (v + (g * tb2.1)) ≥ tb2.2.1 then
        if inI64 (sb.2 + 1) then
        some (.inl ((decide ((v + (g * tb2.1)) ≤ tb2.2.2)), (sb.2 + 1)))
        else none
      else
      if inI64 (sb.2 + 1) then
      some (.inl (false, (sb.2 + 1)))
      else none
    else
    if inI64 (sb.2 + 1) then
    some (.inl (false, (sb.2 + 1)))
    else none
    else none
    else none
  else
  some (.inr sb.1)
def permits (g v : Int) (x : Int × Int × Int) : Bool := decide (x.2.1 ≤ v + g * x.1 ∧ v + g * x.1 ≤ x.2.2)
theorem probe_eq {g v : Int} {xs : List (Int × Int × Int)} (hg : -1000 ≤ g ∧ g ≤ 1000) (hv : -3000000 ≤ v ∧ v ≤ 3000000) (hx : ∀ x, x ∈ xs → SpotOk x) (hl : xs.length < 1000) {k : Nat} (hk : xs.length < k) :
    loopF (probeStep (xs.map enc_Ai3Z) g v) k (true, 0) = some (xs.all (permits g v)) := by
  have := loopF_list0 (step := probeStep (xs.map enc_Ai3Z) g v) (E := Bool) (fun (s : Bool) x => .inl (s && permits g v x)) (fun s => s) (fun i s => (s, (i : Int))) xs (fun _ _ => True)
    (fun i s x hxi _ => by
      have hi := ixlt hxi
      have hxo := hx x (List.mem_of_getElem? hxi)
      have hm := mul_b hg hxo.c
      refine ⟨?_, trivial⟩
      have e : inI64 ((i : Int) + 1) := by unfold inI64; omega
      unfold probeStep
      dsimp only
      rw [if_pos (lenlt hxi), el_enc un3 hxi, Option.bind_some, if_pos (by unfold inI64; omega), if_pos (by unfold inI64; omega)]
      simp only [if_pos e]
      cases s with
      | false => rw [if_neg (by decide)]; rfl
      | true =>
        rw [if_pos rfl, Bool.true_and]
        unfold permits
        by_cases q : v + g * x.1 ≥ x.2.1
        · rw [if_pos q]
          by_cases q2 : v + g * x.1 ≤ x.2.2
          · rw [decide_eq_true q2, decide_eq_true ⟨q, q2⟩]; rfl
          · rw [decide_eq_false q2, decide_eq_false (fun h => q2 h.2)]; rfl
        · rw [if_neg q, decide_eq_false (fun h => q h.1)]; rfl)
    (fun s _ => by
      unfold probeStep
      rw [if_neg notlt])
    (k := k) (s := true) trivial hk
  have e : ∀ (l : List (Int × Int × Int)) (s : Bool), runL (E := Bool) (fun (s : Bool) x => .inl (s && permits g v x)) (fun s => s) l s = (s && l.all (permits g v)) := by
    intro l
    induction l with
    | nil => intro s; simp [runL]
    | cons x l ih =>
      intro s
      show runL (E := Bool) (fun (s : Bool) x => .inl (s && permits g v x)) (fun s => s) l (s && permits g v x) = _
      rw [ih, List.all_cons, Bool.and_assoc]
  rw [e, Bool.true_and] at this
  exact this
theorem permits_all {g v : Int} {xs : List (Int × Int × Int)} : xs.all (permits g v) = true ↔ ∀ x, x ∈ xs → x.2.1 ≤ v + g * x.1 ∧ v + g * x.1 ≤ x.2.2 := by
  rw [List.all_eq_true]
  constructor
  · intro h x hx; exact of_decide_eq_true (h x hx)
  · intro h x hx; exact decide_eq_true (h x hx)
theorem ends_tight {xs : List (Int × Int × Int)} {b : Int × Int × Int} {g o : Int} (h0 : 0 < xs.length) (hx : ∀ x, x ∈ xs → SpG g o x) (hg : -120 ≤ b.1 ∧ b.1 ≤ 120) (hb : b = foldP (b.1, -2000000, 2000000) xs) (hlh : b.2.1 ≤ b.2.2) :
    xs.all (permits b.1 (b.2.1 - 1)) = false ∧ xs.all (permits b.1 b.2.1) = true ∧ xs.all (permits b.1 b.2.2) = true ∧ xs.all (permits b.1 (b.2.2 + 1)) = false := by
  have hin : ∀ v, (b.2.1 ≤ v ∧ v ≤ b.2.2) ↔ ((-2000000 : Int) ≤ v ∧ v ≤ 2000000) ∧ ∀ x, x ∈ xs → x.2.1 ≤ v + b.1 * x.1 ∧ v + b.1 * x.1 ≤ x.2.2 := by
    intro v
    have := foldP_in v xs (b.1, -2000000, 2000000)
    rw [← hb] at this
    exact this
  have h1 := (hin b.2.1).1 ⟨Int.le_refl _, hlh⟩
  have h2 := (hin b.2.2).1 ⟨hlh, Int.le_refl _⟩
  have hx0 := hx xs[0] (List.getElem_mem h0)
  have k1 := h1.2 xs[0] (List.getElem_mem h0)
  have k2 := h2.2 xs[0] (List.getElem_mem h0)
  have hm := mul_c (g := b.1) (c := xs[0].1) (p := 120) (q := 500) (by decide) hg (by decide) hx0.c
  have := hx0.a; have := hx0.b; have := hx0.l; have := hx0.h
  refine ⟨?_, permits_all.2 h1.2, permits_all.2 h2.2, ?_⟩
  · cases hq : xs.all (permits b.1 (b.2.1 - 1)) with
    | false => rfl
    | true =>
      have := (hin (b.2.1 - 1)).2 ⟨by omega, permits_all.1 hq⟩
      omega
  · cases hq : xs.all (permits b.1 (b.2.2 + 1)) with
    | false => rfl
    | true =>
      have := (hin (b.2.2 + 1)).2 ⟨by omega, permits_all.1 hq⟩
      omega
theorem tight_loop {n : Nat} {xs B : List (Int × Int × Int)} {e g o : Int} (h0 : 0 < xs.length) (hl : xs.length < 1000) (hn : 1000 ≤ n) (hx : ∀ x, x ∈ xs → SpG g o x) (hB : B.length < 1000) (hb : ∀ b, b ∈ B → (-120 ≤ b.1 ∧ b.1 ≤ 120) ∧ b = foldP (b.1, -2000000, 2000000) xs ∧ BandOk b) :
    loopF (F_law03_DriveSeen_L10 n (xs.map enc_Ai3Z) (B.map enc_Ai3Z, e)) n 0 = some (.inr ()) := by
  have := loopF_list0 (step := F_law03_DriveSeen_L10 n (xs.map enc_Ai3Z) (B.map enc_Ai3Z, e)) (E := Unit ⊕ Unit) (fun (_ : Unit) (_ : Int × Int × Int) => .inl ()) (fun _ => .inr ()) (fun i _ => (i : Int)) B (fun _ _ => True)
    (fun i s b hbi _ => by
      have hi := ixlt hbi
      obtain ⟨q1, q2, q3⟩ := hb b (List.mem_of_getElem? hbi)
      obtain ⟨r1, r2, r3, r4⟩ := q3
      refine ⟨?_, trivial⟩
      have hxo : ∀ x, x ∈ xs → SpotOk x := fun x h => (hx x h).ok
      obtain ⟨t1, t2, t3, t4⟩ := ends_tight h0 hx q1 q2 r3
      have p1 := probe_eq (g := b.1) (v := b.2.1 - 1) (by omega) (by omega) hxo hl (k := n) (by omega)
      have p2 := probe_eq (g := b.1) (v := b.2.1) (by omega) (by omega) hxo hl (k := n) (by omega)
      have p3 := probe_eq (g := b.1) (v := b.2.2) (by omega) (by omega) hxo hl (k := n) (by omega)
      have p4 := probe_eq (g := b.1) (v := b.2.2 + 1) (by omega) (by omega) hxo hl (k := n) (by omega)
      rw [t1] at p1; rw [t2] at p2; rw [t3] at p3; rw [t4] at p4
      have e1 : loopF (F_law03_DriveSeen_L6 n (xs.map enc_Ai3Z) (B.map enc_Ai3Z, e) (i : Int) b) n (true, 0) = some false := p1
      have e2 : loopF (F_law03_DriveSeen_L7 n (xs.map enc_Ai3Z) (B.map enc_Ai3Z, e) (i : Int) b) n (true, 0) = some true := p2
      have e3 : loopF (F_law03_DriveSeen_L8 n (xs.map enc_Ai3Z) (B.map enc_Ai3Z, e) (i : Int) b) n (true, 0) = some true := p3
      have e4 : loopF (F_law03_DriveSeen_L9 n (xs.map enc_Ai3Z) (B.map enc_Ai3Z, e) (i : Int) b) n (true, 0) = some false := p4
      unfold F_law03_DriveSeen_L10
      dsimp only
      rw [if_pos (lenlt hbi), el_enc un3 hbi, Option.bind_some, if_pos (by unfold inI64; omega), if_pos (by unfold inI64; omega), e1, Option.bind_some, if_neg (by decide), e2, Option.bind_some, if_neg (by decide), e3, Option.bind_some, if_neg (by decide), e4, Option.bind_some, if_neg (by decide), if_pos (by unfold inI64; omega)]
      rfl)
    (fun s _ => by
      unfold F_law03_DriveSeen_L10
      rw [if_neg notlt])
    (k := n) (s := ()) trivial (by omega)
  have e : ∀ l : List (Int × Int × Int), runL (E := Unit ⊕ Unit) (fun (_ : Unit) (_ : Int × Int × Int) => .inl ()) (fun _ => .inr ()) l () = .inr () := by
    intro l; induction l with
    | nil => rfl
    | cons x l ih => exact ih
  rw [e, show ((0 : Nat) : Int) = 0 from rfl] at this
  exact this

theorem drift0 {l : List (Int × Int × Int)} (hb : ∀ b, b ∈ l → BandOk b) : driftE l 0 0 = (l, 0) := by
  unfold driftE
  have h : l.all (drOk 0 0) = true := List.all_eq_true.2 fun b h => by
    obtain ⟨_, h1, h2, h3⟩ := hb b h
    exact decide_eq_true (by omega)
  rw [if_pos h]
  have e : dr 0 0 = id := by
    funext b
    show (b.1, b.2.1 + 0, b.2.2 + 0) = b
    rw [Int.add_zero, Int.add_zero]
  rw [e, List.map_id]

theorem un_enc_s (y : Int × Int × Int) : un_Ai216iu8iu8Z (enc_Ai216iu8iu8Z y) = some y := by simp [un_Ai216iu8iu8Z, enc_Ai216iu8iu8Z, un_int]
theorem seen_loop {n : Nat} {a0 a1 : Int} (h0 : -128 ≤ a0 ∧ a0 ≤ 127) (h1 : -32768 ≤ a1 ∧ a1 ≤ 32767) (l : List (Int × Int × Int)) (hy : ∀ y, y ∈ l → (-32768 ≤ y.1 ∧ y.1 ≤ 32767) ∧ (0 ≤ y.2.1 ∧ y.2.1 ≤ 255) ∧ (0 ≤ y.2.2 ∧ y.2.2 ≤ 255)) (hl : l.length < 1000) (hn : l.length < n) :
    loopF (F_law03_DriveSeen_L1 n a0 a1 (l.map enc_Ai216iu8iu8Z)) n (0, []) = some ((l.map (sp (Int.tmod a0 101) (Int.tmod a1 10001))).map enc_Ai3Z) := by
  have hw0 : IntKind.wrap .i64 a0 = a0 := wrap64 (by unfold inI64; omega)
  have hw1 : IntKind.wrap .i64 a1 = a1 := wrap64 (by unfold inI64; omega)
  have hg := tmod_b a0 (m := 101) (by decide)
  have ho := tmod_b a1 (m := 10001) (by decide)
  rw [List.map_map, show l.map (enc_Ai3Z ∘ sp (Int.tmod a0 101) (Int.tmod a1 10001)) = l.flatMap (fun y => [enc_Ai3Z (sp (Int.tmod a0 101) (Int.tmod a1 10001) y)]) from (flat1 _ l).symm]
  refine loop_acc (fun out => out) l (fun y => [enc_Ai3Z (sp (Int.tmod a0 101) (Int.tmod a1 10001) y)]) (fun _ => Nat.le_refl _) (fun i out y hyi hio => ?_) (fun out _ => ?_) hn
  · have hi := ixlt hyi
    have hb := hy y (List.mem_of_getElem? hyi)
    have w1 : IntKind.wrap .i64 y.1 = y.1 := wrap64 (by unfold inI64; omega)
    have w2 : IntKind.wrap .i64 y.2.1 = y.2.1 := wrap64 (by unfold inI64; omega)
    have w3 : IntKind.wrap .i64 y.2.2 = y.2.2 := wrap64 (by unfold inI64; omega)
    have k1 := tmod_b y.1 (m := 501) (by decide)
    have k2 := tmod_b y.2.1 (m := 128) (by decide)
    have k3 := tmod_b y.2.2 (m := 128) (by decide)
    have k6 := mul_c (g := Int.tmod a0 101) (c := Int.tmod y.1 501) (p := 100) (q := 500) (by decide) (by omega) (by decide) (by omega)
    unfold F_law03_DriveSeen_L1
    dsimp only
    rw [if_pos (lenlt hyi), el_enc un_enc_s hyi, Option.bind_some, hw0, hw1, w1, w2, w3, if_pos (by unfold inI64; omega), if_pos (by unfold inI64; omega), if_pos (by unfold inI64; omega), if_pos (by unfold inI64; omega), if_pos (by unfold roomP; omega), if_pos (by unfold inI64; omega)]
    rfl
  · unfold F_law03_DriveSeen_L1
    rw [if_neg notlt]

theorem fitted_ok {t : List (Int × Int × Int)} {g o : Int} (h0 : 0 < t.length) (h1 : t.length ≤ 16) (hx : ∀ x, x ∈ t → SpG g o x) (hg : -100 ≤ g ∧ g ≤ 100) (ho : -10000 ≤ o ∧ o ≤ 10000) :
    F_drive_Fitted_2 5000 (t.map enc_Ai3Z) (g - 20) (g + 20) = some ((fitAll t (g - 20) (g + 20)).map enc_Ai3Z, 0) ∧ (0 < (fitAll t (g - 20) (g + 20)).length ∧ (fitAll t (g - 20) (g + 20)).length ≤ 64) ∧ modelE (fitAll t (g - 20) (g + 20)) = 0 ∧ (fitAll t (g - 20) (g + 20)).any (inB g o) = true := by
  obtain ⟨b, hb, hin⟩ := fitAll_pair (a1 := g - 20) (a2 := g + 20) hx ho (by omega) (by omega)
  have hpos : 0 < (fitAll t (g - 20) (g + 20)).length := List.length_pos_of_mem hb
  have hle : (fitAll t (g - 20) (g + 20)).length ≤ 64 := by
    unfold fitAll
    refine Nat.le_trans (flat_len (fun i => fit_len _ _) _) ?_
    rw [List.length_range]; omega
  refine ⟨?_, ⟨hpos, hle⟩, modelE0 hpos hle (fitAll_inc _ _ _) (fun b hb => fitAll_band (by omega) hb), List.any_eq_true.2 ⟨b, hb, hin⟩⟩
  have e : firstNZ [spotsE t, ivE (g - 20) (g + 20) (-1000) 1000] = 0 := by
    rw [spotsE0 h0 h1 (fun x h => (hx x h).ok), ivE0 (by omega) (by omega) (by omega)]; rfl
  rw [fitted_eq (Nat.le_refl _) (by omega), if_pos e]
  unfold fitE
  rw [if_neg (by omega), if_neg (by omega)]
theorem law_DriveSeen {a0 a1 : Int} {l : List (Int × Int × Int)} (h0 : -128 ≤ a0 ∧ a0 ≤ 127) (h1 : -32768 ≤ a1 ∧ a1 ≤ 32767) (hy : ∀ y, y ∈ l → (-32768 ≤ y.1 ∧ y.1 ≤ 32767) ∧ (0 ≤ y.2.1 ∧ y.2.1 ≤ 255) ∧ (0 ≤ y.2.2 ∧ y.2.2 ≤ 255)) : F_law03_DriveSeen 5000 a0 a1 (l.map enc_Ai216iu8iu8Z) = some true := by
  unfold F_law03_DriveSeen
  rw [awake5, List.length_map]
  by_cases hl1 : (l.length : Int) < 1
  · rw [if_pos hl1]; rfl
  · rw [if_neg hl1]
    by_cases hl2 : (l.length : Int) > 7
    · rw [if_pos hl2]; rfl
    · have hw0 : IntKind.wrap .i64 a0 = a0 := wrap64 (by unfold inI64; omega)
      have hw1 : IntKind.wrap .i64 a1 = a1 := wrap64 (by unfold inI64; omega)
      have hg := tmod_b a0 (m := 101) (by decide)
      have ho := tmod_b a1 (m := 10001) (by decide)
      have hsx : ∀ x, x ∈ l.map (sp (Int.tmod a0 101) (Int.tmod a1 10001)) → SpG (Int.tmod a0 101) (Int.tmod a1 10001) x := by
        intro x hx
        obtain ⟨y, hyl, rfl⟩ := List.mem_map.1 hx
        exact sp_ok (by omega) (by omega) (hy y hyl)
      have hlen : (l.map (sp (Int.tmod a0 101) (Int.tmod a1 10001))).length = l.length := List.length_map ..
      rw [if_neg hl2, seen_loop h0 h1 l hy (by omega) (by omega), Option.bind_some, hw0, hw1]
      generalize Int.tmod a0 101 = g at *
      generalize Int.tmod a1 10001 = o at *
      generalize l.map (sp g o) = xs at *
      rw [← hlen] at hl1 hl2
      clear hy hlen
      have hmx : maxI 1 ((xs.length : Int) - 1) = ((max 1 (xs.length - 1) : Nat) : Int) := by unfold maxI; split <;> omega
      obtain ⟨m, hm⟩ : ∃ m, m = max 1 (xs.length - 1) := ⟨_, rfl⟩
      have hm1 : 1 ≤ m ∧ m ≤ xs.length := by omega
      have hlast := List.getElem?_eq_getElem (show xs.length - 1 < xs.length by omega)
      have hlm : (xs[xs.length - 1]'(by omega)) ∈ xs := List.getElem_mem _
      have hsplit : ∀ g', fitOne xs g' = (fitOne (xs.take m) g').flatMap (refOne (xs[xs.length - 1]'(by omega))) := by
        intro g'
        by_cases hc : xs.length = 1
        · have e : xs.take m = xs := List.take_of_length_le (by omega)
          obtain ⟨x, hx1⟩ := List.length_eq_one_iff.1 hc
          subst hx1
          rw [e]; exact fitOne_twice x g'
        · have hmm : m = xs.length - 1 := by omega
          rw [hmm, ← fitOne_snoc]
          congr 1
          have := List.take_append_drop (xs.length - 1) xs
          rw [List.drop_eq_getElem_cons (show xs.length - 1 < xs.length by omega), List.drop_eq_nil_of_le (by omega)] at this
          exact this.symm
      generalize xs[xs.length - 1]'(by omega) = last at *
      have hB := fitAll_ref hsplit (g - 20) (g + 20)
      have hts : ∀ x, x ∈ xs.take m → SpG g o x := fun x hx => hsx x (List.mem_of_mem_take hx)
      obtain ⟨fA, ⟨lA0, lA1⟩, mA, anA⟩ := fitted_ok (t := xs.take m) (g := g) (o := o) (by rw [List.length_take]; omega) (by rw [List.length_take]; omega) hts (by omega) (by omega)
      obtain ⟨fB, ⟨lB0, lB1⟩, mB, anB⟩ := fitted_ok (t := xs) (g := g) (o := o) (by omega) (by omega) hsx (by omega) (by omega)
      have hbA : ∀ b, b ∈ fitAll (xs.take m) (g - 20) (g + 20) → BandOk b := fun b hb => fitAll_band (by omega) hb
      have hbB : ∀ b, b ∈ fitAll xs (g - 20) (g + 20) → BandOk b := fun b hb => fitAll_band (by omega) hb
      have hloop := tight_loop (n := 5000) (e := 0) (by omega) (by omega) (by omega) hsx (B := fitAll xs (g - 20) (g + 20)) (by omega) (fun b hb => ⟨by have := (fitAll_mem hb).1; omega, (fitAll_mem hb).2.1, hbB b hb⟩)
      have hpm := pairsE_mono (fitAll (xs.take m) (g - 20) (g + 20)) last 0 0 (Int.le_refl _) hbA
      rw [hB] at hpm
      have hso := spotT0 (hsx last hlm).ok
      have hR := refined_eq (n := 5000) (by omega) (fitAll (xs.take m) (g - 20) (g + 20)) last (by omega)
      have hfr : fullRef (fitAll (xs.take m) (g - 20) (g + 20)) last = (fitAll xs (g - 20) (g + 20), 0) := by
        unfold fullRef refinE
        rw [mA, hso, hB, if_pos (by rfl), if_neg (by omega)]
      rw [hfr] at hR
      generalize fitAll (xs.take m) (g - 20) (g + 20) = A at *
      generalize fitAll xs (g - 20) (g + 20) = B at *
      have hD := drifted_eq (n := 5000) (by omega) 0 0 B (by omega)
      have hdr : fullDr B 0 0 = (B, 0) := by
        unfold fullDr
        rw [mB, ivE0 (by decide) (by decide) (by decide), if_pos (by rfl), drift0 hbB]
      rw [hdr] at hD
      have hHA : hasE A g o = (true, 0) := by
        unfold hasE
        rw [mA, inR0 (by omega) (by omega), inR0 (by omega) (by omega), if_pos (by rfl), anA]
      have hHB : hasE B g o = (true, 0) := by
        unfold hasE
        rw [mB, inR0 (by omega) (by omega), inR0 (by omega) (by omega), if_pos (by rfl), anB]
      have hPA : pairsR A = (pairsE A 0, 0) := by unfold pairsR; rw [if_pos mA]
      have hPB : pairsR B = (pairsE B 0, 0) := by unfold pairsR; rw [if_pos mB]
      have cA := has_eq (n := 5000) (by omega) A (by omega) g o
      have cB := has_eq (n := 5000) (by omega) B (by omega) g o
      rw [hHA] at cA; rw [hHB] at cB
      have pA := pairs_eq (n := 5000) (by omega) A (by omega)
      have pB := pairs_eq (n := 5000) (by omega) B (by omega)
      rw [hPA] at pA; rw [hPB] at pB
      have kA := refCheckModel_eq (n := 5000) (by omega) A (by omega)
      have kB := refCheckModel_eq (n := 5000) (by omega) B (by omega)
      rw [mA] at kA; rw [mB] at kB
      have bA := bands_eq (n := 5000) A (by omega) (by omega)
      have bB := bands_eq (n := 5000) B (by omega) (by omega)
      have gA := given_eq (n := 5000) A (by omega) (by omega)
      have gB := given_eq (n := 5000) B (by omega) (by omega)
      have sB := sameModel_eq (n := 5000) B (by omega) (by omega)
      have s1 := spots_eq (n := 5000) (xs.take m) (by rw [List.length_take]; omega) (by rw [List.length_take]; omega)
      have s2 := spots_eq (n := 5000) xs (by omega) (by omega)
      have hel : el un_Ai3Z (xs.map enc_Ai3Z) ((xs.length : Int) - 1) = some last := by
        rw [show (xs.length : Int) - 1 = ((xs.length - 1 : Nat) : Int) by omega]
        exact el_enc un3 hlast
      have htk : ((xs.map enc_Ai3Z).take (Int.toNat ((m : Nat) : Int))).drop (Int.toNat 0) = (xs.take m).map enc_Ai3Z := by
        rw [Int.toNat_natCast, show Int.toNat 0 = 0 from rfl, List.drop_zero, List.map_take]
      rw [List.length_map, hmx, ← hm, if_pos (by unfold inI64; omega), if_pos (by unfold inI64; omega), if_pos (by unfold inI64; omega), if_pos ⟨Int.le_refl _, by omega, by omega, .inr rfl⟩, htk, s1, Option.bind_some, fA, Option.bind_some, if_pos rfl, hel, Option.bind_some]
      dsimp only
      rw [bA, Option.bind_some, gA, Option.bind_some, hR, Option.bind_some, if_pos rfl, kA, Option.bind_some, if_pos rfl]
      dsimp only
      rw [bB, Option.bind_some, kB, Option.bind_some, if_pos rfl, s2, Option.bind_some, fB, Option.bind_some, cA, Option.bind_some, gB, Option.bind_some, cB, Option.bind_some, pA, Option.bind_some, pB, Option.bind_some]
      dsimp only
      rw [if_pos (by decide), if_pos (by decide), if_pos (by decide), if_pos (by decide), if_pos (by decide), if_pos rfl, if_pos rfl, if_neg (by omega), bB, Option.bind_some, sB, Option.bind_some, if_pos rfl, hloop, Option.bind_some, hD, Option.bind_some]
      dsimp only
      rw [if_pos rfl, bB, Option.bind_some, sB, Option.bind_some, if_pos rfl]
      rfl
end Go.Proofs.YtmgbmngmmpeaaaaGreatDoor
