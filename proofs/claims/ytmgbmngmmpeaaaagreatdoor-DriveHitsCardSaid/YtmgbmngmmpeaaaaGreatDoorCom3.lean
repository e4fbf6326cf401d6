/-
  Plain lemmas on places within a model, and on the nearest count, that the laws of this seat share. An own text.
-/
import Derived.Test.YtmgbmngmmpeaaaaGreatDoorCom2
set_option linter.unusedVariables false
set_option linter.unusedSimpArgs false
set_option linter.unnecessarySimpa false
set_option maxRecDepth 20000
namespace Go.Proofs.YtmgbmngmmpeaaaaGreatDoor
open Go.SX

theorem mul_c {g c : Int} (hg : -1000 ≤ g ∧ g ≤ 1000) (hc : -1100 ≤ c ∧ c ≤ 1100) : -1100000 ≤ g * c ∧ g * c ≤ 1100000 := by
  have h := Int.natAbs_mul g c
  have h1 : g.natAbs * c.natAbs ≤ 1000 * 1100 := Nat.mul_le_mul (by omega) (by omega)
  omega
def loB (cl ch : Int) (b : Int × Int × Int) : Int := b.2.1 + minI (b.1 * cl) (b.1 * ch)
def hiB (cl ch : Int) (b : Int × Int × Int) : Int := b.2.2 + maxI (b.1 * cl) (b.1 * ch)
theorem loB_b {cl ch : Int} {b : Int × Int × Int} (hb : BandOk b) (hl : -1100 ≤ cl ∧ cl ≤ 1100) (hh : -1100 ≤ ch ∧ ch ≤ 1100) : (-4000000 ≤ loB cl ch b ∧ loB cl ch b ≤ 4000000) ∧ (-4000000 ≤ hiB cl ch b ∧ hiB cl ch b ≤ 4000000) ∧ loB cl ch b ≤ hiB cl ch b := by
  obtain ⟨q0, q1, q2, q3⟩ := hb
  have h1 := mul_c q0 hl
  have h2 := mul_c q0 hh
  unfold loB hiB minI maxI
  generalize b.1 * cl = x at *
  generalize b.1 * ch = y at *
  repeat' split
  all_goals omega
/-- The places within a model. -/
def plG (cl ch : Int) (p : Int × Int) (b : Int × Int × Int) : Int × Int := (minI p.1 (loB cl ch b), maxI p.2 (hiB cl ch b))
def placesE (cl ch : Int) : List (Int × Int × Int) → Int × Int
  | [] => (0, 0)
  | b :: l => l.foldl (plG cl ch) (loB cl ch b, hiB cl ch b)
theorem minI_self (a : Int) : minI a a = a := by unfold minI; split <;> rfl
theorem maxI_self (a : Int) : maxI a a = a := by unfold maxI; split <;> rfl
theorem pl_fold (cl ch : Int) (hl : -1100 ≤ cl ∧ cl ≤ 1100) (hh : -1100 ≤ ch ∧ ch ≤ 1100) : ∀ (l : List (Int × Int × Int)) (p : Int × Int), (∀ b, b ∈ l → BandOk b) → p.1 ≤ p.2 → (l.foldl (plG cl ch) p).1 ≤ (l.foldl (plG cl ch) p).2
  | [], p, _, hp => hp
  | b :: l, p, hb, hp => by
    refine pl_fold cl ch hl hh l (plG cl ch p b) (fun c hc => hb c (List.mem_cons_of_mem _ hc)) ?_
    have := loB_b (hb b List.mem_cons_self) hl hh
    show minI p.1 (loB cl ch b) ≤ maxI p.2 (hiB cl ch b)
    unfold minI maxI
    repeat' split
    all_goals omega
theorem places_le {cl ch : Int} {l : List (Int × Int × Int)} (hb : ∀ b, b ∈ l → BandOk b) (hl : -1100 ≤ cl ∧ cl ≤ 1100) (hh : -1100 ≤ ch ∧ ch ≤ 1100) : (placesE cl ch l).1 ≤ (placesE cl ch l).2 := by
  cases l with
  | nil => exact Int.le_refl _
  | cons b l => exact pl_fold cl ch hl hh l _ (fun c hc => hb c (List.mem_cons_of_mem _ hc)) (loB_b (hb b List.mem_cons_self) hl hh).2.2

/-! The reference's way. -/
def wiG (cl ch : Int) (s : Option (Int × Int)) (b : Int × Int × Int) : Option (Int × Int) ⊕ (Int × Int) := .inl (some (match s with
  | none => (loB cl ch b, hiB cl ch b)
  | some p => plG cl ch p b))
def opt0 : Option (Int × Int) → Int × Int
  | none => (0, 0)
  | some p => p
theorem wi_run (cl ch : Int) : ∀ (l : List (Int × Int × Int)) (p : Int × Int), runL (wiG cl ch) opt0 l (some p) = l.foldl (plG cl ch) p
  | [], _ => rfl
  | b :: l, p => wi_run cl ch l (plG cl ch p b)
theorem refWithin_eq {n : Nat} (hn : 1000 ≤ n) {cl ch : Int} (l : List (Int × Int × Int)) (hlen : l.length < 1000) (hb : ∀ b, b ∈ l → BandOk b) (hl : -1100 ≤ cl ∧ cl ≤ 1100) (hh : -1100 ≤ ch ∧ ch ≤ 1100) :
    F_ref03_Within n (l.map enc_Ai3Z) cl ch = some (placesE cl ch l) := by
  unfold F_ref03_Within
  have := loopF_list0 (step := F_ref03_Within_L1 n (l.map enc_Ai3Z) cl ch) (E := Int × Int) (wiG cl ch) opt0 (fun i s => ((i : Int), (opt0 s).1, (opt0 s).2)) l (fun i s => i = 0 ∧ s = none ∨ 0 < i ∧ ∃ p, s = some p)
    (fun i s b hbi hi => by
      have hi' := ixlt hbi
      have hbo := hb b (List.mem_of_getElem? hbi)
      have hbb := loB_b hbo hl hh
      obtain ⟨q0, q1, q2, q3⟩ := hbo
      have h1 := mul_c q0 hl
      have h2 := mul_c q0 hh
      have e1 : inI64 (b.1 * cl) := by unfold inI64; omega
      have e2 : inI64 (b.1 * ch) := by unfold inI64; omega
      have e3 : inI64 (b.2.1 + minI (b.1 * cl) (b.1 * ch)) := by
        have : -4000000 ≤ b.2.1 + minI (b.1 * cl) (b.1 * ch) ∧ b.2.1 + minI (b.1 * cl) (b.1 * ch) ≤ 4000000 := hbb.1
        unfold inI64; omega
      have e4 : inI64 (b.2.2 + maxI (b.1 * cl) (b.1 * ch)) := by
        have : -4000000 ≤ b.2.2 + maxI (b.1 * cl) (b.1 * ch) ∧ b.2.2 + maxI (b.1 * cl) (b.1 * ch) ≤ 4000000 := hbb.2.1
        unfold inI64; omega
      have e5 : inI64 ((i : Int) + 1) := by unfold inI64; omega
      refine ⟨?_, .inr ⟨by omega, _, rfl⟩⟩
      unfold F_ref03_Within_L1
      dsimp only
      rw [if_pos (lenlt hbi), el_enc un3 hbi, Option.bind_some, if_pos e1, if_pos e2, if_pos e3, if_pos e4]
      rcases hi with ⟨rfl, rfl⟩ | ⟨hp, p, rfl⟩
      · rw [if_pos (show ((0 : Nat) : Int) = 0 from rfl), if_pos e5, minI_self, maxI_self]
        rfl
      · rw [if_neg (by omega), if_pos e5]
        rfl)
    (fun s _ => by
      unfold F_ref03_Within_L1
      rw [if_neg notlt])
    (k := n) (s := none) (.inl ⟨rfl, rfl⟩) (by omega)
  rw [show (((0 : Nat) : Int), (opt0 none).1, (opt0 none).2) = ((0 : Int), (0 : Int), (0 : Int)) from rfl] at this
  rw [this, Option.bind_some]
  cases l with
  | nil => rfl
  | cons b l =>
    show some ((runL (wiG cl ch) opt0 l (some (loB cl ch b, hiB cl ch b))).1, (runL (wiG cl ch) opt0 l (some (loB cl ch b, hiB cl ch b))).2) = _
    rw [wi_run]
    rfl

/-! The program's way. -/
def four (cl ch : Int) (b : Int × Int × Int) : List Int := [b.2.1 + b.1 * cl, b.2.1 + b.1 * ch, b.2.2 + b.1 * cl, b.2.2 + b.1 * ch]
theorem end10 {n : Nat} {a b : Int} (ha : inI64 a) : F_drive_end n a b 1 0 = some a := by
  have e1 : (1 : Int) * a = a := Int.one_mul a
  have e2 : (0 : Int) * b = 0 := Int.zero_mul b
  have e3 : a + 0 = a := Int.add_zero a
  unfold F_drive_end
  rw [e1, e2, e3, if_pos ha, if_pos (by decide), if_pos ha]
theorem end01 {n : Nat} {a b : Int} (hb : inI64 b) : F_drive_end n a b 0 1 = some b := by
  have e1 : (1 : Int) * b = b := Int.one_mul b
  have e2 : (0 : Int) * a = 0 := Int.zero_mul a
  have e3 : 0 + b = b := Int.zero_add b
  unfold F_drive_end
  rw [e1, e2, e3, if_pos (by decide), if_pos hb, if_pos hb]
def plMk (i : Nat) (s : List Int) : Unit ⊕ (Int × List D) := match i with
  | 0 => .inl ()
  | i + 1 => .inr (((i + 1 : Nat) : Int), s.map I)
def plEx (s : List Int) : List Int := s
theorem places_loop {n : Nat} {cl ch : Int} (l : List (Int × Int × Int)) (hlen : l.length < 1000) (hne : l ≠ []) (hb : ∀ b, b ∈ l → BandOk b) (hl : -1100 ≤ cl ∧ cl ≤ 1100) (hh : -1100 ≤ ch ∧ ch ≤ 1100) {k : Nat} (hk : l.length < k) :
    loopF (F_drive_places_L1 n (l.map enc_Ai3Z) cl ch) k (.inl ()) = some (.inr ((l.flatMap (four cl ch)).map I)) := by
  have := loopF_list0 (step := F_drive_places_L1 n (l.map enc_Ai3Z) cl ch) (E := Unit ⊕ List D) (fun (s : List Int) b => .inl (s ++ four cl ch b)) (fun s => .inr (s.map I)) plMk l (fun i s => s.length = 4 * i)
    (fun i s b hbi hi => by
      have hi' := ixlt hbi
      obtain ⟨q0, q1, q2, q3⟩ := hb b (List.mem_of_getElem? hbi)
      have h1 := mul_c q0 hl
      have h2 := mul_c q0 hh
      have g1 : inI64 b.2.1 := by unfold inI64; omega
      have g2 : inI64 b.2.2 := by unfold inI64; omega
      have g3 : inI64 cl := by unfold inI64; omega
      have g4 : inI64 ch := by unfold inI64; omega
      have e1 : inI64 (b.1 * cl) := by unfold inI64; omega
      have e2 : inI64 (b.1 * ch) := by unfold inI64; omega
      have e3 : inI64 (b.2.1 + b.1 * cl) := by unfold inI64; omega
      have e4 : inI64 (b.2.1 + b.1 * ch) := by unfold inI64; omega
      have e5 : inI64 (b.2.2 + b.1 * cl) := by unfold inI64; omega
      have e6 : inI64 (b.2.2 + b.1 * ch) := by unfold inI64; omega
      refine ⟨?_, by rw [List.length_append, hi]; simp [four]; omega⟩
      cases i with
      | zero =>
        have hs : s = [] := List.eq_nil_of_length_eq_zero (by omega)
        subst hs
        show F_drive_places_L1 n (l.map enc_Ai3Z) cl ch (.inl ()) = _
        unfold F_drive_places_L1
        dsimp only
        have hel : el un_Ai3Z (l.map enc_Ai3Z) 0 = some b := el_enc un3 hbi
        rw [if_pos (show (0 : Int) < ((l.map enc_Ai3Z).length : Int) from lenlt hbi), hel, Option.bind_some, end10 g1, Option.bind_some, end10 g3, Option.bind_some, if_pos e1, if_pos e3, end01 g4, Option.bind_some, if_pos e2, if_pos e4, end01 g2, Option.bind_some, if_pos e5, if_pos e6]
        rfl
      | succ i =>
        show F_drive_places_L1 n (l.map enc_Ai3Z) cl ch (.inr (((i + 1 : Nat) : Int), s.map I)) = _
        unfold F_drive_places_L1
        dsimp only
        have hsl : (s.map I).length = 4 * (i + 1) := by rw [List.length_map]; exact hi
        rw [if_pos (lenlt hbi), el_enc un3 hbi, Option.bind_some, end10 g1, Option.bind_some, end10 g3, Option.bind_some, if_pos e1, if_pos e3, if_pos (by unfold roomP; omega), end01 g4, Option.bind_some, if_pos e2, if_pos e4,
          if_pos (by unfold roomP; rw [List.length_append, hsl]; simp; omega), end01 g2, Option.bind_some, if_pos e5, if_pos (by unfold roomP; rw [List.length_append, List.length_append, hsl]; simp; omega), if_pos e6,
          if_pos (by unfold roomP; rw [List.length_append, List.length_append, List.length_append, hsl]; simp; omega), if_pos (by unfold inI64; omega)]
        unfold plMk
        rw [List.map_append]
        simp [four])
    (fun s _ => by
      cases hlz : l.length with
      | zero => exact absurd (List.eq_nil_of_length_eq_zero hlz) hne
      | succ m =>
        show F_drive_places_L1 n (l.map enc_Ai3Z) cl ch (.inr (((m + 1 : Nat) : Int), s.map I)) = _
        unfold F_drive_places_L1
        dsimp only
        rw [← hlz, if_neg notlt])
    (k := k) (s := []) rfl hk
  have e : ∀ (m : List (Int × Int × Int)) (s : List Int), runL (E := Unit ⊕ List D) (fun (s : List Int) b => .inl (s ++ four cl ch b)) (fun s => .inr (s.map I)) m s = .inr ((s ++ m.flatMap (four cl ch)).map I) := by
    intro m
    induction m with
    | nil => intro s; simp [runL]
    | cons b m ih =>
      intro s
      show runL (E := Unit ⊕ List D) _ _ m (s ++ four cl ch b) = _
      rw [ih, List.flatMap_cons, List.append_assoc]
  rw [e, List.nil_append] at this
  exact this
theorem un_iI (x : Int) : un_i (I x) = some x := rfl
theorem fold_run {α S : Type} (g : S → α → S) : ∀ (l : List α) (s : S), runL (E := S) (fun s x => .inl (g s x)) (fun s => s) l s = l.foldl g s
  | [], _ => rfl
  | x :: l, s => fold_run g l (g s x)
theorem min_eq {n : Nat} (v : Int) (vs : List Int) (hl : vs.length < 10000) (hn : vs.length < n) : F_slices_Min_g_2 n ((v :: vs).map I) = some (vs.foldl minI v) := by
  unfold F_slices_Min_g_2
  have hel : el un_i ((v :: vs).map I) 0 = some v := rfl
  rw [if_neg (by simp; omega), hel, Option.bind_some]
  have := loopF_list0 (step := F_slices_Min_g_2_L1 n ((v :: vs).map I)) (E := Int) (fun s x => .inl (minI s x)) (fun s => s) (fun i s => (s, ((i + 1 : Nat) : Int))) vs (fun _ _ => True)
    (fun i s x hx _ => by
      refine ⟨?_, trivial⟩
      have hi := ixlt hx
      unfold F_slices_Min_g_2_L1
      dsimp only
      rw [if_pos (by simp; omega), el_enc (enc := I) un_iI (l := v :: vs) (i := i + 1) (x := x) (by simpa using hx), Option.bind_some, if_pos (by unfold inI64; omega)]
      rfl)
    (fun s _ => by
      unfold F_slices_Min_g_2_L1
      rw [if_neg (by simp)])
    (k := n) (s := v) trivial hn
  rw [fold_run] at this
  rw [show (((0 + 1 : Nat) : Int)) = 1 from rfl] at this
  rw [this]; rfl
theorem max_eq {n : Nat} (v : Int) (vs : List Int) (hl : vs.length < 10000) (hn : vs.length < n) : F_slices_Max_g_2 n ((v :: vs).map I) = some (vs.foldl maxI v) := by
  unfold F_slices_Max_g_2
  have hel : el un_i ((v :: vs).map I) 0 = some v := rfl
  rw [if_neg (by simp; omega), hel, Option.bind_some]
  have := loopF_list0 (step := F_slices_Max_g_2_L1 n ((v :: vs).map I)) (E := Int) (fun s x => .inl (maxI s x)) (fun s => s) (fun i s => (s, ((i + 1 : Nat) : Int))) vs (fun _ _ => True)
    (fun i s x hx _ => by
      refine ⟨?_, trivial⟩
      have hi := ixlt hx
      unfold F_slices_Max_g_2_L1
      dsimp only
      rw [if_pos (by simp; omega), el_enc (enc := I) un_iI (l := v :: vs) (i := i + 1) (x := x) (by simpa using hx), Option.bind_some, if_pos (by unfold inI64; omega)]
      rfl)
    (fun s _ => by
      unfold F_slices_Max_g_2_L1
      rw [if_neg (by simp)])
    (k := n) (s := v) trivial hn
  rw [fold_run] at this
  rw [show (((0 + 1 : Nat) : Int)) = 1 from rfl] at this
  rw [this]; rfl
theorem four_min {cl ch : Int} {b : Int × Int × Int} (hb : b.2.1 ≤ b.2.2) (p : Int) : (four cl ch b).foldl minI p = minI p (loB cl ch b) ∧ (four cl ch b).foldl maxI p = maxI p (hiB cl ch b) := by
  unfold four loB hiB
  simp only [List.foldl]
  generalize b.1 * cl = x
  generalize b.1 * ch = y
  unfold minI maxI
  constructor
  · (repeat' split) <;> omega
  · (repeat' split) <;> omega
theorem fours_fold {cl ch : Int} : ∀ (l : List (Int × Int × Int)) (p : Int × Int), (∀ b, b ∈ l → b.2.1 ≤ b.2.2) → (l.flatMap (four cl ch)).foldl minI p.1 = (l.foldl (plG cl ch) p).1 ∧ (l.flatMap (four cl ch)).foldl maxI p.2 = (l.foldl (plG cl ch) p).2
  | [], p, _ => ⟨rfl, rfl⟩
  | b :: l, p, hb => by
    have h := four_min (cl := cl) (ch := ch) (hb b List.mem_cons_self)
    have ih := fours_fold (cl := cl) (ch := ch) l (plG cl ch p b) (fun c hc => hb c (List.mem_cons_of_mem _ hc))
    rw [List.flatMap_cons, List.foldl_append, List.foldl_append, (h p.1).1, (h p.2).2]
    exact ih
theorem four_first {cl ch : Int} {b : Int × Int × Int} (hb : b.2.1 ≤ b.2.2) : [b.2.1 + b.1 * ch, b.2.2 + b.1 * cl, b.2.2 + b.1 * ch].foldl minI (b.2.1 + b.1 * cl) = loB cl ch b ∧ [b.2.1 + b.1 * ch, b.2.2 + b.1 * cl, b.2.2 + b.1 * ch].foldl maxI (b.2.1 + b.1 * cl) = hiB cl ch b := by
  unfold loB hiB
  simp only [List.foldl]
  generalize b.1 * cl = x
  generalize b.1 * ch = y
  unfold minI maxI
  constructor
  · (repeat' split) <;> omega
  · (repeat' split) <;> omega
theorem fours_len (cl ch : Int) : ∀ l : List (Int × Int × Int), (l.flatMap (four cl ch)).length = 4 * l.length
  | [] => rfl
  | b :: l => by rw [List.flatMap_cons, List.length_append, fours_len cl ch l]; simp [four]; omega
theorem places_eq {n : Nat} (hn : 5000 ≤ n) {cl ch : Int} (l : List (Int × Int × Int)) (hlen : l.length < 1000) (hne : l ≠ []) (hb : ∀ b, b ∈ l → BandOk b) (hl : -1100 ≤ cl ∧ cl ≤ 1100) (hh : -1100 ≤ ch ∧ ch ≤ 1100) :
    F_drive_places n (l.map enc_Ai3Z) cl ch = some (placesE cl ch l) := by
  unfold F_drive_places
  rw [places_loop l hlen hne hb hl hh (by omega), Option.bind_some]
  match l, hne with
  | b :: l, _ =>
    have hb' : ∀ c, c ∈ b :: l → c.2.1 ≤ c.2.2 := fun c hc => (hb c hc).2.2.1
    have hlen' := fours_len cl ch l
    have e : (b :: l).flatMap (four cl ch) = (b.2.1 + b.1 * cl) :: ([b.2.1 + b.1 * ch, b.2.2 + b.1 * cl, b.2.2 + b.1 * ch] ++ l.flatMap (four cl ch)) := rfl
    dsimp only
    simp only [List.length_cons] at hlen
    rw [e, min_eq _ _ (by rw [List.length_append, hlen']; simp; omega) (by rw [List.length_append, hlen']; simp; omega), Option.bind_some, max_eq _ _ (by rw [List.length_append, hlen']; simp; omega) (by rw [List.length_append, hlen']; simp; omega), Option.bind_some]
    rw [List.foldl_append, List.foldl_append, (four_first (hb' b List.mem_cons_self)).1, (four_first (hb' b List.mem_cons_self)).2]
    have := fours_fold (cl := cl) (ch := ch) l (loB cl ch b, hiB cl ch b) (fun c hc => hb' c (List.mem_cons_of_mem _ hc))
    rw [this.1, this.2]
    rfl

/-! A hit. -/
def leftE (motor play m : Int) : Int := minI motor (maxI (motor - play) m)
theorem clampE {m d x : Int} (h : 0 ≤ d) : maxI (m - d) (minI m x) = minI m (maxI (m - d) x) := by
  unfold maxI minI
  repeat' split
  all_goals omega
theorem leftE_b {motor play m : Int} (h : -1000 ≤ motor ∧ motor ≤ 1000) (hp : 0 ≤ play ∧ play ≤ 50) : -1100 ≤ leftE motor play m ∧ leftE motor play m ≤ 1100 := by
  unfold leftE minI maxI
  repeat' split
  all_goals omega
def reachE (a2 a4 a5 : Int) (l : List (Int × Int × Int)) (motor : Int) : Int × Int := placesE (leftE motor a2 a4) (leftE motor a2 a5) l
def hitE (a2 a4 a5 : Int) (l : List (Int × Int × Int)) (t0 t1 motor : Int) : Bool := decide (t0 ≤ (reachE a2 a4 a5 l motor).1 ∧ (reachE a2 a4 a5 l motor).2 ≤ t1)
theorem reached_eq {n : Nat} (hn : 5000 ≤ n) {a0 a1 a2 a3 a4 a5 motor : Int} {l : List (Int × Int × Int)} (hlen : l.length < 1000) (hb : ∀ b, b ∈ l → BandOk b) (hm : -1000 ≤ motor ∧ motor ≤ 1000) (hp : 0 ≤ a2 ∧ a2 ≤ 50) :
    F_ref03_Reached n a0 a1 a2 a3 a4 a5 (l.map enc_Ai3Z) motor = some (reachE a2 a4 a5 l motor) := by
  unfold F_ref03_Reached F_ref03_Stepped F_ref03_Leaves
  rw [if_pos (by unfold inI64; omega), if_pos (by unfold inI64; omega), clampE hp.1, clampE hp.1]
  simp only [Option.bind_some]
  have := refWithin_eq (n := n) (by omega) l hlen hb (leftE_b (m := a4) hm hp) (leftE_b (m := a5) hm hp)
  unfold leftE at this
  rw [this]
  rfl
theorem hit_eq {n : Nat} (hn : 5000 ≤ n) {a0 a1 a2 a3 a4 a5 t0 t1 motor : Int} {l : List (Int × Int × Int)} (hlen : l.length < 1000) (hne : l ≠ []) (hb : ∀ b, b ∈ l → BandOk b) (hm : -1000 ≤ motor ∧ motor ≤ 1000) (hp : 0 ≤ a2 ∧ a2 ≤ 50) :
    F_drive_aimed_hit n a0 a1 a2 a3 a4 a5 (l.map enc_Ai3Z) t0 t1 motor = some ((reachE a2 a4 a5 l motor).1, (reachE a2 a4 a5 l motor).2, hitE a2 a4 a5 l t0 t1 motor) := by
  have hle := places_le hb (leftE_b (m := a4) hm hp) (leftE_b (m := a5) hm hp)
  have hle' : (reachE a2 a4 a5 l motor).1 ≤ (reachE a2 a4 a5 l motor).2 := hle
  unfold F_drive_aimed_hit F_drive_posed_at F_drive_both_2
  rw [if_pos (by unfold inI64; omega)]
  simp only [Option.bind_some]
  have hpl := places_eq hn l hlen hne hb (leftE_b (m := a4) hm hp) (leftE_b (m := a5) hm hp)
  unfold leftE at hpl
  rw [hpl, Option.bind_some]
  change (if decide (maxI (reachE a2 a4 a5 l motor).1 t0 ≤ minI (reachE a2 a4 a5 l motor).2 t1) = true then some ((reachE a2 a4 a5 l motor).1, (reachE a2 a4 a5 l motor).2, (maxI (reachE a2 a4 a5 l motor).1 t0 == (reachE a2 a4 a5 l motor).1) && ((minI (reachE a2 a4 a5 l motor).2 t1 == (reachE a2 a4 a5 l motor).2) && true)) else some ((reachE a2 a4 a5 l motor).1, (reachE a2 a4 a5 l motor).2, false)) = _
  unfold hitE
  generalize (reachE a2 a4 a5 l motor).1 = x at *
  generalize (reachE a2 a4 a5 l motor).2 = y at *
  by_cases h : t0 ≤ x ∧ y ≤ t1
  · have e1 : maxI x t0 = x := by unfold maxI; split <;> omega
    have e2 : minI y t1 = y := by unfold minI; split <;> omega
    rw [e1, e2, if_pos (decide_eq_true hle'), decide_eq_true h]
    simp
  · rw [decide_eq_false h]
    split
    · have : ¬ (maxI x t0 = x ∧ minI y t1 = y) := by
        intro ⟨q1, q2⟩
        apply h
        unfold maxI at q1
        unfold minI at q2
        split at q1
        · omega
        · split at q2 <;> omega
      have e : ((maxI x t0 == x) && ((minI y t1 == y) && true)) = false := by
        simp only [Bool.and_true, Bool.and_eq_false_iff, beq_eq_false_iff_ne, ne_eq]
        omega
      rw [e]
    · rfl
theorem inside_eq (n : Nat) (x y t0 t1 : Int) : F_ref03_Inside n x y t0 t1 = some (decide (t0 ≤ x ∧ y ≤ t1)) := by
  unfold F_ref03_Inside
  by_cases h : x ≥ t0
  · rw [if_pos h]
    by_cases h2 : y ≤ t1
    · rw [decide_eq_true h2, decide_eq_true ⟨h, h2⟩]
    · rw [decide_eq_false h2, decide_eq_false (fun q => h2 q.2)]
  · rw [if_neg h, decide_eq_false (fun q => h q.1)]

/-! The nearest count. -/
def farE (a b : Int) : Int := maxI (a - b) (b - a)
def nearG (a0 a3 : Int) (hit : Int → Bool) (s : Int × Bool) (i : Nat) : (Int × Bool) ⊕ (Int × Bool) :=
  if hit (a0 + (i : Int)) = true then if s.2 = true then if farE (a0 + (i : Int)) a3 < farE s.1 a3 then .inl (a0 + (i : Int), true) else .inl s else .inl (a0 + (i : Int), true) else .inl s
def nearR (a0 a1 a3 : Int) (hit : Int → Bool) : Int × Bool := runL (nearG a0 a3 hit) (fun s => s) (List.range (a1 - a0 + 1).toNat) (0, false)
theorem near_none (a0 a3 : Int) (hit : Int → Bool) : ∀ (l : List Nat) (s : Int × Bool), (s.2 = false → s.1 = 0) → (runL (nearG a0 a3 hit) (fun s => s) l s).2 = false → (runL (nearG a0 a3 hit) (fun s => s) l s).1 = 0
  | [], s, hs, h => hs h
  | i :: l, s, hs, h => by
    unfold runL at h ⊢
    unfold nearG at h ⊢
    by_cases h1 : hit (a0 + (i : Int)) = true
    · rw [if_pos h1] at h ⊢
      by_cases h2 : s.2 = true
      · rw [if_pos h2] at h ⊢
        by_cases h3 : farE (a0 + (i : Int)) a3 < farE s.1 a3
        · rw [if_pos h3] at h ⊢
          exact near_none a0 a3 hit l _ (fun q => by cases q) h
        · rw [if_neg h3] at h ⊢
          exact near_none a0 a3 hit l s hs h
      · rw [if_neg h2] at h ⊢
        exact near_none a0 a3 hit l _ (fun q => by cases q) h
    · rw [if_neg h1] at h ⊢
      exact near_none a0 a3 hit l s hs h
theorem size_eq {n : Nat} {a b : Int} (h : -3000 ≤ a - b ∧ a - b ≤ 3000) : F_drive_size n (a - b) = some (farE a b) := by
  unfold F_drive_size farE
  rw [wrap64 (by unfold inI64; omega), show 0 - (a - b) = b - a by omega]
theorem rfar_eq {n : Nat} {a b : Int} (h : -3000 ≤ a - b ∧ a - b ≤ 3000) : F_ref03_far n a b = some (farE a b) := by
  unfold F_ref03_far
  rw [if_pos (by unfold inI64; omega), if_pos (by unfold inI64; omega)]
  rfl
structure AxOk (a0 a1 a2 a3 : Int) : Prop where
  l0 : -1000 ≤ a0
  l1 : a0 ≤ a1
  l2 : a1 ≤ 1000
  p0 : 0 ≤ a2
  p1 : a2 ≤ 50
  m0 : a0 ≤ a3
  m1 : a3 ≤ a1
theorem nearest_loop {n : Nat} (hn : 5000 ≤ n) {a0 a1 a2 a3 a4 a5 t0 t1 : Int} (ha : AxOk a0 a1 a2 a3) {l : List (Int × Int × Int)} (hlen : l.length < 1000) (hne : l ≠ []) (hb : ∀ b, b ∈ l → BandOk b) :
    loopF (F_drive_aimed_nearest_L1 n a0 a1 a2 a3 a4 a5 (l.map enc_Ai3Z) t0 t1) n (0, false, 0) = some (nearR a0 a1 a3 (hitE a2 a4 a5 l t0 t1)) := by
  obtain ⟨l0, l1, l2, p0, p1, m0, m1⟩ := ha
  refine loopF_list0 (step := F_drive_aimed_nearest_L1 n a0 a1 a2 a3 a4 a5 (l.map enc_Ai3Z) t0 t1) (E := Int × Bool) (nearG a0 a3 (hitE a2 a4 a5 l t0 t1)) (fun s => s) (fun i s => (s.1, s.2, (i : Int))) (List.range (a1 - a0 + 1).toNat) (fun _ s => -1000 ≤ s.1 ∧ s.1 ≤ 1000) (s := ((0, false) : Int × Bool)) (fun i s x hxi hs => ?_) (fun s _ => ?_) ⟨by decide, by decide⟩ (by simp; omega)
  · have hi := ixlt hxi
    rw [List.length_range] at hi
    have hxx : x = i := by
      rw [List.getElem?_range hi] at hxi
      exact (Option.some.inj hxi).symm
    subst hxx
    have hm : -1000 ≤ a0 + (x : Int) ∧ a0 + (x : Int) ≤ 1000 := by omega
    have e1 : inI64 (a0 + (x : Int)) := by unfold inI64; omega
    have e2 : inI64 (a0 + (x : Int) - a3) := by unfold inI64; omega
    have e3 : inI64 (s.1 - a3) := by unfold inI64; omega
    have e4 : inI64 ((x : Int) + 1) := by unfold inI64; omega
    have key : F_drive_aimed_nearest_L1 n a0 a1 a2 a3 a4 a5 (l.map enc_Ai3Z) t0 t1 (s.1, s.2, (x : Int)) =
        if hitE a2 a4 a5 l t0 t1 (a0 + (x : Int)) = true then if s.2 = true then if farE (a0 + (x : Int)) a3 < farE s.1 a3 then some (.inl (a0 + (x : Int), true, (x : Int) + 1)) else some (.inl (s.1, s.2, (x : Int) + 1)) else some (.inl (a0 + (x : Int), true, (x : Int) + 1)) else some (.inl (s.1, s.2, (x : Int) + 1)) := by
      unfold F_drive_aimed_nearest_L1
      dsimp only
      rw [if_pos (by omega), if_pos e1, hit_eq hn hlen hne hb hm ⟨p0, p1⟩, Option.bind_some]
      dsimp only
      rw [if_pos e2, size_eq (by omega), Option.bind_some, if_pos e3, size_eq (by omega), Option.bind_some]
      simp only [if_pos e4]
    unfold nearG
    by_cases h1 : hitE a2 a4 a5 l t0 t1 (a0 + (x : Int)) = true
    · rw [if_pos h1] at key ⊢
      by_cases h2 : s.2 = true
      · rw [if_pos h2] at key ⊢
        by_cases h3 : farE (a0 + (x : Int)) a3 < farE s.1 a3
        · rw [if_pos h3] at key ⊢
          exact ⟨key, hm⟩
        · rw [if_neg h3] at key ⊢
          exact ⟨key, hs⟩
      · rw [if_neg h2] at key ⊢
        exact ⟨key, hm⟩
    · rw [if_neg h1] at key ⊢
      exact ⟨key, hs⟩
  · unfold F_drive_aimed_nearest_L1
    dsimp only
    rw [if_neg (by rw [List.length_range]; omega)]
theorem refNearest_loop {n : Nat} (hn : 5000 ≤ n) {a0 a1 a2 a3 a4 a5 t0 t1 : Int} (ha : AxOk a0 a1 a2 a3) {l : List (Int × Int × Int)} (hlen : l.length < 1000) (hb : ∀ b, b ∈ l → BandOk b) :
    loopF (F_ref03_Inverted_L1 n a0 a1 a2 a3 a4 a5 (l.map enc_Ai3Z) t0 t1) n (0, false, a0) = some (nearR a0 a1 a3 (hitE a2 a4 a5 l t0 t1)) := by
  obtain ⟨l0, l1, l2, p0, p1, m0, m1⟩ := ha
  have e0 : ((0 : Int), false, a0) = ((0 : Int), false, a0 + ((0 : Nat) : Int)) := by simp
  rw [e0]
  refine loopF_list0 (step := F_ref03_Inverted_L1 n a0 a1 a2 a3 a4 a5 (l.map enc_Ai3Z) t0 t1) (E := Int × Bool) (nearG a0 a3 (hitE a2 a4 a5 l t0 t1)) (fun s => s) (fun i s => (s.1, s.2, a0 + (i : Int))) (List.range (a1 - a0 + 1).toNat) (fun _ s => -1000 ≤ s.1 ∧ s.1 ≤ 1000) (s := ((0, false) : Int × Bool)) (fun i s x hxi hs => ?_) (fun s _ => ?_) ⟨by decide, by decide⟩ (by simp; omega)
  · have hi := ixlt hxi
    rw [List.length_range] at hi
    have hxx : x = i := by
      rw [List.getElem?_range hi] at hxi
      exact (Option.some.inj hxi).symm
    subst hxx
    have hm : -1000 ≤ a0 + (x : Int) ∧ a0 + (x : Int) ≤ 1000 := by omega
    have e4 : inI64 (a0 + (x : Int) + 1) := by unfold inI64; omega
    have e5 : a0 + (x : Int) + 1 = a0 + ((x + 1 : Nat) : Int) := by omega
    have key : F_ref03_Inverted_L1 n a0 a1 a2 a3 a4 a5 (l.map enc_Ai3Z) t0 t1 (s.1, s.2, a0 + (x : Int)) =
        if hitE a2 a4 a5 l t0 t1 (a0 + (x : Int)) = true then if s.2 = true then if farE (a0 + (x : Int)) a3 < farE s.1 a3 then some (.inl (a0 + (x : Int), true, a0 + ((x + 1 : Nat) : Int))) else some (.inl (s.1, s.2, a0 + ((x + 1 : Nat) : Int))) else some (.inl (a0 + (x : Int), true, a0 + ((x + 1 : Nat) : Int))) else some (.inl (s.1, s.2, a0 + ((x + 1 : Nat) : Int))) := by
      unfold F_ref03_Inverted_L1
      dsimp only
      rw [if_pos (by omega), reached_eq hn hlen hb hm ⟨p0, p1⟩, Option.bind_some, inside_eq, Option.bind_some, rfar_eq (by omega), Option.bind_some, rfar_eq (by omega), Option.bind_some]
      rw [e5] at e4 ⊢
      simp only [if_pos e4]
      rfl
    unfold nearG
    by_cases h1 : hitE a2 a4 a5 l t0 t1 (a0 + (x : Int)) = true
    · rw [if_pos h1] at key ⊢
      by_cases h2 : s.2 = true
      · rw [if_pos h2] at key ⊢
        by_cases h3 : farE (a0 + (x : Int)) a3 < farE s.1 a3
        · rw [if_pos h3] at key ⊢
          exact ⟨key, hm⟩
        · rw [if_neg h3] at key ⊢
          exact ⟨key, hs⟩
      · rw [if_neg h2] at key ⊢
        exact ⟨key, hm⟩
    · rw [if_neg h1] at key ⊢
      exact ⟨key, hs⟩
  · unfold F_ref03_Inverted_L1
    dsimp only
    rw [if_neg (by rw [List.length_range]; omega)]
def nearE (r : Int × Bool) : Int × Int := if r.2 = true then (r.1, 0) else (0, 18)
theorem refInverted_eq {n : Nat} (hn : 5000 ≤ n) {a0 a1 a2 a3 a4 a5 t0 t1 : Int} (ha : AxOk a0 a1 a2 a3) {l : List (Int × Int × Int)} (hlen : l.length < 1000) (hb : ∀ b, b ∈ l → BandOk b) :
    F_ref03_Inverted n a0 a1 a2 a3 a4 a5 (l.map enc_Ai3Z) t0 t1 = some (nearE (nearR a0 a1 a3 (hitE a2 a4 a5 l t0 t1))) := by
  unfold F_ref03_Inverted nearE
  rw [refNearest_loop hn ha hlen hb, Option.bind_some]
  split <;> rfl
theorem nearest_eq {n : Nat} (hn : 5000 ≤ n) {a0 a1 a2 a3 a4 a5 t0 t1 : Int} (ha : AxOk a0 a1 a2 a3) {l : List (Int × Int × Int)} (hlen : l.length < 1000) (hne : l ≠ []) (hb : ∀ b, b ∈ l → BandOk b) :
    F_drive_aimed_nearest n a0 a1 a2 a3 a4 a5 (l.map enc_Ai3Z) t0 t1 = some (nearE (nearR a0 a1 a3 (hitE a2 a4 a5 l t0 t1))) := by
  have h0 := ha.l0
  have h1 := ha.l1
  have h2 := ha.l2
  unfold F_drive_aimed_nearest nearE
  rw [if_pos (by unfold inI64; omega), if_pos (by unfold inI64; omega), nearest_loop hn ha hlen hne hb, Option.bind_some, when_eq, Option.bind_some]
  have hz := near_none a0 a3 (hitE a2 a4 a5 l t0 t1) (List.range (a1 - a0 + 1).toNat) (0, false) (fun _ => rfl)
  change ((nearR a0 a1 a3 (hitE a2 a4 a5 l t0 t1)).2 = false → (nearR a0 a1 a3 (hitE a2 a4 a5 l t0 t1)).1 = 0) at hz
  generalize nearR a0 a1 a3 (hitE a2 a4 a5 l t0 t1) = r at *
  obtain ⟨r1, r2⟩ := r
  cases r2 with
  | true => rfl
  | false =>
    have : r1 = 0 := hz rfl
    subst this; rfl

/-! All checks. -/
def allE (a0 a1 a2 a3 a4 a5 : Int) (l : List (Int × Int × Int)) (t0 t1 : Int) : Int := firstNZ [stateE a0 a1 a2 a3 a4 a5, modelE l, ivE t0 t1 (-4294967296) 4294967296]
theorem refAll_eq {n : Nat} (hn : 1000 ≤ n) (a0 a1 a2 a3 a4 a5 : Int) (l : List (Int × Int × Int)) (t0 t1 : Int) (hlen : l.length < 1000) :
    F_ref03_CheckAll n a0 a1 a2 a3 a4 a5 (l.map enc_Ai3Z) t0 t1 = some (allE a0 a1 a2 a3 a4 a5 l t0 t1) := by
  unfold F_ref03_CheckAll
  rw [refState_eq (by omega), Option.bind_some, refCheckModel_eq hn l hlen, Option.bind_some, interval_eq (by omega), Option.bind_some, refFirst3 (by omega)]
  rfl
theorem aimedCheck_eq {n : Nat} (hn : 1000 ≤ n) (a0 a1 a2 a3 a4 a5 : Int) (l : List (Int × Int × Int)) (t0 t1 : Int) (hlen : l.length < 1000) :
    F_drive_aimed_check n a0 a1 a2 a3 a4 a5 (l.map enc_Ai3Z) t0 t1 = some (allE a0 a1 a2 a3 a4 a5 l t0 t1) := by
  have hp : F_drive_posed_check n a0 a1 a2 a3 a4 a5 = some (stateE a0 a1 a2 a3 a4 a5) := by
    have := posed_eq (n := n) (by omega) a0 a1 a2 a3 a4 a5
    unfold F_drive_CheckState at this
    simpa using this
  unfold F_drive_aimed_check
  rw [hp, Option.bind_some, checkModel_eq hn l hlen, Option.bind_some, ends_eq (by omega) _ _ (by omega), Option.bind_some, first3 (by omega)]
  rfl
theorem allE_zero {a0 a1 a2 a3 a4 a5 t0 t1 : Int} {l : List (Int × Int × Int)} (h : allE a0 a1 a2 a3 a4 a5 l t0 t1 = 0) : stateE a0 a1 a2 a3 a4 a5 = 0 ∧ AxOk a0 a1 a2 a3 ∧ l ≠ [] ∧ l.length ≤ 64 ∧ (∀ b, b ∈ l → BandOk b) ∧ (-4294967296 ≤ t0 ∧ t0 ≤ t1 ∧ t1 ≤ 4294967296) := by
  have hs := firstNZ_zero h (stateE a0 a1 a2 a3 a4 a5) (by simp)
  have hm := modelE_zero (firstNZ_zero h (modelE l) (by simp))
  have ht := ivE_zero (firstNZ_zero h (ivE t0 t1 (-4294967296) 4294967296) (by simp))
  obtain ⟨⟨h1, h2, h3, h4, h5⟩, h6, h7⟩ := stateE_zero hs
  refine ⟨hs, ⟨h1, h2, h3, h4, h5, h6, h7⟩, ?_, hm.1.2, hm.2, ht⟩
  rintro rfl
  simp at hm
end Go.Proofs.YtmgbmngmmpeaaaaGreatDoor
