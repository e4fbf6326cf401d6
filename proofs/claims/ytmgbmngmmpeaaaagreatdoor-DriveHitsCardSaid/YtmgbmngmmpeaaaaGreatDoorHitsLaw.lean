/-
  The plain law of DriveHits: the count that is told hits, and no nearer one. An own text.
-/
import Derived.Test.YtmgbmngmmpeaaaaGreatDoorHits4
import Derived.Test.YtmgbmngmmpeaaaaGreatDoorCom3
set_option linter.unusedVariables false
set_option linter.unusedSimpArgs false
set_option linter.unnecessarySimpa false
set_option maxRecDepth 20000
namespace Go.Proofs.YtmgbmngmmpeaaaaGreatDoor
open Go.SX

theorem awake5 : F_law03_awake 5000 = some true := by kernel_rfl
theorem dInverted_eq {n : Nat} (hn : 5000 ≤ n) (a0 a1 a2 a3 a4 a5 : Int) (l : List (Int × Int × Int)) (t0 t1 : Int) (hlen : l.length < 1000) :
    F_drive_Inverted n a0 a1 a2 a3 a4 a5 (l.map enc_Ai3Z) t0 t1 = some (if allE a0 a1 a2 a3 a4 a5 l t0 t1 = 0 then nearE (nearR a0 a1 a3 (hitE a2 a4 a5 l t0 t1)) else (0, allE a0 a1 a2 a3 a4 a5 l t0 t1)) := by
  unfold F_drive_Inverted
  rw [aimedCheck_eq (by omega) _ _ _ _ _ _ l _ _ hlen, Option.bind_some]
  by_cases h : allE a0 a1 a2 a3 a4 a5 l t0 t1 = 0
  · obtain ⟨_, h1, h2, h3, h4, _⟩ := allE_zero h
    rw [if_pos h, if_pos h, nearest_eq hn h1 hlen h2 h4]
    rfl
  · rw [if_neg h, if_neg h]
theorem dCheckInverted_eq {n : Nat} (hn : 5000 ≤ n) (a0 a1 a2 a3 a4 a5 : Int) (l : List (Int × Int × Int)) (t0 t1 m : Int) (hlen : l.length < 1000) :
    F_drive_CheckInverted n a0 a1 a2 a3 a4 a5 (l.map enc_Ai3Z) t0 t1 m = some (if allE a0 a1 a2 a3 a4 a5 l t0 t1 = 0 then if inR m a0 a1 = 0 then if hitE a2 a4 a5 l t0 t1 m = true then ((reachE a2 a4 a5 l m).1, (reachE a2 a4 a5 l m).2, 0) else (0, 0, 19) else (0, 0, inR m a0 a1) else (0, 0, allE a0 a1 a2 a3 a4 a5 l t0 t1)) := by
  unfold F_drive_CheckInverted
  rw [aimedCheck_eq (by omega) _ _ _ _ _ _ l _ _ hlen, Option.bind_some, within_eq, Option.bind_some, first2 (by omega), Option.bind_some, firstNZ_cons, firstNZ_one]
  by_cases h : allE a0 a1 a2 a3 a4 a5 l t0 t1 = 0
  · obtain ⟨_, h1, h2, h3, h4, _⟩ := allE_zero h
    rw [if_pos h, if_pos h]
    by_cases hm : inR m a0 a1 = 0
    · have hb := inR_zero hm
      have q0 := h1.l0
      have q1 := h1.l2
      rw [if_pos hm, if_pos hm, hit_eq hn hlen h2 h4 (by omega) ⟨h1.p0, h1.p1⟩, Option.bind_some]
      dsimp only
      split <;> rfl
    · rw [if_neg hm, if_neg hm]
  · rw [if_neg h, if_neg h, if_neg h]

/-! The loops of the statement. -/
def bandStep (l : List D) (t0 t1 mir : Int) (sb : Int) : Option (Int ⊕ (Unit ⊕ Unit)) :=
  if sb < ((l).length : Int) then
    (el un_Ai3Z l sb).bind fun tb2 =>
    if inI64 (tb2.1 * mir) then
    if inI64 (tb2.2.1 + (tb2.1 * mir)) then
    if (tb2.2.1 + (tb2.1 * mir)) < t0 then
      some (.inr (.inl ()))
    else
    if inI64 (tb2.2.2 + (tb2.1 * mir)) then
    if (tb2.2.2 + (tb2.1 * mir)) > t1 then
      some (.inr (.inl ()))
    else
    if inI64 (sb + 1) then
    some (.inl (sb + 1))
    else none
    else none
    else none
    else none
  else
  some (.inr (.inr ()))
def hitsStep (n : Nat) (l : List D) (t0 t1 motor play top : Int) (sa : Int) : Option (Int ⊕ (Unit ⊕ Unit)) :=
  if sa ≤ top then
    if sa > motor then
      if inI64 (motor - play) then
      if motor < (motor - play) then
        (loopF (bandStep l t0 t1 (motor - play)) n 0).bind fun ta5 => match ta5 with
          | (.inl _) => (
            some (.inr (.inl ())))
          | (.inr _) => (
            if inI64 (sa + 1) then
            some (.inl (sa + 1))
            else none)
      else
      (loopF (bandStep l t0 t1 motor) n 0).bind fun ta5 => match ta5 with
        | (.inl _) => (
          some (.inr (.inl ())))
        | (.inr _) => (
          if inI64 (sa + 1) then
          some (.inl (sa + 1))
          else none)
      else none
    else
    if inI64 (motor - play) then
    if sa < (motor - play) then
      (loopF (bandStep l t0 t1 (motor - play)) n 0).bind fun ta5 => match ta5 with
        | (.inl _) => (
          some (.inr (.inl ())))
        | (.inr _) => (
          if inI64 (sa + 1) then
          some (.inl (sa + 1))
          else none)
    else
    (loopF (bandStep l t0 t1 sa) n 0).bind fun ta5 => match ta5 with
      | (.inl _) => (
        some (.inr (.inl ())))
      | (.inr _) => (
        if inI64 (sa + 1) then
        some (.inl (sa + 1))
        else none)
    else none
  else
  some (.inr (.inr ()))
theorem L7_is (n : Nat) (a0 a1 a2 a3 a4 a5 a6 a7 : Int) (l : List D) : F_law03_DriveHits_L7 n a0 a1 a2 a3 a4 a5 a6 a7 l = hitsStep n l a6 a7 a0 a2 a5 := rfl
theorem L14_is (n : Nat) (a0 a1 a2 a3 a4 a5 a6 a7 : Int) (l : List D) : F_law03_DriveHits_L14 n a0 a1 a2 a3 a4 a5 a6 a7 l = hitsStep n l a6 a7 a3 a2 a5 := rfl
theorem L21_is (n : Nat) (a0 a1 a2 a3 a4 a5 a6 a7 : Int) (l : List D) : F_law03_DriveHits_L21 n a0 a1 a2 a3 a4 a5 a6 a7 l = hitsStep n l a6 a7 a1 a2 a5 := rfl
theorem L28_is (n : Nat) (a0 a1 a2 a3 a4 a5 a6 a7 : Int) (l : List D) (t : Int × Int) : F_law03_DriveHits_L28 n a0 a1 a2 a3 a4 a5 a6 a7 l t = hitsStep n l a6 a7 t.1 a2 a5 := rfl
theorem L42_is (n : Nat) (a0 a1 a2 a3 a4 a5 a6 a7 : Int) (l : List D) (m : Int) : F_law03_DriveHits_L42 n a0 a1 a2 a3 a4 a5 a6 a7 l m = hitsStep n l a6 a7 m a2 a5 := rfl

def okB (t0 t1 mir : Int) (b : Int × Int × Int) : Bool := decide (t0 ≤ b.2.1 + b.1 * mir ∧ b.2.2 + b.1 * mir ≤ t1)
def okM (l : List (Int × Int × Int)) (t0 t1 mir : Int) : Bool := l.all (okB t0 t1 mir)
theorem band_loop {t0 t1 mir : Int} (l : List (Int × Int × Int)) (hl : l.length < 1000) (hb : ∀ b, b ∈ l → BandOk b) (hm : -1100 ≤ mir ∧ mir ≤ 1100) {k : Nat} (hk : l.length < k) :
    loopF (bandStep (l.map enc_Ai3Z) t0 t1 mir) k 0 = some (if okM l t0 t1 mir = true then .inr () else .inl ()) := by
  have := loopF_list0 (step := bandStep (l.map enc_Ai3Z) t0 t1 mir) (E := Unit ⊕ Unit) (fun (_ : Unit) b => if okB t0 t1 mir b = true then .inl () else .inr (.inl ())) (fun _ => .inr ()) (fun i _ => (i : Int)) l (fun _ _ => True)
    (fun i s b hbi _ => by
      have hi := ixlt hbi
      obtain ⟨q0, q1, q2, q3⟩ := hb b (List.mem_of_getElem? hbi)
      have h1 := mul_c q0 hm
      have e1 : inI64 (b.1 * mir) := by unfold inI64; omega
      have e2 : inI64 (b.2.1 + b.1 * mir) := by unfold inI64; omega
      have e3 : inI64 (b.2.2 + b.1 * mir) := by unfold inI64; omega
      have e4 : inI64 ((i : Int) + 1) := by unfold inI64; omega
      have key : bandStep (l.map enc_Ai3Z) t0 t1 mir (i : Int) = if okB t0 t1 mir b = true then some (.inl ((i + 1 : Nat) : Int)) else some (.inr (.inl ())) := by
        unfold bandStep
        rw [if_pos (lenlt hbi), el_enc un3 hbi, Option.bind_some, if_pos e1, if_pos e2]
        unfold okB
        by_cases c1 : b.2.1 + b.1 * mir < t0
        · rw [if_pos c1, decide_eq_false (by omega)]; rfl
        · rw [if_neg c1, if_pos e3]
          by_cases c2 : b.2.2 + b.1 * mir > t1
          · rw [if_pos c2, decide_eq_false (by omega)]; rfl
          · rw [if_neg c2, if_pos e4, decide_eq_true (by omega)]; rfl
      by_cases h : okB t0 t1 mir b = true
      · rw [if_pos h]; rw [if_pos h] at key; exact ⟨key, trivial⟩
      · rw [if_neg h]; rw [if_neg h] at key; exact key)
    (fun s _ => by
      unfold bandStep
      rw [if_neg notlt])
    (k := k) (s := ()) trivial hk
  have e : ∀ m : List (Int × Int × Int), runL (E := Unit ⊕ Unit) (fun (_ : Unit) b => if okB t0 t1 mir b = true then .inl () else .inr (.inl ())) (fun _ => .inr ()) m () = if okM m t0 t1 mir = true then .inr () else .inl () := by
    intro m
    induction m with
    | nil => rfl
    | cons b m ih =>
      unfold runL okM
      rw [List.all_cons]
      by_cases h : okB t0 t1 mir b = true
      · rw [if_pos h, h, Bool.true_and]; exact ih
      · rw [if_neg h, if_neg (by simp [h])]
  rw [e, show ((0 : Nat) : Int) = 0 from rfl] at this
  exact this
theorem hits_step {n : Nat} {t0 t1 motor play top s : Int} (l : List (Int × Int × Int)) (hl : l.length < 1000) (hn : 1000 ≤ n) (hb : ∀ b, b ∈ l → BandOk b) (hm : -1000 ≤ motor ∧ motor ≤ 1000) (hp : 0 ≤ play ∧ play ≤ 50) (hs : -1100 ≤ s ∧ s ≤ top) (ht : top ≤ 1000) :
    hitsStep n (l.map enc_Ai3Z) t0 t1 motor play top s = if okM l t0 t1 (leftE motor play s) = true then some (.inl (s + 1)) else some (.inr (.inl ())) := by
  have e1 : inI64 (motor - play) := by unfold inI64; omega
  have e2 : inI64 (s + 1) := by unfold inI64; omega
  unfold hitsStep
  rw [if_pos hs.2]
  by_cases c1 : s > motor
  · have el : leftE motor play s = motor := by unfold leftE minI maxI; (repeat' split) <;> omega
    rw [if_pos c1, if_pos e1, if_neg (by omega), band_loop l hl hb (by omega) (by omega), el, Option.bind_some]
    by_cases h : okM l t0 t1 motor = true
    · rw [if_pos h, if_pos h]; dsimp only; rw [if_pos e2]
    · rw [if_neg h, if_neg h]
  · rw [if_neg c1, if_pos e1]
    by_cases c2 : s < motor - play
    · have el : leftE motor play s = motor - play := by unfold leftE minI maxI; (repeat' split) <;> omega
      rw [if_pos c2, band_loop l hl hb (by omega) (by omega), el, Option.bind_some]
      by_cases h : okM l t0 t1 (motor - play) = true
      · rw [if_pos h, if_pos h]; dsimp only; rw [if_pos e2]
      · rw [if_neg h, if_neg h]
    · have el : leftE motor play s = s := by unfold leftE minI maxI; (repeat' split) <;> omega
      rw [if_neg c2, band_loop l hl hb (by omega) (by omega), el, Option.bind_some]
      by_cases h : okM l t0 t1 s = true
      · rw [if_pos h, if_pos h]; dsimp only; rw [if_pos e2]
      · rw [if_neg h, if_neg h]
theorem hits_true {n : Nat} {t0 t1 motor play top : Int} (l : List (Int × Int × Int)) (hl : l.length < 1000) (hn : 1000 ≤ n) (hb : ∀ b, b ∈ l → BandOk b) (hm : -1000 ≤ motor ∧ motor ≤ 1000) (hp : 0 ≤ play ∧ play ≤ 50) (ht : top ≤ 1000) :
    ∀ (k : Nat) (s : Int), -1100 ≤ s → s ≤ top + 1 → top + 1 - s < k → (∀ x, s ≤ x → x ≤ top → okM l t0 t1 (leftE motor play x) = true) → loopF (hitsStep n (l.map enc_Ai3Z) t0 t1 motor play top) k s = some (.inr ())
  | 0, s, _, _, hk, _ => by omega
  | k + 1, s, h0, h1, hk, hok => by
    by_cases h : s ≤ top
    · have key := hits_step (n := n) (t0 := t0) (t1 := t1) l hl hn hb hm hp ⟨h0, h⟩ ht
      rw [if_pos (hok s (Int.le_refl _) h)] at key
      rw [loopF_l key]
      exact hits_true l hl hn hb hm hp ht k (s + 1) (by omega) (by omega) (by omega) (fun x hx => hok x (by omega))
    · refine loopF_r ?_
      unfold hitsStep
      rw [if_neg h]
theorem hits_false {n : Nat} {t0 t1 motor play top : Int} (l : List (Int × Int × Int)) (hl : l.length < 1000) (hn : 1000 ≤ n) (hb : ∀ b, b ∈ l → BandOk b) (hm : -1000 ≤ motor ∧ motor ≤ 1000) (hp : 0 ≤ play ∧ play ≤ 50) (ht : top ≤ 1000) :
    ∀ (k : Nat) (s x : Int), -1100 ≤ s → s ≤ x → x ≤ top → x - s < k → ¬ okM l t0 t1 (leftE motor play x) = true → loopF (hitsStep n (l.map enc_Ai3Z) t0 t1 motor play top) k s = some (.inl ())
  | 0, s, x, _, _, _, hk, _ => by omega
  | k + 1, s, x, h0, h1, h2, hk, hno => by
    have key := hits_step (n := n) (t0 := t0) (t1 := t1) l hl hn hb hm hp ⟨h0, by omega⟩ ht
    by_cases h : okM l t0 t1 (leftE motor play s) = true
    · rw [if_pos h] at key
      have hne : s ≠ x := by rintro rfl; exact hno h
      rw [loopF_l key]
      exact hits_false l hl hn hb hm hp ht k (s + 1) x (by omega) (by omega) h2 (by omega) hno
    · rw [if_neg h] at key
      exact loopF_r key

/-! A hit is one wherever the mirror may be. -/
theorem lo_fold {cl ch t0 : Int} : ∀ (l : List (Int × Int × Int)) (p : Int × Int), t0 ≤ (l.foldl (plG cl ch) p).1 ↔ t0 ≤ p.1 ∧ ∀ b, b ∈ l → t0 ≤ loB cl ch b
  | [], p => by simp
  | b :: l, p => by
    show t0 ≤ (l.foldl (plG cl ch) (plG cl ch p b)).1 ↔ _
    rw [lo_fold l]
    have : t0 ≤ (plG cl ch p b).1 ↔ t0 ≤ p.1 ∧ t0 ≤ loB cl ch b := by
      show t0 ≤ minI p.1 (loB cl ch b) ↔ _
      unfold minI; split <;> omega
    rw [this]
    simp only [List.mem_cons, forall_eq_or_imp]
    exact and_assoc
theorem hi_fold {cl ch t1 : Int} : ∀ (l : List (Int × Int × Int)) (p : Int × Int), (l.foldl (plG cl ch) p).2 ≤ t1 ↔ p.2 ≤ t1 ∧ ∀ b, b ∈ l → hiB cl ch b ≤ t1
  | [], p => by simp
  | b :: l, p => by
    show (l.foldl (plG cl ch) (plG cl ch p b)).2 ≤ t1 ↔ _
    rw [hi_fold l]
    have : (plG cl ch p b).2 ≤ t1 ↔ p.2 ≤ t1 ∧ hiB cl ch b ≤ t1 := by
      show maxI p.2 (hiB cl ch b) ≤ t1 ↔ _
      unfold maxI; split <;> omega
    rw [this]
    simp only [List.mem_cons, forall_eq_or_imp]
    exact and_assoc
theorem places_in {cl ch t0 t1 : Int} {l : List (Int × Int × Int)} (hne : l ≠ []) : (t0 ≤ (placesE cl ch l).1 ∧ (placesE cl ch l).2 ≤ t1) ↔ ∀ b, b ∈ l → t0 ≤ loB cl ch b ∧ hiB cl ch b ≤ t1 := by
  match l, hne with
  | b :: l, _ =>
    show (t0 ≤ (l.foldl (plG cl ch) (loB cl ch b, hiB cl ch b)).1 ∧ (l.foldl (plG cl ch) (loB cl ch b, hiB cl ch b)).2 ≤ t1) ↔ _
    rw [lo_fold, hi_fold]
    simp only [List.mem_cons, forall_eq_or_imp]
    constructor
    · rintro ⟨⟨q1, q2⟩, q3, q4⟩
      exact ⟨⟨q1, q3⟩, fun c hc => ⟨q2 c hc, q4 c hc⟩⟩
    · rintro ⟨⟨q1, q3⟩, q⟩
      exact ⟨⟨q1, fun c hc => (q c hc).1⟩, q3, fun c hc => (q c hc).2⟩
theorem mul_mid {g x y z : Int} (h1 : x ≤ y) (h2 : y ≤ z) : minI (g * x) (g * z) ≤ g * y ∧ g * y ≤ maxI (g * x) (g * z) := by
  rcases Int.le_total 0 g with hg | hg
  · have q1 := Int.mul_le_mul_of_nonneg_left h1 hg
    have q2 := Int.mul_le_mul_of_nonneg_left h2 hg
    unfold minI maxI
    constructor
    · split <;> omega
    · split <;> omega
  · have q1 := Int.mul_le_mul_of_nonpos_left hg h1
    have q2 := Int.mul_le_mul_of_nonpos_left hg h2
    unfold minI maxI
    constructor
    · split <;> omega
    · split <;> omega
theorem leftE_mono {motor play x y : Int} (h : x ≤ y) : leftE motor play x ≤ leftE motor play y := by
  unfold leftE minI maxI
  (repeat' split) <;> omega
theorem okM_iff {l : List (Int × Int × Int)} {t0 t1 mir : Int} : okM l t0 t1 mir = true ↔ ∀ b, b ∈ l → t0 ≤ b.2.1 + b.1 * mir ∧ b.2.2 + b.1 * mir ≤ t1 := by
  unfold okM okB
  rw [List.all_eq_true]
  constructor
  · intro h b hb; exact of_decide_eq_true (h b hb)
  · intro h b hb; exact decide_eq_true (h b hb)
theorem hitE_iff {a2 a4 a5 t0 t1 motor : Int} {l : List (Int × Int × Int)} (hne : l ≠ []) : hitE a2 a4 a5 l t0 t1 motor = true ↔ ∀ b, b ∈ l → t0 ≤ loB (leftE motor a2 a4) (leftE motor a2 a5) b ∧ hiB (leftE motor a2 a4) (leftE motor a2 a5) b ≤ t1 := by
  unfold hitE reachE
  rw [decide_eq_true_iff]
  exact places_in hne
theorem hit_all {a2 a4 a5 t0 t1 motor : Int} {l : List (Int × Int × Int)} (hne : l ≠ []) (h : hitE a2 a4 a5 l t0 t1 motor = true) (x : Int) (h1 : a4 ≤ x) (h2 : x ≤ a5) : okM l t0 t1 (leftE motor a2 x) = true := by
  rw [okM_iff]
  intro b hb
  have q := (hitE_iff hne).1 h b hb
  have m := mul_mid (g := b.1) (leftE_mono (motor := motor) (play := a2) h1) (leftE_mono (motor := motor) (play := a2) h2)
  unfold loB hiB at q
  omega
theorem hit_not {a2 a4 a5 t0 t1 motor : Int} {l : List (Int × Int × Int)} (hne : l ≠ []) (h : ¬ hitE a2 a4 a5 l t0 t1 motor = true) : ¬ okM l t0 t1 (leftE motor a2 a4) = true ∨ ¬ okM l t0 t1 (leftE motor a2 a5) = true := by
  by_cases c1 : okM l t0 t1 (leftE motor a2 a4) = true
  · by_cases c2 : okM l t0 t1 (leftE motor a2 a5) = true
    · exfalso
      apply h
      rw [hitE_iff hne]
      intro b hb
      have q1 := okM_iff.1 c1 b hb
      have q2 := okM_iff.1 c2 b hb
      unfold loB hiB minI maxI
      constructor
      · split <;> omega
      · split <;> omega
    · exact .inr c2
  · exact .inl c1
theorem hits_eq {n : Nat} {t0 t1 motor a2 a4 a5 : Int} (l : List (Int × Int × Int)) (hl : l.length < 1000) (hn : 5000 ≤ n) (hne : l ≠ []) (hb : ∀ b, b ∈ l → BandOk b) (hm : -1000 ≤ motor ∧ motor ≤ 1000) (hp : 0 ≤ a2 ∧ a2 ≤ 50) (h4 : -1100 ≤ a4 ∧ a4 ≤ a5) (h5 : a5 ≤ 1000) :
    loopF (hitsStep n (l.map enc_Ai3Z) t0 t1 motor a2 a5) n a4 = some (if hitE a2 a4 a5 l t0 t1 motor = true then .inr () else .inl ()) := by
  by_cases h : hitE a2 a4 a5 l t0 t1 motor = true
  · rw [if_pos h]
    exact hits_true l hl (by omega) hb hm hp h5 n a4 h4.1 (by omega) (by omega) (fun x q1 q2 => hit_all hne h x q1 q2)
  · rw [if_neg h]
    rcases hit_not hne h with q | q
    · exact hits_false l hl (by omega) hb hm hp h5 n a4 a4 h4.1 (Int.le_refl _) h4.2 (by omega) q
    · exact hits_false l hl (by omega) hb hm hp h5 n a4 a5 h4.1 h4.2 (Int.le_refl _) (by omega) q

/-! No nearer count hits. -/
def Best (a0 a3 : Int) (hit : Int → Bool) (s : Int × Bool) (m : Nat) : Prop :=
  (s.2 = false → ∀ j : Nat, j < m → ¬ hit (a0 + (j : Int)) = true) ∧
  (s.2 = true → (∃ i : Nat, i < m ∧ s.1 = a0 + (i : Int)) ∧ hit s.1 = true ∧ ∀ j : Nat, j < m → hit (a0 + (j : Int)) = true → farE s.1 a3 ≤ farE (a0 + (j : Int)) a3 ∧ (a0 + (j : Int) < s.1 → farE s.1 a3 < farE (a0 + (j : Int)) a3))
theorem best_step {a0 a3 : Int} {hit : Int → Bool} {s : Int × Bool} {i : Nat} (h : Best a0 a3 hit s i) : match nearG a0 a3 hit s i with
    | .inl s' => Best a0 a3 hit s' (i + 1)
    | .inr _ => True := by
  obtain ⟨h1, h2⟩ := h
  unfold nearG
  by_cases c1 : hit (a0 + (i : Int)) = true
  · rw [if_pos c1]
    by_cases c2 : s.2 = true
    · obtain ⟨⟨i0, q1, q2⟩, q3, q4⟩ := h2 c2
      rw [if_pos c2]
      by_cases c3 : farE (a0 + (i : Int)) a3 < farE s.1 a3
      · rw [if_pos c3]
        refine ⟨fun h => (by cases h), fun _ => ⟨⟨i, by omega, rfl⟩, c1, fun j hj hh => ?_⟩⟩
        by_cases hji : j < i
        · have := (q4 j hji hh).1
          exact ⟨by dsimp only; omega, fun _ => by dsimp only; omega⟩
        · have : j = i := by omega
          subst this
          exact ⟨Int.le_refl _, fun h => by dsimp only at h; omega⟩
      · rw [if_neg c3]
        refine ⟨fun h => (by rw [c2] at h; cases h), fun _ => ⟨⟨i0, by omega, q2⟩, q3, fun j hj hh => ?_⟩⟩
        by_cases hji : j < i
        · exact q4 j hji hh
        · have : j = i := by omega
          subst this
          exact ⟨by omega, fun h => by omega⟩
    · rw [if_neg c2]
      have c2' : s.2 = false := by simpa using c2
      refine ⟨fun h => (by cases h), fun _ => ⟨⟨i, by omega, rfl⟩, c1, fun j hj hh => ?_⟩⟩
      by_cases hji : j < i
      · exact absurd hh (h1 c2' j hji)
      · have : j = i := by omega
        subst this
        exact ⟨Int.le_refl _, fun h => by dsimp only at h; omega⟩
  · rw [if_neg c1]
    refine ⟨fun h j hj => ?_, fun h => ?_⟩
    · by_cases hji : j < i
      · exact h1 h j hji
      · have : j = i := by omega
        subst this
        exact c1
    · obtain ⟨⟨i0, q1, q2⟩, q3, q4⟩ := h2 h
      refine ⟨⟨i0, by omega, q2⟩, q3, fun j hj hh => ?_⟩
      by_cases hji : j < i
      · exact q4 j hji hh
      · have : j = i := by omega
        subst this
        exact absurd hh c1
theorem nearG_inl (a0 a3 : Int) (hit : Int → Bool) (s : Int × Bool) (i : Nat) : ∃ s', nearG a0 a3 hit s i = .inl s' := by
  unfold nearG
  (repeat' split) <;> exact ⟨_, rfl⟩
theorem best_run {a0 a3 : Int} {hit : Int → Bool} : ∀ (k i : Nat) (s : Int × Bool), Best a0 a3 hit s i → Best a0 a3 hit (runL (nearG a0 a3 hit) (fun s => s) (List.range' i k) s) (i + k)
  | 0, i, s, h => h
  | k + 1, i, s, h => by
    rw [List.range'_succ]
    unfold runL
    obtain ⟨s', hs⟩ := nearG_inl a0 a3 hit s i
    have := best_step h
    rw [hs] at this ⊢
    have r := best_run k (i + 1) s' this
    rw [show i + (k + 1) = i + 1 + k by omega]
    exact r
theorem nearR_best {a0 a1 a3 : Int} {hit : Int → Bool} : Best a0 a3 hit (nearR a0 a1 a3 hit) (a1 - a0 + 1).toNat := by
  unfold nearR
  rw [List.range_eq_range']
  have := best_run (a0 := a0) (a3 := a3) (hit := hit) (a1 - a0 + 1).toNat 0 (0, false) ⟨fun _ j hj => by omega, fun h => by cases h⟩
  rw [Nat.zero_add] at this
  exact this
theorem farE_abs {a b x : Int} : farE x b ≤ farE a b ↔ b - farE a b ≤ x ∧ x ≤ b + farE a b := by
  unfold farE maxI
  (repeat' split) <;> omega
theorem nearer_loop {n : Nat} (hn : 5000 ≤ n) {a0 a1 a2 a3 a4 a5 t0 t1 c e : Int} (ha : AxOk a0 a1 a2 a3) (h4 : -1100 ≤ a4 ∧ a4 ≤ a5) (h5 : a5 ≤ 1000) {l : List (Int × Int × Int)} (hl : l.length < 1000) (hne : l ≠ []) (hb : ∀ b, b ∈ l → BandOk b) (hc : a0 ≤ c ∧ c ≤ a1)
    (hno : ∀ m, a0 ≤ m → m ≤ a1 → farE m a3 < farE c a3 ∨ m < c ∧ farE m a3 ≤ farE c a3 → ¬ hitE a2 a4 a5 l t0 t1 m = true) :
    ∀ (k : Nat) (s : Int), a0 ≤ s → s ≤ a1 + 1 → a3 - farE c a3 ≤ s → a1 + 1 - s < k → loopF (F_law03_DriveHits_L43 n a0 a1 a2 a3 a4 a5 t0 t1 (l.map enc_Ai3Z) (c, e)) k s = some (.inr ())
  | 0, s, _, _, _, hk => by omega
  | k + 1, s, g0, g1, g2, hk => by
    obtain ⟨l0, l1, l2, p0, p1, m0, m1⟩ := ha
    have hf : 0 ≤ farE c a3 ∧ farE c a3 ≤ 2000 := by unfold farE maxI; split <;> omega
    have e1 : inI64 (a3 + farE c a3) := by unfold inI64; omega
    by_cases hs : s ≤ minI a1 (a3 + farE c a3)
    · have hs1 : s ≤ a1 ∧ s ≤ a3 + farE c a3 := by unfold minI at hs; split at hs <;> omega
      have e2 : inI64 (s - a3) := by unfold inI64; omega
      have e3 : inI64 (a3 - s) := by unfold inI64; omega
      have e4 : inI64 (s + 1) := by unfold inI64; omega
      have hle : farE s a3 ≤ farE c a3 := farE_abs.2 ⟨g2, hs1.2⟩
      have hh := hits_eq (n := n) (t0 := t0) (t1 := t1) (motor := s) l hl hn hne hb (by omega) ⟨p0, p1⟩ h4 h5
      have key : F_law03_DriveHits_L43 n a0 a1 a2 a3 a4 a5 t0 t1 (l.map enc_Ai3Z) (c, e) s = some (.inl (s + 1)) := by
        unfold F_law03_DriveHits_L43
        change (if inI64 (a3 + farE c a3) then if s ≤ minI a1 (a3 + farE c a3) then if inI64 (s - a3) then if inI64 (a3 - s) then if farE s a3 < farE c a3 then _ else _ else none else none else _ else none) = _
        rw [if_pos e1, if_pos hs, if_pos e2, if_pos e3, L42_is, hh]
        by_cases c1 : farE s a3 < farE c a3
        · rw [if_pos c1, if_neg (hno s g0 hs1.1 (.inl c1)), Option.bind_some]
          dsimp only
          rw [if_pos e4]
        · rw [if_neg c1]
          dsimp only
          by_cases c2 : s < c
          · rw [if_pos c2, if_neg (hno s g0 hs1.1 (.inr ⟨c2, hle⟩)), Option.bind_some]
            dsimp only
            rw [if_pos e4]
          · rw [if_neg c2, if_pos e4]
      rw [loopF_l key]
      exact nearer_loop hn ⟨l0, l1, l2, p0, p1, m0, m1⟩ h4 h5 hl hne hb hc hno k (s + 1) (by omega) (by omega) (by omega) (by omega)
    · refine loopF_r ?_
      unfold F_law03_DriveHits_L43
      change (if inI64 (a3 + farE c a3) then if s ≤ minI a1 (a3 + farE c a3) then _ else _ else none) = _
      rw [if_pos e1, if_neg hs]

theorem stateE_ends {a0 a1 a2 a3 a4 a5 : Int} (h : stateE a0 a1 a2 a3 a4 a5 = 0) : a3 - a2 ≤ a4 ∧ a4 ≤ a5 ∧ a5 ≤ a3 := by
  unfold stateE at h
  by_cases hk : firstNZ [axisE a0 a1 a2, inR a3 a0 a1, whenI (decide (a4 > a5)) 11] = 0
  · rw [if_pos hk] at h
    have q1 := whenI_zero (by decide) (firstNZ_zero hk (whenI (decide (a4 > a5)) 11) (by simp))
    simp only [decide_eq_false_iff_not] at q1
    by_cases q2 : a4 < a3 - a2
    · rw [if_pos q2] at h; cases h
    · rw [if_neg q2] at h
      have q3 := whenI_zero (by decide) h
      simp only [decide_eq_false_iff_not] at q3
      omega
  · rw [if_neg hk] at h; exact absurd h hk
theorem law_DriveHits (a0 a1 a2 a3 a4 a5 a6 a7 : Int) (l : List (Int × Int × Int)) : F_law03_DriveHits 5000 a0 a1 a2 a3 a4 a5 a6 a7 (l.map enc_Ai3Z) = some true := by
  unfold F_law03_DriveHits
  rw [shortModel_eq, List.length_map, Option.bind_some]
  by_cases hs : l.length ≤ 8 ∨ l.length = 65
  · have hl : l.length < 1000 := by omega
    rw [if_pos (decide_eq_true hs), refAll_eq (by omega) _ _ _ _ _ _ l _ _ hl, Option.bind_some]
    by_cases ha : allE a0 a1 a2 a3 a4 a5 l a6 a7 = 0
    · obtain ⟨hst, hax, hne, h64, hb, htt⟩ := allE_zero ha
      have hends := stateE_ends hst
      obtain ⟨l0, l1, l2, p0, p1, m0, m1⟩ := hax
      have h4 : -1100 ≤ a4 ∧ a4 ≤ a5 := by omega
      have h5 : a5 ≤ 1000 := by omega
      have hbest := nearR_best (a0 := a0) (a1 := a1) (a3 := a3) (hit := hitE a2 a4 a5 l a6 a7)
      rw [if_pos ha, given_eq l (by omega) (by omega), Option.bind_some, dInverted_eq (Nat.le_refl _) _ _ _ _ _ _ l _ _ hl, Option.bind_some, if_pos ha]
      simp only [L7_is, L14_is, L21_is, L28_is]
      rw [hits_eq l hl (Nat.le_refl _) hne hb (by omega) ⟨p0, p1⟩ h4 h5, hits_eq l hl (Nat.le_refl _) hne hb (by omega) ⟨p0, p1⟩ h4 h5, hits_eq l hl (Nat.le_refl _) hne hb (by omega) ⟨p0, p1⟩ h4 h5]
      generalize hr : nearR a0 a1 a3 (hitE a2 a4 a5 l a6 a7) = r at *
      obtain ⟨c, f⟩ := r
      cases f with
      | false =>
        have hnone : ∀ m, a0 ≤ m → m ≤ a1 → ¬ hitE a2 a4 a5 l a6 a7 m = true := by
          intro m q1 q2
          have := hbest.1 rfl (m - a0).toNat (by omega)
          rwa [show a0 + (((m - a0).toNat : Nat) : Int) = m by omega] at this
        have en : nearE (c, false) = (0, 18) := rfl
        rw [en]
        simp only [if_neg (hnone a0 (Int.le_refl _) l1), if_neg (hnone a3 m0 m1), if_neg (hnone a1 l1 (Int.le_refl _)), Option.bind_some, awake5]
        rfl
      | true =>
        obtain ⟨⟨i, i1, i2⟩, hh, hmin⟩ := hbest.2 rfl
        simp only at i2 hh hmin
        have hc : a0 ≤ c ∧ c ≤ a1 := by omega
        have en : nearE (c, true) = (c, 0) := rfl
        rw [en, hits_eq l hl (Nat.le_refl _) hne hb (by dsimp only; omega) ⟨p0, p1⟩ h4 h5]
        have hf : 0 ≤ farE c a3 ∧ farE c a3 ≤ 2000 := by unfold farE maxI; split <;> omega
        have e1 : inI64 (c - a3) := by unfold inI64; omega
        have e2 : inI64 (a3 - c) := by unfold inI64; omega
        have e3 : inI64 (a3 - farE c a3) := by unfold inI64; omega
        have hno : ∀ m, a0 ≤ m → m ≤ a1 → farE m a3 < farE c a3 ∨ m < c ∧ farE m a3 ≤ farE c a3 → ¬ hitE a2 a4 a5 l a6 a7 m = true := by
          intro m q1 q2 q3 q4
          have := hmin (m - a0).toNat (by omega)
          rw [show a0 + (((m - a0).toNat : Nat) : Int) = m by omega] at this
          have := this q4
          omega
        have hst0 : a0 ≤ maxI a0 (a3 - farE c a3) ∧ maxI a0 (a3 - farE c a3) ≤ a1 + 1 ∧ a3 - farE c a3 ≤ maxI a0 (a3 - farE c a3) := by
          unfold maxI; split <;> omega
        have hloop := nearer_loop (n := 5000) (e := 0) (t0 := a6) (t1 := a7) (Nat.le_refl _) ⟨l0, l1, l2, p0, p1, m0, m1⟩ h4 h5 hl hne hb hc hno 5000 (maxI a0 (a3 - farE c a3)) hst0.1 hst0.2.1 hst0.2.2 (by omega)
        have hci := dCheckInverted_eq (n := 5000) (Nat.le_refl _) a0 a1 a2 a3 a4 a5 l a6 a7 c hl
        have hin : inR c a0 a1 = 0 := by unfold inR; rw [if_neg (by omega), if_neg (by omega)]
        rw [if_pos ha, if_pos hin, if_pos hh] at hci
        have hr1 : (reachE a2 a4 a5 l c).1 ≤ (reachE a2 a4 a5 l c).2 := places_le hb (leftE_b (by omega) ⟨p0, p1⟩) (leftE_b (by omega) ⟨p0, p1⟩)
        have hr2 : a6 ≤ (reachE a2 a4 a5 l c).1 ∧ (reachE a2 a4 a5 l c).2 ≤ a7 := of_decide_eq_true hh
        dsimp only
        rw [if_pos rfl, if_neg (by decide), if_neg (by omega), if_neg (by omega), if_pos hh, Option.bind_some]
        dsimp only
        change (if inI64 (c - a3) then if inI64 (a3 - c) then if inI64 (a3 - farE c a3) then (loopF _ 5000 (maxI a0 (a3 - farE c a3))).bind _ else none else none else none) = _
        rw [if_pos e1, if_pos e2, if_pos e3, hloop, Option.bind_some]
        dsimp only
        rw [hci, Option.bind_some]
        dsimp only
        rw [if_pos rfl, if_pos hr1, if_pos hr2.1, if_pos hr2.2, awake5]
        rfl
    · rw [if_neg ha, awake5]
      rfl
  · rw [if_neg (by simpa using hs), awake5]
    rfl
end Go.Proofs.YtmgbmngmmpeaaaaGreatDoor
