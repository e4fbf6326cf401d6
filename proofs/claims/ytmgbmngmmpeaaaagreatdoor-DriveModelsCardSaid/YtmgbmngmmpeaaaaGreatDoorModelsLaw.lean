/-
  The plain law of DriveModels: both ways of refining a model, and of drifting it, agree. An own text.
-/
import Derived.Test.YtmgbmngmmpeaaaaGreatDoorModels1
import Derived.Test.YtmgbmngmmpeaaaaGreatDoorCom2
set_option linter.unusedVariables false
set_option linter.unusedSimpArgs false
set_option linter.unnecessarySimpa false
set_option maxRecDepth 20000
namespace Go.Proofs.YtmgbmngmmpeaaaaGreatDoor
open Go.SX

def refOne (x b : Int × Int × Int) : List (Int × Int × Int) := if (permE b x).2.1 ≤ (permE b x).2.2 then [permE b x] else []
def refAll (l : List (Int × Int × Int)) (x : Int × Int × Int) : List (Int × Int × Int) := l.flatMap (refOne x)
theorem refOne_len (x b : Int × Int × Int) : (refOne x b).length ≤ 1 := by unfold refOne; split <;> simp
theorem refAll_len : ∀ (l : List (Int × Int × Int)) (x : Int × Int × Int), (refAll l x).length ≤ l.length
  | [], _ => Nat.le_refl _
  | b :: l, x => by
    show ((b :: l).flatMap (refOne x)).length ≤ _
    rw [List.flatMap_cons, List.length_append]
    have := refOne_len x b
    have h : (l.flatMap (refOne x)).length ≤ l.length := refAll_len l x
    simp only [List.length_cons]; omega
theorem refined_loop {n : Nat} {l : List (Int × Int × Int)} {x : Int × Int × Int} (hb : ∀ b, b ∈ l → BandOk b) (hx : SpotOk x) (hl : l.length < 1000) {k : Nat} (hk : l.length < k) :
    loopF (F_drive_Refined_L1 n (l.map enc_Ai3Z) x.1 x.2.1 x.2.2) k (0, []) = some ((refAll l x).map enc_Ai3Z) := by
  unfold refAll
  rw [List.map_flatMap]
  refine loop_acc (fun out => out) l (fun b => (refOne x b).map enc_Ai3Z) (fun b => by rw [List.length_map]; exact refOne_len _ _) (fun i out b hbi ho => ?_) (fun out _ => ?_) hk
  · have hi := ixlt hbi
    have hg := (hb b (List.mem_of_getElem? hbi)).1
    unfold F_drive_Refined_L1
    dsimp only
    rw [if_pos (lenlt hbi), el_enc un3 hbi, Option.bind_some, seen_eq hg hx, Option.bind_some]
    unfold refOne
    by_cases h : (permE b x).2.1 ≤ (permE b x).2.2
    · rw [if_pos h, if_pos (decide_eq_true h), if_pos (by unfold roomP; omega), if_pos (by unfold inI64; omega)]
      rfl
    · rw [if_neg h, if_neg (by simpa using h), if_pos (by unfold inI64; omega), List.map_nil, List.append_nil]
      rfl
  · unfold F_drive_Refined_L1
    rw [if_neg notlt]
theorem refRefined_loop {n : Nat} {l : List (Int × Int × Int)} {x : Int × Int × Int} (hb : ∀ b, b ∈ l → BandOk b) (hx : SpotOk x) (hl : l.length < 1000) {k : Nat} (hk : l.length < k) :
    loopF (F_ref03_Refined_L1 n (l.map enc_Ai3Z) x.1 x.2.1 x.2.2) k (0, []) = some ((refAll l x).map enc_Ai3Z) := by
  unfold refAll
  rw [List.map_flatMap]
  refine loop_acc (fun out => out) l (fun b => (refOne x b).map enc_Ai3Z) (fun b => by rw [List.length_map]; exact refOne_len _ _) (fun i out b hbi ho => ?_) (fun out _ => ?_) hk
  · have hi := ixlt hbi
    have hg := (hb b (List.mem_of_getElem? hbi)).1
    unfold F_ref03_Refined_L1
    dsimp only
    rw [if_pos (lenlt hbi), el_enc un3 hbi, Option.bind_some, perm_eq hg hx, Option.bind_some]
    unfold refOne
    by_cases h : (permE b x).2.1 ≤ (permE b x).2.2
    · rw [if_pos h, if_pos h, if_pos (by unfold roomP; omega), if_pos (by unfold inI64; omega)]
      rfl
    · rw [if_neg h, if_neg h, if_pos (by unfold inI64; omega), List.map_nil, List.append_nil]
      rfl
  · unfold F_ref03_Refined_L1
    rw [if_neg notlt]
def refinE (l : List (Int × Int × Int)) (x : Int × Int × Int) : List (Int × Int × Int) × Int := if (refAll l x).length = 0 then ([], 18) else (refAll l x, 0)
theorem refinE_len (l : List (Int × Int × Int)) (x : Int × Int × Int) : (refinE l x).1.length ≤ l.length := by
  unfold refinE; split
  · simp
  · exact refAll_len l x
theorem refRefined_eq {n : Nat} (hn : 1000 ≤ n) {l : List (Int × Int × Int)} {x : Int × Int × Int} (hb : ∀ b, b ∈ l → BandOk b) (hx : SpotOk x) (hl : l.length < 1000) :
    F_ref03_Refined n (l.map enc_Ai3Z) x.1 x.2.1 x.2.2 = some ((refinE l x).1.map enc_Ai3Z, (refinE l x).2) := by
  unfold F_ref03_Refined refinE
  rw [refRefined_loop hb hx hl (by omega), Option.bind_some, List.length_map]
  by_cases h0 : (refAll l x).length = 0
  · rw [if_pos h0, if_pos (by omega)]; rfl
  · rw [if_neg h0, if_neg (by omega)]
def spotT (x : Int × Int × Int) : Int := spotE x.1 x.2.1 x.2.2
theorem spotT_zero {x : Int × Int × Int} (h : spotT x = 0) : SpotOk x := by
  obtain ⟨h1, h2, h3, h4⟩ := spotE_zero h
  exact ⟨h1, h2, h3, h4⟩
def fullRef (l : List (Int × Int × Int)) (x : Int × Int × Int) : List (Int × Int × Int) × Int := if firstNZ [modelE l, spotT x] = 0 then refinE l x else ([], firstNZ [modelE l, spotT x])
theorem refined_eq {n : Nat} (hn : 1000 ≤ n) (l : List (Int × Int × Int)) (x : Int × Int × Int) (hl : l.length < 1000) :
    F_drive_Refined n (l.map enc_Ai3Z) x.1 x.2.1 x.2.2 = some ((fullRef l x).1.map enc_Ai3Z, (fullRef l x).2) := by
  unfold F_drive_Refined fullRef
  rw [checkModel_eq hn l hl, Option.bind_some, spot_eq (by omega), Option.bind_some, first2 (by omega), Option.bind_some]
  change (if firstNZ [modelE l, spotT x] = 0 then _ else _) = _
  by_cases h : firstNZ [modelE l, spotT x] = 0
  · have hb := (modelE_zero (firstNZ_zero h (modelE l) (by simp))).2
    have hx := spotT_zero (firstNZ_zero h (spotT x) (by simp))
    rw [if_pos h, if_pos h, refined_loop hb hx hl (by omega), Option.bind_some, List.length_map]
    unfold refinE
    by_cases h0 : (refAll l x).length = 0
    · rw [if_pos h0, if_pos (by omega)]; rfl
    · rw [if_neg h0, if_neg (by omega)]
  · rw [if_neg h, if_neg h]; rfl

/-! Drifts. -/
def dr (d1 d2 : Int) (b : Int × Int × Int) : Int × Int × Int := (b.1, b.2.1 + d1, b.2.2 + d2)
def drOk (d1 d2 : Int) (b : Int × Int × Int) : Bool := decide (-2000000 ≤ b.2.1 + d1 ∧ b.2.2 + d2 ≤ 2000000)
theorem dr_ends {d1 d2 : Int} {b : Int × Int × Int} (hb : BandOk b) (hd : -1000000 ≤ d1 ∧ d1 ≤ d2 ∧ d2 ≤ 1000000) : ivE (b.2.1 + d1) (b.2.2 + d2) (-2000000) 2000000 = 0 ↔ drOk d1 d2 b = true := by
  obtain ⟨_, h1, h2, h3⟩ := hb
  unfold drOk
  rw [decide_eq_true_iff]
  constructor
  · intro h
    have := ivE_zero h
    omega
  · intro h
    unfold ivE
    have e1 : inR (b.2.1 + d1) (-2000000) 2000000 = 0 := by unfold inR; rw [if_neg (by omega), if_neg (by omega)]
    have e2 : inR (b.2.2 + d2) (-2000000) 2000000 = 0 := by unfold inR; rw [if_neg (by omega), if_neg (by omega)]
    have e3 : decide (b.2.1 + d1 > b.2.2 + d2) = false := decide_eq_false (by omega)
    rw [e1, e2, e3]; rfl
theorem copyAll (l : List D) (z : D) : l.take ((List.replicate (Int.toNat (l.length : Int)) z : List D).length) ++ (List.replicate (Int.toNat (l.length : Int)) z).drop l.length = l := by
  rw [List.length_replicate, Int.toNat_natCast, List.take_length, List.drop_eq_nil_of_le (by simp), List.append_nil]
theorem nth_mid (A C : List D) (x : D) : nth (A ++ x :: C) A.length = some x := by rw [nth_get?]; simp
theorem set_mid (A C : List D) (x y : D) : List.set (A ++ x :: C) A.length y = A ++ y :: C := by simp
def drOut (l : List (Int × Int × Int)) (d1 d2 : Int) (rest : List (Int × Int × Int)) : Unit ⊕ List D := if rest.all (drOk d1 d2) = true then .inr (l.map fun b => enc_Ai3Z (dr d1 d2 b)) else .inl ()
theorem drift_loop {n : Nat} (hn : 10 ≤ n) {d1 d2 : Int} (hd : -1000000 ≤ d1 ∧ d1 ≤ d2 ∧ d2 ≤ 1000000) (l : List (Int × Int × Int)) (hl : l.length < 1000) (hb : ∀ b, b ∈ l → BandOk b) :
    ∀ (k : Nat) (A C : List (Int × Int × Int)), A ++ C = l → C.length < k →
      loopF (F_drive_Drifted_L1 n (l.map enc_Ai3Z) d1 d2) k ((A.length : Int), (A.map fun b => enc_Ai3Z (dr d1 d2 b)) ++ C.map enc_Ai3Z) = some (drOut l d1 d2 C)
  | 0, A, C, _, hk => by omega
  | k + 1, A, [], hA, hk => by
    rw [List.append_nil] at hA
    subst hA
    rw [loopF_r (e := .inr (A.map fun b => enc_Ai3Z (dr d1 d2 b)))]
    · rfl
    · unfold F_drive_Drifted_L1
      rw [copyAll]
      dsimp only
      rw [if_neg (by simp), List.map_nil, List.append_nil]
  | k + 1, A, b :: C, hA, hk => by
    have hbm : b ∈ l := by rw [← hA]; simp
    have hbo := hb b hbm
    have hlen : A.length + (C.length + 1) = l.length := by rw [← hA]; simp
    obtain ⟨q1, q2, q3, q4⟩ := hbo
    have key : F_drive_Drifted_L1 n (l.map enc_Ai3Z) d1 d2 ((A.length : Int), (A.map fun b => enc_Ai3Z (dr d1 d2 b)) ++ (b :: C).map enc_Ai3Z) =
        if ivE (b.2.1 + d1) (b.2.2 + d2) (-2000000) 2000000 = 0 then some (.inl ((((A ++ [b]).length : Nat) : Int), ((A ++ [b]).map fun b => enc_Ai3Z (dr d1 d2 b)) ++ C.map enc_Ai3Z)) else some (.inr (.inl ())) := by
      have ho : ((A.map fun b => enc_Ai3Z (dr d1 d2 b)) ++ (b :: C).map enc_Ai3Z) = (A.map fun b => enc_Ai3Z (dr d1 d2 b)) ++ enc_Ai3Z b :: C.map enc_Ai3Z := rfl
      have hAl : Int.toNat (A.length : Int) = (A.map fun b => enc_Ai3Z (dr d1 d2 b)).length := by simp
      rw [ho]
      unfold F_drive_Drifted_L1
      rw [copyAll]
      dsimp only
      rw [if_pos (by simp; omega), if_pos (by simp; omega), hAl, nth_mid, Option.bind_some, un3, Option.bind_some, if_pos (by unfold inI64; omega), if_pos (by unfold inI64; omega), set_mid, if_pos (by simp; omega), nth_mid, Option.bind_some]
      have hu : un_Ai3Z (.agg [I b.1, I (b.2.1 + d1), I (b.2.2 + d2)]) = some (b.1, b.2.1 + d1, b.2.2 + d2) := un3 (b.1, b.2.1 + d1, b.2.2 + d2)
      have hin : inI64 ((A.length : Int) + 1) := by unfold inI64; omega
      rw [hu, Option.bind_some, ends_eq hn _ _ (by omega), Option.bind_some]
      simp only [if_pos hin]
      have e1 : ((A.length : Int) + 1) = (((A ++ [b]).length : Nat) : Int) := by simp
      have e2 : ((A.map fun b => enc_Ai3Z (dr d1 d2 b)) ++ .agg [I b.1, I (b.2.1 + d1), I (b.2.2 + d2)] :: C.map enc_Ai3Z) = ((A ++ [b]).map fun b => enc_Ai3Z (dr d1 d2 b)) ++ C.map enc_Ai3Z := by
        rw [List.map_append, List.append_assoc]; rfl
      rw [e1, e2]
    unfold drOut
    rw [List.all_cons]
    by_cases h : drOk d1 d2 b = true
    · rw [if_pos ((dr_ends ⟨q1, q2, q3, q4⟩ hd).2 h)] at key
      rw [loopF_l key, drift_loop hn hd l hl hb k (A ++ [b]) C (by rw [List.append_assoc]; exact hA) (by simp at hk; omega), h, Bool.true_and]
      rfl
    · rw [if_neg (fun q => h ((dr_ends ⟨q1, q2, q3, q4⟩ hd).1 q))] at key
      rw [loopF_r key, if_neg (by simp [h])]
theorem refDrift_loop {n : Nat} {d1 d2 : Int} (hd : -1000000 ≤ d1 ∧ d1 ≤ d2 ∧ d2 ≤ 1000000) (l : List (Int × Int × Int)) (hl : l.length < 1000) (hb : ∀ b, b ∈ l → BandOk b) {k : Nat} (hk : l.length < k) :
    loopF (F_ref03_Drifted_L1 n (l.map enc_Ai3Z) d1 d2) k (0, []) = some (drOut l d1 d2 l) := by
  have := loopF_list0 (step := F_ref03_Drifted_L1 n (l.map enc_Ai3Z) d1 d2) (E := Unit ⊕ List D) (fun (s : List D) b => if drOk d1 d2 b = true then .inl (s ++ [enc_Ai3Z (dr d1 d2 b)]) else .inr (.inl ())) (fun s => .inr s) (fun i s => ((i : Int), s)) l (fun i s => s.length ≤ i)
    (fun i s b hbi hi => by
      have hi' := ixlt hbi
      obtain ⟨q1, q2, q3, q4⟩ := hb b (List.mem_of_getElem? hbi)
      have key : F_ref03_Drifted_L1 n (l.map enc_Ai3Z) d1 d2 ((i : Int), s) = if drOk d1 d2 b = true then some (.inl (((i + 1 : Nat) : Int), s ++ [enc_Ai3Z (dr d1 d2 b)])) else some (.inr (.inl ())) := by
        unfold F_ref03_Drifted_L1
        dsimp only
        rw [if_pos (lenlt hbi), el_enc un3 hbi, Option.bind_some, if_pos (by unfold inI64; omega), if_pos (by unfold inI64; omega)]
        unfold drOk
        by_cases h1 : b.2.1 + d1 < -2000000
        · rw [if_pos h1, if_neg (by simp; omega)]
        · rw [if_neg h1]
          by_cases h2 : b.2.2 + d2 > 2000000
          · rw [if_pos h2, if_neg (by simp; omega)]
          · rw [if_neg h2, if_pos (by unfold roomP; omega), if_pos (by unfold inI64; omega), if_pos (by simp; omega)]
            rfl
      by_cases h : drOk d1 d2 b = true
      · rw [if_pos h]; rw [if_pos h] at key; exact ⟨key, by simp; omega⟩
      · rw [if_neg h]; rw [if_neg h] at key; exact key)
    (fun s _ => by
      unfold F_ref03_Drifted_L1
      rw [if_neg notlt])
    (k := k) (s := []) (Nat.le_refl _) hk
  have e : ∀ (m : List (Int × Int × Int)) (s : List D), runL (E := Unit ⊕ List D) (fun (s : List D) b => if drOk d1 d2 b = true then .inl (s ++ [enc_Ai3Z (dr d1 d2 b)]) else .inr (.inl ())) (fun s => .inr s) m s = if m.all (drOk d1 d2) = true then .inr (s ++ m.map fun b => enc_Ai3Z (dr d1 d2 b)) else .inl () := by
    intro m
    induction m with
    | nil => intro s; simp [runL]
    | cons b m ih =>
      intro s
      unfold runL
      rw [List.all_cons]
      by_cases h : drOk d1 d2 b = true
      · rw [if_pos h]
        show runL (E := Unit ⊕ List D) _ _ m (s ++ [enc_Ai3Z (dr d1 d2 b)]) = _
        rw [ih, h, Bool.true_and, List.map_cons, List.append_assoc]; rfl
      · rw [if_neg h, if_neg (by simp [h])]
  rw [e, List.nil_append] at this
  exact this
def driftE (l : List (Int × Int × Int)) (d1 d2 : Int) : List (Int × Int × Int) × Int := if l.all (drOk d1 d2) = true then (l.map (dr d1 d2), 0) else ([], 4)
theorem refDrifted_eq {n : Nat} (hn : 1000 ≤ n) {d1 d2 : Int} (hd : -1000000 ≤ d1 ∧ d1 ≤ d2 ∧ d2 ≤ 1000000) (l : List (Int × Int × Int)) (hl : l.length < 1000) (hb : ∀ b, b ∈ l → BandOk b) :
    F_ref03_Drifted n (l.map enc_Ai3Z) d1 d2 = some ((driftE l d1 d2).1.map enc_Ai3Z, (driftE l d1 d2).2) := by
  unfold F_ref03_Drifted driftE
  rw [refDrift_loop hd l hl hb (by omega), Option.bind_some]
  unfold drOut
  by_cases h : l.all (drOk d1 d2) = true
  · rw [if_pos h, if_pos h, List.map_map]; rfl
  · rw [if_neg h, if_neg h]; rfl
def fullDr (l : List (Int × Int × Int)) (d1 d2 : Int) : List (Int × Int × Int) × Int := if firstNZ [modelE l, ivE d1 d2 (-1000000) 1000000] = 0 then driftE l d1 d2 else ([], firstNZ [modelE l, ivE d1 d2 (-1000000) 1000000])
theorem drifted_eq {n : Nat} (hn : 1000 ≤ n) (d1 d2 : Int) (l : List (Int × Int × Int)) (hl : l.length < 1000) :
    F_drive_Drifted n (l.map enc_Ai3Z) d1 d2 = some ((fullDr l d1 d2).1.map enc_Ai3Z, (fullDr l d1 d2).2) := by
  unfold F_drive_Drifted fullDr
  rw [checkModel_eq hn l hl, Option.bind_some, ends_eq (by omega) _ _ (by omega), Option.bind_some, first2 (by omega), Option.bind_some]
  by_cases h : firstNZ [modelE l, ivE d1 d2 (-1000000) 1000000] = 0
  · have hb := (modelE_zero (firstNZ_zero h (modelE l) (by simp))).2
    have hd := ivE_zero (firstNZ_zero h (ivE d1 d2 (-1000000) 1000000) (by simp))
    rw [if_pos h, if_pos h, copyAll, if_pos (by simp; omega)]
    have := drift_loop (n := n) (by omega) hd l hl hb n [] l rfl (by omega)
    simp only [List.length_nil, List.map_nil, List.nil_append, Int.natCast_zero] at this
    rw [this, Option.bind_some]
    unfold drOut driftE
    by_cases h2 : l.all (drOk d1 d2) = true
    · rw [if_pos h2, if_pos h2, List.map_map]; rfl
    · rw [if_neg h2, if_neg h2]; rfl
  · rw [if_neg h, if_neg h]; rfl
theorem fullDr_len (l : List (Int × Int × Int)) (d1 d2 : Int) : (fullDr l d1 d2).1.length ≤ l.length := by
  unfold fullDr driftE
  split
  · split <;> simp
  · simp
theorem fullRef_len (l : List (Int × Int × Int)) (x : Int × Int × Int) : (fullRef l x).1.length ≤ l.length := by
  unfold fullRef
  split
  · exact refinE_len l x
  · simp

theorem law_DriveModels (l : List (Int × Int × Int)) (a1 a2 a3 a4 a5 : Int) : F_law03_DriveModels 1000 (l.map enc_Ai3Z) a1 a2 a3 a4 a5 = some true := by
  unfold F_law03_DriveModels
  rw [shortModel_eq, List.length_map, Option.bind_some]
  by_cases hs : l.length ≤ 8 ∨ l.length = 65
  · have hl : l.length < 1000 := by omega
    have r1 := refined_eq (n := 1000) (Nat.le_refl _) l (a1, a2, a3) hl
    have r2 := drifted_eq (n := 1000) (Nat.le_refl _) a4 a5 l hl
    have r3 := refSpot_eq (n := 1000) (by omega) a1 a2 a3
    have b1 := bands_eq (n := 1000) (fullRef l (a1, a2, a3)).1 (by have := fullRef_len l (a1, a2, a3); omega) (by have := fullRef_len l (a1, a2, a3); omega)
    have b2 := bands_eq (n := 1000) (fullDr l a4 a5).1 (by have := fullDr_len l a4 a5; omega) (by have := fullDr_len l a4 a5; omega)
    have s1 := sameModel_eq (n := 1000) (fullRef l (a1, a2, a3)).1 (by have := fullRef_len l (a1, a2, a3); omega) (by have := fullRef_len l (a1, a2, a3); omega)
    have s2 := sameModel_eq (n := 1000) (fullDr l a4 a5).1 (by have := fullDr_len l a4 a5; omega) (by have := fullDr_len l a4 a5; omega)
    rw [if_pos (decide_eq_true hs), given_eq l (by omega) (by omega), Option.bind_some, r1, Option.bind_some, r2, Option.bind_some, refCheckModel_eq (by omega) l hl, Option.bind_some, r3, Option.bind_some, refFirst2 (by omega), Option.bind_some,
      interval_eq (by omega), Option.bind_some, refFirst2 (by omega), Option.bind_some, checkModel_eq (Nat.le_refl _) l hl]
    change (if firstNZ [modelE l, spotT (a1, a2, a3)] = 0 then _ else _) = _
    by_cases h1 : firstNZ [modelE l, spotT (a1, a2, a3)] = 0
    · have hb := (modelE_zero (firstNZ_zero h1 (modelE l) (by simp))).2
      have hx := spotT_zero (firstNZ_zero h1 (spotT (a1, a2, a3)) (by simp))
      have e1 : fullRef l (a1, a2, a3) = refinE l (a1, a2, a3) := by unfold fullRef; rw [if_pos h1]
      have q1 := refRefined_eq (n := 1000) (Nat.le_refl _) hb hx hl
      rw [if_pos h1, q1, Option.bind_some]
      rw [e1] at b1 s1 ⊢
      by_cases h2 : firstNZ [modelE l, ivE a4 a5 (-1000000) 1000000] = 0
      · have hd := ivE_zero (firstNZ_zero h2 (ivE a4 a5 (-1000000) 1000000) (by simp))
        have e2 : fullDr l a4 a5 = driftE l a4 a5 := by unfold fullDr; rw [if_pos h2]
        have q2 := refDrifted_eq (n := 1000) (Nat.le_refl _) hd l hl hb
        rw [e2] at b2 s2 ⊢
        rw [if_pos h2, q2, Option.bind_some, Option.bind_some, if_pos rfl, b1, Option.bind_some, s1, Option.bind_some, if_pos rfl, if_pos rfl, b2, Option.bind_some, s2, Option.bind_some, if_pos rfl, if_pos rfl, axis_awake]
        rfl
      · have e2 : fullDr l a4 a5 = ([], firstNZ [modelE l, ivE a4 a5 (-1000000) 1000000]) := by unfold fullDr; rw [if_neg h2]
        rw [e2] at b2 s2 ⊢
        rw [List.map_nil] at b2 s2
        rw [if_neg h2, Option.bind_some, if_pos rfl, b1, Option.bind_some, s1, Option.bind_some, if_pos rfl, if_pos rfl, List.map_nil, b2, Option.bind_some, s2, Option.bind_some, if_pos rfl, if_pos rfl, axis_awake]
        rfl
    · have e1 : fullRef l (a1, a2, a3) = ([], firstNZ [modelE l, spotT (a1, a2, a3)]) := by unfold fullRef; rw [if_neg h1]
      rw [e1] at b1 s1 ⊢
      rw [List.map_nil] at b1 s1
      rw [if_neg h1, List.map_nil]
      by_cases h2 : firstNZ [modelE l, ivE a4 a5 (-1000000) 1000000] = 0
      · have hb := (modelE_zero (firstNZ_zero h2 (modelE l) (by simp))).2
        have hd := ivE_zero (firstNZ_zero h2 (ivE a4 a5 (-1000000) 1000000) (by simp))
        have e2 : fullDr l a4 a5 = driftE l a4 a5 := by unfold fullDr; rw [if_pos h2]
        have q2 := refDrifted_eq (n := 1000) (Nat.le_refl _) hd l hl hb
        rw [e2] at b2 s2 ⊢
        rw [if_pos h2, q2, Option.bind_some, Option.bind_some, if_pos rfl, b1, Option.bind_some, s1, Option.bind_some, if_pos rfl]
        rw [if_pos (show firstNZ [modelE l, spotT (a1, a2, a3)] = firstNZ [modelE l, spotE a1 a2 a3] from rfl), b2, Option.bind_some, s2, Option.bind_some, if_pos rfl, if_pos rfl, axis_awake]
        rfl
      · have e2 : fullDr l a4 a5 = ([], firstNZ [modelE l, ivE a4 a5 (-1000000) 1000000]) := by unfold fullDr; rw [if_neg h2]
        rw [e2] at b2 s2 ⊢
        rw [List.map_nil] at b2 s2
        rw [if_neg h2, Option.bind_some, if_pos rfl, b1, Option.bind_some, s1, Option.bind_some, if_pos rfl]
        rw [if_pos (show firstNZ [modelE l, spotT (a1, a2, a3)] = firstNZ [modelE l, spotE a1 a2 a3] from rfl), List.map_nil, b2, Option.bind_some, s2, Option.bind_some, if_pos rfl, if_pos rfl, axis_awake]
        rfl
  · rw [if_neg (by simpa using hs), axis_awake]
    rfl
end Go.Proofs.YtmgbmngmmpeaaaaGreatDoor
