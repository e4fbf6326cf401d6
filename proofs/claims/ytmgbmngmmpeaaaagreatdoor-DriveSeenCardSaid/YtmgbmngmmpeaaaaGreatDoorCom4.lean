/-
  Plain lemmas on fitting, refining and drifting a model. An own text.
-/
import Derived.Test.YtmgbmngmmpeaaaaGreatDoorCom2
set_option linter.unusedVariables false
set_option linter.unusedSimpArgs false
set_option linter.unnecessarySimpa false
set_option maxRecDepth 20000
namespace Go.Proofs.YtmgbmngmmpeaaaaGreatDoor
open Go.SX

theorem awake5 : F_law03_awake 5000 = some true := by kernel_rfl
theorem spots_eq {n : Nat} (l : List (Int × Int × Int)) (hl : l.length < 1000000) (hn : l.length < n) : F_law03_spots n (l.map enc_Ai3Z) = some (l.map enc_Ai3Z) := by
  unfold F_law03_spots
  rw [loop_acc (fun out => out) l (fun x => [enc_Ai3Z x]) (fun _ => Nat.le_refl _) (fun i out x hx ho => by
      have hi := ixlt hx
      unfold F_law03_spots_L1
      dsimp only
      rw [if_pos (lenlt hx), el_enc un3 hx, Option.bind_some, if_pos (by unfold roomP; omega), if_pos (by unfold inI64; omega)]
      rfl)
    (fun out _ => by
      unfold F_law03_spots_L1
      rw [if_neg notlt]) hn, flat1]
  rfl
def spotT (x : Int × Int × Int) : Int := spotE x.1 x.2.1 x.2.2
theorem spotT_zero {x : Int × Int × Int} (h : spotT x = 0) : SpotOk x := by
  obtain ⟨h1, h2, h3, h4⟩ := spotE_zero h
  exact ⟨h1, h2, h3, h4⟩
def spotsE (l : List (Int × Int × Int)) : Int := if l.length = 0 then 12 else if l.length > 16 then 5 else firstNZ (l.map spotT)
theorem mapped_eq {n : Nat} (hn : 10 ≤ n) (l : List (Int × Int × Int)) (hl : l.length < 1000000) (hk : l.length < n) : F_drive_mapped_g_2 n (l.map enc_Ai3Z) = some ((l.map spotT).map I) := by
  unfold F_drive_mapped_g_2
  rw [loop_acc (fun out => out) l (fun x => [I (spotT x)]) (fun _ => Nat.le_refl _) (fun i out x hx ho => by
      have hi := ixlt hx
      unfold F_drive_mapped_g_2_L1
      dsimp only
      rw [if_pos (lenlt hx), el_enc un3 hx, Option.bind_some, spot_eq hn, Option.bind_some, if_pos (by unfold roomP; omega), if_pos (by unfold inI64; omega)]
      rfl)
    (fun out _ => by
      unfold F_drive_mapped_g_2_L1
      rw [if_neg notlt]) hk, flat1, List.map_map]
  rfl
theorem checkSpots_eq {n : Nat} (hn : 1000 ≤ n) (l : List (Int × Int × Int)) (hl : l.length < 1000) : F_drive_CheckSpots_2 n (l.map enc_Ai3Z) = some (spotsE l) := by
  unfold F_drive_CheckSpots_2 spotsE
  rw [when_eq, Option.bind_some, when_eq, Option.bind_some, first2 (by omega), Option.bind_some, List.length_map]
  by_cases h0 : l.length = 0
  · rw [if_pos h0, h0]; rfl
  · have e0 : (((l.length : Int) == 0) : Bool) = false := by simpa using (by omega : ¬ l.length = 0)
    rw [if_neg h0, e0, whenI_false]
    by_cases h1 : l.length > 16
    · rw [if_pos h1, decide_eq_true (by omega : (l.length : Int) > 16)]; rfl
    · rw [if_neg h1, decide_eq_false (by omega : ¬ (l.length : Int) > 16), whenI_false, if_pos (by rfl), mapped_eq (by omega) l (by omega) (by omega), Option.bind_some,
        first_eq _ (by simp; omega) (by simp; omega)]
      rfl
theorem spotsE_zero {l : List (Int × Int × Int)} (h : spotsE l = 0) : (0 < l.length ∧ l.length ≤ 16) ∧ ∀ x, x ∈ l → SpotOk x := by
  unfold spotsE at h
  by_cases h0 : l.length = 0
  · rw [if_pos h0] at h; cases h
  · rw [if_neg h0] at h
    by_cases h1 : l.length > 16
    · rw [if_pos h1] at h; cases h
    · rw [if_neg h1] at h
      exact ⟨by omega, fun x hx => spotT_zero (firstNZ_zero h _ (List.mem_map_of_mem hx))⟩
def foldP (b : Int × Int × Int) (xs : List (Int × Int × Int)) : Int × Int × Int := xs.foldl permE b
theorem foldP_gain : ∀ (xs : List (Int × Int × Int)) (b : Int × Int × Int), (foldP b xs).1 = b.1
  | [], _ => rfl
  | x :: xs, b => by
    show (foldP (permE b x) xs).1 = b.1
    rw [foldP_gain xs]; rfl
theorem foldP_less : ∀ (xs : List (Int × Int × Int)) (b : Int × Int × Int), b.2.1 ≤ (foldP b xs).2.1 ∧ (foldP b xs).2.2 ≤ b.2.2
  | [], _ => ⟨Int.le_refl _, Int.le_refl _⟩
  | x :: xs, b => by
    have h := foldP_less xs (permE b x)
    have h1 : b.2.1 ≤ (permE b x).2.1 := by show b.2.1 ≤ maxI _ _; unfold maxI; split <;> omega
    have h2 : (permE b x).2.2 ≤ b.2.2 := by show minI _ _ ≤ b.2.2; unfold minI; split <;> omega
    exact ⟨Int.le_trans h1 h.1, Int.le_trans h.2 h2⟩
def seenG (s x : Int × Int × Int) : (Int × Int × Int) ⊕ (Unit ⊕ (Int × Int × Int)) := if (permE s x).2.1 ≤ (permE s x).2.2 then .inl (permE s x) else .inr (.inl ())
theorem seen_run : ∀ (xs : List (Int × Int × Int)) (b : Int × Int × Int), b.2.1 ≤ b.2.2 → runL seenG (fun s => .inr s) xs b = if (foldP b xs).2.1 ≤ (foldP b xs).2.2 then .inr (foldP b xs) else .inl ()
  | [], b, hb => by
    show Sum.inr b = _
    rw [if_pos (show (foldP b []).2.1 ≤ (foldP b []).2.2 from hb)]; rfl
  | x :: xs, b, hb => by
    unfold runL
    by_cases h : (permE b x).2.1 ≤ (permE b x).2.2
    · have hg : seenG b x = .inl (permE b x) := by unfold seenG; rw [if_pos h]
      rw [hg]
      exact seen_run xs (permE b x) h
    · have hg : seenG b x = .inr (.inl ()) := by unfold seenG; rw [if_neg h]
      rw [hg, if_neg]
      have := foldP_less xs (permE b x)
      show ¬ (foldP (permE b x) xs).2.1 ≤ (foldP (permE b x) xs).2.2
      omega
def fitOne (xs : List (Int × Int × Int)) (g : Int) : List (Int × Int × Int) := if (foldP (g, -2000000, 2000000) xs).2.1 ≤ (foldP (g, -2000000, 2000000) xs).2.2 then [foldP (g, -2000000, 2000000) xs] else []
theorem inner_eq {n : Nat} {xs : List (Int × Int × Int)} {a1 a2 g : Int} {sa : Int × List D} (hx : ∀ x, x ∈ xs → SpotOk x) (hg : -1000 ≤ g ∧ g ≤ 1000) (hl : xs.length < 1000) {k : Nat} (hk : xs.length < k) :
    loopF (F_drive_Fitted_2_L2 n (xs.map enc_Ai3Z) a1 a2 sa) k (0, g, -2000000, 2000000) = some (if (foldP (g, -2000000, 2000000) xs).2.1 ≤ (foldP (g, -2000000, 2000000) xs).2.2 then .inr (foldP (g, -2000000, 2000000) xs) else .inl ()) := by
  rw [← seen_run xs (g, -2000000, 2000000) (show (-2000000 : Int) ≤ 2000000 by decide)]
  refine loopF_list0 (s := ((g, -2000000, 2000000) : Int × Int × Int)) (step := F_drive_Fitted_2_L2 n (xs.map enc_Ai3Z) a1 a2 sa) seenG (fun s => .inr s) (fun i s => ((i : Int), s.1, s.2.1, s.2.2)) xs (fun _ s => s.1 = g) (fun i s x hxi hi => ?_) (fun s _ => ?_) rfl hk
  · have hi' := ixlt hxi
    have hs : -1000 ≤ s.1 ∧ s.1 ≤ 1000 := by rw [hi]; exact hg
    have hxo := hx x (List.mem_of_getElem? hxi)
    have key : F_drive_Fitted_2_L2 n (xs.map enc_Ai3Z) a1 a2 sa ((i : Int), s.1, s.2.1, s.2.2) = if decide ((permE s x).2.1 ≤ (permE s x).2.2) = true then (if inI64 ((i : Int) + 1) then some (.inl ((i : Int) + 1, (permE s x).1, (permE s x).2.1, (permE s x).2.2)) else none) else some (.inr (.inl ())) := by
      unfold F_drive_Fitted_2_L2
      dsimp only
      rw [if_pos (lenlt hxi), el_enc un3 hxi, Option.bind_some, seen_eq hs hxo, Option.bind_some]
    rw [if_pos (show inI64 ((i : Int) + 1) by unfold inI64; omega)] at key
    unfold seenG
    by_cases h : (permE s x).2.1 ≤ (permE s x).2.2
    · rw [if_pos h]; rw [if_pos (decide_eq_true h)] at key; exact ⟨key, hi⟩
    · rw [if_neg h]; rw [if_neg (by simpa using h)] at key; exact key
  · unfold F_drive_Fitted_2_L2
    rw [if_neg notlt]
def fitAll (xs : List (Int × Int × Int)) (a1 a2 : Int) : List (Int × Int × Int) := (List.range (a2 - a1 + 1).toNat).flatMap fun (i : Nat) => fitOne xs (a1 + (i : Int))
theorem fit_len (xs : List (Int × Int × Int)) (g : Int) : (fitOne xs g).length ≤ 1 := by unfold fitOne; split <;> simp
theorem gains_eq {n : Nat} (hn : 5000 ≤ n) {xs : List (Int × Int × Int)} {a1 a2 : Int} (hx : ∀ x, x ∈ xs → SpotOk x) (hl : xs.length < 1000) (ha : -1000 ≤ a1 ∧ a1 ≤ a2 ∧ a2 ≤ 1000) :
    loopF (F_drive_Fitted_2_L3 n (xs.map enc_Ai3Z) a1 a2) n (0, []) = some ((fitAll xs a1 a2).map enc_Ai3Z) := by
  unfold fitAll
  rw [List.map_flatMap]
  refine loop_acc (fun out => out) (List.range (a2 - a1 + 1).toNat) (fun (i : Nat) => (fitOne xs (a1 + (i : Int))).map enc_Ai3Z) (fun i => by rw [List.length_map]; exact fit_len _ _) (fun i out x hxi ho => ?_) (fun out _ => ?_) (by simp; omega)
  · have hi := ixlt hxi
    rw [List.length_range] at hi
    have hxx : x = i := by
      rw [List.getElem?_range hi] at hxi
      exact (Option.some.inj hxi).symm
    subst hxx
    have hg : -1000 ≤ a1 + (x : Int) ∧ a1 + (x : Int) ≤ 1000 := by omega
    unfold F_drive_Fitted_2_L3
    dsimp only
    rw [if_pos (by omega), if_pos (by unfold inI64; omega), inner_eq hx hg hl (by omega), Option.bind_some]
    unfold fitOne
    by_cases h : (foldP (a1 + (x : Int), -2000000, 2000000) xs).2.1 ≤ (foldP (a1 + (x : Int), -2000000, 2000000) xs).2.2
    · rw [if_pos h, if_pos h]
      dsimp only
      rw [if_pos (by unfold roomP; omega), if_pos (by unfold inI64; omega)]
      rfl
    · rw [if_neg h, if_neg h]
      dsimp only
      rw [if_pos (by unfold inI64; omega), List.map_nil, List.append_nil]
      rfl
  · unfold F_drive_Fitted_2_L3
    dsimp only
    rw [if_neg (by rw [List.length_range]; omega)]
def fitE (xs : List (Int × Int × Int)) (a1 a2 : Int) : List D × Int :=
  if (fitAll xs a1 a2).length = 0 then ([], 18) else if (fitAll xs a1 a2).length > 64 then ([], 5) else ((fitAll xs a1 a2).map enc_Ai3Z, 0)
theorem fitted_eq {n : Nat} (hn : 5000 ≤ n) {xs : List (Int × Int × Int)} {a1 a2 : Int} (hl : xs.length < 1000) :
    F_drive_Fitted_2 n (xs.map enc_Ai3Z) a1 a2 = some (if firstNZ [spotsE xs, ivE a1 a2 (-1000) 1000] = 0 then fitE xs a1 a2 else ([], firstNZ [spotsE xs, ivE a1 a2 (-1000) 1000])) := by
  unfold F_drive_Fitted_2
  rw [checkSpots_eq (by omega) xs hl, Option.bind_some, ends_eq (by omega) _ _ (by omega), Option.bind_some, first2 (by omega), Option.bind_some]
  by_cases h : firstNZ [spotsE xs, ivE a1 a2 (-1000) 1000] = 0
  · have hx := (spotsE_zero (firstNZ_zero h (spotsE xs) (by simp))).2
    have ha := ivE_zero (firstNZ_zero h (ivE a1 a2 (-1000) 1000) (by simp))
    rw [if_pos h, if_pos h, if_pos (by unfold inI64; omega), if_pos (by unfold inI64; omega), gains_eq hn hx hl ha, Option.bind_some, when_eq, Option.bind_some, when_eq, Option.bind_some, first2 (by omega), Option.bind_some, List.length_map]
    unfold fitE
    by_cases h0 : (fitAll xs a1 a2).length = 0
    · rw [if_pos h0, h0]; rfl
    · have e0 : ((((fitAll xs a1 a2).length : Int) == 0) : Bool) = false := by simpa using (by omega : ¬ (fitAll xs a1 a2).length = 0)
      rw [if_neg h0, e0, whenI_false]
      by_cases h1 : (fitAll xs a1 a2).length > 64
      · rw [if_pos h1, decide_eq_true (by omega : ((fitAll xs a1 a2).length : Int) > 64)]; rfl
      · rw [if_neg h1, decide_eq_false (by omega : ¬ ((fitAll xs a1 a2).length : Int) > 64), whenI_false, if_pos (by rfl)]
  · rw [if_neg h, if_neg h]
def refOne (x b : Int × Int × Int) : List (Int × Int × Int) := if (permE b x).2.1 ≤ (permE b x).2.2 then [permE b x] else []
def refAll (l : List (Int × Int × Int)) (x : Int × Int × Int) : List (Int × Int × Int) := l.flatMap (refOne x)
theorem refOne_len (x b : Int × Int × Int) : (refOne x b).length ≤ 1 := by unfold refOne; split <;> simp
theorem refAll_len : ∀ (l : List (Int × Int × Int)) (x : Int × Int × Int), (refAll l x).length ≤ l.length
  | [], _ => Nat.le_refl _
  | b :: l, x => by
    show ((b :: l).flatMap (refOne x)).length ≤ _
    rw [List.flatMap_cons, List.length_append]
    have := refOne_len x b
    have h : (l.flatMap (refOne x)).length ≤ l.length := refAll_len l x
    simp only [List.length_cons]; omega
theorem refined_loop {n : Nat} {l : List (Int × Int × Int)} {x : Int × Int × Int} (hb : ∀ b, b ∈ l → BandOk b) (hx : SpotOk x) (hl : l.length < 1000) {k : Nat} (hk : l.length < k) :
    loopF (F_drive_Refined_L1 n (l.map enc_Ai3Z) x.1 x.2.1 x.2.2) k (0, []) = some ((refAll l x).map enc_Ai3Z) := by
  unfold refAll
  rw [List.map_flatMap]
  refine loop_acc (fun out => out) l (fun b => (refOne x b).map enc_Ai3Z) (fun b => by rw [List.length_map]; exact refOne_len _ _) (fun i out b hbi ho => ?_) (fun out _ => ?_) hk
  · have hi := ixlt hbi
    have hg := (hb b (List.mem_of_getElem? hbi)).1
    unfold F_drive_Refined_L1
    dsimp only
    rw [if_pos (lenlt hbi), el_enc un3 hbi, Option.bind_some, seen_eq hg hx, Option.bind_some]
    unfold refOne
    by_cases h : (permE b x).2.1 ≤ (permE b x).2.2
    · rw [if_pos h, if_pos (decide_eq_true h), if_pos (by unfold roomP; omega), if_pos (by unfold inI64; omega)]
      rfl
    · rw [if_neg h, if_neg (by simpa using h), if_pos (by unfold inI64; omega), List.map_nil, List.append_nil]
      rfl
  · unfold F_drive_Refined_L1
    rw [if_neg notlt]
def refinE (l : List (Int × Int × Int)) (x : Int × Int × Int) : List (Int × Int × Int) × Int := if (refAll l x).length = 0 then ([], 18) else (refAll l x, 0)
theorem refinE_len (l : List (Int × Int × Int)) (x : Int × Int × Int) : (refinE l x).1.length ≤ l.length := by
  unfold refinE; split
  · simp
  · exact refAll_len l x
def fullRef (l : List (Int × Int × Int)) (x : Int × Int × Int) : List (Int × Int × Int) × Int := if firstNZ [modelE l, spotT x] = 0 then refinE l x else ([], firstNZ [modelE l, spotT x])
theorem refined_eq {n : Nat} (hn : 1000 ≤ n) (l : List (Int × Int × Int)) (x : Int × Int × Int) (hl : l.length < 1000) :
    F_drive_Refined n (l.map enc_Ai3Z) x.1 x.2.1 x.2.2 = some ((fullRef l x).1.map enc_Ai3Z, (fullRef l x).2) := by
  unfold F_drive_Refined fullRef
  rw [checkModel_eq hn l hl, Option.bind_some, spot_eq (by omega), Option.bind_some, first2 (by omega), Option.bind_some]
  change (if firstNZ [modelE l, spotT x] = 0 then _ else _) = _
  by_cases h : firstNZ [modelE l, spotT x] = 0
  · have hb := (modelE_zero (firstNZ_zero h (modelE l) (by simp))).2
    have hx := spotT_zero (firstNZ_zero h (spotT x) (by simp))
    rw [if_pos h, if_pos h, refined_loop hb hx hl (by omega), Option.bind_some, List.length_map]
    unfold refinE
    by_cases h0 : (refAll l x).length = 0
    · rw [if_pos h0, if_pos (by omega)]; rfl
    · rw [if_neg h0, if_neg (by omega)]
  · rw [if_neg h, if_neg h]; rfl
def dr (d1 d2 : Int) (b : Int × Int × Int) : Int × Int × Int := (b.1, b.2.1 + d1, b.2.2 + d2)
def drOk (d1 d2 : Int) (b : Int × Int × Int) : Bool := decide (-2000000 ≤ b.2.1 + d1 ∧ b.2.2 + d2 ≤ 2000000)
theorem dr_ends {d1 d2 : Int} {b : Int × Int × Int} (hb : BandOk b) (hd : -1000000 ≤ d1 ∧ d1 ≤ d2 ∧ d2 ≤ 1000000) : ivE (b.2.1 + d1) (b.2.2 + d2) (-2000000) 2000000 = 0 ↔ drOk d1 d2 b = true := by
  obtain ⟨_, h1, h2, h3⟩ := hb
  unfold drOk
  rw [decide_eq_true_iff]
  constructor
  · intro h
    have := ivE_zero h
    omega
  · intro h
    unfold ivE
    have e1 : inR (b.2.1 + d1) (-2000000) 2000000 = 0 := by unfold inR; rw [if_neg (by omega), if_neg (by omega)]
    have e2 : inR (b.2.2 + d2) (-2000000) 2000000 = 0 := by unfold inR; rw [if_neg (by omega), if_neg (by omega)]
    have e3 : decide (b.2.1 + d1 > b.2.2 + d2) = false := decide_eq_false (by omega)
    rw [e1, e2, e3]; rfl
theorem copyAll (l : List D) (z : D) : l.take ((List.replicate (Int.toNat (l.length : Int)) z : List D).length) ++ (List.replicate (Int.toNat (l.length : Int)) z).drop l.length = l := by
  rw [List.length_replicate, Int.toNat_natCast, List.take_length, List.drop_eq_nil_of_le (by simp), List.append_nil]
theorem nth_mid (A C : List D) (x : D) : nth (A ++ x :: C) A.length = some x := by rw [nth_get?]; simp
theorem set_mid (A C : List D) (x y : D) : List.set (A ++ x :: C) A.length y = A ++ y :: C := by simp
def drOut (l : List (Int × Int × Int)) (d1 d2 : Int) (rest : List (Int × Int × Int)) : Unit ⊕ List D := if rest.all (drOk d1 d2) = true then .inr (l.map fun b => enc_Ai3Z (dr d1 d2 b)) else .inl ()
theorem drift_loop {n : Nat} (hn : 10 ≤ n) {d1 d2 : Int} (hd : -1000000 ≤ d1 ∧ d1 ≤ d2 ∧ d2 ≤ 1000000) (l : List (Int × Int × Int)) (hl : l.length < 1000) (hb : ∀ b, b ∈ l → BandOk b) :
    ∀ (k : Nat) (A C : List (Int × Int × Int)), A ++ C = l → C.length < k →
      loopF (F_drive_Drifted_L1 n (l.map enc_Ai3Z) d1 d2) k ((A.length : Int), (A.map fun b => enc_Ai3Z (dr d1 d2 b)) ++ C.map enc_Ai3Z) = some (drOut l d1 d2 C)
  | 0, A, C, _, hk => by omega
  | k + 1, A, [], hA, hk => by
    rw [List.append_nil] at hA
    subst hA
    rw [loopF_r (e := .inr (A.map fun b => enc_Ai3Z (dr d1 d2 b)))]
    · rfl
    · unfold F_drive_Drifted_L1
      rw [copyAll]
      dsimp only
      rw [if_neg (by simp), List.map_nil, List.append_nil]
  | k + 1, A, b :: C, hA, hk => by
    have hbm : b ∈ l := by rw [← hA]; simp
    have hbo := hb b hbm
    have hlen : A.length + (C.length + 1) = l.length := by rw [← hA]; simp
    obtain ⟨q1, q2, q3, q4⟩ := hbo
    have key : F_drive_Drifted_L1 n (l.map enc_Ai3Z) d1 d2 ((A.length : Int), (A.map fun b => enc_Ai3Z (dr d1 d2 b)) ++ (b :: C).map enc_Ai3Z) =
        if ivE (b.2.1 + d1) (b.2.2 + d2) (-2000000) 2000000 = 0 then some (.inl ((((A ++ [b]).length : Nat) : Int), ((A ++ [b]).map fun b => enc_Ai3Z (dr d1 d2 b)) ++ C.map enc_Ai3Z)) else some (.inr (.inl ())) := by
      have ho : ((A.map fun b => enc_Ai3Z (dr d1 d2 b)) ++ (b :: C).map enc_Ai3Z) = (A.map fun b => enc_Ai3Z (dr d1 d2 b)) ++ enc_Ai3Z b :: C.map enc_Ai3Z := rfl
      have hAl : Int.toNat (A.length : Int) = (A.map fun b => enc_Ai3Z (dr d1 d2 b)).length := by simp
      rw [ho]
      unfold F_drive_Drifted_L1
      rw [copyAll]
      dsimp only
      rw [if_pos (by simp; omega), if_pos (by simp; omega), hAl, nth_mid, Option.bind_some, un3, Option.bind_some, if_pos (by unfold inI64; omega), if_pos (by unfold inI64; omega), set_mid, if_pos (by simp; omega), nth_mid, Option.bind_some]
      have hu : un_Ai3Z (.agg [I b.1, I (b.2.1 + d1), I (b.2.2 + d2)]) = some (b.1, b.2.1 + d1, b.2.2 + d2) := un3 (b.1, b.2.1 + d1, b.2.2 + d2)
      have hin : inI64 ((A.length : Int) + 1) := by unfold inI64; omega
      rw [hu, Option.bind_some, ends_eq hn _ _ (by omega), Option.bind_some]
      simp only [if_pos hin]
      have e1 : ((A.length : Int) + 1) = (((A ++ [b]).length : Nat) : Int) := by simp
      have e2 : ((A.map fun b => enc_Ai3Z (dr d1 d2 b)) ++ .agg [I b.1, I (b.2.1 + d1), I (b.2.2 + d2)] :: C.map enc_Ai3Z) = ((A ++ [b]).map fun b => enc_Ai3Z (dr d1 d2 b)) ++ C.map enc_Ai3Z := by
        rw [List.map_append, List.append_assoc]; rfl
      rw [e1, e2]
    unfold drOut
    rw [List.all_cons]
    by_cases h : drOk d1 d2 b = true
    · rw [if_pos ((dr_ends ⟨q1, q2, q3, q4⟩ hd).2 h)] at key
      rw [loopF_l key, drift_loop hn hd l hl hb k (A ++ [b]) C (by rw [List.append_assoc]; exact hA) (by simp at hk; omega), h, Bool.true_and]
      rfl
    · rw [if_neg (fun q => h ((dr_ends ⟨q1, q2, q3, q4⟩ hd).1 q))] at key
      rw [loopF_r key, if_neg (by simp [h])]
def driftE (l : List (Int × Int × Int)) (d1 d2 : Int) : List (Int × Int × Int) × Int := if l.all (drOk d1 d2) = true then (l.map (dr d1 d2), 0) else ([], 4)
def fullDr (l : List (Int × Int × Int)) (d1 d2 : Int) : List (Int × Int × Int) × Int := if firstNZ [modelE l, ivE d1 d2 (-1000000) 1000000] = 0 then driftE l d1 d2 else ([], firstNZ [modelE l, ivE d1 d2 (-1000000) 1000000])
theorem drifted_eq {n : Nat} (hn : 1000 ≤ n) (d1 d2 : Int) (l : List (Int × Int × Int)) (hl : l.length < 1000) :
    F_drive_Drifted n (l.map enc_Ai3Z) d1 d2 = some ((fullDr l d1 d2).1.map enc_Ai3Z, (fullDr l d1 d2).2) := by
  unfold F_drive_Drifted fullDr
  rw [checkModel_eq hn l hl, Option.bind_some, ends_eq (by omega) _ _ (by omega), Option.bind_some, first2 (by omega), Option.bind_some]
  by_cases h : firstNZ [modelE l, ivE d1 d2 (-1000000) 1000000] = 0
  · have hb := (modelE_zero (firstNZ_zero h (modelE l) (by simp))).2
    have hd := ivE_zero (firstNZ_zero h (ivE d1 d2 (-1000000) 1000000) (by simp))
    rw [if_pos h, if_pos h, copyAll, if_pos (by simp; omega)]
    have := drift_loop (n := n) (by omega) hd l hl hb n [] l rfl (by omega)
    simp only [List.length_nil, List.map_nil, List.nil_append, Int.natCast_zero] at this
    rw [this, Option.bind_some]
    unfold drOut driftE
    by_cases h2 : l.all (drOk d1 d2) = true
    · rw [if_pos h2, if_pos h2, List.map_map]; rfl
    · rw [if_neg h2, if_neg h2]; rfl
  · rw [if_neg h, if_neg h]; rfl
end Go.Proofs.YtmgbmngmmpeaaaaGreatDoor
