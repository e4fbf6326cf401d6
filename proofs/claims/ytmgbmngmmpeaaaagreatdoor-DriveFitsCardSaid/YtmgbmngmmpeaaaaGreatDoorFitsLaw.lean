/-
  The plain law of DriveFits: both ways of fitting a model to spots agree. An own text.
-/
import Derived.Test.YtmgbmngmmpeaaaaGreatDoorFits1
import Derived.Test.YtmgbmngmmpeaaaaGreatDoorCom2
set_option linter.unusedVariables false
set_option linter.unusedSimpArgs false
set_option linter.unnecessarySimpa false
set_option maxRecDepth 20000
namespace Go.Proofs.YtmgbmngmmpeaaaaGreatDoor
open Go.SX

theorem awake5 : F_law03_awake 5000 = some true := by kernel_rfl
theorem spots_eq {n : Nat} (l : List (Int × Int × Int)) (hl : l.length < 1000000) (hn : l.length < n) : F_law03_spots n (l.map enc_Ai3Z) = some (l.map enc_Ai3Z) := by
  unfold F_law03_spots
  rw [loop_acc (fun out => out) l (fun x => [enc_Ai3Z x]) (fun _ => Nat.le_refl _) (fun i out x hx ho => by
      have hi := ixlt hx
      unfold F_law03_spots_L1
      dsimp only
      rw [if_pos (lenlt hx), el_enc un3 hx, Option.bind_some, if_pos (by unfold roomP; omega), if_pos (by unfold inI64; omega)]
      rfl)
    (fun out _ => by
      unfold F_law03_spots_L1
      rw [if_neg notlt]) hn, flat1]
  rfl
def spotT (x : Int × Int × Int) : Int := spotE x.1 x.2.1 x.2.2
theorem spotT_zero {x : Int × Int × Int} (h : spotT x = 0) : SpotOk x := by
  obtain ⟨h1, h2, h3, h4⟩ := spotE_zero h
  exact ⟨h1, h2, h3, h4⟩
def spotsE (l : List (Int × Int × Int)) : Int := if l.length = 0 then 12 else if l.length > 16 then 5 else firstNZ (l.map spotT)
theorem mapped_eq {n : Nat} (hn : 10 ≤ n) (l : List (Int × Int × Int)) (hl : l.length < 1000000) (hk : l.length < n) : F_drive_mapped_g_2 n (l.map enc_Ai3Z) = some ((l.map spotT).map I) := by
  unfold F_drive_mapped_g_2
  rw [loop_acc (fun out => out) l (fun x => [I (spotT x)]) (fun _ => Nat.le_refl _) (fun i out x hx ho => by
      have hi := ixlt hx
      unfold F_drive_mapped_g_2_L1
      dsimp only
      rw [if_pos (lenlt hx), el_enc un3 hx, Option.bind_some, spot_eq hn, Option.bind_some, if_pos (by unfold roomP; omega), if_pos (by unfold inI64; omega)]
      rfl)
    (fun out _ => by
      unfold F_drive_mapped_g_2_L1
      rw [if_neg notlt]) hk, flat1, List.map_map]
  rfl
theorem checkSpots_eq {n : Nat} (hn : 1000 ≤ n) (l : List (Int × Int × Int)) (hl : l.length < 1000) : F_drive_CheckSpots_2 n (l.map enc_Ai3Z) = some (spotsE l) := by
  unfold F_drive_CheckSpots_2 spotsE
  rw [when_eq, Option.bind_some, when_eq, Option.bind_some, first2 (by omega), Option.bind_some, List.length_map]
  by_cases h0 : l.length = 0
  · rw [if_pos h0, h0]; rfl
  · have e0 : (((l.length : Int) == 0) : Bool) = false := by simpa using (by omega : ¬ l.length = 0)
    rw [if_neg h0, e0, whenI_false]
    by_cases h1 : l.length > 16
    · rw [if_pos h1, decide_eq_true (by omega : (l.length : Int) > 16)]; rfl
    · rw [if_neg h1, decide_eq_false (by omega : ¬ (l.length : Int) > 16), whenI_false, if_pos (by rfl), mapped_eq (by omega) l (by omega) (by omega), Option.bind_some,
        first_eq _ (by simp; omega) (by simp; omega)]
      rfl
theorem refCheckSpots_eq {n : Nat} (hn : 1000 ≤ n) (l : List (Int × Int × Int)) (hl : l.length < 1000) : F_ref03_CheckSpots n (l.map enc_Ai3Z) = some (spotsE l) := by
  unfold F_ref03_CheckSpots spotsE
  rw [List.length_map]
  by_cases h0 : l.length = 0
  · rw [if_pos h0, if_pos (by omega)]
  · rw [if_neg h0, if_neg (by omega)]
    by_cases h1 : l.length > 16
    · rw [if_pos h1, if_pos (by omega)]
    · rw [if_neg h1, if_neg (by omega)]
      have := loopF_list0 (step := F_ref03_CheckSpots_L1 n (l.map enc_Ai3Z)) (E := Int ⊕ Unit) (fun (_ : Unit) (x : Int × Int × Int) => if spotT x = 0 then .inl () else .inr (.inl (spotT x))) (fun _ => .inr ()) (fun i _ => (i : Int)) l (fun _ _ => True)
        (fun i s x hx _ => by
          have hi := ixlt hx
          have key : F_ref03_CheckSpots_L1 n (l.map enc_Ai3Z) (i : Int) = if spotT x = 0 then (if inI64 ((i : Int) + 1) then some (.inl ((i : Int) + 1)) else none) else some (.inr (.inl (spotT x))) := by
            unfold F_ref03_CheckSpots_L1
            rw [if_pos (lenlt hx), el_enc un3 hx, Option.bind_some, refSpot_eq (by omega), Option.bind_some]
            rfl
          rw [if_pos (show inI64 ((i : Int) + 1) by unfold inI64; omega)] at key
          by_cases h : spotT x = 0
          · rw [if_pos h]; rw [if_pos h] at key; exact ⟨key, trivial⟩
          · rw [if_neg h]; rw [if_neg h] at key; exact key)
        (fun s _ => by
          unfold F_ref03_CheckSpots_L1
          rw [if_neg notlt])
        (k := n) (s := ()) trivial (by omega)
      rw [show ((0 : Nat) : Int) = 0 from rfl] at this
      rw [this, Option.bind_some]
      have e : ∀ l : List (Int × Int × Int), runL (E := Int ⊕ Unit) (fun (_ : Unit) (x : Int × Int × Int) => if spotT x = 0 then .inl () else .inr (.inl (spotT x))) (fun _ => .inr ()) l () = if firstNZ (l.map spotT) = 0 then .inr () else .inl (firstNZ (l.map spotT)) := by
        intro l; induction l with
        | nil => rfl
        | cons x l ih =>
          rw [List.map_cons, firstNZ_cons]
          unfold runL
          by_cases h : spotT x = 0
          · rw [if_pos h, if_pos h]; exact ih
          · rw [if_neg h, if_neg h, if_neg h]
      rw [e]
      by_cases h : firstNZ (l.map spotT) = 0
      · rw [if_pos h, h]
      · rw [if_neg h]
theorem spotsE_zero {l : List (Int × Int × Int)} (h : spotsE l = 0) : (0 < l.length ∧ l.length ≤ 16) ∧ ∀ x, x ∈ l → SpotOk x := by
  unfold spotsE at h
  by_cases h0 : l.length = 0
  · rw [if_pos h0] at h; cases h
  · rw [if_neg h0] at h
    by_cases h1 : l.length > 16
    · rw [if_pos h1] at h; cases h
    · rw [if_neg h1] at h
      exact ⟨by omega, fun x hx => spotT_zero (firstNZ_zero h _ (List.mem_map_of_mem hx))⟩

/-! One gain. -/
def foldP (b : Int × Int × Int) (xs : List (Int × Int × Int)) : Int × Int × Int := xs.foldl permE b
theorem foldP_gain : ∀ (xs : List (Int × Int × Int)) (b : Int × Int × Int), (foldP b xs).1 = b.1
  | [], _ => rfl
  | x :: xs, b => by
    show (foldP (permE b x) xs).1 = b.1
    rw [foldP_gain xs]; rfl
theorem foldP_less : ∀ (xs : List (Int × Int × Int)) (b : Int × Int × Int), b.2.1 ≤ (foldP b xs).2.1 ∧ (foldP b xs).2.2 ≤ b.2.2
  | [], _ => ⟨Int.le_refl _, Int.le_refl _⟩
  | x :: xs, b => by
    have h := foldP_less xs (permE b x)
    have h1 : b.2.1 ≤ (permE b x).2.1 := by show b.2.1 ≤ maxI _ _; unfold maxI; split <;> omega
    have h2 : (permE b x).2.2 ≤ b.2.2 := by show minI _ _ ≤ b.2.2; unfold minI; split <;> omega
    exact ⟨Int.le_trans h1 h.1, Int.le_trans h.2 h2⟩
def seenG (s x : Int × Int × Int) : (Int × Int × Int) ⊕ (Unit ⊕ (Int × Int × Int)) := if (permE s x).2.1 ≤ (permE s x).2.2 then .inl (permE s x) else .inr (.inl ())
theorem seen_run : ∀ (xs : List (Int × Int × Int)) (b : Int × Int × Int), b.2.1 ≤ b.2.2 → runL seenG (fun s => .inr s) xs b = if (foldP b xs).2.1 ≤ (foldP b xs).2.2 then .inr (foldP b xs) else .inl ()
  | [], b, hb => by
    show Sum.inr b = _
    rw [if_pos (show (foldP b []).2.1 ≤ (foldP b []).2.2 from hb)]; rfl
  | x :: xs, b, hb => by
    unfold runL
    by_cases h : (permE b x).2.1 ≤ (permE b x).2.2
    · have hg : seenG b x = .inl (permE b x) := by unfold seenG; rw [if_pos h]
      rw [hg]
      exact seen_run xs (permE b x) h
    · have hg : seenG b x = .inr (.inl ()) := by unfold seenG; rw [if_neg h]
      rw [hg, if_neg]
      have := foldP_less xs (permE b x)
      show ¬ (foldP (permE b x) xs).2.1 ≤ (foldP (permE b x) xs).2.2
      omega
def fitOne (xs : List (Int × Int × Int)) (g : Int) : List (Int × Int × Int) := if (foldP (g, -2000000, 2000000) xs).2.1 ≤ (foldP (g, -2000000, 2000000) xs).2.2 then [foldP (g, -2000000, 2000000) xs] else []
theorem inner_eq {n : Nat} {xs : List (Int × Int × Int)} {a1 a2 g : Int} {sa : Int × List D} (hx : ∀ x, x ∈ xs → SpotOk x) (hg : -1000 ≤ g ∧ g ≤ 1000) (hl : xs.length < 1000) {k : Nat} (hk : xs.length < k) :
    loopF (F_drive_Fitted_2_L2 n (xs.map enc_Ai3Z) a1 a2 sa) k (0, g, -2000000, 2000000) = some (if (foldP (g, -2000000, 2000000) xs).2.1 ≤ (foldP (g, -2000000, 2000000) xs).2.2 then .inr (foldP (g, -2000000, 2000000) xs) else .inl ()) := by
  rw [← seen_run xs (g, -2000000, 2000000) (show (-2000000 : Int) ≤ 2000000 by decide)]
  refine loopF_list0 (s := ((g, -2000000, 2000000) : Int × Int × Int)) (step := F_drive_Fitted_2_L2 n (xs.map enc_Ai3Z) a1 a2 sa) seenG (fun s => .inr s) (fun i s => ((i : Int), s.1, s.2.1, s.2.2)) xs (fun _ s => s.1 = g) (fun i s x hxi hi => ?_) (fun s _ => ?_) rfl hk
  · have hi' := ixlt hxi
    have hs : -1000 ≤ s.1 ∧ s.1 ≤ 1000 := by rw [hi]; exact hg
    have hxo := hx x (List.mem_of_getElem? hxi)
    have key : F_drive_Fitted_2_L2 n (xs.map enc_Ai3Z) a1 a2 sa ((i : Int), s.1, s.2.1, s.2.2) = if decide ((permE s x).2.1 ≤ (permE s x).2.2) = true then (if inI64 ((i : Int) + 1) then some (.inl ((i : Int) + 1, (permE s x).1, (permE s x).2.1, (permE s x).2.2)) else none) else some (.inr (.inl ())) := by
      unfold F_drive_Fitted_2_L2
      dsimp only
      rw [if_pos (lenlt hxi), el_enc un3 hxi, Option.bind_some, seen_eq hs hxo, Option.bind_some]
    rw [if_pos (show inI64 ((i : Int) + 1) by unfold inI64; omega)] at key
    unfold seenG
    by_cases h : (permE s x).2.1 ≤ (permE s x).2.2
    · rw [if_pos h]; rw [if_pos (decide_eq_true h)] at key; exact ⟨key, hi⟩
    · rw [if_neg h]; rw [if_neg (by simpa using h)] at key; exact key
  · unfold F_drive_Fitted_2_L2
    rw [if_neg notlt]
theorem fold_run : ∀ (xs : List (Int × Int × Int)) (b : Int × Int × Int), runL (E := Int × Int × Int) (fun s x => .inl (permE s x)) (fun s => s) xs b = foldP b xs
  | [], _ => rfl
  | x :: xs, b => fold_run xs (permE b x)
theorem refInner_eq {n : Nat} {xs : List (Int × Int × Int)} {a1 a2 g : Int} {sa : Int × List D} (hx : ∀ x, x ∈ xs → SpotOk x) (hg : -1000 ≤ g ∧ g ≤ 1000) (hl : xs.length < 1000) {k : Nat} (hk : xs.length < k) :
    loopF (F_ref03_Fitted_L2 n (xs.map enc_Ai3Z) a1 a2 sa) k (0, g, -2000000, 2000000) = some (foldP (g, -2000000, 2000000) xs) := by
  rw [← fold_run]
  refine loopF_list0 (s := ((g, -2000000, 2000000) : Int × Int × Int)) (step := F_ref03_Fitted_L2 n (xs.map enc_Ai3Z) a1 a2 sa) (E := Int × Int × Int) (fun s x => .inl (permE s x)) (fun s => s) (fun i s => ((i : Int), s.1, s.2.1, s.2.2)) xs (fun _ s => s.1 = g) (fun i s x hxi hi => ?_) (fun s _ => ?_) rfl hk
  · have hi' := ixlt hxi
    have hs : -1000 ≤ s.1 ∧ s.1 ≤ 1000 := by rw [hi]; exact hg
    have hxo := hx x (List.mem_of_getElem? hxi)
    refine ⟨?_, hi⟩
    unfold F_ref03_Fitted_L2
    dsimp only
    rw [if_pos (lenlt hxi), el_enc un3 hxi, Option.bind_some, perm_eq hs hxo, Option.bind_some, if_pos (by unfold inI64; omega)]
    rfl
  · unfold F_ref03_Fitted_L2
    rw [if_neg notlt]

/-! All gains. -/
def fitAll (xs : List (Int × Int × Int)) (a1 a2 : Int) : List (Int × Int × Int) := (List.range (a2 - a1 + 1).toNat).flatMap fun (i : Nat) => fitOne xs (a1 + (i : Int))
theorem fit_len (xs : List (Int × Int × Int)) (g : Int) : (fitOne xs g).length ≤ 1 := by unfold fitOne; split <;> simp
theorem gains_eq {n : Nat} (hn : 5000 ≤ n) {xs : List (Int × Int × Int)} {a1 a2 : Int} (hx : ∀ x, x ∈ xs → SpotOk x) (hl : xs.length < 1000) (ha : -1000 ≤ a1 ∧ a1 ≤ a2 ∧ a2 ≤ 1000) :
    loopF (F_drive_Fitted_2_L3 n (xs.map enc_Ai3Z) a1 a2) n (0, []) = some ((fitAll xs a1 a2).map enc_Ai3Z) := by
  unfold fitAll
  rw [List.map_flatMap]
  refine loop_acc (fun out => out) (List.range (a2 - a1 + 1).toNat) (fun (i : Nat) => (fitOne xs (a1 + (i : Int))).map enc_Ai3Z) (fun i => by rw [List.length_map]; exact fit_len _ _) (fun i out x hxi ho => ?_) (fun out _ => ?_) (by simp; omega)
  · have hi := ixlt hxi
    rw [List.length_range] at hi
    have hxx : x = i := by
      rw [List.getElem?_range hi] at hxi
      exact (Option.some.inj hxi).symm
    subst hxx
    have hg : -1000 ≤ a1 + (x : Int) ∧ a1 + (x : Int) ≤ 1000 := by omega
    unfold F_drive_Fitted_2_L3
    dsimp only
    rw [if_pos (by omega), if_pos (by unfold inI64; omega), inner_eq hx hg hl (by omega), Option.bind_some]
    unfold fitOne
    by_cases h : (foldP (a1 + (x : Int), -2000000, 2000000) xs).2.1 ≤ (foldP (a1 + (x : Int), -2000000, 2000000) xs).2.2
    · rw [if_pos h, if_pos h]
      dsimp only
      rw [if_pos (by unfold roomP; omega), if_pos (by unfold inI64; omega)]
      rfl
    · rw [if_neg h, if_neg h]
      dsimp only
      rw [if_pos (by unfold inI64; omega), List.map_nil, List.append_nil]
      rfl
  · unfold F_drive_Fitted_2_L3
    dsimp only
    rw [if_neg (by rw [List.length_range]; omega)]
theorem refGains_eq {n : Nat} (hn : 5000 ≤ n) {xs : List (Int × Int × Int)} {a1 a2 : Int} (hx : ∀ x, x ∈ xs → SpotOk x) (hl : xs.length < 1000) (ha : -1000 ≤ a1 ∧ a1 ≤ a2 ∧ a2 ≤ 1000) :
    loopF (F_ref03_Fitted_L3 n (xs.map enc_Ai3Z) a1 a2) n (a1, []) = some ((fitAll xs a1 a2).map enc_Ai3Z) := by
  have := loopF_list0 (step := F_ref03_Fitted_L3 n (xs.map enc_Ai3Z) a1 a2) (E := List D) (fun (s : List D) (i : Nat) => .inl (s ++ (fitOne xs (a1 + (i : Int))).map enc_Ai3Z)) (fun out => out) (fun i s => (a1 + (i : Int), s)) (List.range (a2 - a1 + 1).toNat) (fun i s => s.length ≤ i)
    (fun i out x hxi ho => by
      have hi := ixlt hxi
      rw [List.length_range] at hi
      have hxx : x = i := by
        rw [List.getElem?_range hi] at hxi
        exact (Option.some.inj hxi).symm
      subst hxx
      have hg : -1000 ≤ a1 + (x : Int) ∧ a1 + (x : Int) ≤ 1000 := by omega
      refine ⟨?_, by
        rw [List.length_append, List.length_map]
        have := fit_len xs (a1 + (x : Int))
        omega⟩
      unfold F_ref03_Fitted_L3
      dsimp only
      rw [if_pos (by omega), refInner_eq hx hg hl (by omega), Option.bind_some]
      have e : a1 + (x : Int) + 1 = a1 + ((x + 1 : Nat) : Int) := by omega
      unfold fitOne
      by_cases h : (foldP (a1 + (x : Int), -2000000, 2000000) xs).2.1 ≤ (foldP (a1 + (x : Int), -2000000, 2000000) xs).2.2
      · rw [if_pos h, if_pos h, if_pos (by unfold roomP; omega), if_pos (by unfold inI64; omega), e]
        rfl
      · rw [if_neg h, if_neg h, if_pos (by unfold inI64; omega), List.map_nil, List.append_nil, e])
    (fun out _ => by
      unfold F_ref03_Fitted_L3
      dsimp only
      rw [if_neg (by rw [List.length_range]; omega)])
    (k := n) (s := []) (Nat.zero_le _) (by simp; omega)
  have e : ∀ (l : List Nat) (s : List D), runL (E := List D) (fun (s : List D) (i : Nat) => .inl (s ++ (fitOne xs (a1 + (i : Int))).map enc_Ai3Z)) (fun out => out) l s = s ++ (l.flatMap fun (i : Nat) => fitOne xs (a1 + (i : Int))).map enc_Ai3Z := by
    intro l
    induction l with
    | nil => intro s; simp [runL]
    | cons x l ih =>
      intro s
      show runL (E := List D) (fun (s : List D) (i : Nat) => .inl (s ++ (fitOne xs (a1 + (i : Int))).map enc_Ai3Z)) (fun out => out) l (s ++ (fitOne xs (a1 + (x : Int))).map enc_Ai3Z) = _
      rw [ih, List.flatMap_cons, List.map_append, List.append_assoc]
  rw [e, List.nil_append] at this
  rw [show a1 + ((0 : Nat) : Int) = a1 by simp] at this
  exact this
def fitE (xs : List (Int × Int × Int)) (a1 a2 : Int) : List D × Int :=
  if (fitAll xs a1 a2).length = 0 then ([], 18) else if (fitAll xs a1 a2).length > 64 then ([], 5) else ((fitAll xs a1 a2).map enc_Ai3Z, 0)
theorem refFitted_eq {n : Nat} (hn : 5000 ≤ n) {xs : List (Int × Int × Int)} {a1 a2 : Int} (hx : ∀ x, x ∈ xs → SpotOk x) (hl : xs.length < 1000) (ha : -1000 ≤ a1 ∧ a1 ≤ a2 ∧ a2 ≤ 1000) :
    F_ref03_Fitted n (xs.map enc_Ai3Z) a1 a2 = some (fitE xs a1 a2) := by
  unfold F_ref03_Fitted fitE
  rw [refGains_eq hn hx hl ha, Option.bind_some, List.length_map]
  by_cases h0 : (fitAll xs a1 a2).length = 0
  · rw [if_pos h0, if_pos (by omega)]
  · rw [if_neg h0, if_neg (by omega)]
    by_cases h1 : (fitAll xs a1 a2).length > 64
    · rw [if_pos h1, if_pos (by omega)]
    · rw [if_neg h1, if_neg (by omega)]
theorem fitted_eq {n : Nat} (hn : 5000 ≤ n) {xs : List (Int × Int × Int)} {a1 a2 : Int} (hl : xs.length < 1000) :
    F_drive_Fitted_2 n (xs.map enc_Ai3Z) a1 a2 = some (if firstNZ [spotsE xs, ivE a1 a2 (-1000) 1000] = 0 then fitE xs a1 a2 else ([], firstNZ [spotsE xs, ivE a1 a2 (-1000) 1000])) := by
  unfold F_drive_Fitted_2
  rw [checkSpots_eq (by omega) xs hl, Option.bind_some, ends_eq (by omega) _ _ (by omega), Option.bind_some, first2 (by omega), Option.bind_some]
  by_cases h : firstNZ [spotsE xs, ivE a1 a2 (-1000) 1000] = 0
  · have hx := (spotsE_zero (firstNZ_zero h (spotsE xs) (by simp))).2
    have ha := ivE_zero (firstNZ_zero h (ivE a1 a2 (-1000) 1000) (by simp))
    rw [if_pos h, if_pos h, if_pos (by unfold inI64; omega), if_pos (by unfold inI64; omega), gains_eq hn hx hl ha, Option.bind_some, when_eq, Option.bind_some, when_eq, Option.bind_some, first2 (by omega), Option.bind_some, List.length_map]
    unfold fitE
    by_cases h0 : (fitAll xs a1 a2).length = 0
    · rw [if_pos h0, h0]; rfl
    · have e0 : ((((fitAll xs a1 a2).length : Int) == 0) : Bool) = false := by simpa using (by omega : ¬ (fitAll xs a1 a2).length = 0)
      rw [if_neg h0, e0, whenI_false]
      by_cases h1 : (fitAll xs a1 a2).length > 64
      · rw [if_pos h1, decide_eq_true (by omega : ((fitAll xs a1 a2).length : Int) > 64)]; rfl
      · rw [if_neg h1, decide_eq_false (by omega : ¬ ((fitAll xs a1 a2).length : Int) > 64), whenI_false, if_pos (by rfl)]
  · rw [if_neg h, if_neg h]
theorem fitE_same {n : Nat} (hn : 1000 ≤ n) (xs : List (Int × Int × Int)) (a1 a2 : Int) : F_law03_bands n (fitE xs a1 a2).1 = some (fitE xs a1 a2).1 ∧ F_ref03_SameModel n (fitE xs a1 a2).1 (fitE xs a1 a2).1 = some true := by
  have h0 := bands_eq (n := n) [] (by simp) (by simp; omega)
  have h1 := sameModel0 (n := n) (by omega)
  unfold fitE
  split
  · exact ⟨h0, h1⟩
  · split
    · exact ⟨h0, h1⟩
    · exact ⟨bands_eq _ (by omega) (by omega), sameModel_eq _ (by omega) (by omega)⟩
theorem shortSpots_eq (n : Nat) (l : List D) : F_ref03_ShortSpots n l = some (decide (l.length ≤ 6 ∨ l.length = 17)) := by
  unfold F_ref03_ShortSpots
  by_cases h : (l.length : Int) ≤ 6
  · rw [if_pos h, decide_eq_true (by omega)]
  · rw [if_neg h]
    by_cases h2 : l.length = 17
    · rw [decide_eq_true (.inr h2), h2]; rfl
    · rw [decide_eq_false (by omega)]
      have : ¬ ((l.length : Int) = 17) := by omega
      simp [this]
theorem law_DriveFits (xs : List (Int × Int × Int)) (a1 a2 : Int) : F_law03_DriveFits 5000 (xs.map enc_Ai3Z) a1 a2 = some true := by
  unfold F_law03_DriveFits
  rw [shortSpots_eq, List.length_map, Option.bind_some]
  by_cases hs : xs.length ≤ 6 ∨ xs.length = 17
  · rw [if_pos (decide_eq_true hs), spots_eq xs (by omega) (by omega), Option.bind_some, fitted_eq (Nat.le_refl _) (by omega), Option.bind_some, refCheckSpots_eq (by omega) xs (by omega), Option.bind_some,
      interval_eq (by omega), Option.bind_some, refFirst2 (by omega), Option.bind_some, checkSpots_eq (by omega) xs (by omega)]
    by_cases h : firstNZ [spotsE xs, ivE a1 a2 (-1000) 1000] = 0
    · have hx := (spotsE_zero (firstNZ_zero h (spotsE xs) (by simp))).2
      have ha := ivE_zero (firstNZ_zero h (ivE a1 a2 (-1000) 1000) (by simp))
      have q := fitE_same (n := 5000) (by omega) xs a1 a2
      rw [if_pos h, if_pos h, refFitted_eq (Nat.le_refl _) hx (by omega) ha, Option.bind_some, Option.bind_some, if_pos rfl, q.1, Option.bind_some, q.2, Option.bind_some, if_pos rfl, if_pos rfl, awake5]
      rfl
    · rw [if_neg h, if_neg h, Option.bind_some, if_pos rfl]
      have h0 := bands_eq (n := 5000) [] (by simp) (by simp)
      have h1 := sameModel0 (n := 5000) (by omega)
      rw [List.map_nil] at h0
      rw [h0, Option.bind_some, h1, Option.bind_some, if_pos rfl, if_pos rfl, awake5]
      rfl
  · rw [if_neg (by simpa using hs), awake5]
    rfl
end Go.Proofs.YtmgbmngmmpeaaaaGreatDoor
