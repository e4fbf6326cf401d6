/-
  Plain lemmas on axes, spots, models and targets, as in the laws of the drive. An own text.
-/
import Derived.Test.YtegcijomjkffgaaDoorCom1
set_option linter.unusedVariables false
set_option linter.unusedSimpArgs false
set_option linter.unnecessarySimpa false
set_option maxRecDepth 20000
namespace Go.Proofs.YtegcijomjkffgaaDoor
open Go.SX

def spotT (x : Int × Int × Int) : Int := spotE x.1 x.2.1 x.2.2
theorem spotT_zero {x : Int × Int × Int} (h : spotT x = 0) : SpotOk x := by
  obtain ⟨h1, h2, h3, h4⟩ := spotE_zero h
  exact ⟨h1, h2, h3, h4⟩
def spotsE (l : List (Int × Int × Int)) : Int := if l.length = 0 then 12 else if l.length > 16 then 5 else firstNZ (l.map spotT)
theorem mapped_eq {n : Nat} (hn : 10 ≤ n) (l : List (Int × Int × Int)) (hl : l.length < 1000000) (hk : l.length < n) : F_drive_mapped_g n (l.map enc_Ai3Z) = some ((l.map spotT).map I) := by
  unfold F_drive_mapped_g
  rw [loop_acc (fun out => out) l (fun x => [I (spotT x)]) (fun _ => Nat.le_refl _) (fun i out x hx ho => by
      have hi := ixlt hx
      unfold F_drive_mapped_g_L1
      dsimp only
      rw [if_pos (lenlt hx), el_enc un3 hx, Option.bind_some, spot_eq hn, Option.bind_some, if_pos (by unfold roomP; omega), if_pos (by unfold inI64; omega)]
      rfl)
    (fun out _ => by
      unfold F_drive_mapped_g_L1
      rw [if_neg notlt]) hk, flat1, List.map_map]
  rfl
theorem checkSpots_eq {n : Nat} (hn : 1000 ≤ n) (l : List (Int × Int × Int)) (hl : l.length < 1000) : F_drive_CheckSpots n (l.map enc_Ai3Z) = some (spotsE l) := by
  unfold F_drive_CheckSpots spotsE
  rw [when_eq, Option.bind_some, when_eq, Option.bind_some, first2 (by omega), Option.bind_some, List.length_map]
  by_cases h0 : l.length = 0
  · rw [if_pos h0, h0]; rfl
  · have e0 : (((l.length : Int) == 0) : Bool) = false := by simpa using (by omega : ¬ l.length = 0)
    rw [if_neg h0, e0, whenI_false]
    by_cases h1 : l.length > 16
    · rw [if_pos h1, decide_eq_true (by omega : (l.length : Int) > 16)]; rfl
    · rw [if_neg h1, decide_eq_false (by omega : ¬ (l.length : Int) > 16), whenI_false, if_pos (by rfl), mapped_eq (by omega) l (by omega) (by omega), Option.bind_some,
        first_eq _ (by simp; omega) (by simp; omega)]
      rfl
theorem spotsE_zero {l : List (Int × Int × Int)} (h : spotsE l = 0) : (0 < l.length ∧ l.length ≤ 16) ∧ ∀ x, x ∈ l → SpotOk x := by
  unfold spotsE at h
  by_cases h0 : l.length = 0
  · rw [if_pos h0] at h; cases h
  · rw [if_neg h0] at h
    by_cases h1 : l.length > 16
    · rw [if_pos h1] at h; cases h
    · rw [if_neg h1] at h
      exact ⟨by omega, fun x hx => spotT_zero (firstNZ_zero h _ (List.mem_map_of_mem hx))⟩
def foldP (b : Int × Int × Int) (xs : List (Int × Int × Int)) : Int × Int × Int := xs.foldl permE b
theorem foldP_gain : ∀ (xs : List (Int × Int × Int)) (b : Int × Int × Int), (foldP b xs).1 = b.1
  | [], _ => rfl
  | x :: xs, b => by
    show (foldP (permE b x) xs).1 = b.1
    rw [foldP_gain xs]; rfl
theorem foldP_less : ∀ (xs : List (Int × Int × Int)) (b : Int × Int × Int), b.2.1 ≤ (foldP b xs).2.1 ∧ (foldP b xs).2.2 ≤ b.2.2
  | [], _ => ⟨Int.le_refl _, Int.le_refl _⟩
  | x :: xs, b => by
    have h := foldP_less xs (permE b x)
    have h1 : b.2.1 ≤ (permE b x).2.1 := by show b.2.1 ≤ maxI _ _; unfold maxI; split <;> omega
    have h2 : (permE b x).2.2 ≤ b.2.2 := by show minI _ _ ≤ b.2.2; unfold minI; split <;> omega
    exact ⟨Int.le_trans h1 h.1, Int.le_trans h.2 h2⟩
def seenG (s x : Int × Int × Int) : (Int × Int × Int) ⊕ (Unit ⊕ (Int × Int × Int)) := if (permE s x).2.1 ≤ (permE s x).2.2 then .inl (permE s x) else .inr (.inl ())
theorem seen_run : ∀ (xs : List (Int × Int × Int)) (b : Int × Int × Int), b.2.1 ≤ b.2.2 → runL seenG (fun s => .inr s) xs b = if (foldP b xs).2.1 ≤ (foldP b xs).2.2 then .inr (foldP b xs) else .inl ()
  | [], b, hb => by
    show Sum.inr b = _
    rw [if_pos (show (foldP b []).2.1 ≤ (foldP b []).2.2 from hb)]; rfl
  | x :: xs, b, hb => by
    unfold runL
    by_cases h : (permE b x).2.1 ≤ (permE b x).2.2
    · have hg : seenG b x = .inl (permE b x) := by unfold seenG; rw [if_pos h]
      rw [hg]
      exact seen_run xs (permE b x) h
    · have hg : seenG b x = .inr (.inl ()) := by unfold seenG; rw [if_neg h]
      rw [hg, if_neg]
      have := foldP_less xs (permE b x)
      show ¬ (foldP (permE b x) xs).2.1 ≤ (foldP (permE b x) xs).2.2
      omega
def fitOne (xs : List (Int × Int × Int)) (g : Int) : List (Int × Int × Int) := if (foldP (g, -2000000, 2000000) xs).2.1 ≤ (foldP (g, -2000000, 2000000) xs).2.2 then [foldP (g, -2000000, 2000000) xs] else []
theorem inner_eq {n : Nat} {xs : List (Int × Int × Int)} {a1 a2 g : Int} {sa : Int × List D} (hx : ∀ x, x ∈ xs → SpotOk x) (hg : -1000 ≤ g ∧ g ≤ 1000) (hl : xs.length < 1000) {k : Nat} (hk : xs.length < k) :
    loopF (F_drive_Fitted_L2 n (xs.map enc_Ai3Z) a1 a2 sa) k (0, g, -2000000, 2000000) = some (if (foldP (g, -2000000, 2000000) xs).2.1 ≤ (foldP (g, -2000000, 2000000) xs).2.2 then .inr (foldP (g, -2000000, 2000000) xs) else .inl ()) := by
  rw [← seen_run xs (g, -2000000, 2000000) (show (-2000000 : Int) ≤ 2000000 by decide)]
  refine loopF_list0 (s := ((g, -2000000, 2000000) : Int × Int × Int)) (step := F_drive_Fitted_L2 n (xs.map enc_Ai3Z) a1 a2 sa) seenG (fun s => .inr s) (fun i s => ((i : Int), s.1, s.2.1, s.2.2)) xs (fun _ s => s.1 = g) (fun i s x hxi hi => ?_) (fun s _ => ?_) rfl hk
  · have hi' := ixlt hxi
    have hs : -1000 ≤ s.1 ∧ s.1 ≤ 1000 := by rw [hi]; exact hg
    have hxo := hx x (List.mem_of_getElem? hxi)
    have key : F_drive_Fitted_L2 n (xs.map enc_Ai3Z) a1 a2 sa ((i : Int), s.1, s.2.1, s.2.2) = if decide ((permE s x).2.1 ≤ (permE s x).2.2) = true then (if inI64 ((i : Int) + 1) then some (.inl ((i : Int) + 1, (permE s x).1, (permE s x).2.1, (permE s x).2.2)) else none) else some (.inr (.inl ())) := by
      unfold F_drive_Fitted_L2
      dsimp only
      rw [if_pos (lenlt hxi), el_enc un3 hxi, Option.bind_some, seen_eq hs hxo, Option.bind_some]
    rw [if_pos (show inI64 ((i : Int) + 1) by unfold inI64; omega)] at key
    unfold seenG
    by_cases h : (permE s x).2.1 ≤ (permE s x).2.2
    · rw [if_pos h]; rw [if_pos (decide_eq_true h)] at key; exact ⟨key, hi⟩
    · rw [if_neg h]; rw [if_neg (by simpa using h)] at key; exact key
  · unfold F_drive_Fitted_L2
    rw [if_neg notlt]
def fitAll (xs : List (Int × Int × Int)) (a1 a2 : Int) : List (Int × Int × Int) := (List.range (a2 - a1 + 1).toNat).flatMap fun (i : Nat) => fitOne xs (a1 + (i : Int))
theorem fit_len (xs : List (Int × Int × Int)) (g : Int) : (fitOne xs g).length ≤ 1 := by unfold fitOne; split <;> simp
theorem gains_eq {n : Nat} (hn : 5000 ≤ n) {xs : List (Int × Int × Int)} {a1 a2 : Int} (hx : ∀ x, x ∈ xs → SpotOk x) (hl : xs.length < 1000) (ha : -1000 ≤ a1 ∧ a1 ≤ a2 ∧ a2 ≤ 1000) :
    loopF (F_drive_Fitted_L3 n (xs.map enc_Ai3Z) a1 a2) n (0, []) = some ((fitAll xs a1 a2).map enc_Ai3Z) := by
  unfold fitAll
  rw [List.map_flatMap]
  refine loop_acc (fun out => out) (List.range (a2 - a1 + 1).toNat) (fun (i : Nat) => (fitOne xs (a1 + (i : Int))).map enc_Ai3Z) (fun i => by rw [List.length_map]; exact fit_len _ _) (fun i out x hxi ho => ?_) (fun out _ => ?_) (by simp; omega)
  · have hi := ixlt hxi
    rw [List.length_range] at hi
    have hxx : x = i := by
      rw [List.getElem?_range hi] at hxi
      exact (Option.some.inj hxi).symm
    subst hxx
    have hg : -1000 ≤ a1 + (x : Int) ∧ a1 + (x : Int) ≤ 1000 := by omega
    unfold F_drive_Fitted_L3
    dsimp only
    rw [if_pos (by omega), if_pos (by unfold inI64; omega), inner_eq hx hg hl (by omega), Option.bind_some]
    unfold fitOne
    by_cases h : (foldP (a1 + (x : Int), -2000000, 2000000) xs).2.1 ≤ (foldP (a1 + (x : Int), -2000000, 2000000) xs).2.2
    · rw [if_pos h, if_pos h]
      dsimp only
      rw [if_pos (by unfold roomP; omega), if_pos (by unfold inI64; omega)]
      rfl
    · rw [if_neg h, if_neg h]
      dsimp only
      rw [if_pos (by unfold inI64; omega), List.map_nil, List.append_nil]
      rfl
  · unfold F_drive_Fitted_L3
    dsimp only
    rw [if_neg (by rw [List.length_range]; omega)]
def fitE (xs : List (Int × Int × Int)) (a1 a2 : Int) : List D × Int :=
  if (fitAll xs a1 a2).length = 0 then ([], 18) else if (fitAll xs a1 a2).length > 64 then ([], 5) else ((fitAll xs a1 a2).map enc_Ai3Z, 0)
theorem fitted_eq {n : Nat} (hn : 5000 ≤ n) {xs : List (Int × Int × Int)} {a1 a2 : Int} (hl : xs.length < 1000) :
    F_drive_Fitted n (xs.map enc_Ai3Z) a1 a2 = some (if firstNZ [spotsE xs, ivE a1 a2 (-1000) 1000] = 0 then fitE xs a1 a2 else ([], firstNZ [spotsE xs, ivE a1 a2 (-1000) 1000])) := by
  unfold F_drive_Fitted
  rw [checkSpots_eq (by omega) xs hl, Option.bind_some, ends_eq (by omega) _ _ (by omega), Option.bind_some, first2 (by omega), Option.bind_some]
  by_cases h : firstNZ [spotsE xs, ivE a1 a2 (-1000) 1000] = 0
  · have hx := (spotsE_zero (firstNZ_zero h (spotsE xs) (by simp))).2
    have ha := ivE_zero (firstNZ_zero h (ivE a1 a2 (-1000) 1000) (by simp))
    rw [if_pos h, if_pos h, if_pos (by unfold inI64; omega), if_pos (by unfold inI64; omega), gains_eq hn hx hl ha, Option.bind_some, when_eq, Option.bind_some, when_eq, Option.bind_some, first2 (by omega), Option.bind_some, List.length_map]
    unfold fitE
    by_cases h0 : (fitAll xs a1 a2).length = 0
    · rw [if_pos h0, h0]; rfl
    · have e0 : ((((fitAll xs a1 a2).length : Int) == 0) : Bool) = false := by simpa using (by omega : ¬ (fitAll xs a1 a2).length = 0)
      rw [if_neg h0, e0, whenI_false]
      by_cases h1 : (fitAll xs a1 a2).length > 64
      · rw [if_pos h1, decide_eq_true (by omega : ((fitAll xs a1 a2).length : Int) > 64)]; rfl
      · rw [if_neg h1, decide_eq_false (by omega : ¬ ((fitAll xs a1 a2).length : Int) > 64), whenI_false, if_pos (by rfl)]
  · rw [if_neg h, if_neg h]
def refOne (x b : Int × Int × Int) : List (Int × Int × Int) := if (permE b x).2.1 ≤ (permE b x).2.2 then [permE b x] else []
def refAll (l : List (Int × Int × Int)) (x : Int × Int × Int) : List (Int × Int × Int) := l.flatMap (refOne x)
theorem refOne_len (x b : Int × Int × Int) : (refOne x b).length ≤ 1 := by unfold refOne; split <;> simp
theorem refAll_len : ∀ (l : List (Int × Int × Int)) (x : Int × Int × Int), (refAll l x).length ≤ l.length
  | [], _ => Nat.le_refl _
  | b :: l, x => by
    show ((b :: l).flatMap (refOne x)).length ≤ _
    rw [List.flatMap_cons, List.length_append]
    have := refOne_len x b
    have h : (l.flatMap (refOne x)).length ≤ l.length := refAll_len l x
    simp only [List.length_cons]; omega
theorem refined_loop {n : Nat} {l : List (Int × Int × Int)} {x : Int × Int × Int} (hb : ∀ b, b ∈ l → BandOk b) (hx : SpotOk x) (hl : l.length < 1000) {k : Nat} (hk : l.length < k) :
    loopF (F_drive_Refined_L1 n (l.map enc_Ai3Z) x.1 x.2.1 x.2.2) k (0, []) = some ((refAll l x).map enc_Ai3Z) := by
  unfold refAll
  rw [List.map_flatMap]
  refine loop_acc (fun out => out) l (fun b => (refOne x b).map enc_Ai3Z) (fun b => by rw [List.length_map]; exact refOne_len _ _) (fun i out b hbi ho => ?_) (fun out _ => ?_) hk
  · have hi := ixlt hbi
    have hg := (hb b (List.mem_of_getElem? hbi)).1
    unfold F_drive_Refined_L1
    dsimp only
    rw [if_pos (lenlt hbi), el_enc un3 hbi, Option.bind_some, seen_eq hg hx, Option.bind_some]
    unfold refOne
    by_cases h : (permE b x).2.1 ≤ (permE b x).2.2
    · rw [if_pos h, if_pos (decide_eq_true h), if_pos (by unfold roomP; omega), if_pos (by unfold inI64; omega)]
      rfl
    · rw [if_neg h, if_neg (by simpa using h), if_pos (by unfold inI64; omega), List.map_nil, List.append_nil]
      rfl
  · unfold F_drive_Refined_L1
    rw [if_neg notlt]
def refinE (l : List (Int × Int × Int)) (x : Int × Int × Int) : List (Int × Int × Int) × Int := if (refAll l x).length = 0 then ([], 18) else (refAll l x, 0)
theorem refinE_len (l : List (Int × Int × Int)) (x : Int × Int × Int) : (refinE l x).1.length ≤ l.length := by
  unfold refinE; split
  · simp
  · exact refAll_len l x
def fullRef (l : List (Int × Int × Int)) (x : Int × Int × Int) : List (Int × Int × Int) × Int := if firstNZ [modelE l, spotT x] = 0 then refinE l x else ([], firstNZ [modelE l, spotT x])
theorem refined_eq {n : Nat} (hn : 1000 ≤ n) (l : List (Int × Int × Int)) (x : Int × Int × Int) (hl : l.length < 1000) :
    F_drive_Refined n (l.map enc_Ai3Z) x.1 x.2.1 x.2.2 = some ((fullRef l x).1.map enc_Ai3Z, (fullRef l x).2) := by
  unfold F_drive_Refined fullRef
  rw [checkModel_eq hn l hl, Option.bind_some, spot_eq (by omega), Option.bind_some, first2 (by omega), Option.bind_some]
  change (if firstNZ [modelE l, spotT x] = 0 then _ else _) = _
  by_cases h : firstNZ [modelE l, spotT x] = 0
  · have hb := (modelE_zero (firstNZ_zero h (modelE l) (by simp))).2
    have hx := spotT_zero (firstNZ_zero h (spotT x) (by simp))
    rw [if_pos h, if_pos h, refined_loop hb hx hl (by omega), Option.bind_some, List.length_map]
    unfold refinE
    by_cases h0 : (refAll l x).length = 0
    · rw [if_pos h0, if_pos (by omega)]; rfl
    · rw [if_neg h0, if_neg (by omega)]
  · rw [if_neg h, if_neg h]; rfl
def dr (d1 d2 : Int) (b : Int × Int × Int) : Int × Int × Int := (b.1, b.2.1 + d1, b.2.2 + d2)
def drOk (d1 d2 : Int) (b : Int × Int × Int) : Bool := decide (-2000000 ≤ b.2.1 + d1 ∧ b.2.2 + d2 ≤ 2000000)
theorem dr_ends {d1 d2 : Int} {b : Int × Int × Int} (hb : BandOk b) (hd : -1000000 ≤ d1 ∧ d1 ≤ d2 ∧ d2 ≤ 1000000) : ivE (b.2.1 + d1) (b.2.2 + d2) (-2000000) 2000000 = 0 ↔ drOk d1 d2 b = true := by
  obtain ⟨_, h1, h2, h3⟩ := hb
  unfold drOk
  rw [decide_eq_true_iff]
  constructor
  · intro h
    have := ivE_zero h
    omega
  · intro h
    unfold ivE
    have e1 : inR (b.2.1 + d1) (-2000000) 2000000 = 0 := by unfold inR; rw [if_neg (by omega), if_neg (by omega)]
    have e2 : inR (b.2.2 + d2) (-2000000) 2000000 = 0 := by unfold inR; rw [if_neg (by omega), if_neg (by omega)]
    have e3 : decide (b.2.1 + d1 > b.2.2 + d2) = false := decide_eq_false (by omega)
    rw [e1, e2, e3]; rfl
theorem copyAll (l : List D) (z : D) : l.take ((List.replicate (Int.toNat (l.length : Int)) z : List D).length) ++ (List.replicate (Int.toNat (l.length : Int)) z).drop l.length = l := by
  rw [List.length_replicate, Int.toNat_natCast, List.take_length, List.drop_eq_nil_of_le (by simp), List.append_nil]
theorem nth_mid (A C : List D) (x : D) : nth (A ++ x :: C) A.length = some x := by rw [nth_get?]; simp
theorem set_mid (A C : List D) (x y : D) : List.set (A ++ x :: C) A.length y = A ++ y :: C := by simp
def drOut (l : List (Int × Int × Int)) (d1 d2 : Int) (rest : List (Int × Int × Int)) : Unit ⊕ List D := if rest.all (drOk d1 d2) = true then .inr (l.map fun b => enc_Ai3Z (dr d1 d2 b)) else .inl ()
def driftE (l : List (Int × Int × Int)) (d1 d2 : Int) : List (Int × Int × Int) × Int := if l.all (drOk d1 d2) = true then (l.map (dr d1 d2), 0) else ([], 4)
def fullDr (l : List (Int × Int × Int)) (d1 d2 : Int) : List (Int × Int × Int) × Int := if firstNZ [modelE l, ivE d1 d2 (-1000000) 1000000] = 0 then driftE l d1 d2 else ([], firstNZ [modelE l, ivE d1 d2 (-1000000) 1000000])
theorem modelRun_inc : ∀ (l : List (Int × Int × Int)) (last : Int), outM (runL modelG (fun _ => .inr ()) l last) = 0 → (∀ b, b ∈ l → last < b.1) ∧ l.Pairwise (fun a b => a.1 < b.1)
  | [], _, _ => ⟨fun b hb => (by cases hb), .nil⟩
  | c :: l, last, h => by
    unfold runL at h
    by_cases hc : bandE last c = 0
    · have hg : modelG last c = .inl c.1 := by unfold modelG; rw [if_pos hc]
      rw [hg] at h
      have ih := modelRun_inc l _ h
      have hl := (bandE_zero hc).2
      refine ⟨fun b hb => ?_, List.pairwise_cons.2 ⟨ih.1, ih.2⟩⟩
      rcases List.mem_cons.1 hb with rfl | hb
      · exact hl
      · have := ih.1 b hb; omega
    · have hg : modelG last c = .inr (.inl (bandE last c)) := by unfold modelG; rw [if_neg hc]
      rw [hg] at h
      exact absurd h hc
theorem modelE_inc {l : List (Int × Int × Int)} (h : modelE l = 0) : l.Pairwise (fun a b => a.1 < b.1) := by
  unfold modelE at h
  by_cases h0 : l.length = 0
  · rw [if_pos h0] at h; cases h
  · rw [if_neg h0] at h
    by_cases h1 : l.length > 64
    · rw [if_pos h1] at h; cases h
    · rw [if_neg h1] at h
      exact (modelRun_inc l _ h).2
def entry (x : Int × Int × Int) : D := .tup [.v (.int .i64 x.1), .agg [I x.2.1, I x.2.2]]
theorem entry_ok (k : Int) (l : List (Int × Int × Int)) : mok (.int .i64 k) (l.map entry) = true := mok_map (f := entry) (g := fun x => x.1) (fun x => rfl) l
theorem keyOf_entry (x : Int × Int × Int) : Go.SX.keyOf (entry x) = some (.int .i64 x.1, .agg [I x.2.1, I x.2.2]) := rfl
theorem sameK_int (a b : Int) : sameK (.int .i64 a) (.int .i64 b) = some (a == b) := rfl
theorem entry_put {x : Int × Int × Int} : ∀ {l : List (Int × Int × Int)}, (∀ y, y ∈ l → y.1 < x.1) → mput (.int .i64 x.1) (.agg [I x.2.1, I x.2.2]) (l.map entry) = l.map entry ++ [entry x]
  | [], _ => rfl
  | y :: l, h => by
    have hy := h y (List.mem_cons_self)
    have hb : (x.1 == y.1) = false := by simpa using (by omega : ¬ x.1 = y.1)
    have ih := entry_put (x := x) (l := l) fun z hz => h z (List.mem_cons_of_mem _ hz)
    rw [List.map_cons, List.cons_append, ← ih]
    conv => lhs; unfold mput
    rw [keyOf_entry]
    dsimp only
    rw [sameK_int, hb]
theorem entry_find (k : Int) : ∀ l : List (Int × Int × Int), mfind (.int .i64 k) (l.map entry) = (l.find? fun b => b.1 == k).map fun b => .agg [I b.2.1, I b.2.2]
  | [] => rfl
  | y :: l => by
    have ih := entry_find k l
    rw [List.map_cons, List.find?_cons]
    unfold mfind
    rw [keyOf_entry]
    dsimp only
    rw [sameK_int]
    by_cases h : y.1 = k
    · have hb : (k == y.1) = true := by simpa using h.symm
      have hc : (y.1 == k) = true := by simpa using h
      rw [hb, hc]; rfl
    · have hb : (k == y.1) = false := by simpa using (fun e => h e.symm : ¬ k = y.1)
      have hc : (y.1 == k) = false := by simpa using h
      rw [hb, hc]
      exact ih
def inB (a1 a2 : Int) (b : Int × Int × Int) : Bool := decide (b.1 = a1 ∧ b.2.1 ≤ a2 ∧ a2 ≤ b.2.2)
theorem any_find {a1 a2 : Int} : ∀ {l : List (Int × Int × Int)}, l.Pairwise (fun a b => a.1 < b.1) → l.any (inB a1 a2) = match l.find? fun b => b.1 == a1 with
    | some b => decide (b.2.1 ≤ a2 ∧ a2 ≤ b.2.2)
    | none => false
  | [], _ => rfl
  | y :: l, h => by
    have hp := List.pairwise_cons.1 h
    rw [List.any_cons, List.find?_cons]
    by_cases hy : y.1 = a1
    · have hc : (y.1 == a1) = true := by simpa using hy
      have hn : l.any (inB a1 a2) = false := by
        rw [List.any_eq_false]
        intro z hz
        have := hp.1 z hz
        unfold inB
        rw [decide_eq_false (by omega)]
        decide
      rw [hc, hn, Bool.or_false]
      simp [inB, hy]
    · have hc : (y.1 == a1) = false := by simpa using hy
      have hn : inB a1 a2 y = false := decide_eq_false (by omega)
      rw [hc, hn, Bool.false_or]
      exact any_find hp.2
theorem has_loop {n : Nat} {a1 a2 : Int} (l : List (Int × Int × Int)) (hl : l.length < 1000000) (hp : l.Pairwise (fun a b => a.1 < b.1)) : ∀ (k i : Nat), i ≤ l.length → l.length < i + k →
    loopF (F_drive_Has_L1 n (l.map enc_Ai3Z) a1 a2) k ((i : Int), (l.take i).map entry) = some (l.map entry)
  | 0, i, h, hk => by omega
  | k + 1, i, h, hk => by
    by_cases hi : i < l.length
    · have hx := List.getElem?_eq_getElem hi
      have hlt : ∀ y, y ∈ l.take i → y.1 < l[i].1 := by
        have hs : l.take i ++ l[i] :: l.drop (i + 1) = l := by
          rw [← List.drop_eq_getElem_cons hi]; exact List.take_append_drop i l
        rw [← hs] at hp
        intro y hy
        exact (List.pairwise_append.1 hp).2.2 y hy l[i] List.mem_cons_self
      have hput := entry_put hlt
      have key : F_drive_Has_L1 n (l.map enc_Ai3Z) a1 a2 ((i : Int), (l.take i).map entry) = some (.inl (((i + 1 : Nat) : Int), (l.take (i + 1)).map entry)) := by
        unfold F_drive_Has_L1
        dsimp only
        rw [if_pos (lenlt hx), el_enc un3 hx, Option.bind_some, if_pos (entry_ok _ _), if_pos (by unfold inI64; omega), hput, List.take_add_one, hx, List.map_append]
        rfl
      rw [Go.SX.loopF_l key]
      exact has_loop l hl hp k (i + 1) hi (by omega)
    · have : i = l.length := by omega
      subst this
      rw [Go.SX.loopF_r (e := l.map entry)]
      unfold F_drive_Has_L1
      rw [if_neg notlt, List.take_length]
def hasE (l : List (Int × Int × Int)) (a1 a2 : Int) : Bool × Int := if firstNZ [modelE l, inR a1 (-1000) 1000, inR a2 (-2000000) 2000000] = 0 then (l.any (inB a1 a2), 0) else (false, firstNZ [modelE l, inR a1 (-1000) 1000, inR a2 (-2000000) 2000000])
theorem has_eq {n : Nat} (hn : 1000 ≤ n) (l : List (Int × Int × Int)) (hl : l.length < 1000) (a1 a2 : Int) : F_drive_Has n (l.map enc_Ai3Z) a1 a2 = some (hasE l a1 a2) := by
  unfold F_drive_Has hasE
  rw [checkModel_eq hn l hl, Option.bind_some, within_eq, Option.bind_some, within_eq, Option.bind_some, first3 (by omega), Option.bind_some]
  by_cases h : firstNZ [modelE l, inR a1 (-1000) 1000, inR a2 (-2000000) 2000000] = 0
  · rw [if_pos h, if_pos h]
    have hm := firstNZ_zero h (modelE l) (by simp)
    have hp := modelE_inc hm
    have := has_loop (n := n) (a1 := a1) (a2 := a2) l (by omega) hp n 0 (Nat.zero_le _) (by omega)
    rw [List.take_zero, List.map_nil, show ((0 : Nat) : Int) = 0 from rfl] at this
    rw [this, Option.bind_some, any_find hp, entry_find]
    simp only [entry_ok, if_true]
    cases hf : l.find? fun b => b.1 == a1 with
    | none => rfl
    | some b =>
      simp only [Option.map_some, Option.isSome_some, if_true, Option.bind_some, un_Ai2Z, un_int]
      by_cases h1 : a2 ≥ b.2.1
      · rw [if_pos h1]
        have h2 : decide (a2 ≤ b.2.2) = decide (b.2.1 ≤ a2 ∧ a2 ≤ b.2.2) := by
          by_cases q : a2 ≤ b.2.2
          · rw [decide_eq_true q, decide_eq_true ⟨h1, q⟩]
          · rw [decide_eq_false q, decide_eq_false (fun e => q e.2)]
        rw [h2]
      · rw [if_neg h1, decide_eq_false (fun e => h1 e.1)]
  · rw [if_neg h, if_neg h]
def pairsE (l : List (Int × Int × Int)) (s : Int) : Int := l.foldl (fun s b => s + (b.2.2 - b.2.1 + 1)) s
theorem runL_fold {α : Type} (f : Int → α → Int) : ∀ (l : List α) (s : Int), runL (E := Int) (fun s x => .inl (f s x)) (fun s => s) l s = l.foldl f s
  | [], _ => rfl
  | x :: l, s => runL_fold f l (f s x)
def pairsR (l : List (Int × Int × Int)) : Int × Int := if modelE l = 0 then (pairsE l 0, 0) else (0, modelE l)
theorem dInverted_eq {n : Nat} (hn : 5000 ≤ n) (a0 a1 a2 a3 a4 a5 : Int) (l : List (Int × Int × Int)) (t0 t1 : Int) (hlen : l.length < 1000) :
    F_drive_Inverted n a0 a1 a2 a3 a4 a5 (l.map enc_Ai3Z) t0 t1 = some (if allE a0 a1 a2 a3 a4 a5 l t0 t1 = 0 then nearE (nearR a0 a1 a3 (hitE a2 a4 a5 l t0 t1)) else (0, allE a0 a1 a2 a3 a4 a5 l t0 t1)) := by
  unfold F_drive_Inverted
  rw [aimedCheck_eq (by omega) _ _ _ _ _ _ l _ _ hlen, Option.bind_some]
  by_cases h : allE a0 a1 a2 a3 a4 a5 l t0 t1 = 0
  · obtain ⟨_, h1, h2, h3, h4, _⟩ := allE_zero h
    rw [if_pos h, if_pos h, nearest_eq hn h1 hlen h2 h4]
    rfl
  · rw [if_neg h, if_neg h]
theorem dCheckInverted_eq {n : Nat} (hn : 5000 ≤ n) (a0 a1 a2 a3 a4 a5 : Int) (l : List (Int × Int × Int)) (t0 t1 m : Int) (hlen : l.length < 1000) :
    F_drive_CheckInverted n a0 a1 a2 a3 a4 a5 (l.map enc_Ai3Z) t0 t1 m = some (if allE a0 a1 a2 a3 a4 a5 l t0 t1 = 0 then if inR m a0 a1 = 0 then if hitE a2 a4 a5 l t0 t1 m = true then ((reachE a2 a4 a5 l m).1, (reachE a2 a4 a5 l m).2, 0) else (0, 0, 19) else (0, 0, inR m a0 a1) else (0, 0, allE a0 a1 a2 a3 a4 a5 l t0 t1)) := by
  unfold F_drive_CheckInverted
  rw [aimedCheck_eq (by omega) _ _ _ _ _ _ l _ _ hlen, Option.bind_some, within_eq, Option.bind_some, first2 (by omega), Option.bind_some, firstNZ_cons, firstNZ_one]
  by_cases h : allE a0 a1 a2 a3 a4 a5 l t0 t1 = 0
  · obtain ⟨_, h1, h2, h3, h4, _⟩ := allE_zero h
    rw [if_pos h, if_pos h]
    by_cases hm : inR m a0 a1 = 0
    · have hb := inR_zero hm
      have q0 := h1.l0
      have q1 := h1.l2
      rw [if_pos hm, if_pos hm, hit_eq hn hlen h2 h4 (by omega) ⟨h1.p0, h1.p1⟩, Option.bind_some]
      dsimp only
      split <;> rfl
    · rw [if_neg hm, if_neg hm]
  · rw [if_neg h, if_neg h, if_neg h]
def bandStep (l : List D) (t0 t1 mir : Int) (sb : Int) : Option (Int ⊕ (Unit ⊕ Unit)) :=
  if sb < ((l).length : Int) then
    (el un_Ai3Z l sb).bind fun tb2 =>
    if inI64 (tb2.1 * mir) then
    if inI64 (tb2.2.1 + (tb2.1 * mir)) then
    if (tb2.2.1 + (tb2.1 * mir)) < t0 then
      some (.inr (.inl ()))
    else
    if inI64 (tb2.2.2 + (tb2.1 * mir)) then
    if (tb2.2.2 + (tb2.1 * mir)) > t1 then
      some (.inr (.inl ()))
    else
    if inI64 (sb + 1) then
    some (.inl (sb + 1))
    else none
    else none
    else none
    else none
  else
  some (.inr (.inr ()))
def hitsStep (n : Nat) (l : List D) (t0 t1 motor play top : Int) (sa : Int) : Option (Int ⊕ (Unit ⊕ Unit)) :=
  if sa ≤ top then
    if sa > motor then
      if inI64 (motor - play) then
      if motor < (motor - play) then
        (loopF (bandStep l t0 t1 (motor - play)) n 0).bind fun ta5 => match ta5 with
          | (.inl _) => (
            some (.inr (.inl ())))
          | (.inr _) => (
            if inI64 (sa + 1) then
            some (.inl (sa + 1))
            else none)
      else
      (loopF (bandStep l t0 t1 motor) n 0).bind fun ta5 => match ta5 with
        | (.inl _) => (
          some (.inr (.inl ())))
        | (.inr _) => (
          if inI64 (sa + 1) then
          some (.inl (sa + 1))
          else none)
      else none
    else
    if inI64 (motor - play) then
    if sa < (motor - play) then
      (loopF (bandStep l t0 t1 (motor - play)) n 0).bind fun ta5 => match ta5 with
        | (.inl _) => (
          some (.inr (.inl ())))
        | (.inr _) => (
          if inI64 (sa + 1) then
          some (.inl (sa + 1))
          else none)
    else
    (loopF (bandStep l t0 t1 sa) n 0).bind fun ta5 => match ta5 with
      | (.inl _) => (
        some (.inr (.inl ())))
      | (.inr _) => (
        if inI64 (sa + 1) then
        some (.inl (sa + 1))
        else none)
    else none
  else
  some (.inr (.inr ()))
def okB (t0 t1 mir : Int) (b : Int × Int × Int) : Bool := decide (t0 ≤ b.2.1 + b.1 * mir ∧ b.2.2 + b.1 * mir ≤ t1)
def okM (l : List (Int × Int × Int)) (t0 t1 mir : Int) : Bool := l.all (okB t0 t1 mir)
theorem band_loop {t0 t1 mir : Int} (l : List (Int × Int × Int)) (hl : l.length < 1000) (hb : ∀ b, b ∈ l → BandOk b) (hm : -1100 ≤ mir ∧ mir ≤ 1100) {k : Nat} (hk : l.length < k) :
    loopF (bandStep (l.map enc_Ai3Z) t0 t1 mir) k 0 = some (if okM l t0 t1 mir = true then .inr () else .inl ()) := by
  have := loopF_list0 (step := bandStep (l.map enc_Ai3Z) t0 t1 mir) (E := Unit ⊕ Unit) (fun (_ : Unit) b => if okB t0 t1 mir b = true then .inl () else .inr (.inl ())) (fun _ => .inr ()) (fun i _ => (i : Int)) l (fun _ _ => True)
    (fun i s b hbi _ => by
      have hi := ixlt hbi
      obtain ⟨q0, q1, q2, q3⟩ := hb b (List.mem_of_getElem? hbi)
      have h1 := mul_c q0 hm
      have e1 : inI64 (b.1 * mir) := by unfold inI64; omega
      have e2 : inI64 (b.2.1 + b.1 * mir) := by unfold inI64; omega
      have e3 : inI64 (b.2.2 + b.1 * mir) := by unfold inI64; omega
      have e4 : inI64 ((i : Int) + 1) := by unfold inI64; omega
      have key : bandStep (l.map enc_Ai3Z) t0 t1 mir (i : Int) = if okB t0 t1 mir b = true then some (.inl ((i + 1 : Nat) : Int)) else some (.inr (.inl ())) := by
        unfold bandStep
        rw [if_pos (lenlt hbi), el_enc un3 hbi, Option.bind_some, if_pos e1, if_pos e2]
        unfold okB
        by_cases c1 : b.2.1 + b.1 * mir < t0
        · rw [if_pos c1, decide_eq_false (by omega)]; rfl
        · rw [if_neg c1, if_pos e3]
          by_cases c2 : b.2.2 + b.1 * mir > t1
          · rw [if_pos c2, decide_eq_false (by omega)]; rfl
          · rw [if_neg c2, if_pos e4, decide_eq_true (by omega)]; rfl
      by_cases h : okB t0 t1 mir b = true
      · rw [if_pos h]; rw [if_pos h] at key; exact ⟨key, trivial⟩
      · rw [if_neg h]; rw [if_neg h] at key; exact key)
    (fun s _ => by
      unfold bandStep
      rw [if_neg notlt])
    (k := k) (s := ()) trivial hk
  have e : ∀ m : List (Int × Int × Int), runL (E := Unit ⊕ Unit) (fun (_ : Unit) b => if okB t0 t1 mir b = true then .inl () else .inr (.inl ())) (fun _ => .inr ()) m () = if okM m t0 t1 mir = true then .inr () else .inl () := by
    intro m
    induction m with
    | nil => rfl
    | cons b m ih =>
      unfold runL okM
      rw [List.all_cons]
      by_cases h : okB t0 t1 mir b = true
      · rw [if_pos h, h, Bool.true_and]; exact ih
      · rw [if_neg h, if_neg (by simp [h])]
  rw [e, show ((0 : Nat) : Int) = 0 from rfl] at this
  exact this
theorem hits_step {n : Nat} {t0 t1 motor play top s : Int} (l : List (Int × Int × Int)) (hl : l.length < 1000) (hn : 1000 ≤ n) (hb : ∀ b, b ∈ l → BandOk b) (hm : -1000 ≤ motor ∧ motor ≤ 1000) (hp : 0 ≤ play ∧ play ≤ 50) (hs : -1100 ≤ s ∧ s ≤ top) (ht : top ≤ 1000) :
    hitsStep n (l.map enc_Ai3Z) t0 t1 motor play top s = if okM l t0 t1 (leftE motor play s) = true then some (.inl (s + 1)) else some (.inr (.inl ())) := by
  have e1 : inI64 (motor - play) := by unfold inI64; omega
  have e2 : inI64 (s + 1) := by unfold inI64; omega
  unfold hitsStep
  rw [if_pos hs.2]
  by_cases c1 : s > motor
  · have el : leftE motor play s = motor := by unfold leftE minI maxI; (repeat' split) <;> omega
    rw [if_pos c1, if_pos e1, if_neg (by omega), band_loop l hl hb (by omega) (by omega), el, Option.bind_some]
    by_cases h : okM l t0 t1 motor = true
    · rw [if_pos h, if_pos h]; dsimp only; rw [if_pos e2]
    · rw [if_neg h, if_neg h]
  · rw [if_neg c1, if_pos e1]
    by_cases c2 : s < motor - play
    · have el : leftE motor play s = motor - play := by unfold leftE minI maxI; (repeat' split) <;> omega
      rw [if_pos c2, band_loop l hl hb (by omega) (by omega), el, Option.bind_some]
      by_cases h : okM l t0 t1 (motor - play) = true
      · rw [if_pos h, if_pos h]; dsimp only; rw [if_pos e2]
      · rw [if_neg h, if_neg h]
    · have el : leftE motor play s = s := by unfold leftE minI maxI; (repeat' split) <;> omega
      rw [if_neg c2, band_loop l hl hb (by omega) (by omega), el, Option.bind_some]
      by_cases h : okM l t0 t1 s = true
      · rw [if_pos h, if_pos h]; dsimp only; rw [if_pos e2]
      · rw [if_neg h, if_neg h]
theorem hits_true {n : Nat} {t0 t1 motor play top : Int} (l : List (Int × Int × Int)) (hl : l.length < 1000) (hn : 1000 ≤ n) (hb : ∀ b, b ∈ l → BandOk b) (hm : -1000 ≤ motor ∧ motor ≤ 1000) (hp : 0 ≤ play ∧ play ≤ 50) (ht : top ≤ 1000) :
    ∀ (k : Nat) (s : Int), -1100 ≤ s → s ≤ top + 1 → top + 1 - s < k → (∀ x, s ≤ x → x ≤ top → okM l t0 t1 (leftE motor play x) = true) → loopF (hitsStep n (l.map enc_Ai3Z) t0 t1 motor play top) k s = some (.inr ())
  | 0, s, _, _, hk, _ => by omega
  | k + 1, s, h0, h1, hk, hok => by
    by_cases h : s ≤ top
    · have key := hits_step (n := n) (t0 := t0) (t1 := t1) l hl hn hb hm hp ⟨h0, h⟩ ht
      rw [if_pos (hok s (Int.le_refl _) h)] at key
      rw [loopF_l key]
      exact hits_true l hl hn hb hm hp ht k (s + 1) (by omega) (by omega) (by omega) (fun x hx => hok x (by omega))
    · refine loopF_r ?_
      unfold hitsStep
      rw [if_neg h]
theorem hits_false {n : Nat} {t0 t1 motor play top : Int} (l : List (Int × Int × Int)) (hl : l.length < 1000) (hn : 1000 ≤ n) (hb : ∀ b, b ∈ l → BandOk b) (hm : -1000 ≤ motor ∧ motor ≤ 1000) (hp : 0 ≤ play ∧ play ≤ 50) (ht : top ≤ 1000) :
    ∀ (k : Nat) (s x : Int), -1100 ≤ s → s ≤ x → x ≤ top → x - s < k → ¬ okM l t0 t1 (leftE motor play x) = true → loopF (hitsStep n (l.map enc_Ai3Z) t0 t1 motor play top) k s = some (.inl ())
  | 0, s, x, _, _, _, hk, _ => by omega
  | k + 1, s, x, h0, h1, h2, hk, hno => by
    have key := hits_step (n := n) (t0 := t0) (t1 := t1) l hl hn hb hm hp ⟨h0, by omega⟩ ht
    by_cases h : okM l t0 t1 (leftE motor play s) = true
    · rw [if_pos h] at key
      have hne : s ≠ x := by rintro rfl; exact hno h
      rw [loopF_l key]
      exact hits_false l hl hn hb hm hp ht k (s + 1) x (by omega) (by omega) h2 (by omega) hno
    · rw [if_neg h] at key
      exact loopF_r key
theorem lo_fold {cl ch t0 : Int} : ∀ (l : List (Int × Int × Int)) (p : Int × Int), t0 ≤ (l.foldl (plG cl ch) p).1 ↔ t0 ≤ p.1 ∧ ∀ b, b ∈ l → t0 ≤ loB cl ch b
  | [], p => by simp
  | b :: l, p => by
    show t0 ≤ (l.foldl (plG cl ch) (plG cl ch p b)).1 ↔ _
    rw [lo_fold l]
    have : t0 ≤ (plG cl ch p b).1 ↔ t0 ≤ p.1 ∧ t0 ≤ loB cl ch b := by
      show t0 ≤ minI p.1 (loB cl ch b) ↔ _
      unfold minI; split <;> omega
    rw [this]
    simp only [List.mem_cons, forall_eq_or_imp]
    exact and_assoc
theorem hi_fold {cl ch t1 : Int} : ∀ (l : List (Int × Int × Int)) (p : Int × Int), (l.foldl (plG cl ch) p).2 ≤ t1 ↔ p.2 ≤ t1 ∧ ∀ b, b ∈ l → hiB cl ch b ≤ t1
  | [], p => by simp
  | b :: l, p => by
    show (l.foldl (plG cl ch) (plG cl ch p b)).2 ≤ t1 ↔ _
    rw [hi_fold l]
    have : (plG cl ch p b).2 ≤ t1 ↔ p.2 ≤ t1 ∧ hiB cl ch b ≤ t1 := by
      show maxI p.2 (hiB cl ch b) ≤ t1 ↔ _
      unfold maxI; split <;> omega
    rw [this]
    simp only [List.mem_cons, forall_eq_or_imp]
    exact and_assoc
theorem places_in {cl ch t0 t1 : Int} {l : List (Int × Int × Int)} (hne : l ≠ []) : (t0 ≤ (placesE cl ch l).1 ∧ (placesE cl ch l).2 ≤ t1) ↔ ∀ b, b ∈ l → t0 ≤ loB cl ch b ∧ hiB cl ch b ≤ t1 := by
  match l, hne with
  | b :: l, _ =>
    show (t0 ≤ (l.foldl (plG cl ch) (loB cl ch b, hiB cl ch b)).1 ∧ (l.foldl (plG cl ch) (loB cl ch b, hiB cl ch b)).2 ≤ t1) ↔ _
    rw [lo_fold, hi_fold]
    simp only [List.mem_cons, forall_eq_or_imp]
    constructor
    · rintro ⟨⟨q1, q2⟩, q3, q4⟩
      exact ⟨⟨q1, q3⟩, fun c hc => ⟨q2 c hc, q4 c hc⟩⟩
    · rintro ⟨⟨q1, q3⟩, q⟩
      exact ⟨⟨q1, fun c hc => (q c hc).1⟩, q3, fun c hc => (q c hc).2⟩
theorem mul_mid {g x y z : Int} (h1 : x ≤ y) (h2 : y ≤ z) : minI (g * x) (g * z) ≤ g * y ∧ g * y ≤ maxI (g * x) (g * z) := by
  rcases Int.le_total 0 g with hg | hg
  · have q1 := Int.mul_le_mul_of_nonneg_left h1 hg
    have q2 := Int.mul_le_mul_of_nonneg_left h2 hg
    unfold minI maxI
    constructor
    · split <;> omega
    · split <;> omega
  · have q1 := Int.mul_le_mul_of_nonpos_left hg h1
    have q2 := Int.mul_le_mul_of_nonpos_left hg h2
    unfold minI maxI
    constructor
    · split <;> omega
    · split <;> omega
theorem leftE_mono {motor play x y : Int} (h : x ≤ y) : leftE motor play x ≤ leftE motor play y := by
  unfold leftE minI maxI
  (repeat' split) <;> omega
theorem okM_iff {l : List (Int × Int × Int)} {t0 t1 mir : Int} : okM l t0 t1 mir = true ↔ ∀ b, b ∈ l → t0 ≤ b.2.1 + b.1 * mir ∧ b.2.2 + b.1 * mir ≤ t1 := by
  unfold okM okB
  rw [List.all_eq_true]
  constructor
  · intro h b hb; exact of_decide_eq_true (h b hb)
  · intro h b hb; exact decide_eq_true (h b hb)
theorem hitE_iff {a2 a4 a5 t0 t1 motor : Int} {l : List (Int × Int × Int)} (hne : l ≠ []) : hitE a2 a4 a5 l t0 t1 motor = true ↔ ∀ b, b ∈ l → t0 ≤ loB (leftE motor a2 a4) (leftE motor a2 a5) b ∧ hiB (leftE motor a2 a4) (leftE motor a2 a5) b ≤ t1 := by
  unfold hitE reachE
  rw [decide_eq_true_iff]
  exact places_in hne
theorem hit_all {a2 a4 a5 t0 t1 motor : Int} {l : List (Int × Int × Int)} (hne : l ≠ []) (h : hitE a2 a4 a5 l t0 t1 motor = true) (x : Int) (h1 : a4 ≤ x) (h2 : x ≤ a5) : okM l t0 t1 (leftE motor a2 x) = true := by
  rw [okM_iff]
  intro b hb
  have q := (hitE_iff hne).1 h b hb
  have m := mul_mid (g := b.1) (leftE_mono (motor := motor) (play := a2) h1) (leftE_mono (motor := motor) (play := a2) h2)
  unfold loB hiB at q
  omega
theorem hit_not {a2 a4 a5 t0 t1 motor : Int} {l : List (Int × Int × Int)} (hne : l ≠ []) (h : ¬ hitE a2 a4 a5 l t0 t1 motor = true) : ¬ okM l t0 t1 (leftE motor a2 a4) = true ∨ ¬ okM l t0 t1 (leftE motor a2 a5) = true := by
  by_cases c1 : okM l t0 t1 (leftE motor a2 a4) = true
  · by_cases c2 : okM l t0 t1 (leftE motor a2 a5) = true
    · exfalso
      apply h
      rw [hitE_iff hne]
      intro b hb
      have q1 := okM_iff.1 c1 b hb
      have q2 := okM_iff.1 c2 b hb
      unfold loB hiB minI maxI
      constructor
      · split <;> omega
      · split <;> omega
    · exact .inr c2
  · exact .inl c1
theorem hits_eq {n : Nat} {t0 t1 motor a2 a4 a5 : Int} (l : List (Int × Int × Int)) (hl : l.length < 1000) (hn : 5000 ≤ n) (hne : l ≠ []) (hb : ∀ b, b ∈ l → BandOk b) (hm : -1000 ≤ motor ∧ motor ≤ 1000) (hp : 0 ≤ a2 ∧ a2 ≤ 50) (h4 : -1100 ≤ a4 ∧ a4 ≤ a5) (h5 : a5 ≤ 1000) :
    loopF (hitsStep n (l.map enc_Ai3Z) t0 t1 motor a2 a5) n a4 = some (if hitE a2 a4 a5 l t0 t1 motor = true then .inr () else .inl ()) := by
  by_cases h : hitE a2 a4 a5 l t0 t1 motor = true
  · rw [if_pos h]
    exact hits_true l hl (by omega) hb hm hp h5 n a4 h4.1 (by omega) (by omega) (fun x q1 q2 => hit_all hne h x q1 q2)
  · rw [if_neg h]
    rcases hit_not hne h with q | q
    · exact hits_false l hl (by omega) hb hm hp h5 n a4 a4 h4.1 (Int.le_refl _) h4.2 (by omega) q
    · exact hits_false l hl (by omega) hb hm hp h5 n a4 a5 h4.1 h4.2 (Int.le_refl _) (by omega) q
def Best (a0 a3 : Int) (hit : Int → Bool) (s : Int × Bool) (m : Nat) : Prop :=
  (s.2 = false → ∀ j : Nat, j < m → ¬ hit (a0 + (j : Int)) = true) ∧
  (s.2 = true → (∃ i : Nat, i < m ∧ s.1 = a0 + (i : Int)) ∧ hit s.1 = true ∧ ∀ j : Nat, j < m → hit (a0 + (j : Int)) = true → farE s.1 a3 ≤ farE (a0 + (j : Int)) a3 ∧ (a0 + (j : Int) < s.1 → farE s.1 a3 < farE (a0 + (j : Int)) a3))
theorem best_step {a0 a3 : Int} {hit : Int → Bool} {s : Int × Bool} {i : Nat} (h : Best a0 a3 hit s i) : match nearG a0 a3 hit s i with
    | .inl s' => Best a0 a3 hit s' (i + 1)
    | .inr _ => True := by
  obtain ⟨h1, h2⟩ := h
  unfold nearG
  by_cases c1 : hit (a0 + (i : Int)) = true
  · rw [if_pos c1]
    by_cases c2 : s.2 = true
    · obtain ⟨⟨i0, q1, q2⟩, q3, q4⟩ := h2 c2
      rw [if_pos c2]
      by_cases c3 : farE (a0 + (i : Int)) a3 < farE s.1 a3
      · rw [if_pos c3]
        refine ⟨fun h => (by cases h), fun _ => ⟨⟨i, by omega, rfl⟩, c1, fun j hj hh => ?_⟩⟩
        by_cases hji : j < i
        · have := (q4 j hji hh).1
          exact ⟨by dsimp only; omega, fun _ => by dsimp only; omega⟩
        · have : j = i := by omega
          subst this
          exact ⟨Int.le_refl _, fun h => by dsimp only at h; omega⟩
      · rw [if_neg c3]
        refine ⟨fun h => (by rw [c2] at h; cases h), fun _ => ⟨⟨i0, by omega, q2⟩, q3, fun j hj hh => ?_⟩⟩
        by_cases hji : j < i
        · exact q4 j hji hh
        · have : j = i := by omega
          subst this
          exact ⟨by omega, fun h => by omega⟩
    · rw [if_neg c2]
      have c2' : s.2 = false := by simpa using c2
      refine ⟨fun h => (by cases h), fun _ => ⟨⟨i, by omega, rfl⟩, c1, fun j hj hh => ?_⟩⟩
      by_cases hji : j < i
      · exact absurd hh (h1 c2' j hji)
      · have : j = i := by omega
        subst this
        exact ⟨Int.le_refl _, fun h => by dsimp only at h; omega⟩
  · rw [if_neg c1]
    refine ⟨fun h j hj => ?_, fun h => ?_⟩
    · by_cases hji : j < i
      · exact h1 h j hji
      · have : j = i := by omega
        subst this
        exact c1
    · obtain ⟨⟨i0, q1, q2⟩, q3, q4⟩ := h2 h
      refine ⟨⟨i0, by omega, q2⟩, q3, fun j hj hh => ?_⟩
      by_cases hji : j < i
      · exact q4 j hji hh
      · have : j = i := by omega
        subst this
        exact absurd hh c1
theorem nearG_inl (a0 a3 : Int) (hit : Int → Bool) (s : Int × Bool) (i : Nat) : ∃ s', nearG a0 a3 hit s i = .inl s' := by
  unfold nearG
  (repeat' split) <;> exact ⟨_, rfl⟩
theorem best_run {a0 a3 : Int} {hit : Int → Bool} : ∀ (k i : Nat) (s : Int × Bool), Best a0 a3 hit s i → Best a0 a3 hit (runL (nearG a0 a3 hit) (fun s => s) (List.range' i k) s) (i + k)
  | 0, i, s, h => h
  | k + 1, i, s, h => by
    rw [List.range'_succ]
    unfold runL
    obtain ⟨s', hs⟩ := nearG_inl a0 a3 hit s i
    have := best_step h
    rw [hs] at this ⊢
    have r := best_run k (i + 1) s' this
    rw [show i + (k + 1) = i + 1 + k by omega]
    exact r
theorem nearR_best {a0 a1 a3 : Int} {hit : Int → Bool} : Best a0 a3 hit (nearR a0 a1 a3 hit) (a1 - a0 + 1).toNat := by
  unfold nearR
  rw [List.range_eq_range']
  have := best_run (a0 := a0) (a3 := a3) (hit := hit) (a1 - a0 + 1).toNat 0 (0, false) ⟨fun _ j hj => by omega, fun h => by cases h⟩
  rw [Nat.zero_add] at this
  exact this
theorem farE_abs {a b x : Int} : farE x b ≤ farE a b ↔ b - farE a b ≤ x ∧ x ≤ b + farE a b := by
  unfold farE maxI
  (repeat' split) <;> omega
theorem stateE_ends {a0 a1 a2 a3 a4 a5 : Int} (h : stateE a0 a1 a2 a3 a4 a5 = 0) : a3 - a2 ≤ a4 ∧ a4 ≤ a5 ∧ a5 ≤ a3 := by
  unfold stateE at h
  by_cases hk : firstNZ [axisE a0 a1 a2, inR a3 a0 a1, whenI (decide (a4 > a5)) 11] = 0
  · rw [if_pos hk] at h
    have q1 := whenI_zero (by decide) (firstNZ_zero hk (whenI (decide (a4 > a5)) 11) (by simp))
    simp only [decide_eq_false_iff_not] at q1
    by_cases q2 : a4 < a3 - a2
    · rw [if_pos q2] at h; cases h
    · rw [if_neg q2] at h
      have q3 := whenI_zero (by decide) h
      simp only [decide_eq_false_iff_not] at q3
      omega
  · rw [if_neg hk] at h; exact absurd h hk
theorem tmod_b (a : Int) {m : Int} (hm : 0 < m) : -m < Int.tmod a m ∧ Int.tmod a m < m := ⟨Int.lt_tmod_of_pos a hm, Int.tmod_lt_of_pos a hm⟩
theorem mul_pq {g c p q : Int} (hp : 0 ≤ p) (hg : -p ≤ g ∧ g ≤ p) (hq : 0 ≤ q) (hc : -q ≤ c ∧ c ≤ q) : -(p * q) ≤ g * c ∧ g * c ≤ p * q := by
  have h := Int.natAbs_mul g c
  have h1 : g.natAbs * c.natAbs ≤ p.natAbs * q.natAbs := Nat.mul_le_mul (by omega) (by omega)
  have h2 := Int.natAbs_mul p q
  have h3 : 0 ≤ p * q := Int.mul_nonneg hp hq
  omega
theorem inR0 {x a b : Int} (h1 : a ≤ x) (h2 : x ≤ b) : inR x a b = 0 := by unfold inR; rw [if_neg (by omega), if_neg (by omega)]
theorem ivE0 {lo hi a b : Int} (h1 : a ≤ lo) (h2 : lo ≤ hi) (h3 : hi ≤ b) : ivE lo hi a b = 0 := by
  unfold ivE
  rw [inR0 h1 (by omega), inR0 (by omega) h3, decide_eq_false (by omega)]
  rfl
theorem firstNZ0 : ∀ {l : List Int}, (∀ x, x ∈ l → x = 0) → firstNZ l = 0
  | [], _ => rfl
  | x :: l, h => by
    rw [firstNZ_cons, if_pos (h x List.mem_cons_self)]
    exact firstNZ0 fun y hy => h y (List.mem_cons_of_mem _ hy)
theorem spotT0 {x : Int × Int × Int} (h : SpotOk x) : spotT x = 0 := by
  unfold spotT spotE
  rw [inR0 h.c.1 h.c.2, ivE0 h.l h.m h.h]
  rfl
theorem spotsE0 {l : List (Int × Int × Int)} (h0 : 0 < l.length) (h1 : l.length ≤ 16) (h : ∀ x, x ∈ l → SpotOk x) : spotsE l = 0 := by
  unfold spotsE
  rw [if_neg (by omega), if_neg (by omega)]
  refine firstNZ0 fun e he => ?_
  obtain ⟨x, hx, rfl⟩ := List.mem_map.1 he
  exact spotT0 (h x hx)
theorem bandE0 {last : Int} {b : Int × Int × Int} (h : BandOk b) (hl : last < b.1) : bandE last b = 0 := by
  obtain ⟨h1, h2, h3, h4⟩ := h
  unfold bandE
  rw [inR0 h1.1 h1.2, ivE0 h2 h3 h4, decide_eq_false (by omega)]
  rfl
theorem modelRun0 : ∀ (l : List (Int × Int × Int)) (last : Int), (∀ b, b ∈ l → last < b.1) → l.Pairwise (fun a b => a.1 < b.1) → (∀ b, b ∈ l → BandOk b) → runL modelG (fun _ => .inr ()) l last = .inr ()
  | [], _, _, _, _ => rfl
  | c :: l, last, h, hp, hb => by
    have hp' := List.pairwise_cons.1 hp
    unfold runL
    have hg : modelG last c = .inl c.1 := by unfold modelG; rw [if_pos (bandE0 (hb c List.mem_cons_self) (h c List.mem_cons_self))]
    rw [hg]
    exact modelRun0 l c.1 hp'.1 hp'.2 fun b hx => hb b (List.mem_cons_of_mem _ hx)
theorem modelE0 {l : List (Int × Int × Int)} (h0 : 0 < l.length) (h1 : l.length ≤ 64) (hp : l.Pairwise (fun a b => a.1 < b.1)) (hb : ∀ b, b ∈ l → BandOk b) : modelE l = 0 := by
  unfold modelE
  rw [if_neg (by omega), if_neg (by omega), modelRun0 l _ (fun b hx => by have := (hb b hx).1; omega) hp hb]
  rfl
structure SpG (g o : Int) (x : Int × Int × Int) : Prop where
  c : -500 ≤ x.1 ∧ x.1 ≤ 500
  l : x.2.1 ≤ o + g * x.1
  h : o + g * x.1 ≤ x.2.2
  a : -61000 ≤ x.2.1
  b : x.2.2 ≤ 61000
theorem SpG.ok {g o : Int} {x : Int × Int × Int} (h : SpG g o x) : SpotOk x := ⟨by have := h.c; omega, by have := h.a; omega, by have := h.l; have := h.h; omega, by have := h.b; omega⟩
def sp (g o : Int) (y : Int × Int × Int) : Int × Int × Int := (Int.tmod y.1 501, o + g * Int.tmod y.1 501 - Int.tmod y.2.1 128, o + g * Int.tmod y.1 501 + Int.tmod y.2.2 128)
theorem sp_ok {g o : Int} {y : Int × Int × Int} (hg : -100 ≤ g ∧ g ≤ 100) (ho : -10000 ≤ o ∧ o ≤ 10000) (hy : (-32768 ≤ y.1 ∧ y.1 ≤ 32767) ∧ (0 ≤ y.2.1 ∧ y.2.1 ≤ 255) ∧ (0 ≤ y.2.2 ∧ y.2.2 ≤ 255)) : SpG g o (sp g o y) := by
  have h1 := tmod_b y.1 (m := 501) (by decide)
  have h2 := tmod_b y.2.1 (m := 128) (by decide)
  have h3 := tmod_b y.2.2 (m := 128) (by decide)
  have h4 := Int.tmod_nonneg (a := y.2.1) 128 hy.2.1.1
  have h5 := Int.tmod_nonneg (a := y.2.2) 128 hy.2.2.1
  have h6 := mul_pq (g := g) (c := Int.tmod y.1 501) (p := 100) (q := 500) (by decide) hg (by decide) (by omega)
  refine ⟨?_, ?_, ?_, ?_, ?_⟩ <;> unfold sp <;> dsimp only <;> omega
theorem foldP_in (v : Int) : ∀ (xs : List (Int × Int × Int)) (b : Int × Int × Int), ((foldP b xs).2.1 ≤ v ∧ v ≤ (foldP b xs).2.2) ↔ (b.2.1 ≤ v ∧ v ≤ b.2.2) ∧ ∀ x, x ∈ xs → x.2.1 ≤ v + b.1 * x.1 ∧ v + b.1 * x.1 ≤ x.2.2
  | [], b => ⟨fun h => ⟨h, fun x hx => (by cases hx)⟩, fun h => h.1⟩
  | x :: xs, b => by
    have ih := foldP_in v xs (permE b x)
    have hx : ((permE b x).2.1 ≤ v ∧ v ≤ (permE b x).2.2) ↔ (b.2.1 ≤ v ∧ v ≤ b.2.2) ∧ (x.2.1 ≤ v + b.1 * x.1 ∧ v + b.1 * x.1 ≤ x.2.2) := by
      show (maxI b.2.1 (x.2.1 - b.1 * x.1) ≤ v ∧ v ≤ minI b.2.2 (x.2.2 - b.1 * x.1)) ↔ _
      unfold maxI minI
      (repeat' split) <;> omega
    show ((foldP (permE b x) xs).2.1 ≤ v ∧ v ≤ (foldP (permE b x) xs).2.2) ↔ _
    rw [ih, hx, List.forall_mem_cons]
    constructor
    · intro h; exact ⟨h.1.1, h.1.2, h.2⟩
    · intro h; exact ⟨⟨h.1, h.2.1⟩, h.2.2⟩
theorem foldP_snoc (b : Int × Int × Int) (xs : List (Int × Int × Int)) (x : Int × Int × Int) : foldP b (xs ++ [x]) = permE (foldP b xs) x := by
  unfold foldP; rw [List.foldl_append]; rfl
theorem perm_less (b x : Int × Int × Int) : b.2.1 ≤ (permE b x).2.1 ∧ (permE b x).2.2 ≤ b.2.2 := foldP_less [x] b
theorem perm_twice (b x : Int × Int × Int) : permE (permE b x) x = permE b x := by
  have h1 : maxI (maxI b.2.1 (x.2.1 - b.1 * x.1)) (x.2.1 - b.1 * x.1) = maxI b.2.1 (x.2.1 - b.1 * x.1) := by unfold maxI; (repeat' split) <;> omega
  have h2 : minI (minI b.2.2 (x.2.2 - b.1 * x.1)) (x.2.2 - b.1 * x.1) = minI b.2.2 (x.2.2 - b.1 * x.1) := by unfold minI; (repeat' split) <;> omega
  show (b.1, maxI (maxI b.2.1 (x.2.1 - b.1 * x.1)) (x.2.1 - b.1 * x.1), minI (minI b.2.2 (x.2.2 - b.1 * x.1)) (x.2.2 - b.1 * x.1)) = _
  rw [h1, h2]; rfl
theorem fitOne_snoc (xs : List (Int × Int × Int)) (x : Int × Int × Int) (g : Int) : fitOne (xs ++ [x]) g = (fitOne xs g).flatMap (refOne x) := by
  unfold fitOne
  rw [foldP_snoc]
  by_cases h : (foldP (g, -2000000, 2000000) xs).2.1 ≤ (foldP (g, -2000000, 2000000) xs).2.2
  · rw [if_pos h]
    show _ = refOne x _ ++ []
    rw [List.append_nil]; rfl
  · have := perm_less (foldP (g, -2000000, 2000000) xs) x
    rw [if_neg h, if_neg (by omega)]; rfl
theorem fitOne_twice (x : Int × Int × Int) (g : Int) : fitOne [x] g = (fitOne [x] g).flatMap (refOne x) := by
  unfold fitOne
  show (if (permE (g, -2000000, 2000000) x).2.1 ≤ (permE (g, -2000000, 2000000) x).2.2 then [permE (g, -2000000, 2000000) x] else []) = (if (permE (g, -2000000, 2000000) x).2.1 ≤ (permE (g, -2000000, 2000000) x).2.2 then [permE (g, -2000000, 2000000) x] else []).flatMap (refOne x)
  by_cases h : (permE (g, -2000000, 2000000) x).2.1 ≤ (permE (g, -2000000, 2000000) x).2.2
  · rw [if_pos h]
    show _ = refOne x _ ++ []
    rw [List.append_nil]
    unfold refOne
    rw [perm_twice, if_pos h]
  · rw [if_neg h]; rfl
theorem fitAll_ref {t xs : List (Int × Int × Int)} {x : Int × Int × Int} (h : ∀ g, fitOne xs g = (fitOne t g).flatMap (refOne x)) (a1 a2 : Int) : refAll (fitAll t a1 a2) x = fitAll xs a1 a2 := by
  unfold refAll fitAll
  rw [List.flatMap_assoc]
  congr 1
  funext i
  exact (h _).symm
theorem fitOne_mem {xs : List (Int × Int × Int)} {g : Int} {b : Int × Int × Int} (h : b ∈ fitOne xs g) : b = foldP (g, -2000000, 2000000) xs ∧ b.2.1 ≤ b.2.2 := by
  unfold fitOne at h
  split at h
  · rename_i hq
    rw [List.mem_singleton] at h
    rw [h]; exact ⟨rfl, hq⟩
  · cases h
theorem flat_len {α β : Type} {f : α → List β} (hf : ∀ x, (f x).length ≤ 1) : ∀ l : List α, (l.flatMap f).length ≤ l.length
  | [] => Nat.le_refl _
  | x :: l => by
    rw [List.flatMap_cons, List.length_append, List.length_cons]
    have := hf x; have := flat_len hf l
    omega
theorem fitAll_mem {xs : List (Int × Int × Int)} {a1 a2 : Int} {b : Int × Int × Int} (h : b ∈ fitAll xs a1 a2) : (a1 ≤ b.1 ∧ b.1 ≤ a2) ∧ b = foldP (b.1, -2000000, 2000000) xs ∧ b.2.1 ≤ b.2.2 := by
  unfold fitAll at h
  obtain ⟨i, hi, hb⟩ := List.mem_flatMap.1 h
  have hi' := List.mem_range.1 hi
  obtain ⟨h1, h2⟩ := fitOne_mem hb
  have hg : b.1 = a1 + (i : Int) := by rw [h1]; exact foldP_gain xs _
  exact ⟨by omega, by rw [hg]; exact h1, h2⟩
theorem fitAll_inc (xs : List (Int × Int × Int)) (a1 a2 : Int) : (fitAll xs a1 a2).Pairwise (fun a b => a.1 < b.1) := by
  unfold fitAll
  rw [List.pairwise_flatMap]
  refine ⟨fun i _ => ?_, ?_⟩
  · unfold fitOne
    split
    · exact List.pairwise_singleton _ _
    · exact .nil
  · refine List.Pairwise.imp ?_ List.pairwise_lt_range
    intro i j hij x hx y hy
    have h1 : x.1 = a1 + (i : Int) := by rw [(fitOne_mem hx).1]; exact foldP_gain xs _
    have h2 : y.1 = a1 + (j : Int) := by rw [(fitOne_mem hy).1]; exact foldP_gain xs _
    omega
theorem fitAll_band {xs : List (Int × Int × Int)} {a1 a2 : Int} (ha : -1000 ≤ a1 ∧ a2 ≤ 1000) {b : Int × Int × Int} (h : b ∈ fitAll xs a1 a2) : BandOk b := by
  obtain ⟨h1, h2, h3⟩ := fitAll_mem h
  have := foldP_less xs (b.1, -2000000, 2000000)
  rw [← h2] at this
  exact ⟨by omega, this.1, h3, this.2⟩
theorem fitAll_pair {xs : List (Int × Int × Int)} {g o a1 a2 : Int} (hx : ∀ x, x ∈ xs → SpG g o x) (ho : -10000 ≤ o ∧ o ≤ 10000) (h1 : a1 ≤ g) (h2 : g ≤ a2) : ∃ b, b ∈ fitAll xs a1 a2 ∧ inB g o b = true := by
  have hin := (foldP_in o xs (g, -2000000, 2000000)).2 ⟨by show (-2000000 : Int) ≤ o ∧ o ≤ 2000000; omega, fun x h => ⟨(hx x h).l, (hx x h).h⟩⟩
  refine ⟨foldP (g, -2000000, 2000000) xs, ?_, ?_⟩
  · unfold fitAll
    refine List.mem_flatMap.2 ⟨(g - a1).toNat, List.mem_range.2 (by omega), ?_⟩
    have e : a1 + ((g - a1).toNat : Int) = g := by omega
    rw [e]
    unfold fitOne
    rw [if_pos (by omega)]
    exact List.mem_singleton.2 rfl
  · unfold inB
    exact decide_eq_true ⟨foldP_gain xs _, hin.1, hin.2⟩
theorem pairsE_mono : ∀ (l : List (Int × Int × Int)) (x : Int × Int × Int) (s s' : Int), s ≤ s' → (∀ b, b ∈ l → BandOk b) → pairsE (refAll l x) s ≤ pairsE l s'
  | [], _, s, s', h, _ => h
  | b :: l, x, s, s', h, hb => by
    have hq := perm_less b x
    obtain ⟨_, _, hlh, _⟩ := hb b List.mem_cons_self
    have hb' : ∀ c, c ∈ l → BandOk c := fun c hc => hb c (List.mem_cons_of_mem _ hc)
    show pairsE ((b :: l).flatMap (refOne x)) s ≤ pairsE l (s' + (b.2.2 - b.2.1 + 1))
    rw [List.flatMap_cons]
    unfold refOne
    by_cases hn : (permE b x).2.1 ≤ (permE b x).2.2
    · rw [if_pos hn]
      exact pairsE_mono l x (s + ((permE b x).2.2 - (permE b x).2.1 + 1)) _ (by omega) hb'
    · rw [if_neg hn]
      exact pairsE_mono l x s _ (by omega) hb'
def probeStep (xs : List D) (g v : Int) (sb : Bool × Int) : Option (((Bool × Int)) ⊕ ((Bool))) :=
  if sb.2 < ((xs).length : Int) then
    (el un_Ai3Z xs sb.2).bind fun tb2 =>
    if inI64 (g * tb2.1) then
    if inI64 (v + (g * tb2.1)) then
    if sb.1 = true then
      if (v + (g * tb2.1)) ≥ tb2.2.1 then
        if inI64 (sb.2 + 1) then
        some (.inl ((decide ((v + (g * tb2.1)) ≤ tb2.2.2)), (sb.2 + 1)))
        else none
      else
      if inI64 (sb.2 + 1) then
      some (.inl (false, (sb.2 + 1)))
      else none
    else
    if inI64 (sb.2 + 1) then
    some (.inl (false, (sb.2 + 1)))
    else none
    else none
    else none
  else
  some (.inr sb.1)
def permits (g v : Int) (x : Int × Int × Int) : Bool := decide (x.2.1 ≤ v + g * x.1 ∧ v + g * x.1 ≤ x.2.2)
theorem probe_eq {g v : Int} {xs : List (Int × Int × Int)} (hg : -1000 ≤ g ∧ g ≤ 1000) (hv : -3000000 ≤ v ∧ v ≤ 3000000) (hx : ∀ x, x ∈ xs → SpotOk x) (hl : xs.length < 1000) {k : Nat} (hk : xs.length < k) :
    loopF (probeStep (xs.map enc_Ai3Z) g v) k (true, 0) = some (xs.all (permits g v)) := by
  have := loopF_list0 (step := probeStep (xs.map enc_Ai3Z) g v) (E := Bool) (fun (s : Bool) x => .inl (s && permits g v x)) (fun s => s) (fun i s => (s, (i : Int))) xs (fun _ _ => True)
    (fun i s x hxi _ => by
      have hi := ixlt hxi
      have hxo := hx x (List.mem_of_getElem? hxi)
      have hm := mul_b hg hxo.c
      refine ⟨?_, trivial⟩
      have e : inI64 ((i : Int) + 1) := by unfold inI64; omega
      unfold probeStep
      dsimp only
      rw [if_pos (lenlt hxi), el_enc un3 hxi, Option.bind_some, if_pos (by unfold inI64; omega), if_pos (by unfold inI64; omega)]
      simp only [if_pos e]
      cases s with
      | false => rw [if_neg (by decide)]; rfl
      | true =>
        rw [if_pos rfl, Bool.true_and]
        unfold permits
        by_cases q : v + g * x.1 ≥ x.2.1
        · rw [if_pos q]
          by_cases q2 : v + g * x.1 ≤ x.2.2
          · rw [decide_eq_true q2, decide_eq_true ⟨q, q2⟩]; rfl
          · rw [decide_eq_false q2, decide_eq_false (fun h => q2 h.2)]; rfl
        · rw [if_neg q, decide_eq_false (fun h => q h.1)]; rfl)
    (fun s _ => by
      unfold probeStep
      rw [if_neg notlt])
    (k := k) (s := true) trivial hk
  have e : ∀ (l : List (Int × Int × Int)) (s : Bool), runL (E := Bool) (fun (s : Bool) x => .inl (s && permits g v x)) (fun s => s) l s = (s && l.all (permits g v)) := by
    intro l
    induction l with
    | nil => intro s; simp [runL]
    | cons x l ih =>
      intro s
      show runL (E := Bool) (fun (s : Bool) x => .inl (s && permits g v x)) (fun s => s) l (s && permits g v x) = _
      rw [ih, List.all_cons, Bool.and_assoc]
  rw [e, Bool.true_and] at this
  exact this
theorem permits_all {g v : Int} {xs : List (Int × Int × Int)} : xs.all (permits g v) = true ↔ ∀ x, x ∈ xs → x.2.1 ≤ v + g * x.1 ∧ v + g * x.1 ≤ x.2.2 := by
  rw [List.all_eq_true]
  constructor
  · intro h x hx; exact of_decide_eq_true (h x hx)
  · intro h x hx; exact decide_eq_true (h x hx)
theorem ends_tight {xs : List (Int × Int × Int)} {b : Int × Int × Int} {g o : Int} (h0 : 0 < xs.length) (hx : ∀ x, x ∈ xs → SpG g o x) (hg : -120 ≤ b.1 ∧ b.1 ≤ 120) (hb : b = foldP (b.1, -2000000, 2000000) xs) (hlh : b.2.1 ≤ b.2.2) :
    xs.all (permits b.1 (b.2.1 - 1)) = false ∧ xs.all (permits b.1 b.2.1) = true ∧ xs.all (permits b.1 b.2.2) = true ∧ xs.all (permits b.1 (b.2.2 + 1)) = false := by
  have hin : ∀ v, (b.2.1 ≤ v ∧ v ≤ b.2.2) ↔ ((-2000000 : Int) ≤ v ∧ v ≤ 2000000) ∧ ∀ x, x ∈ xs → x.2.1 ≤ v + b.1 * x.1 ∧ v + b.1 * x.1 ≤ x.2.2 := by
    intro v
    have := foldP_in v xs (b.1, -2000000, 2000000)
    rw [← hb] at this
    exact this
  have h1 := (hin b.2.1).1 ⟨Int.le_refl _, hlh⟩
  have h2 := (hin b.2.2).1 ⟨hlh, Int.le_refl _⟩
  have hx0 := hx xs[0] (List.getElem_mem h0)
  have k1 := h1.2 xs[0] (List.getElem_mem h0)
  have k2 := h2.2 xs[0] (List.getElem_mem h0)
  have hm := mul_pq (g := b.1) (c := xs[0].1) (p := 120) (q := 500) (by decide) hg (by decide) hx0.c
  have := hx0.a; have := hx0.b; have := hx0.l; have := hx0.h
  refine ⟨?_, permits_all.2 h1.2, permits_all.2 h2.2, ?_⟩
  · cases hq : xs.all (permits b.1 (b.2.1 - 1)) with
    | false => rfl
    | true =>
      have := (hin (b.2.1 - 1)).2 ⟨by omega, permits_all.1 hq⟩
      omega
  · cases hq : xs.all (permits b.1 (b.2.2 + 1)) with
    | false => rfl
    | true =>
      have := (hin (b.2.2 + 1)).2 ⟨by omega, permits_all.1 hq⟩
      omega
theorem drift0 {l : List (Int × Int × Int)} (hb : ∀ b, b ∈ l → BandOk b) : driftE l 0 0 = (l, 0) := by
  unfold driftE
  have h : l.all (drOk 0 0) = true := List.all_eq_true.2 fun b h => by
    obtain ⟨_, h1, h2, h3⟩ := hb b h
    exact decide_eq_true (by omega)
  rw [if_pos h]
  have e : dr 0 0 = id := by
    funext b
    show (b.1, b.2.1 + 0, b.2.2 + 0) = b
    rw [Int.add_zero, Int.add_zero]
  rw [e, List.map_id]
theorem fitted_ok {t : List (Int × Int × Int)} {g o : Int} (h0 : 0 < t.length) (h1 : t.length ≤ 16) (hx : ∀ x, x ∈ t → SpG g o x) (hg : -100 ≤ g ∧ g ≤ 100) (ho : -10000 ≤ o ∧ o ≤ 10000) :
    F_drive_Fitted 5000 (t.map enc_Ai3Z) (g - 20) (g + 20) = some ((fitAll t (g - 20) (g + 20)).map enc_Ai3Z, 0) ∧ (0 < (fitAll t (g - 20) (g + 20)).length ∧ (fitAll t (g - 20) (g + 20)).length ≤ 64) ∧ modelE (fitAll t (g - 20) (g + 20)) = 0 ∧ (fitAll t (g - 20) (g + 20)).any (inB g o) = true := by
  obtain ⟨b, hb, hin⟩ := fitAll_pair (a1 := g - 20) (a2 := g + 20) hx ho (by omega) (by omega)
  have hpos : 0 < (fitAll t (g - 20) (g + 20)).length := List.length_pos_of_mem hb
  have hle : (fitAll t (g - 20) (g + 20)).length ≤ 64 := by
    unfold fitAll
    refine Nat.le_trans (flat_len (fun i => fit_len _ _) _) ?_
    rw [List.length_range]; omega
  refine ⟨?_, ⟨hpos, hle⟩, modelE0 hpos hle (fitAll_inc _ _ _) (fun b hb => fitAll_band (by omega) hb), List.any_eq_true.2 ⟨b, hb, hin⟩⟩
  have e : firstNZ [spotsE t, ivE (g - 20) (g + 20) (-1000) 1000] = 0 := by
    rw [spotsE0 h0 h1 (fun x h => (hx x h).ok), ivE0 (by omega) (by omega) (by omega)]; rfl
  rw [fitted_eq (Nat.le_refl _) (by omega), if_pos e]
  unfold fitE
  rw [if_neg (by omega), if_neg (by omega)]
end Go.Proofs.YtegcijomjkffgaaDoor
