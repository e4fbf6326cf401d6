/-
  The law DrivePairs holds: a valid model has one band for each gain, so looking a gain up and looking along the bands find the same. An own text.
-/
import Derived.Test.YtmgbmngmmpeaaaaGreatDoorPairs1
import Derived.Test.YtmgbmngmmpeaaaaGreatDoorCom2
set_option linter.unusedVariables false
set_option linter.unusedSimpArgs false
set_option linter.unnecessarySimpa false
set_option maxRecDepth 20000
namespace Go.Proofs.YtmgbmngmmpeaaaaGreatDoor
open Go.SX

theorem modelRun_inc : ∀ (l : List (Int × Int × Int)) (last : Int), outM (runL modelG (fun _ => .inr ()) l last) = 0 → (∀ b, b ∈ l → last < b.1) ∧ l.Pairwise (fun a b => a.1 < b.1)
  | [], _, _ => ⟨fun b hb => (by cases hb), .nil⟩
  | c :: l, last, h => by
    unfold runL at h
    by_cases hc : bandE last c = 0
    · have hg : modelG last c = .inl c.1 := by unfold modelG; rw [if_pos hc]
      rw [hg] at h
      have ih := modelRun_inc l _ h
      have hl := (bandE_zero hc).2
      refine ⟨fun b hb => ?_, List.pairwise_cons.2 ⟨ih.1, ih.2⟩⟩
      rcases List.mem_cons.1 hb with rfl | hb
      · exact hl
      · have := ih.1 b hb; omega
    · have hg : modelG last c = .inr (.inl (bandE last c)) := by unfold modelG; rw [if_neg hc]
      rw [hg] at h
      exact absurd h hc
theorem modelE_inc {l : List (Int × Int × Int)} (h : modelE l = 0) : l.Pairwise (fun a b => a.1 < b.1) := by
  unfold modelE at h
  by_cases h0 : l.length = 0
  · rw [if_pos h0] at h; cases h
  · rw [if_neg h0] at h
    by_cases h1 : l.length > 64
    · rw [if_pos h1] at h; cases h
    · rw [if_neg h1] at h
      exact (modelRun_inc l _ h).2

def entry (x : Int × Int × Int) : D := .tup [.v (.int .i64 x.1), .agg [I x.2.1, I x.2.2]]
theorem entry_ok (k : Int) (l : List (Int × Int × Int)) : mok (.int .i64 k) (l.map entry) = true := mok_map (f := entry) (g := fun x => x.1) (fun x => rfl) l
theorem keyOf_entry (x : Int × Int × Int) : Go.SX.keyOf (entry x) = some (.int .i64 x.1, .agg [I x.2.1, I x.2.2]) := rfl
theorem sameK_int (a b : Int) : sameK (.int .i64 a) (.int .i64 b) = some (a == b) := rfl
theorem entry_put {x : Int × Int × Int} : ∀ {l : List (Int × Int × Int)}, (∀ y, y ∈ l → y.1 < x.1) → mput (.int .i64 x.1) (.agg [I x.2.1, I x.2.2]) (l.map entry) = l.map entry ++ [entry x]
  | [], _ => rfl
  | y :: l, h => by
    have hy := h y (List.mem_cons_self)
    have hb : (x.1 == y.1) = false := by simpa using (by omega : ¬ x.1 = y.1)
    have ih := entry_put (x := x) (l := l) fun z hz => h z (List.mem_cons_of_mem _ hz)
    rw [List.map_cons, List.cons_append, ← ih]
    conv => lhs; unfold mput
    rw [keyOf_entry]
    dsimp only
    rw [sameK_int, hb]
theorem entry_find (k : Int) : ∀ l : List (Int × Int × Int), mfind (.int .i64 k) (l.map entry) = (l.find? fun b => b.1 == k).map fun b => .agg [I b.2.1, I b.2.2]
  | [] => rfl
  | y :: l => by
    have ih := entry_find k l
    rw [List.map_cons, List.find?_cons]
    unfold mfind
    rw [keyOf_entry]
    dsimp only
    rw [sameK_int]
    by_cases h : y.1 = k
    · have hb : (k == y.1) = true := by simpa using h.symm
      have hc : (y.1 == k) = true := by simpa using h
      rw [hb, hc]; rfl
    · have hb : (k == y.1) = false := by simpa using (fun e => h e.symm : ¬ k = y.1)
      have hc : (y.1 == k) = false := by simpa using h
      rw [hb, hc]
      exact ih

def inB (a1 a2 : Int) (b : Int × Int × Int) : Bool := decide (b.1 = a1 ∧ b.2.1 ≤ a2 ∧ a2 ≤ b.2.2)
theorem any_find {a1 a2 : Int} : ∀ {l : List (Int × Int × Int)}, l.Pairwise (fun a b => a.1 < b.1) → l.any (inB a1 a2) = match l.find? fun b => b.1 == a1 with
    | some b => decide (b.2.1 ≤ a2 ∧ a2 ≤ b.2.2)
    | none => false
  | [], _ => rfl
  | y :: l, h => by
    have hp := List.pairwise_cons.1 h
    rw [List.any_cons, List.find?_cons]
    by_cases hy : y.1 = a1
    · have hc : (y.1 == a1) = true := by simpa using hy
      have hn : l.any (inB a1 a2) = false := by
        rw [List.any_eq_false]
        intro z hz
        have := hp.1 z hz
        unfold inB
        rw [decide_eq_false (by omega)]
        decide
      rw [hc, hn, Bool.or_false]
      simp [inB, hy]
    · have hc : (y.1 == a1) = false := by simpa using hy
      have hn : inB a1 a2 y = false := decide_eq_false (by omega)
      rw [hc, hn, Bool.false_or]
      exact any_find hp.2

theorem has_loop {n : Nat} {a1 a2 : Int} (l : List (Int × Int × Int)) (hl : l.length < 1000000) (hp : l.Pairwise (fun a b => a.1 < b.1)) : ∀ (k i : Nat), i ≤ l.length → l.length < i + k →
    loopF (F_drive_Has_L1 n (l.map enc_Ai3Z) a1 a2) k ((i : Int), (l.take i).map entry) = some (l.map entry)
  | 0, i, h, hk => by omega
  | k + 1, i, h, hk => by
    by_cases hi : i < l.length
    · have hx := List.getElem?_eq_getElem hi
      have hlt : ∀ y, y ∈ l.take i → y.1 < l[i].1 := by
        have hs : l.take i ++ l[i] :: l.drop (i + 1) = l := by
          rw [← List.drop_eq_getElem_cons hi]; exact List.take_append_drop i l
        rw [← hs] at hp
        intro y hy
        exact (List.pairwise_append.1 hp).2.2 y hy l[i] List.mem_cons_self
      have hput := entry_put hlt
      have key : F_drive_Has_L1 n (l.map enc_Ai3Z) a1 a2 ((i : Int), (l.take i).map entry) = some (.inl (((i + 1 : Nat) : Int), (l.take (i + 1)).map entry)) := by
        unfold F_drive_Has_L1
        dsimp only
        rw [if_pos (lenlt hx), el_enc un3 hx, Option.bind_some, if_pos (entry_ok _ _), if_pos (by unfold inI64; omega), hput, List.take_add_one, hx, List.map_append]
        rfl
      rw [Go.SX.loopF_l key]
      exact has_loop l hl hp k (i + 1) hi (by omega)
    · have : i = l.length := by omega
      subst this
      rw [Go.SX.loopF_r (e := l.map entry)]
      unfold F_drive_Has_L1
      rw [if_neg notlt, List.take_length]

def hasE (l : List (Int × Int × Int)) (a1 a2 : Int) : Bool × Int := if firstNZ [modelE l, inR a1 (-1000) 1000, inR a2 (-2000000) 2000000] = 0 then (l.any (inB a1 a2), 0) else (false, firstNZ [modelE l, inR a1 (-1000) 1000, inR a2 (-2000000) 2000000])
theorem has_eq {n : Nat} (hn : 1000 ≤ n) (l : List (Int × Int × Int)) (hl : l.length < 1000) (a1 a2 : Int) : F_drive_Has n (l.map enc_Ai3Z) a1 a2 = some (hasE l a1 a2) := by
  unfold F_drive_Has hasE
  rw [checkModel_eq hn l hl, Option.bind_some, within_eq, Option.bind_some, within_eq, Option.bind_some, first3 (by omega), Option.bind_some]
  by_cases h : firstNZ [modelE l, inR a1 (-1000) 1000, inR a2 (-2000000) 2000000] = 0
  · rw [if_pos h, if_pos h]
    have hm := firstNZ_zero h (modelE l) (by simp)
    have hp := modelE_inc hm
    have := has_loop (n := n) (a1 := a1) (a2 := a2) l (by omega) hp n 0 (Nat.zero_le _) (by omega)
    rw [List.take_zero, List.map_nil, show ((0 : Nat) : Int) = 0 from rfl] at this
    rw [this, Option.bind_some, any_find hp, entry_find]
    simp only [entry_ok, if_true]
    cases hf : l.find? fun b => b.1 == a1 with
    | none => rfl
    | some b =>
      simp only [Option.map_some, Option.isSome_some, if_true, Option.bind_some, un_Ai2Z, un_int]
      by_cases h1 : a2 ≥ b.2.1
      · rw [if_pos h1]
        have h2 : decide (a2 ≤ b.2.2) = decide (b.2.1 ≤ a2 ∧ a2 ≤ b.2.2) := by
          by_cases q : a2 ≤ b.2.2
          · rw [decide_eq_true q, decide_eq_true ⟨h1, q⟩]
          · rw [decide_eq_false q, decide_eq_false (fun e => q e.2)]
        rw [h2]
      · rw [if_neg h1, decide_eq_false (fun e => h1 e.1)]
  · rw [if_neg h, if_neg h]
theorem refHas_eq {n : Nat} (l : List (Int × Int × Int)) (hl : l.length < 1000000) (hn : l.length < n) (a1 a2 : Int) : F_ref03_Has n (l.map enc_Ai3Z) a1 a2 = some (l.any (inB a1 a2)) := by
  unfold F_ref03_Has
  have := loopF_list0 (step := F_ref03_Has_L1 n (l.map enc_Ai3Z) a1 a2) (E := Unit ⊕ Unit) (fun (_ : Unit) (x : Int × Int × Int) => if inB a1 a2 x = true then .inr (.inl ()) else .inl ()) (fun _ => .inr ()) (fun i _ => (i : Int)) l (fun _ _ => True)
    (fun i s x hx _ => by
      have hi := ixlt hx
      have key : F_ref03_Has_L1 n (l.map enc_Ai3Z) a1 a2 (i : Int) = if inB a1 a2 x = true then some (.inr (.inl ())) else some (.inl ((i + 1 : Nat) : Int)) := by
        unfold F_ref03_Has_L1
        rw [if_pos (lenlt hx), el_enc un3 hx, Option.bind_some]
        have e : inI64 ((i : Int) + 1) := by unfold inI64; omega
        simp only [if_pos e, inB, decide_eq_true_eq]
        by_cases q1 : x.1 = a1
        · by_cases q2 : x.2.1 ≤ a2
          · by_cases q3 : a2 ≤ x.2.2
            · rw [if_pos q1, if_pos q2, if_pos q3, if_pos ⟨q1, q2, q3⟩]
            · rw [if_pos q1, if_pos q2, if_neg q3, if_neg (fun e => q3 e.2.2)]; rfl
          · rw [if_pos q1, if_neg q2, if_neg (fun e => q2 e.2.1)]; rfl
        · rw [if_neg q1, if_neg (fun e => q1 e.1)]; rfl
      by_cases h : inB a1 a2 x = true
      · rw [if_pos h]; rw [if_pos h] at key; exact key
      · rw [if_neg h]; rw [if_neg h] at key; exact ⟨key, trivial⟩)
    (fun s _ => by
      unfold F_ref03_Has_L1
      rw [if_neg notlt])
    (k := n) (s := ()) trivial hn
  have e : ∀ l : List (Int × Int × Int), runL (E := Unit ⊕ Unit) (fun (_ : Unit) (x : Int × Int × Int) => if inB a1 a2 x = true then .inr (.inl ()) else .inl ()) (fun _ => .inr ()) l () = if l.any (inB a1 a2) = true then .inl () else .inr () := by
    intro l; induction l with
    | nil => rfl
    | cons x l ih =>
      unfold runL
      rw [List.any_cons]
      by_cases h : inB a1 a2 x = true
      · rw [if_pos h, h]; rfl
      · rw [if_neg h]
        have h' : inB a1 a2 x = false := by simpa using h
        rw [h', Bool.false_or]
        exact ih
  rw [e, show ((0 : Nat) : Int) = 0 from rfl] at this
  rw [this, Option.bind_some]
  by_cases h : l.any (inB a1 a2) = true
  · rw [if_pos h, h]
  · have h' : l.any (inB a1 a2) = false := by simpa using h
    rw [if_neg h, h']

def pairsE (l : List (Int × Int × Int)) (s : Int) : Int := l.foldl (fun s b => s + (b.2.2 - b.2.1 + 1)) s
theorem runL_fold {α : Type} (f : Int → α → Int) : ∀ (l : List α) (s : Int), runL (E := Int) (fun s x => .inl (f s x)) (fun s => s) l s = l.foldl f s
  | [], _ => rfl
  | x :: l, s => runL_fold f l (f s x)
theorem pairs_loop {n : Nat} (l : List (Int × Int × Int)) (hl : l.length < 1000) (hn : l.length < n) (hb : ∀ b, b ∈ l → BandOk b) : loopF (F_drive_Pairs_L1 n (l.map enc_Ai3Z)) n (0, 0) = some (pairsE l 0) := by
  have := loopF_list0 (step := F_drive_Pairs_L1 n (l.map enc_Ai3Z)) (E := Int) (fun (s : Int) (b : Int × Int × Int) => .inl (s + (b.2.2 - b.2.1 + 1))) (fun s => s) (fun i s => (s, (i : Int))) l (fun i s => 0 ≤ s ∧ s ≤ 4000001 * (i : Int))
    (fun i s x hx hi' => by
      have hi := ixlt hx
      obtain ⟨_, h1, h2, h3⟩ := hb x (List.mem_of_getElem? hx)
      refine ⟨?_, by omega, by omega⟩
      unfold F_drive_Pairs_L1
      dsimp only
      rw [if_pos (lenlt hx), el_enc un3 hx, Option.bind_some, if_pos (by unfold inI64; omega), if_pos (by unfold inI64; omega), if_pos (by unfold inI64; omega), if_pos (by unfold inI64; omega)]
      rfl)
    (fun s _ => by
      unfold F_drive_Pairs_L1
      rw [if_neg notlt])
    (k := n) (s := 0) (by simp) hn
  rw [runL_fold] at this
  exact this
theorem refPairs_eq {n : Nat} (l : List (Int × Int × Int)) (hl : l.length < 1000) (hn : l.length < n) (hb : ∀ b, b ∈ l → BandOk b) : F_ref03_Pairs n (l.map enc_Ai3Z) = some (pairsE l 0) := by
  have := loopF_list0 (step := F_ref03_Pairs_L1 n (l.map enc_Ai3Z)) (E := Int) (fun (s : Int) (b : Int × Int × Int) => .inl (s + (b.2.2 - b.2.1 + 1))) (fun s => s) (fun i s => (s, (i : Int))) l (fun i s => 0 ≤ s ∧ s ≤ 4000001 * (i : Int))
    (fun i s x hx hi' => by
      have hi := ixlt hx
      obtain ⟨_, h1, h2, h3⟩ := hb x (List.mem_of_getElem? hx)
      refine ⟨?_, by omega, by omega⟩
      have e : s + x.2.2 - x.2.1 + 1 = s + (x.2.2 - x.2.1 + 1) := by omega
      unfold F_ref03_Pairs_L1
      dsimp only
      rw [if_pos (lenlt hx), el_enc un3 hx, Option.bind_some, if_pos (by unfold inI64; omega), if_pos (by unfold inI64; omega), if_pos (by unfold inI64; omega), if_pos (by unfold inI64; omega), e]
      rfl)
    (fun s _ => by
      unfold F_ref03_Pairs_L1
      rw [if_neg notlt])
    (k := n) (s := 0) (by simp) hn
  rw [runL_fold] at this
  unfold F_ref03_Pairs
  rw [show ((0 : Nat) : Int) = 0 from rfl] at this
  rw [this]
  rfl
def pairsR (l : List (Int × Int × Int)) : Int × Int := if modelE l = 0 then (pairsE l 0, 0) else (0, modelE l)
theorem pairs_eq {n : Nat} (hn : 1000 ≤ n) (l : List (Int × Int × Int)) (hl : l.length < 1000) : F_drive_Pairs n (l.map enc_Ai3Z) = some (pairsR l) := by
  unfold F_drive_Pairs pairsR
  rw [checkModel_eq hn l hl, Option.bind_some]
  by_cases h : modelE l = 0
  · rw [if_pos h, if_pos h, pairs_loop l hl (by omega) (modelE_zero h).2]; rfl
  · rw [if_neg h, if_neg h]

theorem law_DrivePairs (l : List (Int × Int × Int)) (a1 a2 : Int) : F_law03_DrivePairs 1000 (l.map enc_Ai3Z) a1 a2 = some true := by
  unfold F_law03_DrivePairs
  rw [shortModel_eq, List.length_map, Option.bind_some]
  by_cases hs : l.length ≤ 8 ∨ l.length = 65
  · have hl : l.length < 1000 := by omega
    rw [if_pos (decide_eq_true hs), given_eq l (by omega) (by omega), Option.bind_some, pairs_eq (by omega) l hl, Option.bind_some, has_eq (by omega) l hl, Option.bind_some, refCheckModel_eq (by omega) l hl, Option.bind_some, range_eq, Option.bind_some, range_eq, Option.bind_some, refFirst3 (by omega), Option.bind_some, axis_awake]
    have hb : modelE l = 0 → F_ref03_Pairs 1000 (l.map enc_Ai3Z) = some (pairsE l 0) := fun h => refPairs_eq l hl (by omega) (modelE_zero h).2
    have hh := refHas_eq (n := 1000) l (by omega) (by omega) a1 a2
    rw [hh]
    by_cases h1 : modelE l = 0
    · have p : pairsR l = (pairsE l 0, modelE l) := by unfold pairsR; rw [if_pos h1, h1]
      rw [if_pos h1, hb h1, Option.bind_some, p]
      by_cases h2 : firstNZ [modelE l, inR a1 (-1000) 1000, inR a2 (-2000000) 2000000] = 0
      · have q : hasE l a1 a2 = (l.any (inB a1 a2), firstNZ [modelE l, inR a1 (-1000) 1000, inR a2 (-2000000) 2000000]) := by unfold hasE; rw [if_pos h2, h2]
        rw [if_pos h2, q, Option.bind_some, if_pos rfl, if_pos rfl, if_pos (by simp), if_pos rfl]
        rfl
      · have q : hasE l a1 a2 = (false, firstNZ [modelE l, inR a1 (-1000) 1000, inR a2 (-2000000) 2000000]) := by unfold hasE; rw [if_neg h2]
        rw [if_neg h2, q, if_pos rfl, if_pos rfl, if_pos (by rfl), if_pos rfl]
        rfl
    · have p : pairsR l = (0, modelE l) := by unfold pairsR; rw [if_neg h1]
      have h2 : ¬ firstNZ [modelE l, inR a1 (-1000) 1000, inR a2 (-2000000) 2000000] = 0 := fun e => h1 (firstNZ_zero e _ (by simp))
      have q : hasE l a1 a2 = (false, firstNZ [modelE l, inR a1 (-1000) 1000, inR a2 (-2000000) 2000000]) := by unfold hasE; rw [if_neg h2]
      rw [if_neg h1, if_neg h2, p, q, if_pos rfl, if_pos rfl, if_pos (by rfl), if_pos rfl]
      rfl
  · rw [if_neg (by simpa using hs), axis_awake]
    rfl
end Go.Proofs.YtmgbmngmmpeaaaaGreatDoor
