/-
  The plain law of DriveBack: models are parsed as they were printed, and printed as they were parsed; a text without its last byte is not parsed. An own text.
-/
import Derived.Test.YtoblljobcafecaaGreatDoorBack1
import Derived.Test.YtoblljobcafecaaGreatDoorPar
set_option linter.unusedVariables false
set_option linter.unusedSimpArgs false
set_option linter.unnecessarySimpa false
set_option maxRecDepth 20000
namespace Go.Proofs.YtoblljobcafecaaGreatDoor
open Go.SX

def lineC (b : Bd) : List UInt8 := bandW ++ 32 :: (Lib.itoa b.1 ++ 32 :: (Lib.itoa b.2.1 ++ 32 :: Lib.itoa b.2.2))
theorem lineB_C (b : Bd) : lineB b = lineC b ++ [10] := by simp [lineB, lineC]
theorem lineC_ne (b : Bd) : lineC b ≠ [] := by simp [lineC, bandW]
theorem lineC_free (b : Bd) : (10 : UInt8) ∉ lineC b := by
  have h1 : (10 : UInt8) ∉ Lib.itoa b.1 := itoa_free (by decide)
  have h2 : (10 : UInt8) ∉ Lib.itoa b.2.1 := itoa_free (by decide)
  have h3 : (10 : UInt8) ∉ Lib.itoa b.2.2 := itoa_free (by decide)
  simp [lineC, bandW, h1, h2, h3]
theorem lineC_spl (b : Bd) : spl 32 (lineC b) = [bandW, Lib.itoa b.1, Lib.itoa b.2.1, Lib.itoa b.2.2] := by
  unfold lineC
  rw [spl_hit 32 bandW _ (by decide), spl_hit 32 _ _ (itoa_free (by decide)), spl_hit 32 _ _ (itoa_free (by decide)), spl_miss 32 _ (itoa_free (by decide))]
theorem parse_lineC {b : Bd} (h : BandOk b) : parseL (lineC b) = some b := by
  obtain ⟨h1, h2, h3, h4⟩ := h
  unfold parseL
  rw [lineC_spl]
  simp only [if_true]
  rw [num_itoa (by omega) (by omega), num_itoa (by omega) (by omega), num_itoa (by omega) (by omega)]
theorem parseL_inv {p : List UInt8} {b : Bd} (h : parseL p = some b) : lineC b = p := by
  unfold parseL at h
  split at h
  case h_2 => cases h
  rename_i w0 w1 w2 w3 hs
  split at h
  case isFalse => cases h
  rename_i hw
  split at h
  case h_2 => cases h
  rename_i a b c h1 h2 h3
  simp only [Option.some.injEq] at h
  subst h
  have hg := glue_spl 32 p
  rw [hs] at hg
  rw [← hg, hw, ← (itoa_num h1).1, ← (itoa_num h2).1, ← (itoa_num h3).1]
  rfl
theorem printed_cons (b : Bd) (m : List Bd) : printed (b :: m) = lineC b ++ 10 :: printed m := by
  simp [printed, lineB_C]
theorem spl_printed : ∀ m : List Bd, spl 10 (printed m) = m.map lineC ++ [[]]
  | [] => rfl
  | b :: m => by
    rw [printed_cons, spl_hit 10 _ _ (lineC_free b), spl_printed m]; rfl
theorem run_printed : ∀ (m : List Bd) (t : List UInt8) (acc : List Bd), (∀ b, b ∈ m → BandOk b) → (10 : UInt8) ∉ t →
    runP (spl 10 (printed m ++ t)) acc = if t = [] then .inl (acc ++ m) else .inr (acc.length + m.length)
  | [], t, acc, _, ht => by
    show runP (spl 10 t) acc = _
    rw [spl_miss 10 t ht]
    unfold runP
    by_cases h : t = []
    · rw [if_pos h, if_pos h, List.append_nil]
    · rw [if_neg h, if_neg h]; rfl
  | b :: m, t, acc, hb, ht => by
    have ih := run_printed m t (acc ++ [b]) (fun x hx => hb x (List.mem_cons_of_mem _ hx)) ht
    have e : printed (b :: m) ++ t = lineC b ++ 10 :: (printed m ++ t) := by rw [printed_cons]; simp
    rw [e, spl_hit 10 _ _ (lineC_free b)]
    cases hq : spl 10 (printed m ++ t) with
    | nil => exact absurd hq (spl_ne 10 _)
    | cons q ps =>
      unfold runP
      rw [parse_lineC (hb b List.mem_cons_self)]
      dsimp only
      rw [← hq, ih]
      by_cases h : t = []
      · rw [if_pos h, if_pos h]; simp
      · rw [if_neg h, if_neg h]; simp; omega
theorem run_inv : ∀ (L : List (List UInt8)) (acc acc' : List Bd), L ≠ [] → runP L acc = .inl acc' → ∃ m, acc' = acc ++ m ∧ glue 10 L = printed m
  | [], _, _, h, _ => absurd rfl h
  | [p], acc, acc', _, h => by
    unfold runP at h
    split at h
    case isFalse => cases h
    rename_i hp
    simp only [Sum.inl.injEq] at h
    exact ⟨[], by rw [h, List.append_nil], by rw [hp]; rfl⟩
  | p :: q :: ps, acc, acc', _, h => by
    unfold runP at h
    split at h
    case h_2 => cases h
    rename_i b hb
    obtain ⟨m, h1, h2⟩ := run_inv (q :: ps) _ _ (by simp) h
    refine ⟨b :: m, by rw [h1]; simp, ?_⟩
    rw [printed_cons, ← h2, parseL_inv hb]; rfl
theorem parsed_printed {m : List Bd} (h : modelE m = 0) : parsed (printed m) = (m, 0, 0) := by
  have hb := (modelE_zero h).2
  have := run_printed m [] [] hb (by simp)
  rw [List.append_nil, if_pos rfl, List.nil_append] at this
  unfold parsed
  rw [this]
  dsimp only
  rw [if_pos h]
theorem parsed_inv {s : List UInt8} (h : (parsed s).2.2 = 0) : printed (parsed s).1 = s ∧ modelE (parsed s).1 = 0 ∧ (parsed s).1.length ≤ 64 := by
  unfold parsed at h ⊢
  cases hr : runP (spl 10 s) [] with
  | inr j => rw [hr] at h; simp at h
  | inl acc =>
    rw [hr] at h
    dsimp only at h ⊢
    by_cases hm : modelE acc = 0
    · rw [if_pos hm]
      obtain ⟨m, h1, h2⟩ := run_inv _ _ _ (spl_ne 10 s) hr
      rw [List.nil_append] at h1
      subst h1
      rw [glue_spl] at h2
      exact ⟨h2.symm, hm, (modelE_zero hm).1.2⟩
    · rw [if_neg hm] at h; exact absurd h hm
theorem parsed_short {m : List Bd} (h : modelE m = 0) : (parsed ((printed m).take ((printed m).length - 1))).2 = (m.length - 1, 25) := by
  obtain ⟨⟨hl, _⟩, hb⟩ := modelE_zero h
  obtain ⟨m', b, rfl⟩ : ∃ m' b, m = m' ++ [b] := ⟨m.dropLast, m.getLast (List.length_pos_iff.1 hl), (List.dropLast_concat_getLast _).symm⟩
  have e : printed (m' ++ [b]) = (printed m' ++ lineC b) ++ [10] := by
    simp [printed, lineB_C]
  have e2 : (printed (m' ++ [b])).take ((printed (m' ++ [b])).length - 1) = printed m' ++ lineC b := by
    rw [e, List.length_append, List.length_singleton, Nat.add_sub_cancel, List.take_left]
  rw [e2]
  have := run_printed m' (lineC b) [] (fun x hx => hb x (by simp [hx])) (lineC_free b)
  rw [if_neg (lineC_ne b)] at this
  unfold parsed
  rw [this]
  simp
theorem sp300 (s : ByteArray) : s = mkS s.data.toList := (mk_data s).symm
theorem law_DriveBack (m : List Bd) (s : ByteArray) : F_law03_DriveBack 1000 (m.map enc_Ai3Z) s = some true := by
  have haw := axis_awake
  unfold F_law03_DriveBack
  rw [shortModel_eq, Option.bind_some, List.length_map]
  by_cases h1 : m.length ≤ 8 ∨ m.length = 65
  · rw [if_pos (decide_eq_true h1)]
    by_cases h2 : (m.length : Int) > 8
    · rw [if_pos h2, haw]; rfl
    · rw [if_neg h2, refCheckModel_eq (by decide) m (by omega), Option.bind_some]
      by_cases h3 : modelE m = 0
      · rw [if_pos h3]
        by_cases h4 : (s.size : Int) > 300
        · rw [if_pos h4, haw]; rfl
        · rw [if_neg h4]
          obtain ⟨⟨hl0, _⟩, hb⟩ := modelE_zero h3
          have hpl := printed_len m hb
          have hpl8 : (printed m).length ≤ 304 := by omega
          obtain ⟨l, rfl⟩ : ∃ l, s = mkS l := ⟨_, sp300 s⟩
          have hll : l.length ≤ 300 := by rw [mk_size] at h4; omega
          have hpp : 1 ≤ (printed m).length := by
            cases m with
            | nil => simp at hl0
            | cons b m => rw [printed_cons]; simp; omega
          rw [given_eq m (by omega) (by omega), Option.bind_some, print_eq (by decide) (by omega), if_pos h3, Option.bind_some]
          dsimp only
          rw [parse_eq (by decide) (by omega), parsed_printed h3, Option.bind_some]
          dsimp only
          rw [if_pos rfl, if_pos rfl, if_pos (by decide), bands_eq m (by omega) (by omega), Option.bind_some, sameModel_eq m (by omega) (by omega), Option.bind_some, if_pos rfl]
          have hsp := refSplit_eq (n := 1000) (by decide) (l := printed m) 10 (by omega)
          have hsp' : F_ref01_Split 1000 (mkS (printed m)) 10 = some ((spl 10 (printed m)).map eS) := hsp
          have hlen : (((spl 10 (printed m)).map eS).length : Int) = (m.length : Int) + 1 := by
            rw [List.length_map, spl_printed]; simp
          have hsz : ((mkS (printed m)).size : Int) - 1 = (((printed m).length - 1 : Nat) : Int) := by rw [mk_size]; omega
          have hps := parsed_short h3
          have hlast : (F_drive_Parse 1000 (mkS ((printed m).take ((printed m).length - 1)))) = some ((parsed ((printed m).take ((printed m).length - 1))).1.map enc_Ai3Z, ((m.length - 1 : Nat) : Int), 25) := by
            rw [parse_eq (by decide) (by simp; omega), hps]
          rw [hsp', Option.bind_some, if_pos (i64 (by omega) (by omega)), if_pos hlen, parse_eq (by decide) (by omega), Option.bind_some]
          dsimp only
          have hcast : ((m.length - 1 : Nat) : Int) = (m.length : Int) - 1 := by omega
          by_cases h5 : (parsed l).2.2 = 0
          · obtain ⟨g1, g2, g3⟩ := parsed_inv h5
            rw [if_pos h5, print_eq (by decide) (by omega), if_pos g2, Option.bind_some]
            dsimp only
            rw [if_pos rfl, beq_mk, g1, if_neg (by simp), hsz, if_pos (i64 (by omega) (by omega)), sub_to _ (by omega), Option.bind_some, hlast, Option.bind_some]
            dsimp only
            rw [if_pos rfl, if_pos (i64 (by omega) (by omega)), if_pos hcast, haw]
            rfl
          · rw [if_neg h5, hsz, if_pos (i64 (by omega) (by omega)), sub_to _ (by omega), Option.bind_some, hlast, Option.bind_some]
            dsimp only
            rw [if_pos rfl, if_pos (i64 (by omega) (by omega)), if_pos hcast, haw]
            rfl
      · rw [if_neg h3, haw]; rfl
  · rw [if_neg (by simpa using h1), haw]; rfl
end Go.Proofs.YtoblljobcafecaaGreatDoor
