/-
  The program's Parse, and its Print. An own text.
-/
import Derived.Test.YtoblljobcafecaaGreatDoorLin
import Derived.Lib.Join
set_option linter.unusedVariables false
set_option linter.unusedSimpArgs false
set_option linter.unnecessarySimpa false
set_option maxRecDepth 20000
namespace Go.Proofs.YtoblljobcafecaaGreatDoor
open Go.SX

theorem runP_len : ∀ (L : List (List UInt8)) (acc acc' : List Bd), runP L acc = .inl acc' → acc'.length ≤ acc.length + L.length
  | [], acc, acc', h => by simp only [runP, Sum.inl.injEq] at h; rw [h]; omega
  | [p], acc, acc', h => by
    unfold runP at h
    split at h
    · simp only [Sum.inl.injEq] at h; rw [h]; omega
    · cases h
  | p :: q :: ps, acc, acc', h => by
    unfold runP at h
    split at h
    · have := runP_len (q :: ps) _ _ h
      simp at this ⊢; omega
    · cases h
theorem runP_err : ∀ (L : List (List UInt8)) (acc : List Bd) (k : Nat), runP L acc = .inr k → k ≤ acc.length + L.length
  | [], acc, k, h => by cases h
  | [p], acc, k, h => by
    unfold runP at h
    split at h
    · cases h
    · simp only [Sum.inr.injEq] at h; omega
  | p :: q :: ps, acc, k, h => by
    unfold runP at h
    split at h
    · have := runP_err (q :: ps) _ _ h
      simp at this ⊢; omega
    · simp only [Sum.inr.injEq] at h; omega
theorem spl_len (c : UInt8) (l : List UInt8) : (spl c l).length ≤ l.length + 1 := by
  rw [spl_count]; have := List.count_le_length (a := c) (l := l); omega
theorem end1 {n : Nat} {l : List UInt8} {acc : List Bd} : F_drive_Parse_L1 n (mkS l) (.inr (mkS [], acc.map enc_Ai3Z)) = some (.inr (.inr (.inr (.inr (mkS [], acc.map enc_Ai3Z))))) := by
  unfold F_drive_Parse_L1
  dsimp only
  rw [if_neg (by rw [mk_size]; simp)]
theorem end0 {n : Nat} : F_drive_Parse_L1 n (mkS []) (.inl ()) = some (.inr (.inr (.inl ()))) := by
  unfold F_drive_Parse_L1
  dsimp only
  rw [if_neg (by rw [mk_size]; simp)]
section
variable {n : Nat} (hn : 1000 ≤ n)
include hn
theorem lines1 {l : List UInt8} : ∀ (k : Nat) (s : List UInt8) (acc : List Bd), s.length < k → acc.length + s.length ≤ 900 →
    ∃ e, loopF (F_drive_Parse_L1 n (mkS l)) k (.inr (mkS s, acc.map enc_Ai3Z)) = some e ∧ match runP (spl 10 s) acc with
      | .inl acc' => e = .inr (.inr (.inr (mkS [], acc'.map enc_Ai3Z)))
      | .inr j => ∃ r, e = .inr (.inr (.inl ((j : Int), r)))
  | 0, s, acc, h, _ => absurd h (by omega)
  | k + 1, s, acc, h, ha => by
    by_cases h0 : s = []
    · subst h0
      exact ⟨_, loopF_r (end1), rfl⟩
    · by_cases h10 : (10 : UInt8) ∈ s
      · obtain ⟨p, b, rfl, hp⟩ := hit_of h10
        have hlb : p.length + b.length + 1 = (p ++ 10 :: b).length := by simp; omega
        have hs := line1 hn (l := l) (acc := acc) (by omega) hp (by omega : (p ++ 10 :: b).length ≤ 900)
        rw [spl_hit 10 p b hp]
        cases hq : spl 10 b with
        | nil => exact absurd hq (spl_ne 10 b)
        | cons q ps =>
          unfold runP
          cases hpl : parseL p with
          | some x =>
            rw [hpl] at hs
            obtain ⟨e, h1, h2⟩ := lines1 k b (acc ++ [x]) (by omega) (by simp; omega)
            rw [hq] at h2
            exact ⟨e, by rw [loopF_l hs]; exact h1, h2⟩
          | none =>
            rw [hpl] at hs
            exact ⟨_, loopF_r hs, _, rfl⟩
      · have hs := last1 hn (l := l) (acc := acc) h0 h10 (by omega)
        refine ⟨_, loopF_r hs, ?_⟩
        rw [spl_miss 10 s h10]
        unfold runP
        rw [if_neg h0]
        exact ⟨_, rfl⟩
def parsed (l : List UInt8) : List Bd × Nat × Int := match runP (spl 10 l) [] with
  | .inr j => ([], j, 25)
  | .inl acc => if modelE acc = 0 then (acc, 0, 0) else ([], acc.length, modelE acc)
theorem parse_eq {l : List UInt8} (hl : l.length ≤ 800) : F_drive_Parse n (mkS l) = some ((parsed l).1.map enc_Ai3Z, ((parsed l).2.1 : Int), (parsed l).2.2) := by
  have hfin : ∀ (acc : List Bd), acc.length ≤ 900 → (F_drive_CheckModel n (acc.map enc_Ai3Z)) = some (modelE acc) := fun acc ha => checkModel_eq hn acc (by omega)
  unfold F_drive_Parse parsed
  rw [if_neg (by rw [mk_size]; omega)]
  by_cases h0 : l = []
  · subst h0
    have h1 : loopF (F_drive_Parse_L1 n (mkS [])) n (.inl ()) = some (.inr (.inl ())) := by
      obtain ⟨k, rfl⟩ : ∃ k, n = k + 1 := ⟨n - 1, by omega⟩
      exact loopF_r (end0)
    rw [h1, Option.bind_some]
    dsimp only
    have := hfin [] (by simp)
    rw [List.map_nil] at this
    rw [this, Option.bind_some]
    have e : runP (spl 10 []) [] = .inl [] := rfl
    rw [e]
    have e2 : modelE [] = 12 := rfl
    rw [e2]
    rfl
  · by_cases h10 : (10 : UInt8) ∈ l
    · obtain ⟨p, b, rfl, hp⟩ := hit_of h10
      have hlb : p.length + b.length + 1 = (p ++ 10 :: b).length := by simp; omega
      have hs := line0 hn hp (by omega : (p ++ 10 :: b).length ≤ 900)
      obtain ⟨k, hk⟩ : ∃ k, n = k + 1 := ⟨n - 1, by omega⟩
      rw [spl_hit 10 p b hp]
      cases hq : spl 10 b with
      | nil => exact absurd hq (spl_ne 10 b)
      | cons q ps =>
        unfold runP
        cases hpl : parseL p with
        | some x =>
          rw [hpl] at hs
          obtain ⟨e, h1, h2⟩ := lines1 hn (l := p ++ 10 :: b) k b [x] (by omega) (by simp; omega)
          have hloop : loopF (F_drive_Parse_L1 n (mkS (p ++ 10 :: b))) n (.inl ()) = some e := by
            conv => lhs; arg 2; rw [hk]
            rw [loopF_l hs]; exact h1
          rw [hloop, Option.bind_some]
          rw [hq] at h2
          simp only [List.nil_append]
          have hlen : (spl 10 b).length ≤ b.length + 1 := spl_len 10 b
          cases hr : runP (q :: ps) [x] with
          | inl acc =>
            rw [hr] at h2
            simp only at h2
            subst h2
            dsimp only
            have hal := runP_len _ _ _ hr
            rw [← hq] at hal
            rw [hfin acc (by simp at hal; omega), Option.bind_some]
            by_cases hm : modelE acc = 0
            · rw [if_pos hm, if_pos hm]; rfl
            · rw [if_neg hm, if_neg hm, List.length_map]; rfl
          | inr j =>
            rw [hr] at h2
            obtain ⟨r, rfl⟩ := h2
            rfl
        | none =>
          rw [hpl] at hs
          have hloop : loopF (F_drive_Parse_L1 n (mkS (p ++ 10 :: b))) n (.inl ()) = some (.inl (mkS b)) := by
            conv => lhs; arg 2; rw [hk]
            exact loopF_r hs
          rw [hloop]
          rfl
    · have hs := last0 hn h0 h10 (by omega)
      obtain ⟨k, hk⟩ : ∃ k, n = k + 1 := ⟨n - 1, by omega⟩
      have hloop : loopF (F_drive_Parse_L1 n (mkS l)) n (.inl ()) = some (.inl ⟨#[]⟩) := by
        conv => lhs; arg 2; rw [hk]
        exact loopF_r hs
      rw [hloop, spl_miss 10 l h10]
      unfold runP
      rw [if_neg h0]
      rfl
end
theorem parse_long {n : Nat} {s : ByteArray} (h : (s.size : Int) > 4096) : F_drive_Parse n s = some ([], 0, 26) := by
  unfold F_drive_Parse
  rw [if_pos h]

/-! Print. -/
def lineB (b : Bd) : List UInt8 := bandW ++ 32 :: (Lib.itoa b.1 ++ 32 :: (Lib.itoa b.2.1 ++ 32 :: (Lib.itoa b.2.2 ++ [10])))
def printed (m : List Bd) : List UInt8 := (m.map lineB).flatten
theorem itoaP (n : Nat) {a : Int} (h : inI64 a) : F_strconv_Itoa n a = some (mkS (Lib.itoa a)) := by
  unfold F_strconv_Itoa
  rw [if_pos h]; rfl
theorem strs_eS : ∀ L : List (List UInt8), strsOf (L.map eS) = some (L.map mkS)
  | [] => rfl
  | p :: L => by
    rw [List.map_cons, strsOf, show un_str (eS p) = some (mkS p) from rfl, strs_eS L]; rfl
theorem join_eS (n : Nat) (L : List (List UInt8)) (sep : List UInt8) (h1 : L.length ≤ 1000000) (h2 : (Lib.join L sep).length ≤ 1000000) : F_strings_Join n (L.map eS) (mkS sep) = some (mkS (Lib.join L sep)) := by
  unfold F_strings_Join
  rw [strs_eS, Option.bind_some]
  have e : (L.map mkS).map (·.data.toList) = L := by
    rw [List.map_map]
    conv => rhs; rw [← List.map_id L]
    exact List.map_congr_left fun p _ => data_mk p
  unfold joinB
  rw [e, data_mk, if_pos ⟨by rw [List.length_map]; omega, by omega⟩]
  rfl
theorem mapped6 {n : Nat} (hn : 1000 ≤ n) {a b c : Int} (ha : inI64 a) (hb : inI64 b) (hc : inI64 c) : F_drive_mapped_g_6 n [I a, I b, I c] = some ([Lib.itoa a, Lib.itoa b, Lib.itoa c].map eS) := by
  obtain ⟨k, hk⟩ : ∃ k, n = k + 4 := ⟨n - 4, by omega⟩
  have step : ∀ (i : Nat) (x : Int) (acc : List D), ([a, b, c] : List Int)[i]? = some x → inI64 x → acc.length = i → F_drive_mapped_g_6_L1 n [I a, I b, I c] ((i : Int), acc) = some (.inl (((i + 1 : Nat) : Int), acc ++ [eS (Lib.itoa x)])) := by
    intro i x acc hx hi hal
    have hi3 : i < 3 := (List.getElem?_eq_some_iff.1 hx).1
    have hel : el un_i [I a, I b, I c] (i : Int) = some x := el_map (ms := [a, b, c]) hx
    unfold F_drive_mapped_g_6_L1
    dsimp only
    rw [if_pos (by simp; omega), hel, Option.bind_some, itoaP n hi, Option.bind_some, if_pos (room16 (by omega)), if_pos (i64 (by omega) (by omega))]
    simp [eS]
  unfold F_drive_mapped_g_6
  have hl : loopF (F_drive_mapped_g_6_L1 n [I a, I b, I c]) n (0, []) = some ([Lib.itoa a, Lib.itoa b, Lib.itoa c].map eS) := by
    conv => lhs; arg 2; rw [hk]
    have s0 : F_drive_mapped_g_6_L1 n [I a, I b, I c] (0, []) = some (.inl (1, [eS (Lib.itoa a)])) := step 0 a [] rfl ha rfl
    have s1 : F_drive_mapped_g_6_L1 n [I a, I b, I c] (1, [eS (Lib.itoa a)]) = some (.inl (2, [eS (Lib.itoa a), eS (Lib.itoa b)])) := step 1 b [eS (Lib.itoa a)] rfl hb rfl
    have s2 : F_drive_mapped_g_6_L1 n [I a, I b, I c] (2, [eS (Lib.itoa a), eS (Lib.itoa b)]) = some (.inl (3, [eS (Lib.itoa a), eS (Lib.itoa b), eS (Lib.itoa c)])) := step 2 c [eS (Lib.itoa a), eS (Lib.itoa b)] rfl hc rfl
    rw [loopF_l s0, loopF_l s1, loopF_l s2]
    refine loopF_r ?_
    unfold F_drive_mapped_g_6_L1
    rw [if_neg (by simp)]
    rfl
  rw [hl]; rfl
theorem band_i64 {b : Bd} (h : BandOk b) : inI64 b.1 ∧ inI64 b.2.1 ∧ inI64 b.2.2 := by
  obtain ⟨h1, h2, h3, h4⟩ := h
  exact ⟨i64 (by omega) (by omega), i64 (by omega) (by omega), i64 (by omega) (by omega)⟩
theorem lineB_len {b : Bd} (h : BandOk b) : (lineB b).length ≤ 38 := by
  obtain ⟨h1, h2, h3, h4⟩ := h
  have a1 := itoa_len (n := b.1) (by omega) (by omega)
  have a2 := itoa_len (n := b.2.1) (by omega) (by omega)
  have a3 := itoa_len (n := b.2.2) (by omega) (by omega)
  simp [lineB, bandW]; omega
theorem line_eq {n : Nat} (hn : 1000 ≤ n) {b : Bd} (h : BandOk b) : F_drive_Band_line n b.1 b.2.1 b.2.2 = some (mkS (lineB b)) := by
  obtain ⟨i1, i2, i3⟩ := band_i64 h
  have hlen := lineB_len h
  unfold F_drive_Band_line
  rw [mapped6 hn i1 i2 i3, Option.bind_some, if_pos (room16 (by simp))]
  have hj := join_eS n [bandW, Lib.itoa b.1, Lib.itoa b.2.1, Lib.itoa b.2.2] [32] (by simp) (by
    have : (lineB b).length = (Lib.join [bandW, Lib.itoa b.1, Lib.itoa b.2.1, Lib.itoa b.2.2] [32]).length + 1 := by
      simp [lineB, Lib.join, List.intercalate]; omega
    omega)
  rw [if_neg (by simp [isNilL])]
  have hj' : F_strings_Join n (.v (.string ⟨#[98, 97, 110, 100]⟩) :: [Lib.itoa b.1, Lib.itoa b.2.1, Lib.itoa b.2.2].map eS) ⟨#[32]⟩ = some (mkS (Lib.join [bandW, Lib.itoa b.1, Lib.itoa b.2.1, Lib.itoa b.2.2] [32])) := hj
  have e10 : (⟨#[10]⟩ : ByteArray) = mkS [10] := rfl
  have hfull : Lib.join [bandW, Lib.itoa b.1, Lib.itoa b.2.1, Lib.itoa b.2.2] [32] ++ [10] = lineB b := by
    simp [lineB, Lib.join, List.intercalate]
  have hfl := congrArg List.length hfull
  simp only [List.length_append, List.length_singleton] at hfl
  rw [hj', Option.bind_some, e10, if_pos (by rw [mk_size, mk_size]; simp; omega), app_mk, hfull]
theorem mapped5 {n : Nat} (hn : 1000 ≤ n) {m : List Bd} (hm : m.length ≤ 900) (hb : ∀ b, b ∈ m → BandOk b) : F_drive_mapped_g_5 n (m.map enc_Ai3Z) = some ((m.map lineB).map eS) := by
  unfold F_drive_mapped_g_5
  have : loopF (F_drive_mapped_g_5_L1 n (m.map enc_Ai3Z)) n (0, []) = some (m.flatMap fun b => [eS (lineB b)]) := by
    refine loop_acc (fun out => out) m (fun b => [eS (lineB b)]) (fun b => by simp) (fun i out b hbi ho => ?_) (fun out _ => ?_) (by omega)
    · have hi := ixlt hbi
      unfold F_drive_mapped_g_5_L1
      dsimp only
      rw [if_pos (lenlt hbi), el_enc un3 hbi, Option.bind_some, line_eq hn (hb b (List.mem_of_getElem? hbi)), Option.bind_some, if_pos (room16 (by omega)), if_pos (i64 (by omega) (by omega))]
      rfl
    · unfold F_drive_mapped_g_5_L1
      rw [if_neg notlt]
  rw [this, flat1, Option.bind_some, List.map_map]
  rfl
theorem join_nilsep (L : List (List UInt8)) : Lib.join L [] = L.flatten := by
  induction L with
  | nil => rfl
  | cons p L ih =>
    cases L with
    | nil => simp [Lib.join, List.intercalate]
    | cons q L =>
      rw [Lib.join_cons, Lib.joinTail]
      simp
theorem printed_len : ∀ (m : List Bd), (∀ b, b ∈ m → BandOk b) → (printed m).length ≤ 38 * m.length
  | [], _ => by simp [printed]
  | b :: m, h => by
    have h1 := lineB_len (h b List.mem_cons_self)
    have h2 := printed_len m (fun x hx => h x (List.mem_cons_of_mem _ hx))
    simp only [printed, List.map_cons, List.flatten_cons, List.length_append, List.length_cons] at h2 ⊢
    omega
theorem print_eq {n : Nat} (hn : 1000 ≤ n) {m : List Bd} (hm : m.length ≤ 900) : F_drive_Print n (m.map enc_Ai3Z) = some (if modelE m = 0 then (mkS (printed m), 0) else (⟨#[]⟩, modelE m)) := by
  unfold F_drive_Print
  rw [checkModel_eq hn m (by omega), Option.bind_some]
  by_cases h : modelE m = 0
  · obtain ⟨hl, hb⟩ := modelE_zero h
    rw [if_pos h, if_pos h, mapped5 hn hm hb, Option.bind_some]
    have hpl := printed_len m hb
    have hj := join_eS n (m.map lineB) [] (by rw [List.length_map]; omega) (by rw [join_nilsep]; show (printed m).length ≤ _; omega)
    have hj' : F_strings_Join n ((m.map lineB).map eS) ⟨#[]⟩ = some (mkS (printed m)) := by
      rw [join_nilsep] at hj; exact hj
    rw [hj']; rfl
  · rw [if_neg h, if_neg h]
end Go.Proofs.YtoblljobcafecaaGreatDoor
