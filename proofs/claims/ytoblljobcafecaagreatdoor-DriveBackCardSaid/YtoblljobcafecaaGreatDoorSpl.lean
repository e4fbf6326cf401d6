/-
  Both ways of cutting a string into pieces give the pieces between the separators. An own text.
-/
import Derived.Test.YtoblljobcafecaaGreatDoorCom2
import Derived.Test.YtoblljobcafecaaGreatDoorStr
set_option linter.unusedVariables false
set_option linter.unusedSimpArgs false
set_option linter.unnecessarySimpa false
set_option maxRecDepth 20000
namespace Go.Proofs.YtoblljobcafecaaGreatDoor
open Go.SX
def eS (p : List UInt8) : D := .v (.string (mkS p))
theorem eS_nil : (.v (.string ⟨#[]⟩) : D) = eS [] := rfl
theorem un_eS (p : List UInt8) : un_s (eS p) = some (mkS p) := rfl
theorem room16 {k : Nat} (h : k ≤ 100000) : roomP 16 k := by unfold roomP; omega
theorem i64 {m : Int} (h1 : -1000000000000 ≤ m) (h2 : m ≤ 1000000000000) : inI64 m := by unfold inI64; omega

/-- The reference's loop over the bytes. -/
theorem refSplit_loop (n : Nat) (l : List UInt8) (c : UInt8) (hl : l.length ≤ 900) : ∀ (rest : List UInt8) (i fr : Nat) (acc : List (List UInt8)) (k : Nat), l.drop i = rest → fr ≤ i → i ≤ l.length → acc.length ≤ i → rest.length < k →
    ∃ (fr' : Nat) (acc' : List (List UInt8)), loopF (F_ref01_Split_L1 n (mkS l) (c.toNat : Int)) k ((fr : Int), (i : Int), acc.map eS) = some ((fr' : Int), acc'.map eS) ∧ fr' ≤ l.length ∧ acc'.length ≤ l.length ∧ acc' ++ [l.drop fr'] = acc ++ pre ((l.take i).drop fr) (spl c rest)
  | _, _, _, _, 0, _, _, _, _, hk => absurd hk (by omega)
  | [], i, fr, acc, k + 1, hd, hf, hi, ha, _ => by
    have hie : i = l.length := by
      have := List.drop_eq_nil_iff.1 hd; omega
    refine ⟨fr, acc, ?_, by omega, by omega, ?_⟩
    · refine loopF_r ?_
      unfold F_ref01_Split_L1
      rw [if_neg (by rw [mk_size]; dsimp only; omega)]
    · rw [hie, List.take_length]
      simp [spl, pre]
  | x :: rest, i, fr, acc, k + 1, hd, hf, hi, ha, hk => by
    have hil : i < l.length := by
      rcases Nat.lt_or_ge i l.length with h | h
      · exact h
      · rw [List.drop_eq_nil_of_le h] at hd; cases hd
    have hx : l[i]? = some x := by
      have := List.drop_eq_getElem_cons hil
      rw [hd] at this
      rw [List.getElem?_eq_getElem hil]
      exact congrArg some (List.cons.inj this).1.symm
    have hd' : l.drop (i + 1) = rest := by
      have := List.drop_eq_getElem_cons hil
      rw [hd] at this
      exact (List.cons.inj this).2.symm
    have hcast : (i : Int) + 1 = ((i + 1 : Nat) : Int) := by simp
    by_cases hxc : x = c
    · subst hxc
      obtain ⟨fr', acc', h1, h2, h3, h4⟩ := refSplit_loop n l x hl rest (i + 1) (i + 1) (acc ++ [(l.take i).drop fr]) k hd' (Nat.le_refl _) hil (by simp; omega) (by simp at hk; omega)
      refine ⟨fr', acc', ?_, h2, h3, ?_⟩
      · rw [loopF_l (s' := (((i + 1 : Nat) : Int), ((i + 1 : Nat) : Int), (acc ++ [(l.take i).drop fr]).map eS))]
        · exact h1
        · unfold F_ref01_Split_L1
          dsimp only
          rw [if_pos (by rw [mk_size]; omega), strAt_mk, hx, Option.map_some, Option.bind_some, if_pos rfl, sub_mk l hf (by omega), Option.bind_some, if_pos (by rw [List.length_map]; exact room16 (by omega)), if_pos (i64 (by omega) (by omega)), hcast, List.map_append]
          rfl
      · rw [h4, spl_sep, show (l.take (i + 1)).drop (i + 1) = [] from List.drop_eq_nil_of_le (by simp; omega), pre_nil (spl_ne x rest)]
        simp [pre]
    · obtain ⟨fr', acc', h1, h2, h3, h4⟩ := refSplit_loop n l c hl rest (i + 1) fr acc k hd' (by omega) hil (by omega) (by simp at hk; omega)
      refine ⟨fr', acc', ?_, h2, h3, ?_⟩
      · rw [loopF_l (s' := ((fr : Int), ((i + 1 : Nat) : Int), acc.map eS))]
        · exact h1
        · unfold F_ref01_Split_L1
          dsimp only
          rw [if_pos (by rw [mk_size]; omega), strAt_mk, hx, Option.map_some, Option.bind_some, if_neg (fun e => hxc (UInt8.toNat_inj.1 (by omega))), if_pos (i64 (by omega) (by omega)), hcast]
      · rw [h4, spl_cons c x rest hxc, pre_pre _ _ (spl_ne c rest)]
        congr 2
        rw [List.take_add_one, hx, List.drop_append_of_le_length (by simp; omega)]
        rfl
theorem refSplit_eq {n : Nat} (hn : 1000 ≤ n) {l : List UInt8} (c : UInt8) (hl : l.length ≤ 900) : F_ref01_Split n (mkS l) (c.toNat : Int) = some ((spl c l).map eS) := by
  obtain ⟨fr, acc, h1, h2, h3, h4⟩ := refSplit_loop n l c hl l 0 0 [] n rfl (Nat.le_refl _) (Nat.zero_le _) (by simp) (by omega)
  unfold F_ref01_Split
  have h1' : loopF (F_ref01_Split_L1 n (mkS l) (c.toNat : Int)) n (0, 0, []) = some ((fr : Int), acc.map eS) := h1
  rw [h1', Option.bind_some]
  dsimp only
  rw [sub_from l h2, Option.bind_some, if_pos (by rw [List.length_map]; exact room16 (by omega))]
  have h5 : acc ++ [l.drop fr] = spl c l := by rw [h4, List.nil_append, List.take_zero, List.drop_nil, pre_nil (spl_ne c l)]
  rw [← h5, List.map_append]
  rfl

theorem index_eq (n : Nat) (l : List UInt8) : F_strings_Index n (mkS l) = some (Lib.indexByte l 32) := by
  unfold F_strings_Index F_stringslite_Index
  have e : (⟨#[32]⟩ : ByteArray) = mkS [32] := rfl
  rw [e, beq_mk]
  by_cases h : [32] = l
  · rw [if_pos (decide_eq_true h), ← h]; rfl
  · rw [if_neg (by simpa using h)]
    unfold F_lite_IndexByte
    rw [data_mk]; rfl
theorem genSplit_loop (n : Nat) (l : List UInt8) (hl : l.length ≤ 900) : ∀ (m : Nat) (done : List (List UInt8)) (s : List UInt8) (k : Nat), s.count 32 = m → done.length + m = l.count 32 → spl 32 l = done ++ spl 32 s → s.length ≤ 900 → m < k →
    ∃ (done' : List (List UInt8)) (s' : List UInt8), loopF (F_strings_genSplit_L1 n (mkS l) ((l.count 32 : Nat) : Int)) k (mkS s, (done.length : Int), done.map eS ++ List.replicate (m + 1) (eS [])) = some (mkS s', ((l.count 32 : Nat) : Int), done'.map eS ++ [eS []]) ∧ done'.length = l.count 32 ∧ spl 32 l = done' ++ [s']
  | _, _, _, 0, _, _, _, _, hk => absurd hk (by omega)
  | 0, done, s, k + 1, hm, hd, hs, _, _ => by
    have hfree : (32 : UInt8) ∉ s := List.count_eq_zero.1 hm
    have hcl : l.count 32 ≤ l.length := List.count_le_length
    refine ⟨done, s, ?_, by omega, by rw [hs, spl_miss 32 s hfree]⟩
    have hmin : minI (((l.count 32 : Nat) : Int) + 1) (((mkS l).size : Int) + 1) = ((l.count 32 : Nat) : Int) + 1 := by rw [mk_size]; unfold minI; split <;> omega
    rw [loopF_r (e := (mkS s, (done.length : Int), done.map eS ++ List.replicate 1 (eS [])))]
    · rw [show done.length = l.count 32 by omega]; rfl
    · unfold F_strings_genSplit_L1
      dsimp only
      rw [hmin, if_neg (by omega)]
  | m + 1, done, s, k + 1, hm, hd, hs, hsl, hk => by
    have hcl : l.count 32 ≤ l.length := List.count_le_length
    have hmin : minI (((l.count 32 : Nat) : Int) + 1) (((mkS l).size : Int) + 1) = ((l.count 32 : Nat) : Int) + 1 := by rw [mk_size]; unfold minI; split <;> omega
    obtain ⟨a, b, rfl, hab⟩ := hit_of (List.count_pos_iff.1 (show 0 < s.count 32 by omega))
    have hcb : b.count 32 = m := by
      rw [List.count_append, List.count_cons_self, List.count_eq_zero.2 hab] at hm; omega
    have hlen : a.length + b.length + 1 ≤ 900 := by simp at hsl; omega
    obtain ⟨done', s', h1, h2, h3⟩ := genSplit_loop n l hl m (done ++ [a]) b k hcb (by simp; omega) (by rw [hs, spl_hit 32 a b hab]; simp) (by omega) (by omega)
    refine ⟨done', s', ?_, h2, h3⟩
    rw [loopF_l (s' := (mkS b, ((done ++ [a]).length : Int), (done ++ [a]).map eS ++ List.replicate (m + 1) (eS [])))]
    · exact h1
    · unfold F_strings_genSplit_L1
      dsimp only
      have hal : (a ++ 32 :: b).length = a.length + b.length + 1 := by simp; omega
      have hrow : (done.map eS ++ List.replicate (m + 1 + 1) (eS [])).length = done.length + m + 2 := by simp; omega
      rw [hmin, if_pos (by omega), index_eq, Option.bind_some, index_hit b hab, if_neg (by omega), if_pos (i64 (by omega) (by omega)), Int.add_zero, sub_to _ (by omega), Option.bind_some,
        if_pos (by rw [hrow]; omega), if_pos (by rw [hrow, Int.toNat_natCast]; omega), if_pos (i64 (by omega) (by omega))]
      rw [show (a.length : Int) + 1 = ((a.length + 1 : Nat) : Int) by simp, sub_from _ (by omega), Option.bind_some, if_pos (i64 (by omega) (by omega))]
      have e1 : (a ++ 32 :: b).drop (a.length + 1) = b := by simp
      have e2 : (a ++ 32 :: b).take a.length = a := by simp
      have e3 : (done.map eS ++ List.replicate (m + 1 + 1) (eS [])).set (Int.toNat (done.length : Int)) (.v (.string (mkS a))) = (done ++ [a]).map eS ++ List.replicate (m + 1) (eS []) := by
        rw [Int.toNat_natCast, List.set_append_right _ _ (by simp)]
        simp [List.replicate_succ, eS]
      rw [e1, e2, e3]
      simp
theorem split_eq {n : Nat} (hn : 1000 ≤ n) {l : List UInt8} (hl : l.length ≤ 900) : F_strings_Split n (mkS l) = some ((spl 32 l).map eS) := by
  have hcl : l.count 32 ≤ l.length := List.count_le_length
  obtain ⟨done, s, h1, h2, h3⟩ := genSplit_loop n l hl (l.count 32) [] l n rfl (by simp) (by simp) hl (by omega)
  have hmin : minI (((l.count 32 : Nat) : Int) + 1) (((mkS l).size : Int) + 1) = ((l.count 32 + 1 : Nat) : Int) := by rw [mk_size]; unfold minI; split <;> omega
  unfold F_strings_Split F_strings_genSplit
  have hcount : F_strings_Count n (mkS l) ⟨#[32]⟩ = some ((l.count 32 : Nat) : Int) := by
    show some ((Lib.countByte (mkS l).data.toList 32 : Nat) : Int) = _
    rw [data_mk]; rfl
  rw [hcount, Option.bind_some, if_pos (i64 (by omega) (by omega)), if_pos (by rw [mk_size]; exact i64 (by omega) (by omega)), hmin, if_pos (by omega), if_pos (i64 (by omega) (by omega))]
  rw [Int.toNat_natCast, eS_nil]
  have h1' : loopF (F_strings_genSplit_L1 n (mkS l) ((l.count 32 : Nat) : Int)) n (mkS l, 0, List.replicate (l.count 32 + 1) (eS [])) = some (mkS s, ((l.count 32 : Nat) : Int), done.map eS ++ [eS []]) := h1
  rw [h1', Option.bind_some]
  dsimp only
  have hrow : (done.map eS ++ [eS []]).length = l.count 32 + 1 := by simp [h2]
  have e3 : (done.map eS ++ [eS []]).set (Int.toNat ((l.count 32 : Nat) : Int)) (.v (.string (mkS s))) = (spl 32 l).map eS := by
    rw [Int.toNat_natCast, List.set_append_right _ _ (by simp [h2]), h3]
    simp [h2, eS]
  have hlen : ((spl 32 l).map eS).length = l.count 32 + 1 := by rw [List.length_map, spl_count]
  rw [if_pos (by rw [hrow]; omega), if_pos (by rw [hrow, Int.toNat_natCast]; omega), if_pos (i64 (by omega) (by omega)), e3, if_pos (by rw [hlen]; exact ⟨by decide, by omega, by omega, .inr rfl⟩)]
  rw [show Int.toNat (((l.count 32 : Nat) : Int) + 1) = l.count 32 + 1 by omega, ← hlen, List.take_length]
  rfl
end Go.Proofs.YtoblljobcafecaaGreatDoor
