/-
  Plain lemmas on axes, spots, models and targets, as in the laws of the drive. An own text.
-/
import Derived.Test.YtegcijomjkffgaaDoorAnvil3
import Derived.Test.YtegcijomjkffgaaDoorSxTwentyFive
set_option linter.unusedVariables false
set_option linter.unusedSimpArgs false
set_option linter.unnecessarySimpa false
set_option maxRecDepth 20000
namespace Go.Proofs.YtegcijomjkffgaaDoor
open Go.SX

def firstNZ : List Int → Int
  | [] => 0
  | x :: l => if x = 0 then firstNZ l else x
theorem el_map {ms : List Int} {i : Nat} {x : Int} (h : ms[i]? = some x) : el un_i (ms.map I) (i : Int) = some x := by
  unfold el
  rw [if_pos (Int.natCast_nonneg i), Int.toNat_natCast, nth_get?, List.getElem?_map, h]
  rfl
def firstE (ms : List Int) : Int ⊕ Unit := if firstNZ ms = 0 then .inr () else .inl (firstNZ ms)
theorem firstE_nil : firstE [] = .inr () := rfl
theorem firstE_zero {x : Int} {l : List Int} (h : x = 0) : firstE (x :: l) = firstE l := by simp [firstE, firstNZ, h]
theorem firstE_some {x : Int} {l : List Int} (h : x ≠ 0) : firstE (x :: l) = .inl x := by simp [firstE, firstNZ, h]
theorem first_loop (n : Nat) (ms : List Int) (hm : ms.length < 9223372036854775807) : ∀ (k : Nat) (i : Nat), i ≤ ms.length → ms.length < i + k →
    loopF (F_drive_first_L1 n (ms.map I)) k (i : Int) = some (firstE (ms.drop i))
  | 0, i, h, hk => by omega
  | k + 1, i, h, hk => by
    by_cases hi : i < ms.length
    · have hx := List.getElem?_eq_getElem hi
      rw [List.drop_eq_getElem_cons hi]
      have hl : (i : Int) < ((ms.map I).length : Int) := by simp; omega
      by_cases h0 : ms[i] = 0
      · rw [loopF_l (s' := ((i + 1 : Nat) : Int)), firstE_zero h0]
        · exact first_loop n ms hm k (i + 1) hi (by omega)
        · unfold F_drive_first_L1
          rw [if_pos hl, el_map hx, Option.bind_some, if_pos h0, if_pos (by unfold inI64; omega)]; rfl
      · rw [loopF_r (e := .inl ms[i]), firstE_some h0]
        unfold F_drive_first_L1
        rw [if_pos hl, el_map hx, Option.bind_some, if_neg h0]
    · rw [loopF_r (e := .inr ()), List.drop_eq_nil_of_le (by omega), firstE_nil]
      unfold F_drive_first_L1
      rw [if_neg (by simp; omega)]
theorem refFirst_loop (n : Nat) (ms : List Int) (hm : ms.length < 9223372036854775807) : ∀ (k : Nat) (i : Nat), i ≤ ms.length → ms.length < i + k →
    loopF (F_ref01_First_L1 n (ms.map I)) k (i : Int) = some (firstE (ms.drop i))
  | 0, i, h, hk => by omega
  | k + 1, i, h, hk => by
    by_cases hi : i < ms.length
    · have hx := List.getElem?_eq_getElem hi
      rw [List.drop_eq_getElem_cons hi]
      have hl : (i : Int) < ((ms.map I).length : Int) := by simp; omega
      by_cases h0 : ms[i] = 0
      · rw [loopF_l (s' := ((i + 1 : Nat) : Int)), firstE_zero h0]
        · exact refFirst_loop n ms hm k (i + 1) hi (by omega)
        · unfold F_ref01_First_L1
          rw [if_pos hl, el_map hx, Option.bind_some, if_pos h0, if_pos (by unfold inI64; omega)]; rfl
      · rw [loopF_r (e := .inl ms[i]), firstE_some h0]
        unfold F_ref01_First_L1
        rw [if_pos hl, el_map hx, Option.bind_some, if_neg h0]
    · rw [loopF_r (e := .inr ()), List.drop_eq_nil_of_le (by omega), firstE_nil]
      unfold F_ref01_First_L1
      rw [if_neg (by simp; omega)]
theorem first_eq {n : Nat} (ms : List Int) (hm : ms.length < 9223372036854775807) (hn : ms.length < n) : F_drive_first n (ms.map I) = some (firstNZ ms) := by
  unfold F_drive_first
  have := first_loop n ms hm n 0 (Nat.zero_le _) (by omega)
  simp only [Int.natCast_zero, List.drop_zero] at this
  rw [show (0 : Int) = ((0 : Nat) : Int) from rfl] at this ⊢
  rw [this, Option.bind_some]
  unfold firstE
  split
  · rename_i h; split at h
    · cases h
    · cases h; rfl
  · rename_i h; split at h
    · rename_i h0; rw [h0]; rfl
    · cases h
theorem refFirst_eq {n : Nat} (ms : List Int) (hm : ms.length < 9223372036854775807) (hn : ms.length < n) : F_ref01_First n (ms.map I) = some (firstNZ ms) := by
  unfold F_ref01_First
  have := refFirst_loop n ms hm n 0 (Nat.zero_le _) (by omega)
  simp only [Int.natCast_zero, List.drop_zero] at this
  rw [show (0 : Int) = ((0 : Nat) : Int) from rfl] at this ⊢
  rw [this, Option.bind_some]
  unfold firstE
  split
  · rename_i h; split at h
    · cases h
    · cases h; rfl
  · rename_i h; split at h
    · rename_i h0; rw [h0]; rfl
    · cases h
theorem first2 {n : Nat} (hn : 10 ≤ n) (a b : Int) : F_drive_first n [I a, I b] = some (firstNZ [a, b]) := first_eq [a, b] (by simp) (by simp; omega)
theorem first3 {n : Nat} (hn : 10 ≤ n) (a b c : Int) : F_drive_first n [I a, I b, I c] = some (firstNZ [a, b, c]) := first_eq [a, b, c] (by simp) (by simp; omega)
theorem refFirst2 {n : Nat} (hn : 10 ≤ n) (a b : Int) : F_ref01_First n [I a, I b] = some (firstNZ [a, b]) := refFirst_eq [a, b] (by simp) (by simp; omega)
theorem refFirst3 {n : Nat} (hn : 10 ≤ n) (a b c : Int) : F_ref01_First n [I a, I b, I c] = some (firstNZ [a, b, c]) := refFirst_eq [a, b, c] (by simp) (by simp; omega)
theorem refFirst4 {n : Nat} (hn : 10 ≤ n) (a b c d : Int) : F_ref01_First n [I a, I b, I c, I d] = some (firstNZ [a, b, c, d]) := refFirst_eq [a, b, c, d] (by simp) (by simp; omega)
def inR (x lo hi : Int) : Int := if x < lo then 3 else if x > hi then 3 else 0
theorem within_eq (n : Nat) (x lo hi : Int) : F_drive_within_3 n x lo hi = some (inR x lo hi) := by
  unfold F_drive_within_3 F_drive_when_6 F_drive_when_5 inR
  by_cases h : x < lo
  · simp [h]
  · by_cases h2 : x > hi
    · simp [h, h2]
    · simp [h, h2]
theorem range_eq (n : Nat) (x lo hi : Int) : F_ref01_CheckRange n x lo hi = some (inR x lo hi) := by
  unfold F_ref01_CheckRange F_ref01_When F_ref01_When_2 inR
  by_cases h : x < lo
  · simp [h]
  · by_cases h2 : x > hi
    · simp [h, h2]
    · simp [h, h2]
def whenI (b : Bool) (e : Int) : Int := if b then e else 0
theorem when_eq (n : Nat) (b : Bool) (e : Int) : F_drive_when_5 n b e = some (whenI b e) := by
  unfold F_drive_when_5 whenI; cases b <;> rfl
theorem refWhen_eq (n : Nat) (b : Bool) (e : Int) : F_ref01_When_2 n b e = some (whenI b e) := by
  unfold F_ref01_When_2 whenI; cases b <;> rfl
def axisE (a0 a1 a2 : Int) : Int := firstNZ [inR a0 (-1000) 1000, inR a1 (-1000) 1000, whenI (decide (a0 > a1)) 11, inR a2 0 50]
theorem checkAxis_eq {n : Nat} (hn : 10 ≤ n) (a0 a1 a2 : Int) : F_drive_CheckAxis n a0 a1 a2 = some (axisE a0 a1 a2) := by
  have hw : IntKind.wrap .i64 (0 - 1000) = -1000 := by decide
  unfold F_drive_CheckAxis F_drive_checkEnds_2
  simp only [within_eq, when_eq, hw, Option.bind_some, first3 hn, first2 hn, Option.some.injEq]
  unfold axisE
  simp only [firstNZ]
  repeat' split
  all_goals first | rfl | omega
theorem refAxis_eq {n : Nat} (hn : 10 ≤ n) (a0 a1 a2 : Int) : F_ref03_CheckAxis n a0 a1 a2 = some (axisE a0 a1 a2) := by
  unfold F_ref03_CheckAxis
  simp only [range_eq, refWhen_eq, Option.bind_some, refFirst4 hn]
  rfl
def stateE (a0 a1 a2 a3 a4 a5 : Int) : Int :=
  if firstNZ [axisE a0 a1 a2, inR a3 a0 a1, whenI (decide (a4 > a5)) 11] = 0 then if a4 < a3 - a2 then 24 else whenI (decide (a5 > a3)) 24
  else firstNZ [axisE a0 a1 a2, inR a3 a0 a1, whenI (decide (a4 > a5)) 11]
theorem axisE_zero {a0 a1 a2 : Int} (h : axisE a0 a1 a2 = 0) : -1000 ≤ a0 ∧ a0 ≤ a1 ∧ a1 ≤ 1000 ∧ 0 ≤ a2 ∧ a2 ≤ 50 := by
  unfold axisE firstNZ firstNZ firstNZ firstNZ firstNZ inR whenI at h
  simp only [decide_eq_true_eq] at h
  repeat' split at h
  all_goals omega
theorem inR_zero {x lo hi : Int} (h : inR x lo hi = 0) : lo ≤ x ∧ x ≤ hi := by
  unfold inR at h
  repeat' split at h
  all_goals omega
theorem refState_eq {n : Nat} (hn : 10 ≤ n) (a0 a1 a2 a3 a4 a5 : Int) : F_ref03_CheckState n a0 a1 a2 a3 a4 a5 = some (stateE a0 a1 a2 a3 a4 a5) := by
  unfold F_ref03_CheckState stateE
  simp only [refAxis_eq hn, range_eq, refWhen_eq, Option.bind_some, refFirst3 hn]
  by_cases h : firstNZ [axisE a0 a1 a2, inR a3 a0 a1, whenI (decide (a4 > a5)) 11] = 0
  · rw [if_pos h, if_pos h]
    have h1 : axisE a0 a1 a2 = 0 := by
      unfold firstNZ at h; split at h
      · assumption
      · assumption
    have h2 : inR a3 a0 a1 = 0 := by
      unfold firstNZ firstNZ at h; rw [if_pos h1] at h; split at h
      · assumption
      · assumption
    have q1 := axisE_zero h1
    have q2 := inR_zero h2
    rw [if_pos (by unfold inI64; omega)]
    split <;> rfl
  · rw [if_neg h, if_neg h]
theorem posed_eq {n : Nat} (hn : 10 ≤ n) (a0 a1 a2 a3 a4 a5 : Int) : F_drive_CheckState n a0 a1 a2 a3 a4 a5 = some (stateE a0 a1 a2 a3 a4 a5) := by
  unfold F_drive_CheckState F_drive_posed_check
  simp only [checkAxis_eq hn, within_eq, when_eq, Option.bind_some, first2 hn, F_drive_when_7]
  unfold stateE
  by_cases h1 : axisE a0 a1 a2 = 0
  · by_cases h2 : inR a3 a0 a1 = 0
    · have q1 := axisE_zero h1
      have q2 := inR_zero h2
      simp only [firstNZ, h1, h2, if_true, ite_true]
      rw [if_pos (by unfold inI64; omega)]
      by_cases h3 : a4 > a5
      · have e : whenI (decide (a4 > a5)) 11 = 11 := by simp [whenI, h3]
        rw [e]
        split <;> simp
      · have e : whenI (decide (a4 > a5)) 11 = 0 := by simp [whenI, h3]
        rw [e]
        split
        · simp
        · simp
          exact fun h => h.symm
    · simp [firstNZ, h1, h2]
  · simp [firstNZ, h1]
theorem stateE_zero {a0 a1 a2 a3 a4 a5 : Int} (h : stateE a0 a1 a2 a3 a4 a5 = 0) : (-1000 ≤ a0 ∧ a0 ≤ a1 ∧ a1 ≤ 1000 ∧ 0 ≤ a2 ∧ a2 ≤ 50) ∧ a0 ≤ a3 ∧ a3 ≤ a1 := by
  unfold stateE at h
  have key : firstNZ [axisE a0 a1 a2, inR a3 a0 a1, whenI (decide (a4 > a5)) 11] = 0 := by
    by_cases h1 : firstNZ [axisE a0 a1 a2, inR a3 a0 a1, whenI (decide (a4 > a5)) 11] = 0
    · exact h1
    · rw [if_neg h1] at h; exact h
  have h1 : axisE a0 a1 a2 = 0 := by
    unfold firstNZ at key; split at key
    · assumption
    · assumption
  have h2 : inR a3 a0 a1 = 0 := by
    unfold firstNZ firstNZ at key; rw [if_pos h1] at key; split at key
    · assumption
    · assumption
  exact ⟨axisE_zero h1, inR_zero h2⟩
theorem whenI_zero {b : Bool} {e : Int} (he : e ≠ 0) (h : whenI b e = 0) : b = false := by
  unfold whenI at h; cases b
  · rfl
  · exact absurd h he
theorem wrap64 {m : Int} (h : inI64 m) : IntKind.wrap .i64 m = m := by
  unfold inI64 at h
  rw [IntKind.wrap_i64]; omega
theorem firstNZ_zero : ∀ {l : List Int}, firstNZ l = 0 → ∀ x, x ∈ l → x = 0
  | [], _, x, hx => by cases hx
  | y :: l, h, x, hx => by
    unfold firstNZ at h
    by_cases hy : y = 0
    · rw [if_pos hy] at h
      rcases List.mem_cons.1 hx with rfl | hx
      · exact hy
      · exact firstNZ_zero h x hx
    · rw [if_neg hy] at h; exact absurd h hy
theorem firstNZ_cons (x : Int) (l : List Int) : firstNZ (x :: l) = if x = 0 then firstNZ l else x := rfl
theorem firstNZ_one (x : Int) : firstNZ [x] = x := by
  unfold firstNZ; split
  · rename_i h; rw [h]; rfl
  · rfl
theorem whenI_true (e : Int) : whenI true e = e := rfl
theorem whenI_false (e : Int) : whenI false e = 0 := rfl
theorem loop_acc {α E : Type} {step : Int × List D → Option ((Int × List D) ⊕ E)} (ex : List D → E) (l : List α) (f : α → List D) (hf : ∀ x, (f x).length ≤ 1)
    (hstep : ∀ (i : Nat) (out : List D) (x : α), l[i]? = some x → out.length ≤ i → step ((i : Int), out) = some (.inl (((i + 1 : Nat) : Int), out ++ f x)))
    (hend : ∀ out : List D, out.length ≤ l.length → step ((l.length : Int), out) = some (.inr (ex out))) {k : Nat} (hk : l.length < k) : loopF step k (0, []) = some (ex (l.flatMap f)) := by
  have := loopF_list0 (step := step) (E := E) (fun (s : List D) (x : α) => .inl (s ++ f x)) ex (fun i s => ((i : Int), s)) l (fun i s => s.length ≤ i)
    (fun i s x hx hi => ⟨hstep i s x hx hi, by
      rw [List.length_append]
      have := hf x
      omega⟩)
    (fun s hs => hend s hs) (k := k) (s := []) (Nat.zero_le _) hk
  have e : ∀ (l : List α) (s : List D), runL (E := E) (fun (s : List D) (x : α) => .inl (s ++ f x)) ex l s = ex (s ++ l.flatMap f) := by
    intro l
    induction l with
    | nil => intro s; simp [runL]
    | cons x l ih =>
      intro s
      show runL (E := E) (fun (s : List D) (x : α) => .inl (s ++ f x)) ex l (s ++ f x) = _
      rw [ih, List.flatMap_cons, List.append_assoc]
  rw [e, List.nil_append] at this
  exact this
theorem un3 (x : Int × Int × Int) : un_Ai3Z (enc_Ai3Z x) = some x := by simp [un_Ai3Z, enc_Ai3Z, un_int]
theorem flat1 {α β : Type} (f : α → β) (l : List α) : l.flatMap (fun x => [f x]) = l.map f := by
  induction l with
  | nil => rfl
  | cons x l ih => rw [List.flatMap_cons, ih]; rfl
theorem lenlt {α β : Type} {f : α → β} {l : List α} {i : Nat} {x : α} (h : l[i]? = some x) : (i : Int) < ((l.map f).length : Int) := by
  have := (List.getElem?_eq_some_iff.1 h).1
  simp; omega
theorem ixlt {α : Type} {l : List α} {i : Nat} {x : α} (h : l[i]? = some x) : i < l.length := (List.getElem?_eq_some_iff.1 h).1
theorem notlt {α β : Type} {f : α → β} {l : List α} : ¬ ((l.length : Int) < ((l.map f).length : Int)) := by simp
def ivE (lo hi a b : Int) : Int := firstNZ [inR lo a b, inR hi a b, whenI (decide (lo > hi)) 11]
theorem ivE_zero {lo hi a b : Int} (h : ivE lo hi a b = 0) : a ≤ lo ∧ lo ≤ hi ∧ hi ≤ b := by
  have hz := firstNZ_zero h
  have h0 := inR_zero (hz (inR lo a b) (by simp))
  have h1 := inR_zero (hz (inR hi a b) (by simp))
  have h2 := whenI_zero (by decide) (hz (whenI (decide (lo > hi)) 11) (by simp))
  simp only [decide_eq_false_iff_not] at h2
  omega
theorem ends_eq {n : Nat} (hn : 10 ≤ n) (lo hi : Int) {m : Int} (hm : 0 ≤ m ∧ m ≤ 9000000000000) : F_drive_checkEnds_2 n lo hi m = some (ivE lo hi (-m) m) := by
  unfold F_drive_checkEnds_2
  have hw : IntKind.wrap .i64 (0 - m) = -m := by
    rw [wrap64 (by unfold inI64; omega)]; omega
  rw [hw]
  simp only [within_eq, when_eq, Option.bind_some, first3 hn]
  rfl
def spotE (c lo hi : Int) : Int := firstNZ [inR c (-1000) 1000, ivE lo hi (-1000000) 1000000]
theorem spotE_zero {c lo hi : Int} (h : spotE c lo hi = 0) : (-1000 ≤ c ∧ c ≤ 1000) ∧ -1000000 ≤ lo ∧ lo ≤ hi ∧ hi ≤ 1000000 := by
  have hz := firstNZ_zero h
  exact ⟨inR_zero (hz (inR c (-1000) 1000) (by simp)), ivE_zero (hz (ivE lo hi (-1000000) 1000000) (by simp))⟩
theorem spot_eq {n : Nat} (hn : 10 ≤ n) (c lo hi : Int) : F_drive_Spot_check n c lo hi = some (spotE c lo hi) := by
  unfold F_drive_Spot_check
  rw [within_eq, Option.bind_some, ends_eq hn lo hi (by omega), Option.bind_some, first2 hn]
  rfl
def bandE (last : Int) (b : Int × Int × Int) : Int := firstNZ [inR b.1 (-1000) 1000, ivE b.2.1 b.2.2 (-2000000) 2000000, whenI (decide (b.1 ≤ last)) 11]
def modelG (last : Int) (b : Int × Int × Int) : Int ⊕ (Int ⊕ Unit) := if bandE last b = 0 then .inl b.1 else .inr (.inl (bandE last b))
def outM : Int ⊕ Unit → Int
  | .inl e => e
  | .inr _ => 0
def modelE (l : List (Int × Int × Int)) : Int := if l.length = 0 then 12 else if l.length > 64 then 5 else outM (runL modelG (fun _ => .inr ()) l (-1001))
def BandOk (b : Int × Int × Int) : Prop := (-1000 ≤ b.1 ∧ b.1 ≤ 1000) ∧ -2000000 ≤ b.2.1 ∧ b.2.1 ≤ b.2.2 ∧ b.2.2 ≤ 2000000
theorem bandE_zero {last : Int} {b : Int × Int × Int} (h : bandE last b = 0) : BandOk b ∧ last < b.1 := by
  have hz := firstNZ_zero h
  have h2 := whenI_zero (by decide) (hz (whenI (decide (b.1 ≤ last)) 11) (by simp))
  simp only [decide_eq_false_iff_not] at h2
  exact ⟨⟨inR_zero (hz (inR b.1 (-1000) 1000) (by simp)), ivE_zero (hz (ivE b.2.1 b.2.2 (-2000000) 2000000) (by simp))⟩, by omega⟩
theorem modelRun_zero : ∀ (l : List (Int × Int × Int)) (last : Int), outM (runL modelG (fun _ => .inr ()) l last) = 0 → ∀ b, b ∈ l → BandOk b
  | [], _, _, b, hb => by cases hb
  | c :: l, last, h, b, hb => by
    unfold runL at h
    by_cases hc : bandE last c = 0
    · have hg : modelG last c = .inl c.1 := by unfold modelG; rw [if_pos hc]
      rw [hg] at h
      rcases List.mem_cons.1 hb with rfl | hb
      · exact (bandE_zero hc).1
      · exact modelRun_zero l _ h b hb
    · have hg : modelG last c = .inr (.inl (bandE last c)) := by unfold modelG; rw [if_neg hc]
      rw [hg] at h
      exact absurd h hc
theorem modelE_zero {l : List (Int × Int × Int)} (h : modelE l = 0) : (0 < l.length ∧ l.length ≤ 64) ∧ ∀ b, b ∈ l → BandOk b := by
  unfold modelE at h
  by_cases h0 : l.length = 0
  · rw [if_pos h0] at h; cases h
  · rw [if_neg h0] at h
    by_cases h1 : l.length > 64
    · rw [if_pos h1] at h; cases h
    · rw [if_neg h1] at h
      exact ⟨by omega, modelRun_zero l _ h⟩
theorem model_loop {n : Nat} (hn : 10 ≤ n) (l : List (Int × Int × Int)) (hl : l.length < 1000000) {k : Nat} (hk : l.length < k) :
    loopF (F_drive_CheckModel_2_L1 n (l.map enc_Ai3Z)) k (-1001, 0) = some (runL modelG (fun _ => .inr ()) l (-1001)) :=
  loopF_list0 (step := F_drive_CheckModel_2_L1 n (l.map enc_Ai3Z)) modelG (fun _ => .inr ()) (fun i s => (s, (i : Int))) l (fun _ _ => True)
    (fun i s x hx _ => by
      have hi := ixlt hx
      have key : F_drive_CheckModel_2_L1 n (l.map enc_Ai3Z) (s, (i : Int)) = if bandE s x = 0 then (if inI64 ((i : Int) + 1) then some (.inl (x.1, (i : Int) + 1)) else none) else some (.inr (.inl (bandE s x))) := by
        unfold F_drive_CheckModel_2_L1
        dsimp only
        rw [if_pos (lenlt hx), el_enc un3 hx, Option.bind_some, within_eq, Option.bind_some, ends_eq hn _ _ (by omega), Option.bind_some, when_eq, Option.bind_some, first3 hn, Option.bind_some]
        rfl
      rw [if_pos (show inI64 ((i : Int) + 1) by unfold inI64; omega)] at key
      unfold modelG
      by_cases h : bandE s x = 0
      · rw [if_pos h]; rw [if_pos h] at key; exact ⟨key, trivial⟩
      · rw [if_neg h]; rw [if_neg h] at key; exact key)
    (fun s _ => by
      unfold F_drive_CheckModel_2_L1
      rw [if_neg notlt]) trivial hk
theorem checkModel_eq {n : Nat} (hn : 1000 ≤ n) (l : List (Int × Int × Int)) (hl : l.length < 1000) : F_drive_CheckModel_2 n (l.map enc_Ai3Z) = some (modelE l) := by
  unfold F_drive_CheckModel_2 modelE
  rw [when_eq, Option.bind_some, when_eq, Option.bind_some, first2 (by omega), Option.bind_some, List.length_map]
  by_cases h0 : l.length = 0
  · rw [if_pos h0, h0]; rfl
  · have e0 : (((l.length : Int) == 0) : Bool) = false := by simpa using (by omega : ¬ l.length = 0)
    rw [if_neg h0, e0, whenI_false]
    by_cases h1 : l.length > 64
    · rw [if_pos h1, decide_eq_true (by omega : (l.length : Int) > 64)]; rfl
    · rw [if_neg h1, decide_eq_false (by omega : ¬ (l.length : Int) > 64), whenI_false, if_pos (by rfl), model_loop (by omega) l (by omega) (by omega), Option.bind_some]
      cases runL modelG (fun _ => .inr ()) l (-1001) <;> rfl
theorem mul_b {g c : Int} (hg : -1000 ≤ g ∧ g ≤ 1000) (hc : -1000 ≤ c ∧ c ≤ 1000) : -1000000 ≤ g * c ∧ g * c ≤ 1000000 := by
  have h := Int.natAbs_mul g c
  have h1 : g.natAbs * c.natAbs ≤ 1000 * 1000 := Nat.mul_le_mul (by omega) (by omega)
  omega
def permE (b : Int × Int × Int) (x : Int × Int × Int) : Int × Int × Int := (b.1, maxI b.2.1 (x.2.1 - b.1 * x.1), minI b.2.2 (x.2.2 - b.1 * x.1))
structure SpotOk (x : Int × Int × Int) : Prop where
  c : -1000 ≤ x.1 ∧ x.1 ≤ 1000
  l : -1000000 ≤ x.2.1
  m : x.2.1 ≤ x.2.2
  h : x.2.2 ≤ 1000000
theorem seen_eq {n : Nat} {b x : Int × Int × Int} (hg : -1000 ≤ b.1 ∧ b.1 ≤ 1000) (hx : SpotOk x) :
    F_drive_Band_seen n b.1 b.2.1 b.2.2 x.1 x.2.1 x.2.2 = some ((permE b x).1, (permE b x).2.1, (permE b x).2.2, decide ((permE b x).2.1 ≤ (permE b x).2.2)) := by
  have hm := mul_b hg hx.c
  have := hx.l; have := hx.m; have := hx.h
  unfold F_drive_Band_seen F_drive_both
  rw [if_pos (by unfold inI64; omega), if_pos (by unfold inI64; omega), if_pos (by unfold inI64; omega), Option.bind_some]
  rfl
theorem mul_c {g c : Int} (hg : -1000 ≤ g ∧ g ≤ 1000) (hc : -1100 ≤ c ∧ c ≤ 1100) : -1100000 ≤ g * c ∧ g * c ≤ 1100000 := by
  have h := Int.natAbs_mul g c
  have h1 : g.natAbs * c.natAbs ≤ 1000 * 1100 := Nat.mul_le_mul (by omega) (by omega)
  omega
def loB (cl ch : Int) (b : Int × Int × Int) : Int := b.2.1 + minI (b.1 * cl) (b.1 * ch)
def hiB (cl ch : Int) (b : Int × Int × Int) : Int := b.2.2 + maxI (b.1 * cl) (b.1 * ch)
theorem loB_b {cl ch : Int} {b : Int × Int × Int} (hb : BandOk b) (hl : -1100 ≤ cl ∧ cl ≤ 1100) (hh : -1100 ≤ ch ∧ ch ≤ 1100) : (-4000000 ≤ loB cl ch b ∧ loB cl ch b ≤ 4000000) ∧ (-4000000 ≤ hiB cl ch b ∧ hiB cl ch b ≤ 4000000) ∧ loB cl ch b ≤ hiB cl ch b := by
  obtain ⟨q0, q1, q2, q3⟩ := hb
  have h1 := mul_c q0 hl
  have h2 := mul_c q0 hh
  unfold loB hiB minI maxI
  generalize b.1 * cl = x at *
  generalize b.1 * ch = y at *
  repeat' split
  all_goals omega
def plG (cl ch : Int) (p : Int × Int) (b : Int × Int × Int) : Int × Int := (minI p.1 (loB cl ch b), maxI p.2 (hiB cl ch b))
def placesE (cl ch : Int) : List (Int × Int × Int) → Int × Int
  | [] => (0, 0)
  | b :: l => l.foldl (plG cl ch) (loB cl ch b, hiB cl ch b)
theorem minI_self (a : Int) : minI a a = a := by unfold minI; split <;> rfl
theorem maxI_self (a : Int) : maxI a a = a := by unfold maxI; split <;> rfl
theorem pl_fold (cl ch : Int) (hl : -1100 ≤ cl ∧ cl ≤ 1100) (hh : -1100 ≤ ch ∧ ch ≤ 1100) : ∀ (l : List (Int × Int × Int)) (p : Int × Int), (∀ b, b ∈ l → BandOk b) → p.1 ≤ p.2 → (l.foldl (plG cl ch) p).1 ≤ (l.foldl (plG cl ch) p).2
  | [], p, _, hp => hp
  | b :: l, p, hb, hp => by
    refine pl_fold cl ch hl hh l (plG cl ch p b) (fun c hc => hb c (List.mem_cons_of_mem _ hc)) ?_
    have := loB_b (hb b List.mem_cons_self) hl hh
    show minI p.1 (loB cl ch b) ≤ maxI p.2 (hiB cl ch b)
    unfold minI maxI
    repeat' split
    all_goals omega
theorem places_le {cl ch : Int} {l : List (Int × Int × Int)} (hb : ∀ b, b ∈ l → BandOk b) (hl : -1100 ≤ cl ∧ cl ≤ 1100) (hh : -1100 ≤ ch ∧ ch ≤ 1100) : (placesE cl ch l).1 ≤ (placesE cl ch l).2 := by
  cases l with
  | nil => exact Int.le_refl _
  | cons b l => exact pl_fold cl ch hl hh l _ (fun c hc => hb c (List.mem_cons_of_mem _ hc)) (loB_b (hb b List.mem_cons_self) hl hh).2.2
def wiG (cl ch : Int) (s : Option (Int × Int)) (b : Int × Int × Int) : Option (Int × Int) ⊕ (Int × Int) := .inl (some (match s with
  | none => (loB cl ch b, hiB cl ch b)
  | some p => plG cl ch p b))
def opt0 : Option (Int × Int) → Int × Int
  | none => (0, 0)
  | some p => p
theorem wi_run (cl ch : Int) : ∀ (l : List (Int × Int × Int)) (p : Int × Int), runL (wiG cl ch) opt0 l (some p) = l.foldl (plG cl ch) p
  | [], _ => rfl
  | b :: l, p => wi_run cl ch l (plG cl ch p b)
def four (cl ch : Int) (b : Int × Int × Int) : List Int := [b.2.1 + b.1 * cl, b.2.1 + b.1 * ch, b.2.2 + b.1 * cl, b.2.2 + b.1 * ch]
theorem end10 {n : Nat} {a b : Int} (ha : inI64 a) : F_drive_end_5 n a b 1 0 = some a := by
  have e1 : (1 : Int) * a = a := Int.one_mul a
  have e2 : (0 : Int) * b = 0 := Int.zero_mul b
  have e3 : a + 0 = a := Int.add_zero a
  unfold F_drive_end_5
  rw [e1, e2, e3, if_pos ha, if_pos (by decide), if_pos ha]
theorem end01 {n : Nat} {a b : Int} (hb : inI64 b) : F_drive_end_5 n a b 0 1 = some b := by
  have e1 : (1 : Int) * b = b := Int.one_mul b
  have e2 : (0 : Int) * a = 0 := Int.zero_mul a
  have e3 : 0 + b = b := Int.zero_add b
  unfold F_drive_end_5
  rw [e1, e2, e3, if_pos (by decide), if_pos hb, if_pos hb]
def plMk (i : Nat) (s : List Int) : Unit ⊕ (Int × List D) := match i with
  | 0 => .inl ()
  | i + 1 => .inr (((i + 1 : Nat) : Int), s.map I)
def plEx (s : List Int) : List Int := s
theorem places_loop {n : Nat} {cl ch : Int} (l : List (Int × Int × Int)) (hlen : l.length < 1000) (hne : l ≠ []) (hb : ∀ b, b ∈ l → BandOk b) (hl : -1100 ≤ cl ∧ cl ≤ 1100) (hh : -1100 ≤ ch ∧ ch ≤ 1100) {k : Nat} (hk : l.length < k) :
    loopF (F_drive_places_2_L1 n (l.map enc_Ai3Z) cl ch) k (.inl ()) = some (.inr ((l.flatMap (four cl ch)).map I)) := by
  have := loopF_list0 (step := F_drive_places_2_L1 n (l.map enc_Ai3Z) cl ch) (E := Unit ⊕ List D) (fun (s : List Int) b => .inl (s ++ four cl ch b)) (fun s => .inr (s.map I)) plMk l (fun i s => s.length = 4 * i)
    (fun i s b hbi hi => by
      have hi' := ixlt hbi
      obtain ⟨q0, q1, q2, q3⟩ := hb b (List.mem_of_getElem? hbi)
      have h1 := mul_c q0 hl
      have h2 := mul_c q0 hh
      have g1 : inI64 b.2.1 := by unfold inI64; omega
      have g2 : inI64 b.2.2 := by unfold inI64; omega
      have g3 : inI64 cl := by unfold inI64; omega
      have g4 : inI64 ch := by unfold inI64; omega
      have e1 : inI64 (b.1 * cl) := by unfold inI64; omega
      have e2 : inI64 (b.1 * ch) := by unfold inI64; omega
      have e3 : inI64 (b.2.1 + b.1 * cl) := by unfold inI64; omega
      have e4 : inI64 (b.2.1 + b.1 * ch) := by unfold inI64; omega
      have e5 : inI64 (b.2.2 + b.1 * cl) := by unfold inI64; omega
      have e6 : inI64 (b.2.2 + b.1 * ch) := by unfold inI64; omega
      refine ⟨?_, by rw [List.length_append, hi]; simp [four]; omega⟩
      cases i with
      | zero =>
        have hs : s = [] := List.eq_nil_of_length_eq_zero (by omega)
        subst hs
        show F_drive_places_2_L1 n (l.map enc_Ai3Z) cl ch (.inl ()) = _
        unfold F_drive_places_2_L1
        dsimp only
        have hel : el un_Ai3Z (l.map enc_Ai3Z) 0 = some b := el_enc un3 hbi
        rw [if_pos (show (0 : Int) < ((l.map enc_Ai3Z).length : Int) from lenlt hbi), hel, Option.bind_some, end10 g1, Option.bind_some, end10 g3, Option.bind_some, if_pos e1, if_pos e3, end01 g4, Option.bind_some, if_pos e2, if_pos e4, end01 g2, Option.bind_some, if_pos e5, if_pos e6]
        rfl
      | succ i =>
        show F_drive_places_2_L1 n (l.map enc_Ai3Z) cl ch (.inr (((i + 1 : Nat) : Int), s.map I)) = _
        unfold F_drive_places_2_L1
        dsimp only
        have hsl : (s.map I).length = 4 * (i + 1) := by rw [List.length_map]; exact hi
        rw [if_pos (lenlt hbi), el_enc un3 hbi, Option.bind_some, end10 g1, Option.bind_some, end10 g3, Option.bind_some, if_pos e1, if_pos e3, if_pos (by unfold roomP; omega), end01 g4, Option.bind_some, if_pos e2, if_pos e4,
          if_pos (by unfold roomP; rw [List.length_append, hsl]; simp; omega), end01 g2, Option.bind_some, if_pos e5, if_pos (by unfold roomP; rw [List.length_append, List.length_append, hsl]; simp; omega), if_pos e6,
          if_pos (by unfold roomP; rw [List.length_append, List.length_append, List.length_append, hsl]; simp; omega), if_pos (by unfold inI64; omega)]
        unfold plMk
        rw [List.map_append]
        simp [four])
    (fun s _ => by
      cases hlz : l.length with
      | zero => exact absurd (List.eq_nil_of_length_eq_zero hlz) hne
      | succ m =>
        show F_drive_places_2_L1 n (l.map enc_Ai3Z) cl ch (.inr (((m + 1 : Nat) : Int), s.map I)) = _
        unfold F_drive_places_2_L1
        dsimp only
        rw [← hlz, if_neg notlt])
    (k := k) (s := []) rfl hk
  have e : ∀ (m : List (Int × Int × Int)) (s : List Int), runL (E := Unit ⊕ List D) (fun (s : List Int) b => .inl (s ++ four cl ch b)) (fun s => .inr (s.map I)) m s = .inr ((s ++ m.flatMap (four cl ch)).map I) := by
    intro m
    induction m with
    | nil => intro s; simp [runL]
    | cons b m ih =>
      intro s
      show runL (E := Unit ⊕ List D) _ _ m (s ++ four cl ch b) = _
      rw [ih, List.flatMap_cons, List.append_assoc]
  rw [e, List.nil_append] at this
  exact this
theorem un_iI (x : Int) : un_i (I x) = some x := rfl
theorem fold_run {α S : Type} (g : S → α → S) : ∀ (l : List α) (s : S), runL (E := S) (fun s x => .inl (g s x)) (fun s => s) l s = l.foldl g s
  | [], _ => rfl
  | x :: l, s => fold_run g l (g s x)
theorem min_eq {n : Nat} (v : Int) (vs : List Int) (hl : vs.length < 10000) (hn : vs.length < n) : F_slices_Min_g n ((v :: vs).map I) = some (vs.foldl minI v) := by
  unfold F_slices_Min_g
  have hel : el un_i ((v :: vs).map I) 0 = some v := rfl
  rw [if_neg (by simp; omega), hel, Option.bind_some]
  have := loopF_list0 (step := F_slices_Min_g_L1 n ((v :: vs).map I)) (E := Int) (fun s x => .inl (minI s x)) (fun s => s) (fun i s => (s, ((i + 1 : Nat) : Int))) vs (fun _ _ => True)
    (fun i s x hx _ => by
      refine ⟨?_, trivial⟩
      have hi := ixlt hx
      unfold F_slices_Min_g_L1
      dsimp only
      rw [if_pos (by simp; omega), el_enc (enc := I) un_iI (l := v :: vs) (i := i + 1) (x := x) (by simpa using hx), Option.bind_some, if_pos (by unfold inI64; omega)]
      rfl)
    (fun s _ => by
      unfold F_slices_Min_g_L1
      rw [if_neg (by simp)])
    (k := n) (s := v) trivial hn
  rw [fold_run] at this
  rw [show (((0 + 1 : Nat) : Int)) = 1 from rfl] at this
  rw [this]; rfl
theorem max_eq {n : Nat} (v : Int) (vs : List Int) (hl : vs.length < 10000) (hn : vs.length < n) : F_slices_Max_g n ((v :: vs).map I) = some (vs.foldl maxI v) := by
  unfold F_slices_Max_g
  have hel : el un_i ((v :: vs).map I) 0 = some v := rfl
  rw [if_neg (by simp; omega), hel, Option.bind_some]
  have := loopF_list0 (step := F_slices_Max_g_L1 n ((v :: vs).map I)) (E := Int) (fun s x => .inl (maxI s x)) (fun s => s) (fun i s => (s, ((i + 1 : Nat) : Int))) vs (fun _ _ => True)
    (fun i s x hx _ => by
      refine ⟨?_, trivial⟩
      have hi := ixlt hx
      unfold F_slices_Max_g_L1
      dsimp only
      rw [if_pos (by simp; omega), el_enc (enc := I) un_iI (l := v :: vs) (i := i + 1) (x := x) (by simpa using hx), Option.bind_some, if_pos (by unfold inI64; omega)]
      rfl)
    (fun s _ => by
      unfold F_slices_Max_g_L1
      rw [if_neg (by simp)])
    (k := n) (s := v) trivial hn
  rw [fold_run] at this
  rw [show (((0 + 1 : Nat) : Int)) = 1 from rfl] at this
  rw [this]; rfl
theorem four_min {cl ch : Int} {b : Int × Int × Int} (hb : b.2.1 ≤ b.2.2) (p : Int) : (four cl ch b).foldl minI p = minI p (loB cl ch b) ∧ (four cl ch b).foldl maxI p = maxI p (hiB cl ch b) := by
  unfold four loB hiB
  simp only [List.foldl]
  generalize b.1 * cl = x
  generalize b.1 * ch = y
  unfold minI maxI
  constructor
  · (repeat' split) <;> omega
  · (repeat' split) <;> omega
theorem fours_fold {cl ch : Int} : ∀ (l : List (Int × Int × Int)) (p : Int × Int), (∀ b, b ∈ l → b.2.1 ≤ b.2.2) → (l.flatMap (four cl ch)).foldl minI p.1 = (l.foldl (plG cl ch) p).1 ∧ (l.flatMap (four cl ch)).foldl maxI p.2 = (l.foldl (plG cl ch) p).2
  | [], p, _ => ⟨rfl, rfl⟩
  | b :: l, p, hb => by
    have h := four_min (cl := cl) (ch := ch) (hb b List.mem_cons_self)
    have ih := fours_fold (cl := cl) (ch := ch) l (plG cl ch p b) (fun c hc => hb c (List.mem_cons_of_mem _ hc))
    rw [List.flatMap_cons, List.foldl_append, List.foldl_append, (h p.1).1, (h p.2).2]
    exact ih
theorem four_first {cl ch : Int} {b : Int × Int × Int} (hb : b.2.1 ≤ b.2.2) : [b.2.1 + b.1 * ch, b.2.2 + b.1 * cl, b.2.2 + b.1 * ch].foldl minI (b.2.1 + b.1 * cl) = loB cl ch b ∧ [b.2.1 + b.1 * ch, b.2.2 + b.1 * cl, b.2.2 + b.1 * ch].foldl maxI (b.2.1 + b.1 * cl) = hiB cl ch b := by
  unfold loB hiB
  simp only [List.foldl]
  generalize b.1 * cl = x
  generalize b.1 * ch = y
  unfold minI maxI
  constructor
  · (repeat' split) <;> omega
  · (repeat' split) <;> omega
theorem fours_len (cl ch : Int) : ∀ l : List (Int × Int × Int), (l.flatMap (four cl ch)).length = 4 * l.length
  | [] => rfl
  | b :: l => by rw [List.flatMap_cons, List.length_append, fours_len cl ch l]; simp [four]; omega
theorem places_eq {n : Nat} (hn : 5000 ≤ n) {cl ch : Int} (l : List (Int × Int × Int)) (hlen : l.length < 1000) (hne : l ≠ []) (hb : ∀ b, b ∈ l → BandOk b) (hl : -1100 ≤ cl ∧ cl ≤ 1100) (hh : -1100 ≤ ch ∧ ch ≤ 1100) :
    F_drive_places_2 n (l.map enc_Ai3Z) cl ch = some (placesE cl ch l) := by
  unfold F_drive_places_2
  rw [places_loop l hlen hne hb hl hh (by omega), Option.bind_some]
  match l, hne with
  | b :: l, _ =>
    have hb' : ∀ c, c ∈ b :: l → c.2.1 ≤ c.2.2 := fun c hc => (hb c hc).2.2.1
    have hlen' := fours_len cl ch l
    have e : (b :: l).flatMap (four cl ch) = (b.2.1 + b.1 * cl) :: ([b.2.1 + b.1 * ch, b.2.2 + b.1 * cl, b.2.2 + b.1 * ch] ++ l.flatMap (four cl ch)) := rfl
    dsimp only
    simp only [List.length_cons] at hlen
    rw [e, min_eq _ _ (by rw [List.length_append, hlen']; simp; omega) (by rw [List.length_append, hlen']; simp; omega), Option.bind_some, max_eq _ _ (by rw [List.length_append, hlen']; simp; omega) (by rw [List.length_append, hlen']; simp; omega), Option.bind_some]
    rw [List.foldl_append, List.foldl_append, (four_first (hb' b List.mem_cons_self)).1, (four_first (hb' b List.mem_cons_self)).2]
    have := fours_fold (cl := cl) (ch := ch) l (loB cl ch b, hiB cl ch b) (fun c hc => hb' c (List.mem_cons_of_mem _ hc))
    rw [this.1, this.2]
    rfl
def leftE (motor play m : Int) : Int := minI motor (maxI (motor - play) m)
theorem clampE {m d x : Int} (h : 0 ≤ d) : maxI (m - d) (minI m x) = minI m (maxI (m - d) x) := by
  unfold maxI minI
  repeat' split
  all_goals omega
theorem leftE_b {motor play m : Int} (h : -1000 ≤ motor ∧ motor ≤ 1000) (hp : 0 ≤ play ∧ play ≤ 50) : -1100 ≤ leftE motor play m ∧ leftE motor play m ≤ 1100 := by
  unfold leftE minI maxI
  repeat' split
  all_goals omega
def reachE (a2 a4 a5 : Int) (l : List (Int × Int × Int)) (motor : Int) : Int × Int := placesE (leftE motor a2 a4) (leftE motor a2 a5) l
def hitE (a2 a4 a5 : Int) (l : List (Int × Int × Int)) (t0 t1 motor : Int) : Bool := decide (t0 ≤ (reachE a2 a4 a5 l motor).1 ∧ (reachE a2 a4 a5 l motor).2 ≤ t1)
theorem hit_eq {n : Nat} (hn : 5000 ≤ n) {a0 a1 a2 a3 a4 a5 t0 t1 motor : Int} {l : List (Int × Int × Int)} (hlen : l.length < 1000) (hne : l ≠ []) (hb : ∀ b, b ∈ l → BandOk b) (hm : -1000 ≤ motor ∧ motor ≤ 1000) (hp : 0 ≤ a2 ∧ a2 ≤ 50) :
    F_drive_aimed_hit n a0 a1 a2 a3 a4 a5 (l.map enc_Ai3Z) t0 t1 motor = some ((reachE a2 a4 a5 l motor).1, (reachE a2 a4 a5 l motor).2, hitE a2 a4 a5 l t0 t1 motor) := by
  have hle := places_le hb (leftE_b (m := a4) hm hp) (leftE_b (m := a5) hm hp)
  have hle' : (reachE a2 a4 a5 l motor).1 ≤ (reachE a2 a4 a5 l motor).2 := hle
  unfold F_drive_aimed_hit F_drive_posed_at F_drive_both
  rw [if_pos (by unfold inI64; omega)]
  simp only [Option.bind_some]
  have hpl := places_eq hn l hlen hne hb (leftE_b (m := a4) hm hp) (leftE_b (m := a5) hm hp)
  unfold leftE at hpl
  rw [hpl, Option.bind_some]
  change (if decide (maxI (reachE a2 a4 a5 l motor).1 t0 ≤ minI (reachE a2 a4 a5 l motor).2 t1) = true then some ((reachE a2 a4 a5 l motor).1, (reachE a2 a4 a5 l motor).2, (maxI (reachE a2 a4 a5 l motor).1 t0 == (reachE a2 a4 a5 l motor).1) && ((minI (reachE a2 a4 a5 l motor).2 t1 == (reachE a2 a4 a5 l motor).2) && true)) else some ((reachE a2 a4 a5 l motor).1, (reachE a2 a4 a5 l motor).2, false)) = _
  unfold hitE
  generalize (reachE a2 a4 a5 l motor).1 = x at *
  generalize (reachE a2 a4 a5 l motor).2 = y at *
  by_cases h : t0 ≤ x ∧ y ≤ t1
  · have e1 : maxI x t0 = x := by unfold maxI; split <;> omega
    have e2 : minI y t1 = y := by unfold minI; split <;> omega
    rw [e1, e2, if_pos (decide_eq_true hle'), decide_eq_true h]
    simp
  · rw [decide_eq_false h]
    split
    · have : ¬ (maxI x t0 = x ∧ minI y t1 = y) := by
        intro ⟨q1, q2⟩
        apply h
        unfold maxI at q1
        unfold minI at q2
        split at q1
        · omega
        · split at q2 <;> omega
      have e : ((maxI x t0 == x) && ((minI y t1 == y) && true)) = false := by
        simp only [Bool.and_true, Bool.and_eq_false_iff, beq_eq_false_iff_ne, ne_eq]
        omega
      rw [e]
    · rfl
def farE (a b : Int) : Int := maxI (a - b) (b - a)
def nearG (a0 a3 : Int) (hit : Int → Bool) (s : Int × Bool) (i : Nat) : (Int × Bool) ⊕ (Int × Bool) :=
  if hit (a0 + (i : Int)) = true then if s.2 = true then if farE (a0 + (i : Int)) a3 < farE s.1 a3 then .inl (a0 + (i : Int), true) else .inl s else .inl (a0 + (i : Int), true) else .inl s
def nearR (a0 a1 a3 : Int) (hit : Int → Bool) : Int × Bool := runL (nearG a0 a3 hit) (fun s => s) (List.range (a1 - a0 + 1).toNat) (0, false)
theorem near_none (a0 a3 : Int) (hit : Int → Bool) : ∀ (l : List Nat) (s : Int × Bool), (s.2 = false → s.1 = 0) → (runL (nearG a0 a3 hit) (fun s => s) l s).2 = false → (runL (nearG a0 a3 hit) (fun s => s) l s).1 = 0
  | [], s, hs, h => hs h
  | i :: l, s, hs, h => by
    unfold runL at h ⊢
    unfold nearG at h ⊢
    by_cases h1 : hit (a0 + (i : Int)) = true
    · rw [if_pos h1] at h ⊢
      by_cases h2 : s.2 = true
      · rw [if_pos h2] at h ⊢
        by_cases h3 : farE (a0 + (i : Int)) a3 < farE s.1 a3
        · rw [if_pos h3] at h ⊢
          exact near_none a0 a3 hit l _ (fun q => by cases q) h
        · rw [if_neg h3] at h ⊢
          exact near_none a0 a3 hit l s hs h
      · rw [if_neg h2] at h ⊢
        exact near_none a0 a3 hit l _ (fun q => by cases q) h
    · rw [if_neg h1] at h ⊢
      exact near_none a0 a3 hit l s hs h
theorem size_eq {n : Nat} {a b : Int} (h : -3000 ≤ a - b ∧ a - b ≤ 3000) : F_drive_size n (a - b) = some (farE a b) := by
  unfold F_drive_size farE
  rw [wrap64 (by unfold inI64; omega), show 0 - (a - b) = b - a by omega]
structure AxOk (a0 a1 a2 a3 : Int) : Prop where
  l0 : -1000 ≤ a0
  l1 : a0 ≤ a1
  l2 : a1 ≤ 1000
  p0 : 0 ≤ a2
  p1 : a2 ≤ 50
  m0 : a0 ≤ a3
  m1 : a3 ≤ a1
theorem nearest_loop {n : Nat} (hn : 5000 ≤ n) {a0 a1 a2 a3 a4 a5 t0 t1 : Int} (ha : AxOk a0 a1 a2 a3) {l : List (Int × Int × Int)} (hlen : l.length < 1000) (hne : l ≠ []) (hb : ∀ b, b ∈ l → BandOk b) :
    loopF (F_drive_aimed_nearest_L1 n a0 a1 a2 a3 a4 a5 (l.map enc_Ai3Z) t0 t1) n (0, false, 0) = some (nearR a0 a1 a3 (hitE a2 a4 a5 l t0 t1)) := by
  obtain ⟨l0, l1, l2, p0, p1, m0, m1⟩ := ha
  refine loopF_list0 (step := F_drive_aimed_nearest_L1 n a0 a1 a2 a3 a4 a5 (l.map enc_Ai3Z) t0 t1) (E := Int × Bool) (nearG a0 a3 (hitE a2 a4 a5 l t0 t1)) (fun s => s) (fun i s => (s.1, s.2, (i : Int))) (List.range (a1 - a0 + 1).toNat) (fun _ s => -1000 ≤ s.1 ∧ s.1 ≤ 1000) (s := ((0, false) : Int × Bool)) (fun i s x hxi hs => ?_) (fun s _ => ?_) ⟨by decide, by decide⟩ (by simp; omega)
  · have hi := ixlt hxi
    rw [List.length_range] at hi
    have hxx : x = i := by
      rw [List.getElem?_range hi] at hxi
      exact (Option.some.inj hxi).symm
    subst hxx
    have hm : -1000 ≤ a0 + (x : Int) ∧ a0 + (x : Int) ≤ 1000 := by omega
    have e1 : inI64 (a0 + (x : Int)) := by unfold inI64; omega
    have e2 : inI64 (a0 + (x : Int) - a3) := by unfold inI64; omega
    have e3 : inI64 (s.1 - a3) := by unfold inI64; omega
    have e4 : inI64 ((x : Int) + 1) := by unfold inI64; omega
    have key : F_drive_aimed_nearest_L1 n a0 a1 a2 a3 a4 a5 (l.map enc_Ai3Z) t0 t1 (s.1, s.2, (x : Int)) =
        if hitE a2 a4 a5 l t0 t1 (a0 + (x : Int)) = true then if s.2 = true then if farE (a0 + (x : Int)) a3 < farE s.1 a3 then some (.inl (a0 + (x : Int), true, (x : Int) + 1)) else some (.inl (s.1, s.2, (x : Int) + 1)) else some (.inl (a0 + (x : Int), true, (x : Int) + 1)) else some (.inl (s.1, s.2, (x : Int) + 1)) := by
      unfold F_drive_aimed_nearest_L1
      dsimp only
      rw [if_pos (by omega), if_pos e1, hit_eq hn hlen hne hb hm ⟨p0, p1⟩, Option.bind_some]
      dsimp only
      rw [if_pos e2, size_eq (by omega), Option.bind_some, if_pos e3, size_eq (by omega), Option.bind_some]
      simp only [if_pos e4]
    unfold nearG
    by_cases h1 : hitE a2 a4 a5 l t0 t1 (a0 + (x : Int)) = true
    · rw [if_pos h1] at key ⊢
      by_cases h2 : s.2 = true
      · rw [if_pos h2] at key ⊢
        by_cases h3 : farE (a0 + (x : Int)) a3 < farE s.1 a3
        · rw [if_pos h3] at key ⊢
          exact ⟨key, hm⟩
        · rw [if_neg h3] at key ⊢
          exact ⟨key, hs⟩
      · rw [if_neg h2] at key ⊢
        exact ⟨key, hm⟩
    · rw [if_neg h1] at key ⊢
      exact ⟨key, hs⟩
  · unfold F_drive_aimed_nearest_L1
    dsimp only
    rw [if_neg (by rw [List.length_range]; omega)]
def nearE (r : Int × Bool) : Int × Int := if r.2 = true then (r.1, 0) else (0, 18)
theorem nearest_eq {n : Nat} (hn : 5000 ≤ n) {a0 a1 a2 a3 a4 a5 t0 t1 : Int} (ha : AxOk a0 a1 a2 a3) {l : List (Int × Int × Int)} (hlen : l.length < 1000) (hne : l ≠ []) (hb : ∀ b, b ∈ l → BandOk b) :
    F_drive_aimed_nearest n a0 a1 a2 a3 a4 a5 (l.map enc_Ai3Z) t0 t1 = some (nearE (nearR a0 a1 a3 (hitE a2 a4 a5 l t0 t1))) := by
  have h0 := ha.l0
  have h1 := ha.l1
  have h2 := ha.l2
  unfold F_drive_aimed_nearest nearE
  rw [if_pos (by unfold inI64; omega), if_pos (by unfold inI64; omega), nearest_loop hn ha hlen hne hb, Option.bind_some, when_eq, Option.bind_some]
  have hz := near_none a0 a3 (hitE a2 a4 a5 l t0 t1) (List.range (a1 - a0 + 1).toNat) (0, false) (fun _ => rfl)
  change ((nearR a0 a1 a3 (hitE a2 a4 a5 l t0 t1)).2 = false → (nearR a0 a1 a3 (hitE a2 a4 a5 l t0 t1)).1 = 0) at hz
  generalize nearR a0 a1 a3 (hitE a2 a4 a5 l t0 t1) = r at *
  obtain ⟨r1, r2⟩ := r
  cases r2 with
  | true => rfl
  | false =>
    have : r1 = 0 := hz rfl
    subst this; rfl
def allE (a0 a1 a2 a3 a4 a5 : Int) (l : List (Int × Int × Int)) (t0 t1 : Int) : Int := firstNZ [stateE a0 a1 a2 a3 a4 a5, modelE l, ivE t0 t1 (-4294967296) 4294967296]
theorem aimedCheck_eq {n : Nat} (hn : 1000 ≤ n) (a0 a1 a2 a3 a4 a5 : Int) (l : List (Int × Int × Int)) (t0 t1 : Int) (hlen : l.length < 1000) :
    F_drive_aimed_check n a0 a1 a2 a3 a4 a5 (l.map enc_Ai3Z) t0 t1 = some (allE a0 a1 a2 a3 a4 a5 l t0 t1) := by
  have hp : F_drive_posed_check n a0 a1 a2 a3 a4 a5 = some (stateE a0 a1 a2 a3 a4 a5) := by
    have := posed_eq (n := n) (by omega) a0 a1 a2 a3 a4 a5
    unfold F_drive_CheckState at this
    simpa using this
  unfold F_drive_aimed_check
  rw [hp, Option.bind_some, checkModel_eq hn l hlen, Option.bind_some, ends_eq (by omega) _ _ (by omega), Option.bind_some, first3 (by omega)]
  rfl
theorem allE_zero {a0 a1 a2 a3 a4 a5 t0 t1 : Int} {l : List (Int × Int × Int)} (h : allE a0 a1 a2 a3 a4 a5 l t0 t1 = 0) : stateE a0 a1 a2 a3 a4 a5 = 0 ∧ AxOk a0 a1 a2 a3 ∧ l ≠ [] ∧ l.length ≤ 64 ∧ (∀ b, b ∈ l → BandOk b) ∧ (-4294967296 ≤ t0 ∧ t0 ≤ t1 ∧ t1 ≤ 4294967296) := by
  have hs := firstNZ_zero h (stateE a0 a1 a2 a3 a4 a5) (by simp)
  have hm := modelE_zero (firstNZ_zero h (modelE l) (by simp))
  have ht := ivE_zero (firstNZ_zero h (ivE t0 t1 (-4294967296) 4294967296) (by simp))
  obtain ⟨⟨h1, h2, h3, h4, h5⟩, h6, h7⟩ := stateE_zero hs
  refine ⟨hs, ⟨h1, h2, h3, h4, h5, h6, h7⟩, ?_, hm.1.2, hm.2, ht⟩
  rintro rfl
  simp at hm
end Go.Proofs.YtegcijomjkffgaaDoor
