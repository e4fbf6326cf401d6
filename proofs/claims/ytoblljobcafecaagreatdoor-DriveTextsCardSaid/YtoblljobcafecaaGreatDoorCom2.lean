/-
  Plain lemmas on spots, bands and models that the laws of this seat share. An own text.
-/
import Derived.Test.YtoblljobcafecaaGreatDoorCom
set_option linter.unusedVariables false
set_option linter.unusedSimpArgs false
set_option linter.unnecessarySimpa false
set_option maxRecDepth 20000
namespace Go.Proofs.YtoblljobcafecaaGreatDoor
open Go.SX

theorem wrap64 {m : Int} (h : inI64 m) : IntKind.wrap .i64 m = m := by
  unfold inI64 at h
  rw [IntKind.wrap_i64]; omega
theorem firstNZ_zero : ∀ {l : List Int}, firstNZ l = 0 → ∀ x, x ∈ l → x = 0
  | [], _, x, hx => by cases hx
  | y :: l, h, x, hx => by
    unfold firstNZ at h
    by_cases hy : y = 0
    · rw [if_pos hy] at h
      rcases List.mem_cons.1 hx with rfl | hx
      · exact hy
      · exact firstNZ_zero h x hx
    · rw [if_neg hy] at h; exact absurd h hy
theorem firstNZ_cons (x : Int) (l : List Int) : firstNZ (x :: l) = if x = 0 then firstNZ l else x := rfl
theorem firstNZ_one (x : Int) : firstNZ [x] = x := by
  unfold firstNZ; split
  · rename_i h; rw [h]; rfl
  · rfl
theorem whenI_true (e : Int) : whenI true e = e := rfl
theorem whenI_false (e : Int) : whenI false e = 0 := rfl

/-- A loop along a list that gathers at most one element a round. -/
theorem loop_acc {α E : Type} {step : Int × List D → Option ((Int × List D) ⊕ E)} (ex : List D → E) (l : List α) (f : α → List D) (hf : ∀ x, (f x).length ≤ 1)
    (hstep : ∀ (i : Nat) (out : List D) (x : α), l[i]? = some x → out.length ≤ i → step ((i : Int), out) = some (.inl (((i + 1 : Nat) : Int), out ++ f x)))
    (hend : ∀ out : List D, out.length ≤ l.length → step ((l.length : Int), out) = some (.inr (ex out))) {k : Nat} (hk : l.length < k) : loopF step k (0, []) = some (ex (l.flatMap f)) := by
  have := loopF_list0 (step := step) (E := E) (fun (s : List D) (x : α) => .inl (s ++ f x)) ex (fun i s => ((i : Int), s)) l (fun i s => s.length ≤ i)
    (fun i s x hx hi => ⟨hstep i s x hx hi, by
      rw [List.length_append]
      have := hf x
      omega⟩)
    (fun s hs => hend s hs) (k := k) (s := []) (Nat.zero_le _) hk
  have e : ∀ (l : List α) (s : List D), runL (E := E) (fun (s : List D) (x : α) => .inl (s ++ f x)) ex l s = ex (s ++ l.flatMap f) := by
    intro l
    induction l with
    | nil => intro s; simp [runL]
    | cons x l ih =>
      intro s
      show runL (E := E) (fun (s : List D) (x : α) => .inl (s ++ f x)) ex l (s ++ f x) = _
      rw [ih, List.flatMap_cons, List.append_assoc]
  rw [e, List.nil_append] at this
  exact this

theorem un3 (x : Int × Int × Int) : un_Ai3Z (enc_Ai3Z x) = some x := by simp [un_Ai3Z, enc_Ai3Z, un_int]
theorem flat1 {α β : Type} (f : α → β) (l : List α) : l.flatMap (fun x => [f x]) = l.map f := by
  induction l with
  | nil => rfl
  | cons x l ih => rw [List.flatMap_cons, ih]; rfl
theorem lenlt {α β : Type} {f : α → β} {l : List α} {i : Nat} {x : α} (h : l[i]? = some x) : (i : Int) < ((l.map f).length : Int) := by
  have := (List.getElem?_eq_some_iff.1 h).1
  simp; omega
theorem ixlt {α : Type} {l : List α} {i : Nat} {x : α} (h : l[i]? = some x) : i < l.length := (List.getElem?_eq_some_iff.1 h).1
theorem notlt {α β : Type} {f : α → β} {l : List α} : ¬ ((l.length : Int) < ((l.map f).length : Int)) := by simp

/-- The copies of lists of triples. -/
theorem bands_eq {n : Nat} (l : List (Int × Int × Int)) (hl : l.length < 1000000) (hn : l.length < n) : F_law03_bands n (l.map enc_Ai3Z) = some (l.map enc_Ai3Z) := by
  unfold F_law03_bands
  rw [loop_acc (fun out => out) l (fun x => [enc_Ai3Z x]) (fun _ => Nat.le_refl _) (fun i out x hx ho => by
      have hi := ixlt hx
      unfold F_law03_bands_L1
      dsimp only
      rw [if_pos (lenlt hx), el_enc un3 hx, Option.bind_some, if_pos (by unfold roomP; omega), if_pos (by unfold inI64; omega)]
      rfl)
    (fun out _ => by
      unfold F_law03_bands_L1
      rw [if_neg notlt]) hn, flat1]
  rfl
theorem given_eq {n : Nat} (l : List (Int × Int × Int)) (hl : l.length < 1000000) (hn : l.length < n) : F_law03_given n (l.map enc_Ai3Z) = some (l.map enc_Ai3Z) := by
  unfold F_law03_given
  rw [loop_acc (fun out => out) l (fun x => [enc_Ai3Z x]) (fun _ => Nat.le_refl _) (fun i out x hx ho => by
      have hi := ixlt hx
      unfold F_law03_given_L1
      dsimp only
      rw [if_pos (lenlt hx), el_enc un3 hx, Option.bind_some, if_pos (by unfold roomP; omega), if_pos (by unfold inI64; omega)]
      rfl)
    (fun out _ => by
      unfold F_law03_given_L1
      rw [if_neg notlt]) hn, flat1]
  rfl
theorem sameModel_eq {n : Nat} (l : List (Int × Int × Int)) (hl : l.length < 1000000) (hn : l.length < n) : F_ref03_SameModel n (l.map enc_Ai3Z) (l.map enc_Ai3Z) = some true := by
  unfold F_ref03_SameModel
  rw [if_pos rfl]
  have := loopF_list0 (step := F_ref03_SameModel_L1 n (l.map enc_Ai3Z) (l.map enc_Ai3Z)) (E := Unit ⊕ Unit) (fun (_ : Unit) (_ : Int × Int × Int) => .inl ()) (fun _ => .inr ()) (fun i _ => (i : Int)) l (fun _ _ => True)
    (fun i s x hx _ => by
      refine ⟨?_, trivial⟩
      have hi := ixlt hx
      unfold F_ref03_SameModel_L1
      rw [if_pos (lenlt hx), el_enc un3 hx, Option.bind_some, Option.bind_some, if_pos (by simp), if_pos (by unfold inI64; omega)]
      rfl)
    (fun s _ => by
      unfold F_ref03_SameModel_L1
      rw [if_neg notlt])
    (k := n) (s := ()) trivial hn
  have e : ∀ l : List (Int × Int × Int), runL (E := Unit ⊕ Unit) (fun (_ : Unit) (_ : Int × Int × Int) => .inl ()) (fun _ => .inr ()) l () = .inr () := by
    intro l; induction l with
    | nil => rfl
    | cons x l ih => exact ih
  rw [e, show ((0 : Nat) : Int) = 0 from rfl] at this
  rw [this]
  rfl
theorem sameModel0 {n : Nat} (hn : 10 ≤ n) : F_ref03_SameModel n [] [] = some true := sameModel_eq [] (by simp) (by simp; omega)

/-! Errors of intervals, spots and models. -/
def ivE (lo hi a b : Int) : Int := firstNZ [inR lo a b, inR hi a b, whenI (decide (lo > hi)) 11]
theorem ivE_zero {lo hi a b : Int} (h : ivE lo hi a b = 0) : a ≤ lo ∧ lo ≤ hi ∧ hi ≤ b := by
  have hz := firstNZ_zero h
  have h0 := inR_zero (hz (inR lo a b) (by simp))
  have h1 := inR_zero (hz (inR hi a b) (by simp))
  have h2 := whenI_zero (by decide) (hz (whenI (decide (lo > hi)) 11) (by simp))
  simp only [decide_eq_false_iff_not] at h2
  omega
theorem ends_eq {n : Nat} (hn : 10 ≤ n) (lo hi : Int) {m : Int} (hm : 0 ≤ m ∧ m ≤ 9000000000000) : F_drive_checkEnds n lo hi m = some (ivE lo hi (-m) m) := by
  unfold F_drive_checkEnds
  have hw : IntKind.wrap .i64 (0 - m) = -m := by
    rw [wrap64 (by unfold inI64; omega)]; omega
  rw [hw]
  simp only [within_eq, when_eq, Option.bind_some, first3 hn]
  rfl
theorem interval_eq {n : Nat} (hn : 10 ≤ n) (lo hi a b : Int) : F_ref03_CheckInterval n lo hi a b = some (ivE lo hi a b) := by
  unfold F_ref03_CheckInterval
  simp only [range_eq, refWhen_eq, Option.bind_some, refFirst3 hn]
  rfl
def spotE (c lo hi : Int) : Int := firstNZ [inR c (-1000) 1000, ivE lo hi (-1000000) 1000000]
theorem spotE_zero {c lo hi : Int} (h : spotE c lo hi = 0) : (-1000 ≤ c ∧ c ≤ 1000) ∧ -1000000 ≤ lo ∧ lo ≤ hi ∧ hi ≤ 1000000 := by
  have hz := firstNZ_zero h
  exact ⟨inR_zero (hz (inR c (-1000) 1000) (by simp)), ivE_zero (hz (ivE lo hi (-1000000) 1000000) (by simp))⟩
theorem spot_eq {n : Nat} (hn : 10 ≤ n) (c lo hi : Int) : F_drive_Spot_check_3 n c lo hi = some (spotE c lo hi) := by
  unfold F_drive_Spot_check_3
  rw [within_eq, Option.bind_some, ends_eq hn lo hi (by omega), Option.bind_some, first2 hn]
  rfl
def bandE (last : Int) (b : Int × Int × Int) : Int := firstNZ [inR b.1 (-1000) 1000, ivE b.2.1 b.2.2 (-2000000) 2000000, whenI (decide (b.1 ≤ last)) 11]
def modelG (last : Int) (b : Int × Int × Int) : Int ⊕ (Int ⊕ Unit) := if bandE last b = 0 then .inl b.1 else .inr (.inl (bandE last b))
def outM : Int ⊕ Unit → Int
  | .inl e => e
  | .inr _ => 0
def modelE (l : List (Int × Int × Int)) : Int := if l.length = 0 then 12 else if l.length > 64 then 5 else outM (runL modelG (fun _ => .inr ()) l (-1001))
def BandOk (b : Int × Int × Int) : Prop := (-1000 ≤ b.1 ∧ b.1 ≤ 1000) ∧ -2000000 ≤ b.2.1 ∧ b.2.1 ≤ b.2.2 ∧ b.2.2 ≤ 2000000
theorem bandE_zero {last : Int} {b : Int × Int × Int} (h : bandE last b = 0) : BandOk b ∧ last < b.1 := by
  have hz := firstNZ_zero h
  have h2 := whenI_zero (by decide) (hz (whenI (decide (b.1 ≤ last)) 11) (by simp))
  simp only [decide_eq_false_iff_not] at h2
  exact ⟨⟨inR_zero (hz (inR b.1 (-1000) 1000) (by simp)), ivE_zero (hz (ivE b.2.1 b.2.2 (-2000000) 2000000) (by simp))⟩, by omega⟩
theorem modelRun_zero : ∀ (l : List (Int × Int × Int)) (last : Int), outM (runL modelG (fun _ => .inr ()) l last) = 0 → ∀ b, b ∈ l → BandOk b
  | [], _, _, b, hb => by cases hb
  | c :: l, last, h, b, hb => by
    unfold runL at h
    by_cases hc : bandE last c = 0
    · have hg : modelG last c = .inl c.1 := by unfold modelG; rw [if_pos hc]
      rw [hg] at h
      rcases List.mem_cons.1 hb with rfl | hb
      · exact (bandE_zero hc).1
      · exact modelRun_zero l _ h b hb
    · have hg : modelG last c = .inr (.inl (bandE last c)) := by unfold modelG; rw [if_neg hc]
      rw [hg] at h
      exact absurd h hc
theorem modelE_zero {l : List (Int × Int × Int)} (h : modelE l = 0) : (0 < l.length ∧ l.length ≤ 64) ∧ ∀ b, b ∈ l → BandOk b := by
  unfold modelE at h
  by_cases h0 : l.length = 0
  · rw [if_pos h0] at h; cases h
  · rw [if_neg h0] at h
    by_cases h1 : l.length > 64
    · rw [if_pos h1] at h; cases h
    · rw [if_neg h1] at h
      exact ⟨by omega, modelRun_zero l _ h⟩
theorem model_loop {n : Nat} (hn : 10 ≤ n) (l : List (Int × Int × Int)) (hl : l.length < 1000000) {k : Nat} (hk : l.length < k) :
    loopF (F_drive_CheckModel_L1 n (l.map enc_Ai3Z)) k (-1001, 0) = some (runL modelG (fun _ => .inr ()) l (-1001)) :=
  loopF_list0 (step := F_drive_CheckModel_L1 n (l.map enc_Ai3Z)) modelG (fun _ => .inr ()) (fun i s => (s, (i : Int))) l (fun _ _ => True)
    (fun i s x hx _ => by
      have hi := ixlt hx
      have key : F_drive_CheckModel_L1 n (l.map enc_Ai3Z) (s, (i : Int)) = if bandE s x = 0 then (if inI64 ((i : Int) + 1) then some (.inl (x.1, (i : Int) + 1)) else none) else some (.inr (.inl (bandE s x))) := by
        unfold F_drive_CheckModel_L1
        dsimp only
        rw [if_pos (lenlt hx), el_enc un3 hx, Option.bind_some, within_eq, Option.bind_some, ends_eq hn _ _ (by omega), Option.bind_some, when_eq, Option.bind_some, first3 hn, Option.bind_some]
        rfl
      rw [if_pos (show inI64 ((i : Int) + 1) by unfold inI64; omega)] at key
      unfold modelG
      by_cases h : bandE s x = 0
      · rw [if_pos h]; rw [if_pos h] at key; exact ⟨key, trivial⟩
      · rw [if_neg h]; rw [if_neg h] at key; exact key)
    (fun s _ => by
      unfold F_drive_CheckModel_L1
      rw [if_neg notlt]) trivial hk
theorem checkModel_eq {n : Nat} (hn : 1000 ≤ n) (l : List (Int × Int × Int)) (hl : l.length < 1000) : F_drive_CheckModel n (l.map enc_Ai3Z) = some (modelE l) := by
  unfold F_drive_CheckModel modelE
  rw [when_eq, Option.bind_some, when_eq, Option.bind_some, first2 (by omega), Option.bind_some, List.length_map]
  by_cases h0 : l.length = 0
  · rw [if_pos h0, h0]; rfl
  · have e0 : (((l.length : Int) == 0) : Bool) = false := by simpa using (by omega : ¬ l.length = 0)
    rw [if_neg h0, e0, whenI_false]
    by_cases h1 : l.length > 64
    · rw [if_pos h1, decide_eq_true (by omega : (l.length : Int) > 64)]; rfl
    · rw [if_neg h1, decide_eq_false (by omega : ¬ (l.length : Int) > 64), whenI_false, if_pos (by rfl), model_loop (by omega) l (by omega) (by omega), Option.bind_some]
      cases runL modelG (fun _ => .inr ()) l (-1001) <;> rfl
theorem refModel_loop {n : Nat} (hn : 10 ≤ n) (l : List (Int × Int × Int)) (hl : l.length < 1000000) {k : Nat} (hk : l.length < k) :
    loopF (F_ref03_CheckModel_L1 n (l.map enc_Ai3Z)) k 0 = some (runL modelG (fun _ => .inr ()) l (-1001)) :=
  loopF_list0 (step := F_ref03_CheckModel_L1 n (l.map enc_Ai3Z)) modelG (fun _ => .inr ()) (fun i _ => (i : Int)) l (fun i s => i = 0 ∧ s = -1001 ∨ ∃ y, 0 < i ∧ l[i - 1]? = some y ∧ s = y.1)
    (fun i s x hx hi' => by
      have hi := ixlt hx
      have key : F_ref03_CheckModel_L1 n (l.map enc_Ai3Z) (i : Int) = if bandE s x = 0 then some (.inl ((i + 1 : Nat) : Int)) else some (.inr (.inl (bandE s x))) := by
        unfold F_ref03_CheckModel_L1
        rw [if_pos (lenlt hx), el_enc un3 hx, Option.bind_some, range_eq, Option.bind_some, interval_eq hn, Option.bind_some, refFirst2 hn, Option.bind_some]
        have hb : bandE s x = if firstNZ [inR x.1 (-1000) 1000, ivE x.2.1 x.2.2 (-2000000) 2000000] = 0 then whenI (decide (x.1 ≤ s)) 11 else firstNZ [inR x.1 (-1000) 1000, ivE x.2.1 x.2.2 (-2000000) 2000000] := by
          unfold bandE
          simp only [firstNZ_cons, firstNZ_one]
          by_cases q1 : inR x.1 (-1000) 1000 = 0
          · by_cases q2 : ivE x.2.1 x.2.2 (-2000000) 2000000 = 0
            · simp only [if_pos q1, if_pos q2, firstNZ]
              rw [if_pos trivial]; split
              · rename_i h; exact h.symm
              · rfl
            · simp only [if_pos q1, if_neg q2]
          · simp only [if_neg q1]
        by_cases hq : firstNZ [inR x.1 (-1000) 1000, ivE x.2.1 x.2.2 (-2000000) 2000000] = 0
        · rw [if_pos hq] at hb
          rw [if_pos hq, hb]
          rcases hi' with ⟨h1, h2⟩ | ⟨y, h1, h2, h3⟩
          · have hx1 := (inR_zero (firstNZ_zero hq (inR x.1 (-1000) 1000) (by simp))).1
            rw [if_neg (by omega), if_pos (by unfold inI64; omega), decide_eq_false (by omega), whenI_false, if_pos rfl]
            rfl
          · have hc : ((i : Int) - 1) = ((i - 1 : Nat) : Int) := by omega
            rw [if_pos (by omega), if_pos (by unfold inI64; omega), hc, el_enc un3 h2, Option.bind_some, h3]
            by_cases hle : x.1 ≤ y.1
            · rw [if_pos hle, decide_eq_true hle, whenI_true, if_neg (by decide)]
            · rw [if_neg hle, decide_eq_false hle, whenI_false, if_pos rfl, if_pos (by unfold inI64; omega)]
              rfl
        · rw [if_neg hq] at hb
          rw [if_neg hq, hb, if_neg hq]
      unfold modelG
      by_cases h : bandE s x = 0
      · rw [if_pos h]; rw [if_pos h] at key; exact ⟨key, .inr ⟨x, by omega, by simpa using hx, rfl⟩⟩
      · rw [if_neg h]; rw [if_neg h] at key; exact key)
    (fun s _ => by
      unfold F_ref03_CheckModel_L1
      rw [if_neg notlt]) (.inl ⟨rfl, rfl⟩) hk
theorem refCheckModel_eq {n : Nat} (hn : 1000 ≤ n) (l : List (Int × Int × Int)) (hl : l.length < 1000) : F_ref03_CheckModel n (l.map enc_Ai3Z) = some (modelE l) := by
  unfold F_ref03_CheckModel modelE
  rw [List.length_map]
  by_cases h0 : l.length = 0
  · rw [if_pos h0, if_pos (by omega)]
  · rw [if_neg h0, if_neg (by omega)]
    by_cases h1 : l.length > 64
    · rw [if_pos h1, if_pos (by omega)]
    · rw [if_neg h1, if_neg (by omega), refModel_loop (by omega) l (by omega) (by omega), Option.bind_some]
      cases runL modelG (fun _ => .inr ()) l (-1001) <;> rfl
theorem shortModel_eq (n : Nat) (l : List D) : F_ref03_ShortModel n l = some (decide (l.length ≤ 8 ∨ l.length = 65)) := by
  unfold F_ref03_ShortModel
  by_cases h : (l.length : Int) ≤ 8
  · rw [if_pos h, decide_eq_true (by omega)]
  · rw [if_neg h]
    by_cases h2 : l.length = 65
    · rw [decide_eq_true (.inr h2), h2]; rfl
    · rw [decide_eq_false (by omega)]
      have : ¬ ((l.length : Int) = 65) := by omega
      simp [this]

/-! What a spot permits of a band. -/
theorem mul_b {g c : Int} (hg : -1000 ≤ g ∧ g ≤ 1000) (hc : -1000 ≤ c ∧ c ≤ 1000) : -1000000 ≤ g * c ∧ g * c ≤ 1000000 := by
  have h := Int.natAbs_mul g c
  have h1 : g.natAbs * c.natAbs ≤ 1000 * 1000 := Nat.mul_le_mul (by omega) (by omega)
  omega
def permE (b : Int × Int × Int) (x : Int × Int × Int) : Int × Int × Int := (b.1, maxI b.2.1 (x.2.1 - b.1 * x.1), minI b.2.2 (x.2.2 - b.1 * x.1))
structure SpotOk (x : Int × Int × Int) : Prop where
  c : -1000 ≤ x.1 ∧ x.1 ≤ 1000
  l : -1000000 ≤ x.2.1
  m : x.2.1 ≤ x.2.2
  h : x.2.2 ≤ 1000000
theorem seen_eq {n : Nat} {b x : Int × Int × Int} (hg : -1000 ≤ b.1 ∧ b.1 ≤ 1000) (hx : SpotOk x) :
    F_drive_Band_seen_2 n b.1 b.2.1 b.2.2 x.1 x.2.1 x.2.2 = some ((permE b x).1, (permE b x).2.1, (permE b x).2.2, decide ((permE b x).2.1 ≤ (permE b x).2.2)) := by
  have hm := mul_b hg hx.c
  have := hx.l; have := hx.m; have := hx.h
  unfold F_drive_Band_seen_2 F_drive_both_2
  rw [if_pos (by unfold inI64; omega), if_pos (by unfold inI64; omega), if_pos (by unfold inI64; omega), Option.bind_some]
  rfl
end Go.Proofs.YtoblljobcafecaaGreatDoor
