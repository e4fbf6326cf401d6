/-
  Own texts, merged: YSky, YSun, YList, YSum, YStep, YLoop, YearLaw.
-/
import Derived.Test.YtiogobiijlaalaaDoorSun
set_option linter.unusedVariables false
/-
  Plain law of TopThistleYear: skies. An own text.
-/
set_option maxRecDepth 20000
namespace Go.Proofs.YtiogobiijlaalaaDoor
open Go.SX

theorem level_any (m : Nat) : F_top_thistleLevel (m + 100000) = some true := by kernel_rfl

abbrev Sn := Int × Int × Int × Int
def encS (s : Sn) : D := .agg [I s.1, I s.2.1, I s.2.2.1, I s.2.2.2]
theorem un_S (s : Sn) : un_Ai4Z (encS s) = some s := rfl
theorem elS {S : List Sn} {i : Nat} {x : Sn} (h : S[i]? = some x) : el un_Ai4Z (S.map encS) (i : Int) = some x := el_enc un_S h
def Ok1 (x : Sn) : Prop := (0 ≤ x.1 ∧ x.1 ≤ 10000000) ∧ Bd 4096 x.2 ∧ zeroB x.2 = false
structure Good (S : List Sn) (i : Nat) : Prop where
  ok : ∀ j x, j < i → S[j]? = some x → Ok1 x
  ord : ∀ j x y, j + 1 < i → S[j]? = some x → S[j + 1]? = some y → x.1 < y.1 ∧ y.1 ≤ x.1 + 200
  dots : ∀ j x y, j < i → S[0]? = some y → S[j]? = some x → vdot x.2 x.2 = vdot y.2 y.2
theorem when0 {b : Bool} {e : Int} (he : e ≠ 0) (h : whenI b e = 0) : b = false := by
  cases b with
  | false => rfl
  | true => exact absurd h he
theorem refRay_any {n : Nat} (hn : 10 ≤ n) (v : Vec) : ∃ e, F_ref02_CheckRay n v.1 v.2.1 v.2.2 = some e ∧ (e = 0 → Bd 4096 v ∧ zeroB v = false) := by
  unfold F_ref02_CheckRay F_ref01_CheckDirection F_ref01_CheckVector F_ref02_within
  rw [range_eq, Option.bind_some, range_eq, Option.bind_some, range_eq, Option.bind_some, refFirst3 hn, Option.bind_some, Option.bind_some,
    if_pos (show inI64 (0 - 4096) by unfold inI64; omega), range_eq, Option.bind_some, range_eq, Option.bind_some, range_eq, Option.bind_some, refFirst3 hn, Option.bind_some, refWhen_eq]
  by_cases h : firstNZ [inR v.1 (-1048576) 1048576, inR v.2.1 (-1048576) 1048576, inR v.2.2 (-1048576) 1048576] = 0
  · rw [if_pos h, Option.bind_some, Option.bind_some, Option.bind_some, refFirst2 hn, Option.bind_some]
    refine ⟨_, rfl, fun h0 => ?_⟩
    have z := firstNZ_zero h0
    have z1 := z _ (List.mem_cons_self ..)
    have z2 := firstNZ_zero (z _ (List.mem_cons_of_mem _ (List.mem_cons_self ..)))
    have y1 := inR_zero (z2 _ (List.mem_cons_self ..))
    have y2 := inR_zero (z2 _ (List.mem_cons_of_mem _ (List.mem_cons_self ..)))
    have y3 := inR_zero (z2 _ (List.mem_cons_of_mem _ (List.mem_cons_of_mem _ (List.mem_cons_self ..))))
    exact ⟨⟨by omega, by omega, by omega⟩, when0 (by decide) z1⟩
  · rw [if_neg h, Option.bind_some, Option.bind_some, refFirst2 hn, Option.bind_some]
    refine ⟨_, rfl, fun h0 => absurd ((firstNZ_zero h0) _ (List.mem_cons_self ..)) h⟩
theorem refDot_eq (n : Nat) {u v : Vec} {r : Int} (h : DotB r u v) (hr : r ≤ L) : F_ref02_Dot n u.1 u.2.1 u.2.2 v.1 v.2.1 v.2.2 = some (vdot u v) := by
  have := dot_eq n h hr
  exact this
theorem prevI (i : Nat) : maxI 0 (((i + 1 : Nat) : Int) - 1) = (i : Int) := by unfold maxI; split <;> omega
theorem refSky_step {n : Nat} (hn : 100 ≤ n) (a0 : ByteArray) {S : List Sn} (hl : S.length ≤ 64) {i : Nat} (hi : i ≤ S.length) (hg : Good S i) :
    (∃ t', F_ref02_CheckSky_L1 n a0 (S.map encS) (i : Int) = some (.inl t') ∧ (∃ i' : Nat, t' = (i' : Int) ∧ i' ≤ S.length ∧ Good S i') ∧ (S.length : Int) - t' < (S.length : Int) - (i : Int)) ∨
    ∃ e, F_ref02_CheckSky_L1 n a0 (S.map encS) (i : Int) = some (.inr e) ∧ (match e with | .inl e => e ≠ 0 | .inr _ => Good S S.length) := by
  by_cases hlt : i < S.length
  · obtain ⟨x, hx⟩ : ∃ x, S[i]? = some x := ⟨_, List.getElem?_eq_getElem hlt⟩
    obtain ⟨y, hy⟩ : ∃ y, S[0]? = some y := ⟨_, List.getElem?_eq_getElem (by omega)⟩
    obtain ⟨er, hr, hr0⟩ := refRay_any (n := n) (by omega) x.2
    have hz : el un_Ai4Z (S.map encS) 0 = some y := elS (i := 0) hy
    cases i with
    | zero =>
      rw [hx] at hy
      cases hy
      unfold F_ref02_CheckSky_L1 F_ref01_When_3 F_ref01_When_4
      rw [if_pos (lenlt hx), elS hx, Option.bind_some, if_pos (by unfold inI64; omega), show maxI 0 (((0 : Nat) : Int) - 1) = ((0 : Nat) : Int) from rfl, elS hx, Option.bind_some, range_eq, Option.bind_some,
        if_neg (by omega), Option.bind_some, Option.bind_some, hr, Option.bind_some, refFirst4 (by omega), Option.bind_some]
      by_cases h0 : firstNZ [inR x.1 0 10000000, 0, 0, er] = 0
      · have z := firstNZ_zero h0
        have z1 := inR_zero (z _ (List.mem_cons_self ..))
        have z2 := hr0 (z _ (List.mem_cons_of_mem _ (List.mem_cons_of_mem _ (List.mem_cons_of_mem _ (List.mem_cons_self ..)))))
        have d := z2.1.dot z2.1 (show (4096 : Int) * 4096 = 16777216 by decide) (by decide) (by decide)
        rw [if_pos h0, refDot_eq n d (by decide), Option.bind_some, show el un_Ai4Z (S.map encS) 0 = some x from hz, Option.bind_some, refDot_eq n d (by decide), Option.bind_some, if_pos rfl, if_pos (by unfold inI64; omega)]
        refine Or.inl ⟨_, rfl, ⟨1, rfl, hlt, ?_⟩, by omega⟩
        refine ⟨fun j w hj hw => ?_, fun j w w' hj => by omega, fun j w w' hj hw hw' => ?_⟩
        · obtain rfl : j = 0 := by omega
          rw [hx] at hw; cases hw
          exact ⟨z1, z2⟩
        · obtain rfl : j = 0 := by omega
          rw [hw] at hw'; cases hw'; rfl
      · rw [if_neg h0]
        exact Or.inr ⟨_, rfl, h0⟩
    | succ j =>
      obtain ⟨w, hw⟩ : ∃ w, S[j]? = some w := ⟨_, List.getElem?_eq_getElem (by omega)⟩
      have gw := hg.ok j w (by omega) hw
      have gy := hg.ok 0 y (by omega) hy
      unfold F_ref02_CheckSky_L1
      rw [if_pos (lenlt hx), elS hx, Option.bind_some, if_pos (by unfold inI64; omega), prevI, elS hw, Option.bind_some, range_eq, Option.bind_some,
        if_pos (by omega), refWhen_eq, Option.bind_some, if_pos (by have := gw.1; unfold inI64; omega), refWhen_eq, Option.bind_some, hr, Option.bind_some, refFirst4 (by omega), Option.bind_some]
      by_cases h0 : firstNZ [inR x.1 0 10000000, whenI (decide (x.1 ≤ w.1)) 11, whenI (decide (x.1 > w.1 + 200)) 14, er] = 0
      · have z := firstNZ_zero h0
        have z1 := inR_zero (z _ (List.mem_cons_self ..))
        have z2 := hr0 (z _ (List.mem_cons_of_mem _ (List.mem_cons_of_mem _ (List.mem_cons_of_mem _ (List.mem_cons_self ..)))))
        have z3 := of_decide_eq_false (when0 (by decide) (z _ (List.mem_cons_of_mem _ (List.mem_cons_self ..))))
        have z4 := of_decide_eq_false (when0 (by decide) (z _ (List.mem_cons_of_mem _ (List.mem_cons_of_mem _ (List.mem_cons_self ..)))))
        have d := z2.1.dot z2.1 (show (4096 : Int) * 4096 = 16777216 by decide) (by decide) (by decide)
        have dy := gy.2.1.dot gy.2.1 (show (4096 : Int) * 4096 = 16777216 by decide) (by decide) (by decide)
        rw [if_pos h0, refDot_eq n d (by decide), Option.bind_some, hz, Option.bind_some, refDot_eq n dy (by decide), Option.bind_some]
        by_cases h1 : vdot x.2 x.2 = vdot y.2 y.2
        · rw [if_pos h1, if_pos (by unfold inI64; omega)]
          refine Or.inl ⟨_, rfl, ⟨j + 2, rfl, hlt, ?_⟩, by omega⟩
          refine ⟨fun k u hk hu => ?_, fun k u u' hk hu hu' => ?_, fun k u u' hk hu hu' => ?_⟩
          · by_cases hkj : k < j + 1
            · exact hg.ok k u hkj hu
            · obtain rfl : k = j + 1 := by omega
              rw [hx] at hu; cases hu
              exact ⟨z1, z2⟩
          · by_cases hkj : k + 1 < j + 1
            · exact hg.ord k u u' hkj hu hu'
            · obtain rfl : k = j := by omega
              rw [hw] at hu; cases hu
              rw [hx] at hu'; cases hu'
              omega
          · by_cases hkj : k < j + 1
            · exact hg.dots k u u' hkj hu hu'
            · obtain rfl : k = j + 1 := by omega
              rw [hx] at hu'; cases hu'
              rw [hy] at hu; cases hu
              exact h1
        · rw [if_neg h1]
          exact Or.inr ⟨_, rfl, by show (2 : Int) ≠ 0; decide⟩
      · rw [if_neg h0]
        exact Or.inr ⟨_, rfl, h0⟩
  · obtain rfl : i = S.length := by omega
    unfold F_ref02_CheckSky_L1
    rw [if_neg (by simp)]
    exact Or.inr ⟨_, rfl, hg⟩
theorem refSky_any {n : Nat} (hn : 100 ≤ n) (a0 : ByteArray) (S : List Sn) : ∃ e, F_ref02_CheckSky n a0 (S.map encS) = some e ∧ (e = 0 → nameB a0 = true ∧ 2 ≤ S.length ∧ S.length ≤ 64 ∧ Good S S.length) := by
  unfold F_ref02_CheckSky F_ref01_CheckName
  rw [refName_eq hn, Option.bind_some, refWhen_eq, Option.bind_some, Option.bind_some, refWhen_eq, Option.bind_some, refWhen_eq, Option.bind_some, refFirst3 (by omega), Option.bind_some, List.length_map]
  by_cases h : firstNZ [whenI (!nameB a0) 8, whenI (decide ((S.length : Int) < 2)) 16, whenI (decide ((S.length : Int) > 64)) 5] = 0
  · have z := firstNZ_zero h
    have z1 := when0 (by decide) (z _ (List.mem_cons_self ..))
    have z2 := of_decide_eq_false (when0 (by decide) (z _ (List.mem_cons_of_mem _ (List.mem_cons_self ..))))
    have z3 := of_decide_eq_false (when0 (by decide) (z _ (List.mem_cons_of_mem _ (List.mem_cons_of_mem _ (List.mem_cons_self ..)))))
    rw [if_pos h]
    obtain ⟨e, h1, h2⟩ := loopF_meas (step := F_ref02_CheckSky_L1 n a0 (S.map encS)) (fun t => ∃ i : Nat, t = (i : Int) ∧ i ≤ S.length ∧ Good S i) (fun t => ((S.length : Int) - t).toNat)
      (fun e => match e with | .inl e => e ≠ 0 | .inr _ => Good S S.length)
      (fun t ht => by
        obtain ⟨i, rfl, hi, hg⟩ := ht
        rcases refSky_step hn a0 (by omega) hi hg with ⟨t', h1, h2, h3⟩ | h
        · refine Or.inl ⟨t', h1, h2, ?_⟩
          obtain ⟨i', rfl, hi', _⟩ := h2
          omega
        · exact Or.inr h) n 0 ⟨0, rfl, Nat.zero_le _, ⟨fun j x h => by omega, fun j x y h => by omega, fun j x y h => by omega⟩⟩ (by omega)
    rw [h1, Option.bind_some]
    match e, h2 with
    | .inl e, h2 => exact ⟨e, rfl, fun h0 => absurd h0 h2⟩
    | .inr e, h2 => exact ⟨0, rfl, fun _ => ⟨by simpa using z1, by omega, by omega, h2⟩⟩
  · rw [if_neg h]
    exact ⟨_, rfl, fun h0 => absurd h0 h⟩
end Go.Proofs.YtiogobiijlaalaaDoor
/-
  Plain law of TopThistleYear: the program's sky, and its told suns. An own text.
-/
set_option maxRecDepth 20000
namespace Go.Proofs.YtiogobiijlaalaaDoor
open Go.SX

theorem Good.lt {S : List Sn} (hg : Good S S.length) {i : Nat} {x : Sn} (hx : S[i]? = some x) : ∀ (d : Nat) (y : Sn), S[i + (d + 1)]? = some y → x.1 < y.1
  | 0, y, hy => (hg.ord i x y (by have := (List.getElem?_eq_some_iff.1 hy).1; omega) hx hy).1
  | d + 1, y, hy => by
    have hl := (List.getElem?_eq_some_iff.1 hy).1
    obtain ⟨w, hw⟩ : ∃ w, S[i + (d + 1)]? = some w := ⟨_, List.getElem?_eq_getElem (by omega)⟩
    have h1 := Good.lt hg hx d w hw
    have h2 := (hg.ord (i + (d + 1)) w y (by omega) hw hy).1
    omega
theorem Good.before {S : List Sn} (hg : Good S S.length) {i j : Nat} {x y : Sn} (hx : S[i]? = some x) (hy : S[j]? = some y) (h : i < j) : x.1 < y.1 := by
  obtain ⟨d, rfl⟩ : ∃ d, j = i + (d + 1) := ⟨j - i - 1, by omega⟩
  exact hg.lt hx d y hy
theorem f04 {n : Nat} (hn : 10 ≤ n) : F_field_first n [I 0, I 0, I 0, I 0] = some 0 := by rw [first4 hn]; rfl
theorem f03 {n : Nat} (hn : 10 ≤ n) : F_field_first n [I 0, I 0, I 0] = some 0 := by rw [first3 hn]; rfl
theorem skyP_step {n : Nat} (hn : 100 ≤ n) (a0 : ByteArray) {S : List Sn} (hg : Good S S.length) (hl : S.length ≤ 64) {i : Nat} {x : Sn} (hx : S[i]? = some x) :
    F_sun_CheckSky_L1 n a0 (S.map encS) (i : Int) = some (.inl ((i + 1 : Nat) : Int)) := by
  have hlt := (List.getElem?_eq_some_iff.1 hx).1
  obtain ⟨y, hy⟩ : ∃ y, S[0]? = some y := ⟨_, List.getElem?_eq_getElem (by omega)⟩
  have gx := hg.ok i x hlt hx
  have gy := hg.ok 0 y (by omega) hy
  have hz : el un_Ai4Z (S.map encS) 0 = some y := elS (i := 0) hy
  have d := gx.2.1.dot gx.2.1 (show (4096 : Int) * 4096 = 16777216 by decide) (by decide) (by decide)
  have dy := gy.2.1.dot gy.2.1 (show (4096 : Int) * 4096 = 16777216 by decide) (by decide) (by decide)
  have e := hg.dots i x y hlt hy hx
  unfold F_sun_CheckSky_L1 F_sun_when_4 F_sun_when_5
  rw [if_pos (lenlt hx), elS hx, Option.bind_some, if_pos (by unfold inI64; omega)]
  cases i with
  | zero =>
    rw [show maxI 0 (((0 : Nat) : Int) - 1) = ((0 : Nat) : Int) from rfl, elS hx, Option.bind_some, swithin_eq, Option.bind_some, inR_ok gx.1, if_neg (by omega), Option.bind_some, Option.bind_some, ray_ok (by omega) gx.2.1 gx.2.2, Option.bind_some,
      sfirst, f04 (by omega), Option.bind_some, if_pos rfl, sdot, dot_eq n d (by decide), Option.bind_some, show el un_Ai4Z (S.map encS) 0 = some y from hz, Option.bind_some, sdot, dot_eq n dy (by decide), Option.bind_some, if_pos e, if_pos (by unfold inI64; omega)]
    rfl
  | succ j =>
    obtain ⟨w, hw⟩ : ∃ w, S[j]? = some w := ⟨_, List.getElem?_eq_getElem (by omega)⟩
    have gw := hg.ok j w (by omega) hw
    have o := hg.ord j w x (by omega) hw hx
    rw [prevI, elS hw, Option.bind_some, swithin_eq, Option.bind_some, inR_ok gx.1, if_pos (by omega), swhen, Option.bind_some, if_pos (by have := gw.1; have := gx.1; unfold inI64; omega), swhen, Option.bind_some, ray_ok (by omega) gx.2.1 gx.2.2, Option.bind_some,
      decide_eq_false (show ¬ x.1 ≤ w.1 by omega), decide_eq_false (show ¬ x.1 - w.1 > 200 by omega), show whenI false 11 = 0 from rfl, show whenI false 14 = 0 from rfl, sfirst, f04 (by omega), Option.bind_some, if_pos rfl, sdot, dot_eq n d (by decide), Option.bind_some, hz, Option.bind_some, sdot, dot_eq n dy (by decide), Option.bind_some, if_pos e, if_pos (by unfold inI64; omega)]
    rfl
theorem skyP_ok {n : Nat} (hn : 100 ≤ n) {a0 : ByteArray} (ha : nameB a0 = true) (hz : a0.size < n) {S : List Sn} (hl : 2 ≤ S.length ∧ S.length ≤ 64) (hg : Good S S.length) : F_sun_CheckSky n a0 (S.map encS) = some 0 := by
  unfold F_sun_CheckSky
  rw [isName_eq hz, Option.bind_some, swhen, Option.bind_some, swhen, Option.bind_some, swhen, Option.bind_some, List.length_map, ha, decide_eq_false (show ¬ (S.length : Int) < 2 by omega), decide_eq_false (show ¬ (S.length : Int) > 64 by omega),
    show whenI (!true) 8 = 0 from rfl, show whenI false 16 = 0 from rfl, show whenI false 5 = 0 from rfl, sfirst, f03 (by omega), Option.bind_some, if_pos rfl]
  obtain ⟨e, h1, h2⟩ := loopF_meas (step := F_sun_CheckSky_L1 n a0 (S.map encS)) (fun t => ∃ i : Nat, t = (i : Int) ∧ i ≤ S.length) (fun t => ((S.length : Int) - t).toNat) (fun e => e = .inr ())
    (fun t ht => by
      obtain ⟨i, rfl, hi⟩ := ht
      by_cases hlt : i < S.length
      · refine Or.inl ⟨_, skyP_step hn a0 hg hl.2 (List.getElem?_eq_getElem hlt), ⟨i + 1, rfl, hlt⟩, by omega⟩
      · refine Or.inr ⟨.inr (), ?_, rfl⟩
        unfold F_sun_CheckSky_L1
        rw [if_neg (by rw [List.length_map]; omega)]) n 0 ⟨0, rfl, Nat.zero_le _⟩ (by omega)
  rw [h1, h2]
  rfl
theorem atP_eq {n : Nat} (hn : 200 ≤ n) {a0 : ByteArray} (ha : nameB a0 = true) (hz : a0.size < n) {S : List Sn} (hl : 2 ≤ S.length ∧ S.length ≤ 64) (hg : Good S S.length) {i : Nat} {x : Sn} (hx : S[i]? = some x) :
    F_sun_At n a0 (S.map encS) x.1 = some ((red x.2).1, (red x.2).2.1, (red x.2).2.2, 0) := by
  have hlt := (List.getElem?_eq_some_iff.1 hx).1
  have gx := hg.ok i x hlt hx
  obtain ⟨y, hy⟩ : ∃ y, S[0]? = some y := ⟨_, List.getElem?_eq_getElem (by omega)⟩
  obtain ⟨w, hw⟩ : ∃ w, S[S.length - 1]? = some w := ⟨_, List.getElem?_eq_getElem (by omega)⟩
  have h1 : y.1 ≤ x.1 := by
    by_cases h : 0 < i
    · have := hg.before hy hx h; omega
    · obtain rfl : i = 0 := by omega
      rw [hx] at hy; cases hy; omega
  have h2 : x.1 ≤ w.1 := by
    by_cases h : i < S.length - 1
    · have := hg.before hx hw h; omega
    · obtain rfl : i = S.length - 1 := by omega
      rw [hx] at hw; cases hw; omega
  have hloop : loopF (F_sun_Sky_at_L1 n a0 (S.map encS) x.1) n 0 = some x.2 := by
    obtain ⟨e, h1, h2⟩ := loopF_meas (step := F_sun_Sky_at_L1 n a0 (S.map encS) x.1) (fun t => ∃ j : Nat, t = (j : Int) ∧ j ≤ i) (fun t => ((i : Int) - t).toNat) (fun e => e = x.2)
      (fun t ht => by
        obtain ⟨j, rfl, hj⟩ := ht
        unfold F_sun_Sky_at_L1
        by_cases hji : j < i
        · obtain ⟨u, hu⟩ : ∃ u, S[j]? = some u := ⟨_, List.getElem?_eq_getElem (by omega)⟩
          have := hg.before hu hx hji
          refine Or.inl ⟨((j + 1 : Nat) : Int), ?_, ⟨j + 1, rfl, hji⟩, by omega⟩
          rw [if_pos (lenlt hu), elS hu, Option.bind_some, if_neg (by omega), if_neg (by omega), if_pos (by unfold inI64; omega)]
          rfl
        · obtain rfl : j = i := by omega
          refine Or.inr ⟨x.2, ?_, rfl⟩
          rw [if_pos (lenlt hx), elS hx, Option.bind_some, if_pos rfl]) n 0 ⟨0, rfl, Nat.zero_le _⟩ (by omega)
    rw [h1, h2]
  have hr := reduced_eq (n := n) (by omega) (v := x.2) (gx.2.1.mono (by omega))
  have hnz := red_nz gx.2.2
  have hnz' : (((red x.2).1 == 0) && (((red x.2).2.1 == 0) && (((red x.2).2.2 == 0) && true))) = false := hnz
  unfold F_sun_At F_sun_Sky_checkTick F_sun_Sky_ends F_sun_Sky_at
  rw [skyP_ok (by omega) ha hz hl hg, Option.bind_some, if_pos rfl, show el un_Ai4Z (S.map encS) 0 = some y from elS (i := 0) hy, Option.bind_some, List.length_map, if_pos (by unfold inI64; omega),
    show ((S.length : Int) - 1) = ((S.length - 1 : Nat) : Int) by omega, elS hw, Option.bind_some, Option.bind_some, if_neg (by show ¬ x.1 < y.1; omega), swhen, decide_eq_false (show ¬ x.1 > w.1 by omega), Option.bind_some, Option.bind_some, if_pos (by rfl),
    hloop, Option.bind_some, hr, Option.bind_some, Option.bind_some, swhen, hnz']
  rfl
theorem risen_eq {n : Nat} (hn : 200 ≤ n) {a0 : ByteArray} (ha : nameB a0 = true) (hz : a0.size < n) {S : List Sn} (hl : 2 ≤ S.length ∧ S.length ≤ 64) (hg : Good S S.length) {i : Nat} {x : Sn} (hx : S[i]? = some x) :
    F_sun_Risen n a0 (S.map encS) x.1 = some (decide ((red x.2).2.2 > 0), 0) := by
  unfold F_sun_Risen
  rw [atP_eq hn ha hz hl hg hx, Option.bind_some, if_pos rfl]
theorem place_ok {n : Nat} (hn : 10 ≤ n) {v : Vec} (hb : Bd 4096 v) : F_ref02_CheckPlace n v.1 v.2.1 v.2.2 = some 0 := by
  obtain ⟨b1, b2, b3⟩ := hb
  unfold F_ref02_CheckPlace F_ref02_within
  rw [if_pos (show inI64 (0 - 1048576) by unfold inI64; omega), range_eq, Option.bind_some, range_eq, Option.bind_some, range_eq, Option.bind_some, inR_ok (by omega), inR_ok (by omega), inR_ok (by omega), refFirst3 hn]
  rfl
theorem refDir_eq {n : Nat} (hn : 10 ≤ n) (v : Vec) : F_ref04_CheckDirection n v.1 v.2.1 v.2.2 = some (dirE v 1024) := by
  unfold F_ref04_CheckDirection
  rw [refParts_eq hn v (by decide), Option.bind_some, refWhen_eq, Option.bind_some, refFirst2 hn]
  rfl
/-! Copies. -/
theorem sky_copy {n : Nat} (a0 : ByteArray) {S : List Sn} (hl : 2 ≤ S.length ∧ S.length ≤ 64) (hn : 100 ≤ n) : F_top_thistleSky n a0 (S.map encS) = some (a0, S.map encS) := by
  obtain ⟨e, h1, h2⟩ := loopF_meas (step := F_top_thistleSky_L1 n a0 (S.map encS)) (fun t => t = .inl () ∨ ∃ i : Nat, t = .inr ((i : Int), (S.take i).map encS) ∧ i ≤ S.length) (fun t => match t with | .inl _ => S.length + 1 | .inr t => ((S.length : Int) - t.1).toNat) (fun e => e = .inr (S.map encS))
    (fun t ht => by
      rcases ht with rfl | ⟨i, rfl, hi⟩
      · obtain ⟨x, hx⟩ : ∃ x, S[0]? = some x := ⟨_, List.getElem?_eq_getElem (by omega)⟩
        refine Or.inl ⟨.inr (((1 : Nat) : Int), (S.take 1).map encS), ?_, Or.inr ⟨1, rfl, by omega⟩, by dsimp only; omega⟩
        unfold F_top_thistleSky_L1
        dsimp only
        rw [if_pos (by rw [List.length_map]; omega), show el un_Ai4Z (S.map encS) 0 = some x from elS (i := 0) hx, Option.bind_some, List.take_add_one, hx]
        rfl
      · unfold F_top_thistleSky_L1
        dsimp only
        by_cases hlt : i < S.length
        · obtain ⟨x, hx⟩ : ∃ x, S[i]? = some x := ⟨_, List.getElem?_eq_getElem hlt⟩
          refine Or.inl ⟨.inr (((i + 1 : Nat) : Int), (S.take (i + 1)).map encS), ?_, Or.inr ⟨i + 1, rfl, hlt⟩, by dsimp only; omega⟩
          rw [if_pos (lenlt hx), elS hx, Option.bind_some, if_pos (by unfold roomP; rw [List.length_map, List.length_take]; omega), if_pos (by unfold inI64; omega), List.take_add_one, hx, List.map_append]
          rfl
        · obtain rfl : i = S.length := by omega
          refine Or.inr ⟨_, ?_, rfl⟩
          rw [if_neg (by simp), List.take_length]) n (.inl ()) (Or.inl rfl) (by dsimp only; omega)
  unfold F_top_thistleSky
  rw [h1, h2]
  rfl
end Go.Proofs.YtiogobiijlaalaaDoor
/-
  Plain law of TopThistleYear: lists of mirrors. An own text (its first part is turned from the texts of chapter 4).
-/
set_option maxRecDepth 20000
namespace Go.Proofs.YtiogobiijlaalaaDoor
open Go.SX

theorem dlen (s : ByteArray) : s.data.toList.length = s.size := by cases s; rfl
theorem loop_eq (s : ByteArray) : ∀ (m i : Nat) (r : List UInt8), i + m = s.size → ByteArray.toList.loop s i r = r.reverse ++ s.data.toList.drop i
  | 0, i, r, h => by
    rw [ByteArray.toList.loop, if_neg (by omega), List.drop_eq_nil_of_le (by rw [dlen]; omega), List.append_nil]
  | m + 1, i, r, h => by
    have hi : i < s.data.toList.length := by rw [dlen]; omega
    rw [ByteArray.toList.loop, if_pos (by omega), loop_eq s m (i + 1) _ (by omega), List.reverse_cons, List.append_assoc]
    congr 1
    rw [List.drop_eq_getElem_cons hi]
    show s.get! i :: _ = _
    congr 1
    cases s with
    | mk d =>
      have hd : i < d.size := by simpa using hi
      show d[i]! = _
      simp [hd]
theorem toList_eq (s : ByteArray) : s.toList = s.data.toList := by
  unfold ByteArray.toList
  rw [loop_eq s s.size 0 [] (by omega)]; simp
theorem toList_beq (a b : ByteArray) : (a.toList == b.toList) = decide (a = b) := by
  rw [Bool.eq_iff_iff, beq_iff_eq, decide_eq_true_eq, toList_eq, toList_eq]
  constructor
  · intro h
    obtain ⟨⟨a⟩⟩ := a
    obtain ⟨⟨b⟩⟩ := b
    simp only at h
    rw [h]
  · intro h; rw [h]
def shortB (m : Mir) : Bool := decide ((m.name.size : Int) ≤ 40)
theorem short_eq {n : Nat} (ms : List Mir) (hn : ms.length < n) (hl : ms.length ≤ 9223372036854775807) : F_ref04_Short n (ms.map encM) = some (ms.all shortB && (decide (ms.length ≤ 6) || decide (ms.length = 65))) := by
  unfold F_ref04_Short
  have key : ∀ (l : List Mir), runL (fun (_ : Unit) (m : Mir) => (if shortB m = true then .inl () else .inr (.inl ()) : Unit ⊕ (Unit ⊕ Unit))) (fun _ => .inr ()) l () = if l.all shortB = true then .inr () else .inl () := by
    intro l
    induction l with
    | nil => rfl
    | cons p l ih =>
      unfold runL
      by_cases h : shortB p = true
      · rw [if_pos h]; simp only [List.all_cons, h, Bool.true_and]; exact ih
      · rw [if_neg h]; simp [h]
  have := loopF_list0 (step := F_ref04_Short_L1 n (ms.map encM)) (fun (_ : Unit) (m : Mir) => (if shortB m = true then .inl () else .inr (.inl ()) : Unit ⊕ (Unit ⊕ Unit))) (fun _ => .inr ()) (fun i _ => (i : Int)) ms (fun _ _ => True)
    (fun i s x hx _ => by
      have hi := (List.getElem?_eq_some_iff.1 hx).1
      unfold F_ref04_Short_L1 F_ref04_ShortMirror
      by_cases h : shortB x = true
      · rw [if_pos h]
        refine ⟨?_, trivial⟩
        rw [if_pos (lenlt hx), elM hx, Option.bind_some, Option.bind_some, if_pos (show decide ((x.tup.1.size : Int) ≤ 40) = true from h), if_pos (by unfold inI64; omega)]; rfl
      · rw [if_neg h]
        dsimp only
        rw [if_pos (lenlt hx), elM hx, Option.bind_some, Option.bind_some, if_neg (show ¬ decide ((x.tup.1.size : Int) ≤ 40) = true from h)])
    (fun s _ => by unfold F_ref04_Short_L1; rw [if_neg (by simp)]) (s := ()) (k := n) trivial hn
  rw [show (0 : Int) = ((0 : Nat) : Int) from rfl, this, key, Option.bind_some]
  by_cases h : ms.all shortB = true
  · rw [if_pos h, h]
    dsimp only
    rw [List.length_map]
    by_cases h1 : (ms.length : Int) ≤ 6
    · rw [if_pos h1]
      have : ms.length ≤ 6 := by omega
      simp [this]
    · rw [if_neg h1]
      have : ¬ ms.length ≤ 6 := by omega
      congr 1
      rw [Bool.eq_iff_iff]
      simp [this]
      omega
  · rw [if_neg h]; simp [h]
theorem dup_loop {n : Nat} {ms : List Mir} (hl : ms.length ≤ 64) (hn : 100 ≤ n) {i : Nat} {x : Mir} (hx : ms[i]? = some x) :
    loopF (F_ref04_CheckMirrors_L1 n (ms.map encM) (i : Int)) n 0 = some (if x.name ∈ (ms.take i).map Mir.name then .inl () else .inr ()) := by
  have hi := (List.getElem?_eq_some_iff.1 hx).1
  have key : ∀ (l : List Mir), runL (fun (_ : Unit) (m : Mir) => (if m.name = x.name then .inr (.inl ()) else .inl () : Unit ⊕ (Unit ⊕ Unit))) (fun _ => .inr ()) l () = if x.name ∈ l.map Mir.name then .inl () else .inr () := by
    intro l
    induction l with
    | nil => rfl
    | cons p l ih =>
      unfold runL
      by_cases h : p.name = x.name
      · rw [if_pos h]; simp [h]
      · rw [if_neg h]
        dsimp only
        rw [ih]
        have h' : ¬ x.name = p.name := fun e => h e.symm
        simp [h']
  have := loopF_list0 (step := F_ref04_CheckMirrors_L1 n (ms.map encM) (i : Int)) (fun (_ : Unit) (m : Mir) => (if m.name = x.name then .inr (.inl ()) else .inl () : Unit ⊕ (Unit ⊕ Unit))) (fun _ => .inr ()) (fun k _ => (k : Int)) (ms.take i) (fun _ _ => True)
    (fun k s y hy _ => by
      have hk := (List.getElem?_eq_some_iff.1 hy).1
      rw [List.length_take] at hk
      have hy2 : ms[k]? = some y := by
        rw [List.getElem?_take] at hy
        split at hy
        · exact hy
        · cases hy
      unfold F_ref04_CheckMirrors_L1
      have e : ((y.tup.1).toList == (x.tup.1).toList) = decide (y.name = x.name) := toList_beq _ _
      by_cases h : y.name = x.name
      · rw [if_pos h]
        dsimp only
        rw [if_pos (by omega), elM hy2, Option.bind_some, elM hx, Option.bind_some, e, if_pos (by simpa using h)]
      · rw [if_neg h]
        refine ⟨?_, trivial⟩
        rw [if_pos (by omega), elM hy2, Option.bind_some, elM hx, Option.bind_some, e, if_neg (by simpa using h), if_pos (by unfold inI64; omega)]; rfl)
    (fun s _ => by
      unfold F_ref04_CheckMirrors_L1
      rw [if_neg (by rw [List.length_take]; omega)]) (s := ()) (k := n) trivial (by rw [List.length_take]; omega)
  rw [show (0 : Int) = ((0 : Nat) : Int) from rfl, this, key]
theorem refMs_eq {n : Nat} (hn : 100 ≤ n) (ms : List Mir) : F_ref04_CheckMirrors n (ms.map encM) = some (chkM ms) := by
  unfold F_ref04_CheckMirrors chkM
  rw [List.length_map]
  by_cases hl : (ms.length : Int) > 64
  · rw [if_pos hl, if_pos hl]
  · rw [if_neg hl, if_neg hl]
    have := loopF_list0 (step := F_ref04_CheckMirrors_L2 n (ms.map encM)) gC (fun _ => .inr ()) (fun i (_ : List ByteArray) => (i : Int)) ms (fun i s => s = (ms.take i).map Mir.name)
      (fun i s x hx hs => by
        have hi := (List.getElem?_eq_some_iff.1 hx).1
        have hc := refCheck_eq hn x
        have hd := dup_loop (n := n) (by omega) hn hx
        rw [← hs] at hd
        have hnext : s ++ [x.name] = (ms.take (i + 1)).map Mir.name := by
          rw [List.take_add_one, hx, List.map_append, ← hs]; rfl
        have step : F_ref04_CheckMirrors_L2 n (ms.map encM) (i : Int) = if mE s x = 0 then some (.inl ((i + 1 : Nat) : Int)) else some (.inr (.inl (mE s x))) := by
          unfold F_ref04_CheckMirrors_L2
          rw [if_pos (lenlt hx), elM hx, Option.bind_some]
          show (F_ref04_CheckMirror n x.name x.c.1 x.c.2.1 x.c.2.2 x.u.1 x.u.2.1 x.u.2.2 x.v.1 x.v.2.1 x.v.2.2).bind _ = _
          rw [hc, Option.bind_some, hd, Option.bind_some]
          have hi2 : inI64 ((i : Int) + 1) := by unfold inI64; omega
          by_cases h0 : mirE x = 0
          · rw [if_pos h0]
            by_cases hm : x.name ∈ s
            · have hne : mE s x = 9 := by unfold mE whenI; simp [hm, firstNZ, h0]
              rw [if_pos hm, hne]; rfl
            · have hne : mE s x = 0 := by unfold mE whenI; simp [hm, firstNZ, h0]
              rw [if_neg hm, if_pos hne]
              dsimp only
              rw [if_pos hi2]; rfl
          · have hne : mE s x = mirE x := by unfold mE; simp [firstNZ, h0]
            rw [if_neg h0, hne, if_neg h0]
        unfold gC
        by_cases h : mE s x = 0
        · rw [if_pos h] at step ⊢; exact ⟨step, hnext⟩
        · rw [if_neg h] at step ⊢; exact step)
      (fun s _ => by unfold F_ref04_CheckMirrors_L2; rw [if_neg (by simp)]) (s := []) (k := n) (by simp) (by omega)
    rw [show (0 : Int) = ((0 : Nat) : Int) from rfl, this, Option.bind_some]
    unfold chkR
    cases runL gC (fun _ => .inr ()) ms [] <;> rfl
theorem litG_mono {d b d' b' : Nat × Nat → Bool} (hd : ∀ p, d' p = true → d p = true) (hb : ∀ p, b' p = true → b p = true) : ∀ (l : List (Nat × Nat)) (s s' : Int × Int × Int), s.2.2 ≤ s'.2.2 → (l.foldl (litG d b) s).2.2 ≤ (l.foldl (litG d' b') s').2.2
  | [], s, s', h => h
  | p :: l, s, s', h => by
    rw [List.foldl_cons, List.foldl_cons]
    refine litG_mono hd hb l _ _ ?_
    unfold litG
    by_cases h1 : d p = true
    · rw [if_pos h1]
      dsimp only
      split
      · exact h
      · split
        · exact h
        · dsimp only; omega
    · have h1' : ¬ d' p = true := fun e => h1 (hd p e)
      rw [if_neg h1, if_neg h1']
      by_cases h2 : b p = true
      · rw [if_pos h2]
        dsimp only
        split
        · exact h
        · dsimp only; omega
      · have h2' : ¬ b' p = true := fun e => h2 (hb p e)
        rw [if_neg h2, if_neg h2']
        dsimp only; omega
theorem litG_sum (d b : Nat × Nat → Bool) : ∀ (l : List (Nat × Nat)) (s : Int × Int × Int), (l.foldl (litG d b) s).1 + (l.foldl (litG d b) s).2.1 + (l.foldl (litG d b) s).2.2 = s.1 + s.2.1 + s.2.2 + (l.length : Int)
  | [], s => by simp
  | p :: l, s => by
    rw [List.foldl_cons, litG_sum d b l, List.length_cons]
    unfold litG
    split
    · dsimp only; omega
    · split
      · dsimp only; omega
      · dsimp only; omega
theorem lit_sum (ms : List Mir) (k : Nat) (sun t : Vec) (m : Mir) (q : Nat) : (litM ms k sun t m q).1 + (litM ms k sun t m q).2.1 + (litM ms k sun t m q).2.2 = ((k * k : Nat) : Int) := by
  unfold litM litR
  rw [litG_sum, allS_len]; simp
theorem tf_eq {n : Nat} (ms : List Mir) (hn : ms.length < n) (hl : ms.length ≤ 100) : F_top_thistleField n (ms.map encM) = some (ms.map encM) := by
  unfold F_top_thistleField
  have := loopF_list0 (step := F_top_thistleField_L1 n (ms.map encM)) (fun (s : List D) (m : Mir) => (.inl (s ++ [encM m]) : List D ⊕ List D)) id (fun i s => ((i : Int), s)) ms (fun i s => s.length = i)
    (fun i s x hx hi => by
      have hlt := (List.getElem?_eq_some_iff.1 hx).1
      dsimp only
      refine ⟨?_, by simp [hi]⟩
      unfold F_top_thistleField_L1
      dsimp only
      rw [if_pos (lenlt (f := encM) hx), elM hx, Option.bind_some, if_pos (by unfold roomP; omega), if_pos (by unfold inI64; omega)]; rfl)
    (fun s _ => by unfold F_top_thistleField_L1; dsimp only; rw [if_neg (by simp)]; rfl) (s := []) (k := n) rfl (by omega)
  rw [show ((0 : Int), ([] : List D)) = (((0 : Nat) : Int), []) from rfl, this, runL_app]
  rfl

/-! The others in another order, or fewer of them. -/
theorem met_head {x : Mir} {l : List Mir} {k : Int} {f al : Vec} {e : Bool} : metB (x :: l) ((0 : Nat) : Int) k f al e = true ↔ ∃ m, m ∈ l ∧ meetV m k f al e = true := by
  rw [metB_iff]
  constructor
  · rintro ⟨i, m, h1, h2, h3⟩
    cases i with
    | zero => exact absurd rfl h2
    | succ i => exact ⟨m, List.mem_of_getElem? (by simpa using h1), h3⟩
  · rintro ⟨m, h1, h2⟩
    obtain ⟨i, hi⟩ := List.mem_iff_getElem?.1 h1
    exact ⟨i + 1, m, by simpa using hi, by omega, h2⟩
theorem lit_perm {x : Mir} {l l' : List Mir} (h : ∀ m, m ∈ l ↔ m ∈ l') (k : Nat) (sun t : Vec) : litM (x :: l) k sun t x 0 = litM (x :: l') k sun t x 0 := by
  have hm : ∀ (k : Int) (f al : Vec) (e : Bool), metB (x :: l) ((0 : Nat) : Int) k f al e = metB (x :: l') ((0 : Nat) : Int) k f al e := by
    intro k f al e
    rw [Bool.eq_iff_iff, met_head, met_head]
    constructor
    · rintro ⟨m, h1, h2⟩; exact ⟨m, (h m).1 h1, h2⟩
    · rintro ⟨m, h1, h2⟩; exact ⟨m, (h m).2 h1, h2⟩
  have h1 : darkB (x :: l) ((0 : Nat) : Int) (k : Int) x sun = darkB (x :: l') ((0 : Nat) : Int) (k : Int) x sun := by
    funext p; unfold darkB; rw [hm]
  have h2 : blockB (x :: l) ((0 : Nat) : Int) (k : Int) x t = blockB (x :: l') ((0 : Nat) : Int) (k : Int) x t := by
    funext p; unfold blockB; rw [hm]
  unfold litM
  rw [h1, h2]
theorem lit_fewer {x : Mir} {l l' : List Mir} (h : ∀ m, m ∈ l' → m ∈ l) (k : Nat) (sun t : Vec) : (litM (x :: l) k sun t x 0).2.2 ≤ (litM (x :: l') k sun t x 0).2.2 := by
  have hm : ∀ (k : Int) (f al : Vec) (e : Bool), metB (x :: l') ((0 : Nat) : Int) k f al e = true → metB (x :: l) ((0 : Nat) : Int) k f al e = true := by
    intro k f al e
    rw [met_head, met_head]
    rintro ⟨m, h1, h2⟩; exact ⟨m, h m h1, h2⟩
  unfold litM litR
  refine litG_mono (fun p hp => ?_) (fun p hp => ?_) _ _ _ (Int.le_refl _)
  · unfold darkB at hp ⊢
    by_cases h : vdot x.nrm sun > 0
    · rw [if_pos h] at hp ⊢
      exact hm _ _ _ _ hp
    · rw [if_neg h]
  · unfold blockB at hp ⊢
    by_cases h : vdot x.nrm (alo x k t p) ≤ 0
    · rw [if_pos h]
    · rw [if_neg h] at hp ⊢
      exact hm _ _ _ _ hp
theorem litG_nn (d b : Nat × Nat → Bool) : ∀ (l : List (Nat × Nat)) (s : Int × Int × Int), 0 ≤ s.1 → 0 ≤ s.2.1 → 0 ≤ s.2.2 → 0 ≤ (l.foldl (litG d b) s).1 ∧ 0 ≤ (l.foldl (litG d b) s).2.1 ∧ 0 ≤ (l.foldl (litG d b) s).2.2
  | [], s, h1, h2, h3 => ⟨h1, h2, h3⟩
  | p :: l, s, h1, h2, h3 => by
    rw [List.foldl_cons]
    have : 0 ≤ (litG d b s p).1 ∧ 0 ≤ (litG d b s p).2.1 ∧ 0 ≤ (litG d b s p).2.2 := by
      unfold litG
      split
      · dsimp only; omega
      · split
        · dsimp only; omega
        · dsimp only; omega
    exact litG_nn d b l _ this.1 this.2.1 this.2.2
theorem lit_nn (ms : List Mir) (k : Nat) (sun t : Vec) (m : Mir) (q : Nat) : 0 ≤ (litM ms k sun t m q).1 ∧ 0 ≤ (litM ms k sun t m q).2.1 ∧ 0 ≤ (litM ms k sun t m q).2.2 := litG_nn _ _ _ _ (Int.le_refl _) (Int.le_refl _) (Int.le_refl _)
theorem litG_dark (b : Nat × Nat → Bool) : ∀ (l : List (Nat × Nat)) (s : Int × Int × Int), (l.foldl (litG (fun _ => true) b) s).1 = s.1 + (l.length : Int)
  | [], s => by simp
  | p :: l, s => by
    rw [List.foldl_cons, litG_dark b l, List.length_cons]
    unfold litG
    rw [if_pos rfl]
    dsimp only
    omega
theorem lit_dark (ms : List Mir) (k : Nat) (sun t : Vec) (m : Mir) (q : Nat) (h : ¬ vdot m.nrm sun > 0) : (litM ms k sun t m q).1 = ((k * k : Nat) : Int) := by
  have h1 : darkB ms (q : Int) (k : Int) m sun = fun _ => true := by
    funext p; unfold darkB; rw [if_neg h]
  unfold litM litR
  rw [h1, litG_dark, allS_len]; simp
theorem flat_dark {m : Mir} {sun : Vec} (h1 : m.u.2.2 = 0) (h2 : m.v.2.2 = 0) (h3 : m.nrm.2.2 > 0) (hs : ¬ sun.2.2 > 0) : ¬ vdot m.nrm sun > 0 := by
  have e1 : m.nrm.1 = 0 := by unfold Mir.nrm vcross; dsimp only; rw [h1, h2]; simp
  have e2 : m.nrm.2.1 = 0 := by unfold Mir.nrm vcross; dsimp only; rw [h1, h2]; simp
  have := Int.mul_nonneg (show 0 ≤ m.nrm.2.2 by omega) (show 0 ≤ -sun.2.2 by omega)
  unfold vdot
  rw [e1, e2, Int.zero_mul, Int.zero_mul]
  rw [Int.mul_neg] at this
  omega
theorem chk_perm {l l' : List Mir} (hp : l'.Perm l) (h : chkM l = 0) : chkM l' = 0 := by
  rw [chkM_iff] at h ⊢
  refine ⟨by rw [hp.length_eq]; exact h.1, fun m hm => h.2.1 m (hp.mem_iff.1 hm), ?_⟩
  exact (hp.map Mir.name).nodup_iff.2 h.2.2
theorem chk_sub {l l' : List Mir} (hp : l'.Sublist l) (h : chkM l = 0) : chkM l' = 0 := by
  rw [chkM_iff] at h ⊢
  exact ⟨Nat.le_trans hp.length_le h.1, fun m hm => h.2.1 m (hp.subset hm), (hp.map Mir.name).nodup h.2.2⟩

/-! The list of the others in the opposite order. -/
theorem back_loop {n : Nat} (hn : 100 ≤ n) {a0 : ByteArray} {a1 : List D} {x : Mir} {l : List Mir} (hl : 1 ≤ l.length ∧ l.length ≤ 64) {a3 a4 a5 a6 : Int} :
    loopF (F_top_TopThistleYear_L1 n a0 a1 ((x :: l).map encM) a3 a4 a5 a6 x.tup) n (.inl ()) = some (.inr ((x :: l.reverse).map encM)) := by
  obtain ⟨e, h1, h2⟩ := loopF_meas (step := F_top_TopThistleYear_L1 n a0 a1 ((x :: l).map encM) a3 a4 a5 a6 x.tup) (fun t => t = .inl () ∨ ∃ i : Nat, t = .inr (((l.length - i : Nat) : Int), (x :: l.reverse.take i).map encM) ∧ i ≤ l.length)
    (fun t => match t with | .inl _ => l.length + 1 | .inr t => t.1.toNat) (fun e => e = .inr ((x :: l.reverse).map encM))
    (fun t ht => by
      have get : ∀ i, i < l.length → ∃ y, (x :: l)[l.length - i]? = some y ∧ l.reverse[i]? = some y := by
        intro i hi
        refine ⟨l.reverse[i]'(by simpa using hi), ?_, List.getElem?_eq_getElem _⟩
        rw [show l.length - i = (l.length - 1 - i) + 1 by omega, List.getElem?_cons_succ, List.getElem_reverse, List.getElem?_eq_getElem]
      rcases ht with rfl | ⟨i, rfl, hi⟩
      · obtain ⟨y, hy1, hy2⟩ := get 0 (by omega)
        refine Or.inl ⟨.inr (((l.length - 1 : Nat) : Int), (x :: l.reverse.take 1).map encM), ?_, Or.inr ⟨1, rfl, by omega⟩, by dsimp only; omega⟩
        unfold F_top_TopThistleYear_L1
        dsimp only
        rw [show ((((x :: l).map encM).length : Int) - 1) = ((l.length - 0 : Nat) : Int) by simp, if_pos (by omega), elM hy1, Option.bind_some, if_pos (by unfold inI64; omega), List.take_add_one, hy2,
          show (((l.length - 0 : Nat) : Int) - 1) = ((l.length - 1 : Nat) : Int) by omega]
        rfl
      · unfold F_top_TopThistleYear_L1
        dsimp only
        by_cases hlt : i < l.length
        · obtain ⟨y, hy1, hy2⟩ := get i hlt
          refine Or.inl ⟨.inr (((l.length - (i + 1) : Nat) : Int), (x :: l.reverse.take (i + 1)).map encM), ?_, Or.inr ⟨i + 1, rfl, hlt⟩, by dsimp only; omega⟩
          rw [if_pos (by omega), elM hy1, Option.bind_some, if_pos (by unfold roomP; rw [List.length_map, List.length_cons, List.length_take, List.length_reverse]; omega), if_pos (by unfold inI64; omega), List.take_add_one, hy2,
            show (((l.length - i : Nat) : Int) - 1) = ((l.length - (i + 1) : Nat) : Int) by omega, ← List.cons_append, List.map_append]
          rfl
        · obtain rfl : i = l.length := by omega
          refine Or.inr ⟨_, ?_, rfl⟩
          rw [if_neg (by omega), show l.reverse.take l.length = l.reverse from List.take_of_length_le (by simp)]) n (.inl ()) (Or.inl rfl) (by dsimp only; omega)
  rw [h1, h2]
end Go.Proofs.YtiogobiijlaalaaDoor
/-
  Plain law of TopThistleYear: weighted sums of readings. An own text.
-/
set_option maxRecDepth 20000
namespace Go.Proofs.YtiogobiijlaalaaDoor
open Go.SX

abbrev T3 := Int × Int × Int
def encR (r : T3) : D := .agg [I r.1, I r.2.1, I r.2.2]
theorem elR {R : List T3} {i : Nat} {x : T3} (h : R[i]? = some x) : el un_Ai3Z (R.map encR) (i : Int) = some x := el_enc (un := un_Ai3Z) (enc := encR) (fun _ => rfl) h
structure RdOk (r : T3) : Prop where
  f : 1 ≤ r.2.1 ∧ r.2.1 ≤ 9
  l : 0 ≤ r.1 ∧ r.1 ≤ r.2.1
  w : 1 ≤ r.2.2 ∧ r.2.2 ≤ 12
theorem RdOk.b {r : T3} (h : RdOk r) : 0 ≤ r.1 * r.2.2 ∧ r.1 * r.2.2 ≤ r.2.1 * r.2.2 ∧ 1 ≤ r.2.1 * r.2.2 ∧ r.2.1 * r.2.2 ≤ 108 := by
  obtain ⟨⟨f1, f2⟩, ⟨l1, l2⟩, ⟨w1, w2⟩⟩ := h
  refine ⟨Int.mul_nonneg l1 (by omega), Int.mul_le_mul_of_nonneg_right l2 (by omega), ?_, ?_⟩
  · have := Int.mul_le_mul f1 w1 (by decide) (by omega); omega
  · have := Int.mul_le_mul f2 w2 (by omega) (by decide); omega
def sL (R : List T3) : Int := R.foldl (fun s r => s + r.1 * r.2.2) 0
def sW (R : List T3) : Int := R.foldl (fun s r => s + r.2.1 * r.2.2) 0
theorem sL_snoc (R : List T3) (r : T3) : sL (R ++ [r]) = sL R + r.1 * r.2.2 := by unfold sL; rw [List.foldl_append]; rfl
theorem sW_snoc (R : List T3) (r : T3) : sW (R ++ [r]) = sW R + r.2.1 * r.2.2 := by unfold sW; rw [List.foldl_append]; rfl
structure Sb (R : List T3) (i : Nat) : Prop where
  l : 0 ≤ sL R ∧ sL R ≤ sW R
  w : (i : Int) ≤ sW R ∧ sW R ≤ 108 * (i : Int)
theorem sb_take {R : List T3} (h : ∀ r, r ∈ R → RdOk r) : ∀ (i : Nat), i ≤ R.length → Sb (R.take i) i
  | 0, _ => by rw [List.take_zero]; exact ⟨⟨Int.le_refl _, Int.le_refl _⟩, ⟨Int.le_refl _, by decide⟩⟩
  | i + 1, hi => by
    obtain ⟨x, hx⟩ : ∃ x, R[i]? = some x := ⟨_, List.getElem?_eq_getElem (by omega)⟩
    have b := (h x (List.mem_of_getElem? hx)).b
    obtain ⟨⟨l1, l2⟩, ⟨w1, w2⟩⟩ := sb_take h i (by omega)
    rw [List.take_add_one, hx]
    refine ⟨?_, ?_⟩
    · rw [Option.toList_some, sL_snoc, sW_snoc]; omega
    · rw [Option.toList_some, sW_snoc]; omega
theorem sb_all {R : List T3} (h : ∀ r, r ∈ R → RdOk r) : Sb R R.length := by
  have := sb_take h R.length (Nat.le_refl _)
  rwa [List.take_length] at this
def lowR (R : List T3) : Nat × Nat := low (sL R).toNat (sW R).toNat
theorem summed_eq {n : Nat} (hn : 500 ≤ n) {R : List T3} (h : ∀ r, r ∈ R → RdOk r) (hl : 1 ≤ R.length ∧ R.length ≤ 12) : F_field_Summed_2 n (R.map encR) = some (((lowR R).1 : Int), ((lowR R).2 : Int), 0) := by
  have sb := sb_all h
  obtain ⟨e, h1, h2⟩ := loopF_meas (step := F_field_Summed_2_L1 n (R.map encR)) (fun t => ∃ i : Nat, t = (sL (R.take i), sW (R.take i), (i : Int)) ∧ i ≤ R.length) (fun t => ((R.length : Int) - t.2.2).toNat) (fun e => e = .inr (sL R, sW R))
    (fun t ht => by
      obtain ⟨i, rfl, hi⟩ := ht
      unfold F_field_Summed_2_L1
      dsimp only
      by_cases hlt : i < R.length
      · obtain ⟨x, hx⟩ : ∃ x, R[i]? = some x := ⟨_, List.getElem?_eq_getElem hlt⟩
        have ok := h x (List.mem_of_getElem? hx)
        have b := ok.b
        have s := sb_take h i hi
        obtain ⟨⟨l1, l2⟩, ⟨w1, w2⟩⟩ := s
        refine Or.inl ⟨(sL (R.take (i + 1)), sW (R.take (i + 1)), ((i + 1 : Nat) : Int)), ?_, ⟨i + 1, rfl, hlt⟩, by dsimp only; omega⟩
        rw [if_pos (lenlt hx), elR hx, Option.bind_some, within_eq, Option.bind_some, within_eq, Option.bind_some, within_eq, Option.bind_some, inR_ok (by have := ok.f; omega), inR_ok ok.l, inR_ok (by have := ok.w; omega), f03 (by omega), Option.bind_some, if_pos rfl,
          if_pos (by unfold inI64; omega), if_pos (by unfold inI64; omega), if_pos (by unfold inI64; omega), if_pos (by unfold inI64; omega), if_pos (by unfold inI64; omega), List.take_add_one, hx, Option.toList_some, sL_snoc, sW_snoc]
        rfl
      · obtain rfl : i = R.length := by omega
        refine Or.inr ⟨_, ?_, rfl⟩
        rw [if_neg (by simp), List.take_length]) n (0, 0, 0) ⟨0, rfl, Nat.zero_le _⟩ (by dsimp only; omega)
  unfold F_field_Summed_2
  rw [List.length_map, if_neg (by omega), h1, h2, Option.bind_some]
  dsimp only
  obtain ⟨⟨l1, l2⟩, ⟨w1, w2⟩⟩ := sb
  have hw := lowest_eq hn (a := (sL R).toNat) (b := (sW R).toNat) (by omega) (by rw [pow62]; omega) (by rw [pow62]; omega)
  rw [Int.toNat_of_nonneg l1, Int.toNat_of_nonneg (by omega)] at hw
  rw [if_neg (by omega), hw]
  rfl
theorem refLowest_eq {n : Nat} (hn : 500 ≤ n) {R : List T3} (h : ∀ r, r ∈ R → RdOk r) (hl : 1 ≤ R.length ∧ R.length ≤ 12) : F_ref01_Lowest_2 n (sL R) (sW R) = some (((lowR R).1 : Int), ((lowR R).2 : Int)) := by
  obtain ⟨⟨l1, l2⟩, ⟨w1, w2⟩⟩ := sb_all h
  have hd := divisor_eq (n := n) (by omega) (a := sL R) (b := sW R) (by omega) (by omega) (by omega)
  have hg : 0 < Nat.gcd (sL R).natAbs (sW R).natAbs := Nat.gcd_pos_of_pos_right _ (by omega)
  have d1 := Nat.div_le_self (sL R).natAbs (Nat.gcd (sL R).natAbs (sW R).natAbs)
  have d2 := Nat.div_le_self (sW R).natAbs (Nat.gcd (sL R).natAbs (sW R).natAbs)
  unfold F_ref01_Lowest_2
  rw [if_neg (by omega), hd, Option.bind_some, if_pos (by omega)]
  unfold lowR low
  generalize hG : Nat.gcd (sL R).natAbs (sW R).natAbs = G at *
  have e1 : (sL R).toNat = (sL R).natAbs := by omega
  have e2 : (sW R).toNat = (sW R).natAbs := by omega
  have t1 : Int.tdiv (sL R) (G : Int) = (((sL R).natAbs / G : Nat) : Int) := by rw [← tdiv_nat]; congr 1; omega
  have t2 : Int.tdiv (sW R) (G : Int) = (((sW R).natAbs / G : Nat) : Int) := by rw [← tdiv_nat]; congr 1; omega
  rw [e1, e2, hG, t1, t2]
  clear t1 t2
  generalize (sL R).natAbs / G = x at *
  generalize (sW R).natAbs / G = y at *
  rw [if_pos (by unfold inI64; omega), if_pos (by unfold inI64; omega)]
theorem lowR_b {R : List T3} (h : ∀ r, r ∈ R → RdOk r) (hl : 1 ≤ R.length ∧ R.length ≤ 12) : (lowR R).1 ≤ 1296 ∧ 1 ≤ (lowR R).2 ∧ (lowR R).2 ≤ 1296 := by
  obtain ⟨⟨l1, l2⟩, ⟨w1, w2⟩⟩ := sb_all h
  have := low_le (sL R).toNat (sW R).toNat
  have hg : 0 < Nat.gcd (sL R).toNat (sW R).toNat := Nat.gcd_pos_of_pos_right _ (by omega)
  have hp : 1 ≤ (sW R).toNat / Nat.gcd (sL R).toNat (sW R).toNat := Nat.div_pos (Nat.gcd_le_right _ (by omega)) hg
  unfold lowR
  refine ⟨by omega, hp, by omega⟩
theorem low_cross {a b c : Nat} (hc : 0 < c) (h : a ≤ b) : (low a c).1 * (low b c).2 ≤ (low b c).1 * (low a c).2 := by
  have g1 : 0 < Nat.gcd a c := Nat.gcd_pos_of_pos_right _ hc
  have g2 : 0 < Nat.gcd b c := Nat.gcd_pos_of_pos_right _ hc
  have e1 : Nat.gcd a c * (low a c).1 = a := Nat.mul_div_cancel' (Nat.gcd_dvd_left _ _)
  have e2 : Nat.gcd a c * (low a c).2 = c := Nat.mul_div_cancel' (Nat.gcd_dvd_right _ _)
  have e3 : Nat.gcd b c * (low b c).1 = b := Nat.mul_div_cancel' (Nat.gcd_dvd_left _ _)
  have e4 : Nat.gcd b c * (low b c).2 = c := Nat.mul_div_cancel' (Nat.gcd_dvd_right _ _)
  have k1 : (Nat.gcd a c * Nat.gcd b c) * ((low a c).1 * (low b c).2) = a * c := by
    calc _ = (Nat.gcd a c * (low a c).1) * (Nat.gcd b c * (low b c).2) := by simp only [Nat.mul_assoc, Nat.mul_left_comm]
      _ = a * c := by rw [e1, e4]
  have k2 : (Nat.gcd a c * Nat.gcd b c) * ((low b c).1 * (low a c).2) = b * c := by
    calc _ = (Nat.gcd b c * (low b c).1) * (Nat.gcd a c * (low a c).2) := by simp only [Nat.mul_assoc, Nat.mul_left_comm, Nat.mul_comm]
      _ = b * c := by rw [e3, e2]
  have : a * c ≤ b * c := Nat.mul_le_mul_right _ h
  exact Nat.le_of_mul_le_mul_left (by rw [k1, k2]; exact this) (Nat.mul_pos g1 g2)
theorem compare_ok {n : Nat} {A B : List T3} (hA : ∀ r, r ∈ A → RdOk r) (hB : ∀ r, r ∈ B → RdOk r) (lA : 1 ≤ A.length ∧ A.length ≤ 12) (lB : 1 ≤ B.length ∧ B.length ≤ 12) (hw : sW B = sW A) (hs : sL A ≤ sL B) :
    ∃ c, F_ref01_Compare n ((lowR B).1 : Int) ((lowR B).2 : Int) ((lowR A).1 : Int) ((lowR A).2 : Int) = some c ∧ c ≥ 0 := by
  have a := lowR_b hA lA
  have b := lowR_b hB lB
  have x := Nat.mul_le_mul b.1 a.2.2
  have y := Nat.mul_le_mul a.1 b.2.2
  obtain ⟨⟨l1, l2⟩, ⟨w1, w2⟩⟩ := sb_all hA
  have c := low_cross (a := (sL A).toNat) (b := (sL B).toNat) (c := (sW A).toNat) (by omega) (by omega)
  have c' : (lowR A).1 * (lowR B).2 ≤ (lowR B).1 * (lowR A).2 := by unfold lowR; rw [hw]; exact c
  unfold F_ref01_Compare
  rw [← Int.natCast_mul, ← Int.natCast_mul]
  generalize (lowR B).1 * (lowR A).2 = p at *
  generalize (lowR A).1 * (lowR B).2 = q at *
  rw [if_pos (by unfold inI64; omega), if_pos (by unfold inI64; omega), if_neg (by omega)]
  split
  · exact ⟨1, rfl, by decide⟩
  · exact ⟨0, rfl, by decide⟩
end Go.Proofs.YtiogobiijlaalaaDoor
/-
  Plain law of TopThistleYear: one told sun. An own text.
-/
set_option maxRecDepth 20000
namespace Go.Proofs.YtiogobiijlaalaaDoor
open Go.SX

theorem l2_eq (n : Nat) (a0 : ByteArray) (a1 a2 : List D) (a3 a4 a5 a6 : Int) (x : Mir) : F_top_TopThistleYear_L2 n a0 a1 a2 a3 a4 a5 a6 x.tup = F_top_TopThistleYear_L3 n a0 a1 a2 a3 a4 a5 a6 ([x].map encM) := by
  funext sa
  cases sa <;> rfl
/-- What holds of the told sun v and of the three readings. -/
structure Told (n : Nat) (a0 : ByteArray) (a1 a2 t20 : List D) (a3 a4 a5 a6 : Int) (i : Int) (m : Mir) (v : Vec) (t : Vec) (K : Int) (X Y : Int × Int × Int) (F1 F2 : List D) : Prop where
  k : kE a6 = K
  w3 : IntKind.wrap .i64 a3 = t.1
  w4 : IntKind.wrap .i64 a4 = t.2.1
  w5 : 100 + IntKind.wrap .i64 a5 = t.2.2
  sky : F_top_thistleSky n a0 a1 = some (a0, a1)
  fld0 : F_top_thistleField n a2 = some a2
  fld1 : F_top_thistleField n t20 = some F1
  fld2 : F_top_thistleField n ((a2.take (Int.toNat (maxI 1 (((a2).length : Int) - 1)))).drop (Int.toNat 0)) = some F2
  lit0 : F_field_Lit n a2 0 v.1 v.2.1 v.2.2 t.1 t.2.1 t.2.2 K = some (X.1, X.2.1, X.2.2, 0)
  lit1 : F_field_Lit n F1 0 v.1 v.2.1 v.2.2 t.1 t.2.1 t.2.2 K = some (X.1, X.2.1, X.2.2, 0)
  lit2 : F_field_Lit n F2 0 v.1 v.2.1 v.2.2 t.1 t.2.1 t.2.2 K = some (Y.1, Y.2.1, Y.2.2, 0)
  head : el un_Asi9Z a2 0 = some m.tup
  nrm : F_ref04_Normal n m.tup.1 m.tup.2.1 m.tup.2.2.1 m.tup.2.2.2.1 m.tup.2.2.2.2.1 m.tup.2.2.2.2.2.1 m.tup.2.2.2.2.2.2.1 m.tup.2.2.2.2.2.2.2.1 m.tup.2.2.2.2.2.2.2.2.1 m.tup.2.2.2.2.2.2.2.2.2 = some m.nrm
  place : F_ref02_CheckPlace n v.1 v.2.1 v.2.2 = some 0
  kk : 1 ≤ K * K ∧ K * K ≤ 9
  i : 0 ≤ i ∧ i ≤ 11
  x : (0 ≤ X.1 ∧ 0 ≤ X.2.1 ∧ 0 ≤ X.2.2) ∧ X.1 + X.2.1 + X.2.2 = K * K
  y : (0 ≤ Y.1 ∧ 0 ≤ Y.2.1 ∧ 0 ≤ Y.2.2) ∧ Y.1 + Y.2.1 + Y.2.2 = K * K
  flat : m.u.2.2 = 0 → m.v.2.2 = 0 → m.nrm.2.2 > 0 → ¬ v.2.2 > 0 → X.1 = K * K ∧ Y.1 = K * K
theorem min_nn {a b c : Int} (h : 0 ≤ a ∧ 0 ≤ b ∧ 0 ≤ c) : ¬ minI (minI a b) c < 0 := by unfold minI; split <;> split <;> omega
theorem step_end {n : Nat} {a0 : ByteArray} {a1 a2 t20 : List D} {a3 a4 a5 a6 : Int} {s w i : Int} {R0 R1 R2 : List D} (h : ¬ i < (a1.length : Int)) :
    F_top_TopThistleYear_L3 n a0 a1 a2 a3 a4 a5 a6 t20 (.inr (s, w, i, R0, R1, R2)) = some (.inr (.inr (.inr (s, w, R0, R1, R2)))) := by
  unfold F_top_TopThistleYear_L3
  dsimp only
  rw [if_neg h]
theorem step_far {n : Nat} {a0 : ByteArray} {a1 a2 t20 : List D} {a3 a4 a5 a6 : Int} {s w i : Int} {R0 R1 R2 : List D} {x : Sn} {v : Vec} {e : Int} (hi : i < (a1.length : Int)) (hx : el un_Ai4Z a1 i = some x)
    (hs : F_top_thistleSky n a0 a1 = some (a0, a1)) (ha : F_sun_At n a0 a1 x.1 = some (v.1, v.2.1, v.2.2, 0)) (hr : F_sun_Risen n a0 a1 x.1 = some (decide (v.2.2 > 0), 0)) (hp : F_ref02_CheckPlace n v.1 v.2.1 v.2.2 = some 0) (hd : F_ref04_CheckDirection n v.1 v.2.1 v.2.2 = some e) (he : e ≠ 0) :
    F_top_TopThistleYear_L3 n a0 a1 a2 a3 a4 a5 a6 t20 (.inr (s, w, i, R0, R1, R2)) = some (.inr (.inl ())) := by
  unfold F_top_TopThistleYear_L3
  dsimp only
  rw [if_pos hi, hx, Option.bind_some, hs, Option.bind_some, ha, Option.bind_some, hr, Option.bind_some, if_pos rfl, if_pos rfl, hp, Option.bind_some, if_pos rfl, hd, Option.bind_some, if_neg he]
theorem step_far0 {n : Nat} {a0 : ByteArray} {a1 a2 t20 : List D} {a3 a4 a5 a6 : Int} {x : Sn} {v : Vec} {e : Int} (hi : (0 : Int) < (a1.length : Int)) (hx : el un_Ai4Z a1 0 = some x)
    (hs : F_top_thistleSky n a0 a1 = some (a0, a1)) (ha : F_sun_At n a0 a1 x.1 = some (v.1, v.2.1, v.2.2, 0)) (hr : F_sun_Risen n a0 a1 x.1 = some (decide (v.2.2 > 0), 0)) (hp : F_ref02_CheckPlace n v.1 v.2.1 v.2.2 = some 0) (hd : F_ref04_CheckDirection n v.1 v.2.1 v.2.2 = some e) (he : e ≠ 0) :
    F_top_TopThistleYear_L3 n a0 a1 a2 a3 a4 a5 a6 t20 (.inl ()) = some (.inr (.inl ())) := by
  unfold F_top_TopThistleYear_L3
  dsimp only
  rw [if_pos hi, hx, Option.bind_some, hs, Option.bind_some, ha, Option.bind_some, hr, Option.bind_some, if_pos rfl, if_pos rfl, hp, Option.bind_some, if_pos rfl, hd, Option.bind_some, if_neg he]
theorem step_near {n : Nat} {a0 : ByteArray} {a1 a2 t20 : List D} {a3 a4 a5 a6 : Int} {s w i : Int} {R0 R1 R2 : List D} {x : Sn} {m : Mir} {v t : Vec} {K : Int} {X Y : Int × Int × Int} {F1 F2 : List D} (hi : i < (a1.length : Int)) (hx : el un_Ai4Z a1 i = some x)
    (h : Told n a0 a1 a2 t20 a3 a4 a5 a6 i m v t K X Y F1 F2) (ha : F_sun_At n a0 a1 x.1 = some (v.1, v.2.1, v.2.2, 0)) (hr : F_sun_Risen n a0 a1 x.1 = some (decide (v.2.2 > 0), 0)) (hd : F_ref04_CheckDirection n v.1 v.2.1 v.2.2 = some 0)
    (hs : 0 ≤ s ∧ s ≤ 2000) (hw : 0 ≤ w ∧ w ≤ 2000) (l0 : R0.length ≤ 20) (l1 : R1.length ≤ 20) (l2 : R2.length ≤ 20) :
    F_top_TopThistleYear_L3 n a0 a1 a2 a3 a4 a5 a6 t20 (.inr (s, w, i, R0, R1, R2)) = some (.inl (.inr (s + X.2.2 * (1 + i), w + K * K * (1 + i), i + 1, R0 ++ [.agg [I X.2.2, I (K * K), I (1 + i)]], R1 ++ [.agg [I X.2.2, I (K * K), I (1 + i)]], R2 ++ [.agg [I Y.2.2, I (K * K), I (1 + i)]]))) := by
  obtain ⟨hk, h3, h4, h5, hsky, f0, f1, f2, lt0, lt1, lt2, hh, hN, hp, kk, ⟨i1, i2⟩, ⟨⟨x1, x2, x3⟩, x4⟩, ⟨⟨y1, y2, y3⟩, y4⟩, hf⟩ := h
  unfold F_top_TopThistleYear_L3
  dsimp only
  rw [if_pos hi, hx, Option.bind_some, hsky, Option.bind_some, ha, Option.bind_some, hr, Option.bind_some, if_pos rfl, if_pos rfl, hp, Option.bind_some, if_pos rfl, hd, Option.bind_some, if_pos rfl]
  rw [hk, h3, h4, h5]
  have p1 := mul_k (g := X.2.2) (c := 1 + i) (p := 9) (q := 12) (r := 108) (by omega) (by omega) rfl (by decide) (by decide)
  have p2 := mul_k (g := K * K) (c := 1 + i) (p := 9) (q := 12) (r := 108) (by omega) (by omega) rfl (by decide) (by decide)
  rw [if_pos (show inI64 (1 + i) by unfold inI64; omega), f0, Option.bind_some, lt0, Option.bind_some]
  dsimp only
  rw [if_pos rfl, if_neg (min_nn ⟨x1, x2, x3⟩), if_pos (show inI64 (X.1 + X.2.1) by unfold inI64; omega), if_pos (show inI64 (X.1 + X.2.1 + X.2.2) by unfold inI64; omega), if_pos (show inI64 (K * K) by unfold inI64; omega), if_pos x4, hh, Option.bind_some]
  have fin : ∀ {α : Type} (r : α), r = r := fun _ => rfl
  have g1 : inI64 (X.2.2 * (1 + i)) := by unfold inI64; omega
  have g2 : inI64 (s + X.2.2 * (1 + i)) := by unfold inI64; omega
  have g3 : inI64 (K * K * (1 + i)) := by unfold inI64; omega
  have g4 : inI64 (w + K * K * (1 + i)) := by unfold inI64; omega
  have g5 : inI64 (X.1 + X.2.1) := by unfold inI64; omega
  have g6 : inI64 (X.1 + X.2.1 + X.2.2) := by unfold inI64; omega
  have g7 : inI64 (Y.1 + Y.2.1) := by unfold inI64; omega
  have g8 : inI64 (Y.1 + Y.2.1 + Y.2.2) := by unfold inI64; omega
  have g9 : inI64 (i + 1) := by unfold inI64; omega
  have r0 : roomP 24 (R0.length + 1) := by unfold roomP; omega
  have r1 : roomP 24 (R1.length + 1) := by unfold roomP; omega
  have r2 : roomP 24 (R2.length + 1) := by unfold roomP; omega
  have q1 := min_nn ⟨x1, x2, x3⟩
  have q2 := min_nn ⟨y1, y2, y3⟩
  by_cases c1 : m.u.2.2 = 0
  · rw [if_pos (show m.tup.2.2.2.2.2.2.1 = 0 from c1)]
    by_cases c2 : m.v.2.2 = 0
    · rw [if_pos (show m.tup.2.2.2.2.2.2.2.2.2 = 0 from c2), hN, Option.bind_some]
      by_cases c3 : m.nrm.2.2 > 0
      · rw [if_pos c3]
        by_cases c4 : v.2.2 > 0
        · rw [if_pos (show decide (v.2.2 > 0) = true from decide_eq_true c4), if_pos r0, if_pos g1, if_pos g2, if_pos g3, if_pos g4, f1, Option.bind_some, lt1, Option.bind_some]
          dsimp only
          rw [if_pos rfl, if_neg q1, if_pos g5, if_pos g6, if_pos x4, if_pos r1, f2, Option.bind_some, lt2, Option.bind_some]
          dsimp only
          rw [if_pos rfl, if_neg q2, if_pos g7, if_pos g8, if_pos y4, if_pos r2, if_pos g9]
        · obtain ⟨d1, d2⟩ := hf c1 c2 c3 c4
          rw [if_neg (show ¬ decide (v.2.2 > 0) = true by simpa using c4), if_pos d1, if_pos r0, if_pos g1, if_pos g2, if_pos g3, if_pos g4, f1, Option.bind_some, lt1, Option.bind_some]
          dsimp only
          rw [if_pos rfl, if_neg q1, if_pos g5, if_pos g6, if_pos x4, if_pos d1, if_pos r1, f2, Option.bind_some, lt2, Option.bind_some]
          dsimp only
          rw [if_pos rfl, if_neg q2, if_pos g7, if_pos g8, if_pos y4, if_pos d2, if_pos r2, if_pos g9]
      · rw [if_neg c3, if_pos r0, if_pos g1, if_pos g2, if_pos g3, if_pos g4, f1, Option.bind_some, lt1, Option.bind_some]
        dsimp only
        rw [if_pos rfl, if_neg q1, if_pos g5, if_pos g6, if_pos x4, if_pos r1, f2, Option.bind_some, lt2, Option.bind_some]
        dsimp only
        rw [if_pos rfl, if_neg q2, if_pos g7, if_pos g8, if_pos y4, if_pos r2, if_pos g9]
    · rw [if_neg (show ¬ m.tup.2.2.2.2.2.2.2.2.2 = 0 from c2), if_pos r0, if_pos g1, if_pos g2, if_pos g3, if_pos g4, f1, Option.bind_some, lt1, Option.bind_some]
      dsimp only
      rw [if_pos rfl, if_neg q1, if_pos g5, if_pos g6, if_pos x4, if_pos r1, f2, Option.bind_some, lt2, Option.bind_some]
      dsimp only
      rw [if_pos rfl, if_neg q2, if_pos g7, if_pos g8, if_pos y4, if_pos r2, if_pos g9]
  · rw [if_neg (show ¬ m.tup.2.2.2.2.2.2.1 = 0 from c1), if_pos r0, if_pos g1, if_pos g2, if_pos g3, if_pos g4, f1, Option.bind_some, lt1, Option.bind_some]
    dsimp only
    rw [if_pos rfl, if_neg q1, if_pos g5, if_pos g6, if_pos x4, if_pos r1, f2, Option.bind_some, lt2, Option.bind_some]
    dsimp only
    rw [if_pos rfl, if_neg q2, if_pos g7, if_pos g8, if_pos y4, if_pos r2, if_pos g9]
end Go.Proofs.YtiogobiijlaalaaDoor
/-
  Plain law of TopThistleYear: the walk along the told suns. An own text.
-/
set_option maxRecDepth 20000
namespace Go.Proofs.YtiogobiijlaalaaDoor
open Go.SX

theorem step_near0 {n : Nat} {a0 : ByteArray} {a1 a2 t20 : List D} {a3 a4 a5 a6 : Int} {x : Sn} {m : Mir} {v t : Vec} {K : Int} {X Y : Int × Int × Int} {F1 F2 : List D} (hi : (0 : Int) < (a1.length : Int)) (hx : el un_Ai4Z a1 0 = some x)
    (h : Told n a0 a1 a2 t20 a3 a4 a5 a6 0 m v t K X Y F1 F2) (ha : F_sun_At n a0 a1 x.1 = some (v.1, v.2.1, v.2.2, 0)) (hr : F_sun_Risen n a0 a1 x.1 = some (decide (v.2.2 > 0), 0)) (hd : F_ref04_CheckDirection n v.1 v.2.1 v.2.2 = some 0) :
    F_top_TopThistleYear_L3 n a0 a1 a2 a3 a4 a5 a6 t20 (.inl ()) = some (.inl (.inr (0 + X.2.2 * 1, 0 + K * K * 1, 1, [.agg [I X.2.2, I (K * K), I 1]], [.agg [I X.2.2, I (K * K), I 1]], [.agg [I Y.2.2, I (K * K), I 1]]))) := by
  obtain ⟨hk, h3, h4, h5, hsky, f0, f1, f2, lt0, lt1, lt2, hh, hN, hp, kk, ⟨i1, i2⟩, ⟨⟨x1, x2, x3⟩, x4⟩, ⟨⟨y1, y2, y3⟩, y4⟩, hf⟩ := h
  unfold F_top_TopThistleYear_L3
  dsimp only
  rw [if_pos hi, hx, Option.bind_some, hsky, Option.bind_some, ha, Option.bind_some, hr, Option.bind_some, if_pos rfl, if_pos rfl, hp, Option.bind_some, if_pos rfl, hd, Option.bind_some, if_pos rfl]
  rw [hk, h3, h4, h5]
  rw [f0, Option.bind_some, lt0, Option.bind_some]
  dsimp only
  have g1 : inI64 (X.2.2 * 1) := by unfold inI64; omega
  have g2 : inI64 (0 + X.2.2 * 1) := by unfold inI64; omega
  have g3 : inI64 (K * K * 1) := by rw [Int.mul_one]; unfold inI64; omega
  have g4 : inI64 (0 + K * K * 1) := by rw [Int.mul_one]; unfold inI64; omega
  have g5 : inI64 (X.1 + X.2.1) := by unfold inI64; omega
  have g6 : inI64 (X.1 + X.2.1 + X.2.2) := by unfold inI64; omega
  have g7 : inI64 (Y.1 + Y.2.1) := by unfold inI64; omega
  have g8 : inI64 (Y.1 + Y.2.1 + Y.2.2) := by unfold inI64; omega
  have g9 : inI64 (K * K) := by unfold inI64; omega
  have q1 := min_nn ⟨x1, x2, x3⟩
  have q2 := min_nn ⟨y1, y2, y3⟩
  rw [if_pos rfl, if_neg q1, if_pos g5, if_pos g6, if_pos g9, if_pos x4, hh, Option.bind_some]
  by_cases c1 : m.u.2.2 = 0
  · rw [if_pos (show m.tup.2.2.2.2.2.2.1 = 0 from c1)]
    by_cases c2 : m.v.2.2 = 0
    · rw [if_pos (show m.tup.2.2.2.2.2.2.2.2.2 = 0 from c2), hN, Option.bind_some]
      by_cases c3 : m.nrm.2.2 > 0
      · rw [if_pos c3]
        by_cases c4 : v.2.2 > 0
        · rw [if_pos (show decide (v.2.2 > 0) = true from decide_eq_true c4), if_pos g1, if_pos g2, if_pos g3, if_pos g4, f1, Option.bind_some, lt1, Option.bind_some]
          dsimp only
          rw [if_pos rfl, if_neg q1, if_pos g5, if_pos g6, if_pos x4, f2, Option.bind_some, lt2, Option.bind_some]
          dsimp only
          rw [if_pos rfl, if_neg q2, if_pos g7, if_pos g8, if_pos y4]
        · obtain ⟨d1, d2⟩ := hf c1 c2 c3 c4
          rw [if_neg (show ¬ decide (v.2.2 > 0) = true by simpa using c4), if_pos d1, if_pos g1, if_pos g2, if_pos g3, if_pos g4, f1, Option.bind_some, lt1, Option.bind_some]
          dsimp only
          rw [if_pos rfl, if_neg q1, if_pos g5, if_pos g6, if_pos x4, if_pos d1, f2, Option.bind_some, lt2, Option.bind_some]
          dsimp only
          rw [if_pos rfl, if_neg q2, if_pos g7, if_pos g8, if_pos y4, if_pos d2]
      · rw [if_neg c3, if_pos g1, if_pos g2, if_pos g3, if_pos g4, f1, Option.bind_some, lt1, Option.bind_some]
        dsimp only
        rw [if_pos rfl, if_neg q1, if_pos g5, if_pos g6, if_pos x4, f2, Option.bind_some, lt2, Option.bind_some]
        dsimp only
        rw [if_pos rfl, if_neg q2, if_pos g7, if_pos g8, if_pos y4]
    · rw [if_neg (show ¬ m.tup.2.2.2.2.2.2.2.2.2 = 0 from c2), if_pos g1, if_pos g2, if_pos g3, if_pos g4, f1, Option.bind_some, lt1, Option.bind_some]
      dsimp only
      rw [if_pos rfl, if_neg q1, if_pos g5, if_pos g6, if_pos x4, f2, Option.bind_some, lt2, Option.bind_some]
      dsimp only
      rw [if_pos rfl, if_neg q2, if_pos g7, if_pos g8, if_pos y4]
  · rw [if_neg (show ¬ m.tup.2.2.2.2.2.2.1 = 0 from c1), if_pos g1, if_pos g2, if_pos g3, if_pos g4, f1, Option.bind_some, lt1, Option.bind_some]
    dsimp only
    rw [if_pos rfl, if_neg q1, if_pos g5, if_pos g6, if_pos x4, f2, Option.bind_some, lt2, Option.bind_some]
    dsimp only
    rw [if_pos rfl, if_neg q2, if_pos g7, if_pos g8, if_pos y4]
/-- The readings of all mirrors, and without one of them. -/
structure Fin (A B : List T3) (i : Nat) : Prop where
  la : A.length = i
  lb : B.length = i
  a : ∀ r, r ∈ A → RdOk r
  b : ∀ r, r ∈ B → RdOk r
  w : sW B = sW A
  l : sL A ≤ sL B
theorem Fin.snoc {A B : List T3} {i : Nat} (h : Fin A B i) {p q : T3} (hp : RdOk p) (hq : RdOk q) (h1 : q.2 = p.2) (h2 : p.1 ≤ q.1) : Fin (A ++ [p]) (B ++ [q]) (i + 1) := by
  refine ⟨by simp [h.la], by simp [h.lb], fun r hr => ?_, fun r hr => ?_, ?_, ?_⟩
  · rcases List.mem_append.1 hr with hr | hr
    · exact h.a r hr
    · obtain rfl := List.mem_singleton.1 hr; exact hp
  · rcases List.mem_append.1 hr with hr | hr
    · exact h.b r hr
    · obtain rfl := List.mem_singleton.1 hr; exact hq
  · rw [sW_snoc, sW_snoc, h.w, h1]
  · rw [sL_snoc, sL_snoc, h1]
    have := Int.mul_le_mul_of_nonneg_right h2 (show 0 ≤ p.2.2 by have := hp.w; omega)
    have := h.l
    omega
theorem fin_nil : Fin [] [] 0 := ⟨rfl, rfl, fun r h => (by cases h), fun r h => (by cases h), rfl, Int.le_refl _⟩
/-- What the three fields are for one sky. -/
structure Flds (n : Nat) (x : Mir) (l J1 J2 : List Mir) (k : Nat) : Prop where
  hn : 100 ≤ n
  hk : 1 ≤ k ∧ k ≤ 3
  len : l.length ≤ 3
  c0 : chkM (x :: l) = 0
  c1 : chkM (x :: J1) = 0
  c2 : chkM (x :: J2) = 0
  s1 : ∀ m, m ∈ J1 ↔ m ∈ l
  s2 : ∀ m, m ∈ J2 → m ∈ l
  nm : ∀ m, m ∈ x :: l → m.name.size < n
  take : ((((x :: l).map encM).take (Int.toNat (maxI 1 ((((x :: l).map encM).length : Int) - 1)))).drop (Int.toNat 0)) = (x :: J2).map encM
theorem asked_of {x : Mir} {l : List Mir} {k : Nat} (h : chkM (x :: l) = 0) (hk : 1 ≤ k ∧ k ≤ 3) : Asked (x :: l) 0 k x := by
  have c := (chkM_iff _).1 h
  exact ⟨rfl, c.1, fun m hm => mirE_zero (c.2.1 m hm), by omega⟩
theorem told_of {n : Nat} {a0 : ByteArray} {S : List Sn} {x : Mir} {l J1 J2 : List Mir} {k : Nat} (h : Flds n x l J1 J2 k) {a3 a4 a5 a6 : Int} {t : Vec} (hk : kE a6 = (k : Int))
    (h3 : IntKind.wrap .i64 a3 = t.1) (h4 : IntKind.wrap .i64 a4 = t.2.1) (h5 : 100 + IntKind.wrap .i64 a5 = t.2.2) (ht : pE t 4096 = 0) {v : Vec} (hv : dirE v 1024 = 0) (hl : 2 ≤ S.length ∧ S.length ≤ 64) {i : Int} (hi : 0 ≤ i ∧ i ≤ 11) :
    Told n a0 (S.map encS) ((x :: l).map encM) ((x :: J1).map encM) a3 a4 a5 a6 i x v t (k : Int) (litM (x :: l) k v t x 0) (litM (x :: J2) k v t x 0) ((x :: J1).map encM) ((x :: J2).map encM) := by
  have hn := h.hn
  have e0 := litP_eq hn (asked_of h.c0 h.hk) h.nm h.c0 hv ht
  have e1 := litP_eq hn (asked_of h.c1 h.hk) (fun m hm => h.nm m (by
    rcases List.mem_cons.1 hm with rfl | hm
    · exact List.mem_cons_self ..
    · exact List.mem_cons_of_mem _ ((h.s1 m).1 hm))) h.c1 hv ht
  have e2 := litP_eq hn (asked_of h.c2 h.hk) (fun m hm => h.nm m (by
    rcases List.mem_cons.1 hm with rfl | hm
    · exact List.mem_cons_self ..
    · exact List.mem_cons_of_mem _ (h.s2 m hm))) h.c2 hv ht
  rw [lit_perm (l := J1) (l' := l) h.s1] at e1
  have l1 := ((chkM_iff _).1 h.c1).1
  have l2 := ((chkM_iff _).1 h.c2).1
  have l0 := ((chkM_iff _).1 h.c0).1
  have kk : ((k * k : Nat) : Int) = (k : Int) * (k : Int) := Int.natCast_mul k k
  have ok := mirE_zero (((chkM_iff _).1 h.c0).2.1 x (List.mem_cons_self ..))
  have kl : 1 * 1 ≤ k * k ∧ k * k ≤ 3 * 3 := ⟨Nat.mul_le_mul h.hk.1 h.hk.1, Nat.mul_le_mul h.hk.2 h.hk.2⟩
  refine ⟨hk, h3, h4, h5, sky_copy a0 hl hn, tf_eq _ (by omega) (by omega), tf_eq _ (by omega) (by omega), ?_, e0, e1, e2, rfl, ?_, place_ok (by omega) ((dirE_zero hv).mono (by omega)), by omega, hi, ⟨lit_nn _ _ _ _ _ _, by rw [lit_sum, kk]⟩, ⟨lit_nn _ _ _ _ _ _, by rw [lit_sum, kk]⟩, ?_⟩
  · rw [h.take]
    exact tf_eq _ (by omega) (by omega)
  · unfold F_ref04_Normal
    have := refCross_eq n (ok.u.cross ok.v (show (64 : Int) * 64 = 4096 by decide) (by decide) (by decide)) (by decide)
    show (F_ref04_Cross n x.u.1 x.u.2.1 x.u.2.2 x.v.1 x.v.2.1 x.v.2.2).bind _ = _
    rw [this]
    rfl
  · intro f1 f2 f3 f4
    have d := flat_dark f1 f2 f3 f4
    rw [lit_dark _ _ _ _ _ _ d, lit_dark _ _ _ _ _ _ d, kk]
    exact ⟨rfl, rfl⟩
theorem suns_loop {n : Nat} (hn : 200 ≤ n) {a0 : ByteArray} (ha : nameB a0 = true) (hz : a0.size < n) {S : List Sn} (hl : 2 ≤ S.length ∧ S.length ≤ 12) (hg : Good S S.length) {x : Mir} {l J1 J2 : List Mir} {k : Nat} (h : Flds n x l J1 J2 k) {a3 a4 a5 a6 : Int} {t : Vec} (hk : kE a6 = (k : Int))
    (h3 : IntKind.wrap .i64 a3 = t.1) (h4 : IntKind.wrap .i64 a4 = t.2.1) (h5 : 100 + IntKind.wrap .i64 a5 = t.2.2) (ht : pE t 4096 = 0) :
    ∃ e, loopF (F_top_TopThistleYear_L3 n a0 (S.map encS) ((x :: l).map encM) a3 a4 a5 a6 ((x :: J1).map encM)) n (.inl ()) = some e ∧ (e = .inl () ∨ ∃ A B, e = .inr (.inr (sL A, sW A, A.map encR, A.map encR, B.map encR)) ∧ Fin A B S.length) := by
  have kl : 1 * 1 ≤ k * k ∧ k * k ≤ 3 * 3 := ⟨Nat.mul_le_mul h.hk.1 h.hk.1, Nat.mul_le_mul h.hk.2 h.hk.2⟩
  have kk : ((k * k : Nat) : Int) = (k : Int) * (k : Int) := Int.natCast_mul k k
  have rd : ∀ (ms : List Mir) (v : Vec) (j : Int), 0 ≤ j → j ≤ 11 → RdOk ((litM ms k v t x 0).2.2, (k : Int) * (k : Int), 1 + j) := by
    intro ms v j j1 j2
    have s := lit_sum ms k v t x 0
    have nn := lit_nn ms k v t x 0
    exact ⟨by dsimp only; omega, by dsimp only; omega, by dsimp only; omega⟩
  refine loopF_meas (step := F_top_TopThistleYear_L3 n a0 (S.map encS) ((x :: l).map encM) a3 a4 a5 a6 ((x :: J1).map encM))
    (fun s => s = .inl () ∨ ∃ (i : Nat) (A B : List T3), s = .inr (sL A, sW A, (i : Int), A.map encR, A.map encR, B.map encR) ∧ i ≤ S.length ∧ Fin A B i)
    (fun s => match s with | .inl _ => S.length + 1 | .inr s => ((S.length : Int) - s.2.2.1).toNat) (fun e => e = .inl () ∨ ∃ A B, e = .inr (.inr (sL A, sW A, A.map encR, A.map encR, B.map encR)) ∧ Fin A B S.length)
    (fun s hs => ?_) n (.inl ()) (Or.inl rfl) (by dsimp only; omega)
  have hl' : 2 ≤ S.length ∧ S.length ≤ 64 := by omega
  rcases hs with rfl | ⟨i, A, B, rfl, hi, hf⟩
  · obtain ⟨y, hy⟩ : ∃ y, S[0]? = some y := ⟨_, List.getElem?_eq_getElem (by omega)⟩
    have ey : el un_Ai4Z (S.map encS) 0 = some y := elS (i := 0) hy
    have hpos : (0 : Int) < ((S.map encS).length : Int) := by rw [List.length_map]; omega
    have eA := atP_eq hn ha hz hl' hg hy
    have eR := risen_eq hn ha hz hl' hg hy
    have eD := refDir_eq (n := n) (by omega) (red y.2)
    have eP := place_ok (n := n) (by omega) (Bd.red (hg.ok 0 y (by omega) hy).2.1)
    by_cases hd : dirE (red y.2) 1024 = 0
    · rw [hd] at eD
      have st := step_near0 hpos ey (told_of (a0 := a0) h hk h3 h4 h5 ht hd hl' (show (0 : Int) ≤ 0 ∧ (0 : Int) ≤ 11 by omega)) eA eR eD
      refine Or.inl ⟨_, st, Or.inr ⟨1, [((litM (x :: l) k (red y.2) t x 0).2.2, (k : Int) * (k : Int), 1)], [((litM (x :: J2) k (red y.2) t x 0).2.2, (k : Int) * (k : Int), 1)], rfl, by omega, ?_⟩, by dsimp only; omega⟩
      exact fin_nil.snoc (p := ((litM (x :: l) k (red y.2) t x 0).2.2, (k : Int) * (k : Int), 1)) (q := ((litM (x :: J2) k (red y.2) t x 0).2.2, (k : Int) * (k : Int), 1)) (rd _ _ 0 (by omega) (by omega)) (rd _ _ 0 (by omega) (by omega)) rfl (lit_fewer h.s2 k _ _)
    · exact Or.inr ⟨_, step_far0 hpos ey (sky_copy a0 hl' h.hn) eA eR eP eD hd, Or.inl rfl⟩
  · by_cases hlt : i < S.length
    · obtain ⟨y, hy⟩ : ∃ y, S[i]? = some y := ⟨_, List.getElem?_eq_getElem hlt⟩
      have ey : el un_Ai4Z (S.map encS) (i : Int) = some y := elS hy
      have hpos := lenlt (f := encS) hy
      have eA := atP_eq hn ha hz hl' hg hy
      have eR := risen_eq hn ha hz hl' hg hy
      have eD := refDir_eq (n := n) (by omega) (red y.2)
      have eP := place_ok (n := n) (by omega) (Bd.red (hg.ok i y hlt hy).2.1)
      by_cases hd : dirE (red y.2) 1024 = 0
      · rw [hd] at eD
        have sa := sb_all hf.a
        obtain ⟨⟨b1, b2⟩, ⟨b3, b4⟩⟩ := sa
        have lA := hf.la
        have lB := hf.lb
        have st := step_near (s := sL A) (w := sW A) (R0 := A.map encR) (R1 := A.map encR) (R2 := B.map encR) hpos ey (told_of (a0 := a0) h hk h3 h4 h5 ht hd hl' (show (0 : Int) ≤ (i : Int) ∧ (i : Int) ≤ 11 by omega)) eA eR eD (by omega) (by omega) (by rw [List.length_map]; omega) (by rw [List.length_map]; omega) (by rw [List.length_map]; omega)
        refine Or.inl ⟨_, st, Or.inr ⟨i + 1, A ++ [((litM (x :: l) k (red y.2) t x 0).2.2, (k : Int) * (k : Int), 1 + (i : Int))], B ++ [((litM (x :: J2) k (red y.2) t x 0).2.2, (k : Int) * (k : Int), 1 + (i : Int))], ?_, hlt, ?_⟩, by dsimp only; omega⟩
        · rw [sL_snoc, sW_snoc, List.map_append, List.map_append]; rfl
        · exact hf.snoc (rd _ _ (i : Int) (by omega) (by omega)) (rd _ _ (i : Int) (by omega) (by omega)) rfl (lit_fewer h.s2 k _ _)
      · exact Or.inr ⟨_, step_far hpos ey (sky_copy a0 hl' h.hn) eA eR eP eD hd, Or.inl rfl⟩
    · obtain rfl : i = S.length := by omega
      exact Or.inr ⟨_, step_end (by rw [List.length_map]; omega), Or.inr ⟨A, B, rfl, hf⟩⟩
end Go.Proofs.YtiogobiijlaalaaDoor
/-
  Plain law of TopThistleYear. An own text.
-/
set_option maxRecDepth 20000
namespace Go.Proofs.YtiogobiijlaalaaDoor
open Go.SX

theorem tmod3 (x : Int) : -2 ≤ Int.tmod x 3 ∧ Int.tmod x 3 ≤ 2 := by
  have h : (Int.tmod x 3).natAbs = x.natAbs % 3 := Int.natAbs_tmod x 3
  omega
theorem tmod3p {x : Int} (hx : 0 ≤ x) : 0 ≤ Int.tmod x 3 ∧ Int.tmod x 3 ≤ 2 := by
  have := tmod3 x
  have h2 := Int.tmod_nonneg 3 hx
  omega
theorem wrap_8 {x : Int} (h : -128 ≤ x ∧ x ≤ 127) : IntKind.wrap .i64 x = x := by
  have := wrapN_eq (x := -x) (by unfold L; omega)
  rw [show (0 : Int) - -x = x by omega] at this
  rw [this]; omega
theorem tail_ok {n : Nat} (hn : 500 ≤ n) {A B : List T3} {i : Nat} (hi : 1 ≤ i ∧ i ≤ 12) (h : Fin A B i) : (
    (F_field_Summed_2 n (A.map encR)).bind fun t22 =>
    (F_field_Summed_2 n (A.map encR)).bind fun t23 =>
    (F_field_Summed_2 n (B.map encR)).bind fun t24 =>
    if t22.2.2 = 0 then
      if t23.2.2 = 0 then
        if t24.2.2 = 0 then
          (F_ref01_Lowest_2 n (sL A) (sW A)).bind fun t28 =>
          if ((t22.1 == t28.1) && ((t22.2.1 == t28.2) && true)) = true then
            if ((t23.1 == t22.1) && ((t23.2.1 == t22.2.1) && true)) = true then
              if t24.2.1 ≥ 1 then
                if t24.2.1 ≤ 100000 then
                  (F_ref01_Compare n t24.1 t24.2.1 t22.1 t22.2.1).bind fun t33 =>
                  some (decide (t33 ≥ 0))
                else none
              else none
            else none
          else none
        else none
      else none
    else none) = some true := by
  have lA : 1 ≤ A.length ∧ A.length ≤ 12 := by rw [h.la]; exact hi
  have lB : 1 ≤ B.length ∧ B.length ≤ 12 := by rw [h.lb]; exact hi
  have bB := lowR_b h.b lB
  obtain ⟨c, hc, hc0⟩ := compare_ok (n := n) h.a h.b lA lB h.w h.l
  rw [summed_eq hn h.a lA, Option.bind_some, Option.bind_some, summed_eq hn h.b lB, Option.bind_some]
  dsimp only
  rw [if_pos rfl, if_pos rfl, if_pos rfl, refLowest_eq hn h.a lA, Option.bind_some]
  dsimp only
  rw [if_pos (by simp), if_pos (by simp), if_pos (by omega), if_pos (by omega), hc, Option.bind_some, decide_eq_true hc0]
theorem law_year {n : Nat} (a0 : ByteArray) (S : List Sn) (ms : List Mir) (a3 a4 a5 a6 : Int) (h3 : -128 ≤ a3 ∧ a3 ≤ 127) (h4 : -128 ≤ a4 ∧ a4 ≤ 127) (h5 : -128 ≤ a5 ∧ a5 ≤ 127) (hl : ms.length ≤ 9223372036854775807) (hn : n = ms.length + 100000) :
    F_top_TopThistleYear n a0 (S.map encS) (ms.map encM) a3 a4 a5 a6 = some true := by
  have hlev : F_top_thistleLevel n = some true := by rw [hn]; exact level_any _
  unfold F_top_TopThistleYear
  rw [hlev, Option.bind_some, if_pos rfl]
  obtain ⟨e, hS, hS0⟩ := refSky_any (n := n) (by omega) a0 S
  have hshort : F_ref02_Short n a0 (S.map encS) = some (decide (a0.size ≤ 40) && (decide (S.length ≤ 12) || decide (S.length = 65))) := by
    unfold F_ref02_Short
    rw [List.length_map]
    by_cases h1 : (a0.size : Int) ≤ 40
    · rw [if_pos h1, decide_eq_true (show a0.size ≤ 40 by omega)]
      by_cases h2 : (S.length : Int) ≤ 12
      · rw [if_pos h2, decide_eq_true (show S.length ≤ 12 by omega)]; rfl
      · rw [if_neg h2, decide_eq_false (show ¬ S.length ≤ 12 by omega)]
        congr 1
        rw [Bool.eq_iff_iff]
        simp
        omega
    · rw [if_neg h1, decide_eq_false (show ¬ a0.size ≤ 40 by omega)]; rfl
  rw [hshort, Option.bind_some]
  by_cases hsh : (decide (a0.size ≤ 40) && (decide (S.length ≤ 12) || decide (S.length = 65))) = true
  case neg => rw [if_neg hsh]
  rw [if_pos hsh, hS, Option.bind_some]
  by_cases he : e = 0
  case neg => rw [if_neg he]
  obtain ⟨ha, hl2, hl64, hg⟩ := hS0 he
  rw [if_pos he, List.length_map]
  by_cases hl12 : (S.length : Int) > 12
  case pos => rw [if_pos hl12]
  rw [if_neg hl12, short_eq ms (by omega) hl, Option.bind_some]
  by_cases hms : (ms.all shortB && (decide (ms.length ≤ 6) || decide (ms.length = 65))) = true
  case neg => rw [if_neg hms]
  rw [if_pos hms, refMs_eq (by omega), Option.bind_some]
  by_cases hc : chkM ms = 0
  case neg => rw [if_neg hc]
  rw [if_pos hc, List.length_map]
  by_cases hl1 : (ms.length : Int) < 1
  case pos => rw [if_pos hl1]
  rw [if_neg hl1]
  by_cases hl4 : (ms.length : Int) > 4
  case pos => rw [if_pos hl4]
  rw [if_neg hl4]
  have hsz : a0.size < n := by
    have : a0.size ≤ 40 := by simp at hsh; exact hsh.1
    omega
  have hnm : ∀ m, m ∈ ms → m.name.size < n := by
    intro m hm
    have h := (Bool.and_eq_true_iff.1 hms).1
    rw [List.all_eq_true] at h
    have := of_decide_eq_true (h m hm)
    omega
  have t1 := tmod3 (IntKind.wrap .i64 a6)
  have t2 := tmod3p (x := Int.tmod (IntKind.wrap .i64 a6) 3 + 3) (by omega)
  obtain ⟨k, hk⟩ : ∃ k : Nat, kE a6 = (k : Int) := ⟨(kE a6).toNat, by unfold kE; omega⟩
  have w3 := wrap_8 h3
  have w4 := wrap_8 h4
  have w5 := wrap_8 h5
  have ht : pE (a3, a4, 100 + a5) 4096 = 0 := by
    unfold pE
    rw [inR_ok (by dsimp only; omega), inR_ok (by dsimp only; omega), inR_ok (by dsimp only; omega)]
    rfl
  have hm1 : maxI 1 ((ms.length : Int) - 1) = if ms.length = 1 then 1 else (ms.length : Int) - 1 := by
    unfold maxI
    split <;> split <;> omega
  cases ms with
  | nil => exact absurd (show (([] : List Mir).length : Int) < 1 by decide) hl1
  | cons x l =>
    have el0 : el un_Asi9Z ((x :: l).map encM) 0 = some x.tup := rfl
    rw [if_pos (by rw [w5]; unfold inI64; omega), if_pos (by unfold inI64; omega), if_pos (by unfold kE inI64; omega), el0, Option.bind_some, if_pos (by unfold inI64; omega),
      if_pos (by
        refine ⟨Int.le_refl _, ?_, ?_, Or.inr rfl⟩
        · rw [hm1]; split <;> omega
        · rw [hm1]; split <;> omega)]
    have hk3 : 1 ≤ k ∧ k ≤ 3 := by unfold kE at hk; omega
    have hlen : l.length ≤ 3 := by rw [List.length_cons] at hl4; omega
    have hl12' : 2 ≤ S.length ∧ S.length ≤ 12 := by omega
    cases l with
    | nil =>
      have fl : Flds n x [] [] [] k := ⟨by omega, hk3, by decide, hc, hc, hc, fun m => Iff.rfl, fun m h => h, hnm, rfl⟩
      have hL1 : loopF (F_top_TopThistleYear_L1 n a0 (S.map encS) ([x].map encM) a3 a4 a5 a6 x.tup) n (.inl ()) = some (.inl ()) := by
        obtain ⟨j, rfl⟩ : ∃ j, n = j + 1 := ⟨n - 1, by omega⟩
        exact loopF_r rfl
      rw [hL1, Option.bind_some]
      dsimp only
      rw [l2_eq]
      obtain ⟨e, hL, hE⟩ := suns_loop (n := n) (by omega) ha hsz hl12' hg fl (t := (a3, a4, 100 + a5)) hk w3 w4 (by rw [w5]) ht
      rw [hL, Option.bind_some]
      rcases hE with rfl | ⟨A, B, rfl, hF⟩
      · rfl
      · exact tail_ok (by omega) (by omega) hF
    | cons y r =>
      have hp : (x :: (y :: r).reverse).Perm (x :: y :: r) := (List.reverse_perm _).cons x
      have hdrop : (x :: (y :: r).dropLast).Sublist (x :: y :: r) := (List.dropLast_sublist _).cons_cons x
      have fl : Flds n x (y :: r) (y :: r).reverse (y :: r).dropLast k := by
        refine ⟨by omega, hk3, hlen, hc, chk_perm hp hc, chk_sub hdrop hc, fun m => List.mem_reverse, fun m h => List.dropLast_subset _ h, hnm, ?_⟩
        rw [List.length_map, hm1, if_neg (by simp), show Int.toNat 0 = 0 from rfl, List.drop_zero, ← List.map_take]
        congr 1
        rw [show Int.toNat (((x :: y :: r).length : Int) - 1) = (x :: y :: r).length - 1 by omega, ← List.dropLast_eq_take]
        rfl
      rw [back_loop (by omega) (by rw [List.length_cons]; rw [List.length_cons] at hlen; omega), Option.bind_some]
      dsimp only
      obtain ⟨e, hL, hE⟩ := suns_loop (n := n) (by omega) ha hsz hl12' hg fl (t := (a3, a4, 100 + a5)) hk w3 w4 (by rw [w5]) ht
      rw [hL, Option.bind_some]
      rcases hE with rfl | ⟨A, B, rfl, hF⟩
      · rfl
      · exact tail_ok (by omega) (by omega) hF
theorem law_TopThistleYear (a0 : ByteArray) (S : List Sn) (l : List Mir10) (a3 a4 a5 a6 : Int) (h3 : -128 ≤ a3 ∧ a3 ≤ 127) (h4 : -128 ≤ a4 ∧ a4 ≤ 127) (h5 : -128 ≤ a5 ∧ a5 ≤ 127) (hl : l.length ≤ 9223372036854775807) :
    F_top_TopThistleYear (l.length + 100000) a0 (S.map encS) (l.map fun x => encM (Mir.of x)) a3 a4 a5 a6 = some true := by
  have := law_year (n := l.length + 100000) a0 S (l.map Mir.of) a3 a4 a5 a6 h3 h4 h5 (by rw [List.length_map]; exact hl) (by rw [List.length_map])
  rwa [List.map_map] at this
end Go.Proofs.YtiogobiijlaalaaDoor
