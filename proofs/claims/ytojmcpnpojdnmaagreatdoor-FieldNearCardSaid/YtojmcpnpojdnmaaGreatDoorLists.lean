/-
  Plain lemmas of chapter 4: lists of mirrors, and what their check answers. An own text.
-/
import Derived.Test.YtojmcpnpojdnmaaGreatDoorMirLaw
set_option linter.unusedVariables false
set_option linter.unusedSimpArgs false
set_option linter.unnecessarySimpa false
set_option maxRecDepth 20000
namespace Go.Proofs.YtojmcpnpojdnmaaGreatDoor
open Go.SX

theorem ba_beq (a b : ByteArray) : (a == b) = decide (a = b) := by
  obtain ⟨x⟩ := a
  obtain ⟨y⟩ := b
  have e : ((⟨x⟩ : ByteArray) == ⟨y⟩) = (x == y) := rfl
  rw [e, Bool.eq_iff_iff, beq_iff_eq, decide_eq_true_eq]
  constructor
  · intro h; rw [h]
  · intro h; injection h
instance : LawfulBEq ByteArray where
  eq_of_beq h := by rw [ba_beq] at h; exact of_decide_eq_true h
  rfl := by intro a; rw [ba_beq]; exact decide_eq_true rfl
theorem dlen (s : ByteArray) : s.data.toList.length = s.size := by cases s; rfl
theorem loop_eq (s : ByteArray) : ∀ (m i : Nat) (r : List UInt8), i + m = s.size → ByteArray.toList.loop s i r = r.reverse ++ s.data.toList.drop i
  | 0, i, r, h => by
    rw [ByteArray.toList.loop, if_neg (by omega), List.drop_eq_nil_of_le (by rw [dlen]; omega), List.append_nil]
  | m + 1, i, r, h => by
    have hi : i < s.data.toList.length := by rw [dlen]; omega
    rw [ByteArray.toList.loop, if_pos (by omega), loop_eq s m (i + 1) _ (by omega), List.reverse_cons, List.append_assoc]
    congr 1
    rw [List.drop_eq_getElem_cons hi]
    show s.get! i :: _ = _
    congr 1
    cases s with
    | mk d =>
      have hd : i < d.size := by simpa using hi
      show d[i]! = _
      simp [hd]
theorem toList_eq (s : ByteArray) : s.toList = s.data.toList := by
  unfold ByteArray.toList
  rw [loop_eq s s.size 0 [] (by omega)]; simp
theorem toList_beq (a b : ByteArray) : (a.toList == b.toList) = decide (a = b) := by
  rw [Bool.eq_iff_iff, beq_iff_eq, decide_eq_true_eq, toList_eq, toList_eq]
  constructor
  · intro h
    obtain ⟨⟨a⟩⟩ := a
    obtain ⟨⟨b⟩⟩ := b
    simp only at h
    rw [h]
  · intro h; rw [h]

/-! Lists of mirrors. -/
abbrev Mir10 := ByteArray × Int × Int × Int × Int × Int × Int × Int × Int × Int
def Mir.of (x : Mir10) : Mir := ⟨x.1, (x.2.1, x.2.2.1, x.2.2.2.1), (x.2.2.2.2.1, x.2.2.2.2.2.1, x.2.2.2.2.2.2.1), (x.2.2.2.2.2.2.2.1, x.2.2.2.2.2.2.2.2.1, x.2.2.2.2.2.2.2.2.2)⟩
def Mir.tup (m : Mir) : Mir10 := (m.name, m.c.1, m.c.2.1, m.c.2.2, m.u.1, m.u.2.1, m.u.2.2, m.v.1, m.v.2.1, m.v.2.2)
def encM (m : Mir) : D := .agg [.v (.string m.name), I m.c.1, I m.c.2.1, I m.c.2.2, I m.u.1, I m.u.2.1, I m.u.2.2, I m.v.1, I m.v.2.1, I m.v.2.2]
theorem elM {ms : List Mir} {i : Nat} {m : Mir} (h : ms[i]? = some m) : el un_Asi9Z (ms.map encM) (i : Int) = some m.tup := by
  have := el_enc (un := un_Asi9Z) (enc := fun x : Mir10 => encM (Mir.of x)) (fun x => rfl) (l := ms.map Mir.tup) (i := i) (x := m.tup) (by rw [List.getElem?_map, h]; rfl)
  rw [List.map_map] at this
  exact this
theorem runL_app {α β : Type} (f : α → β) : ∀ (l : List α) (s : List β), runL (fun (s : List β) (p : α) => (.inl (s ++ [f p]) : List β ⊕ List β)) id l s = s ++ l.map f
  | [], s => by simp [runL]
  | p :: l, s => by
    unfold runL
    dsimp only
    rw [runL_app f l]; simp
theorem own_eq {n : Nat} (ms : List Mir) (hn : ms.length < n) (hl : ms.length ≤ 100) : F_law04_own n (ms.map encM) = some (ms.map encM) := by
  unfold F_law04_own
  have := loopF_list0 (step := F_law04_own_L1 n (ms.map encM)) (fun (s : List D) (p : Mir) => (.inl (s ++ [encM p]) : List D ⊕ List D)) id (fun i s => ((i : Int), s)) ms (fun i s => s.length = i)
    (fun i s x hx hi => by
      have hlt := (List.getElem?_eq_some_iff.1 hx).1
      dsimp only
      refine ⟨?_, by simp [hi]⟩
      unfold F_law04_own_L1
      dsimp only
      rw [if_pos (lenlt hx), elM hx, Option.bind_some, if_pos (by unfold roomP; omega), if_pos (by unfold inI64; omega)]
      rfl)
    (fun s _ => by unfold F_law04_own_L1; dsimp only; rw [if_neg (by simp)]; rfl) (s := []) (k := n) (by rfl) hn
  rw [show ((0 : Int), ([] : List D)) = (((0 : Nat) : Int), []) from rfl, this, runL_app]
  rfl
def shortB (m : Mir) : Bool := decide ((m.name.size : Int) ≤ 40)
theorem short_eq {n : Nat} (ms : List Mir) (hn : ms.length < n) (hl : ms.length ≤ 9223372036854775807) : F_ref04_Short n (ms.map encM) = some (ms.all shortB && (decide (ms.length ≤ 6) || decide (ms.length = 65))) := by
  unfold F_ref04_Short
  have key : ∀ (l : List Mir), runL (fun (_ : Unit) (m : Mir) => (if shortB m = true then .inl () else .inr (.inl ()) : Unit ⊕ (Unit ⊕ Unit))) (fun _ => .inr ()) l () = if l.all shortB = true then .inr () else .inl () := by
    intro l
    induction l with
    | nil => rfl
    | cons p l ih =>
      unfold runL
      by_cases h : shortB p = true
      · rw [if_pos h]; simp only [List.all_cons, h, Bool.true_and]; exact ih
      · rw [if_neg h]; simp [h]
  have := loopF_list0 (step := F_ref04_Short_L1 n (ms.map encM)) (fun (_ : Unit) (m : Mir) => (if shortB m = true then .inl () else .inr (.inl ()) : Unit ⊕ (Unit ⊕ Unit))) (fun _ => .inr ()) (fun i _ => (i : Int)) ms (fun _ _ => True)
    (fun i s x hx _ => by
      have hi := (List.getElem?_eq_some_iff.1 hx).1
      unfold F_ref04_Short_L1 F_ref04_ShortMirror
      by_cases h : shortB x = true
      · rw [if_pos h]
        refine ⟨?_, trivial⟩
        rw [if_pos (lenlt hx), elM hx, Option.bind_some, Option.bind_some, if_pos (show decide ((x.tup.1.size : Int) ≤ 40) = true from h), if_pos (by unfold inI64; omega)]; rfl
      · rw [if_neg h]
        dsimp only
        rw [if_pos (lenlt hx), elM hx, Option.bind_some, Option.bind_some, if_neg (show ¬ decide ((x.tup.1.size : Int) ≤ 40) = true from h)])
    (fun s _ => by unfold F_ref04_Short_L1; rw [if_neg (by simp)]) (s := ()) (k := n) trivial hn
  rw [show (0 : Int) = ((0 : Nat) : Int) from rfl, this, key, Option.bind_some]
  by_cases h : ms.all shortB = true
  · rw [if_pos h, h]
    dsimp only
    rw [List.length_map]
    by_cases h1 : (ms.length : Int) ≤ 6
    · rw [if_pos h1]
      have : ms.length ≤ 6 := by omega
      simp [this]
    · rw [if_neg h1]
      have : ¬ ms.length ≤ 6 := by omega
      congr 1
      rw [Bool.eq_iff_iff]
      simp [this]
      omega
  · rw [if_neg h]; simp [h]

/-! The check of mirrors. -/
def entK (s : ByteArray) : D := .tup [.v (.string s), B true]
theorem mok_k (k : ByteArray) : ∀ (l : List ByteArray), mok (.string k) (l.map entK) = true
  | [] => rfl
  | x :: l => by
    rw [List.map_cons]
    unfold mok
    show ((sameK (.string k) (.string x)).isSome && mok (.string k) (l.map entK)) = true
    rw [mok_k k l]; rfl
theorem mfind_k (k : ByteArray) : ∀ (l : List ByteArray), mfind (.string k) (l.map entK) = if k ∈ l then some (B true) else none
  | [] => rfl
  | x :: l => by
    rw [List.map_cons]
    unfold mfind
    show (match sameK (.string k) (.string x) with
      | some true => some (B true)
      | _ => mfind (.string k) (l.map entK)) = _
    rw [mfind_k k l]
    show (match some (k == x) with
      | some true => some (B true)
      | _ => if k ∈ l then some (B true) else none) = _
    rw [ba_beq]
    by_cases h : k = x
    · simp [h]
    · simp [h]
theorem mput_k (k : ByteArray) : ∀ (l : List ByteArray), k ∉ l → mput (.string k) (B true) (l.map entK) = (l ++ [k]).map entK
  | [], _ => rfl
  | x :: l, h => by
    rw [List.map_cons]
    unfold mput
    show (match sameK (.string k) (.string x) with
      | some true => (.tup [.v (.string k), B true] : D) :: l.map entK
      | _ => entK x :: mput (.string k) (B true) (l.map entK)) = _
    rw [mput_k k l (fun hh => h (List.mem_cons_of_mem _ hh))]
    show (match some (k == x) with
      | some true => (.tup [.v (.string k), B true] : D) :: l.map entK
      | _ => entK x :: (l ++ [k]).map entK) = _
    rw [ba_beq]
    have hx : ¬ k = x := fun e => h (by rw [e]; exact List.mem_cons_self)
    simp [hx]
def mE (seen : List ByteArray) (m : Mir) : Int := firstNZ [mirE m, whenI (decide (m.name ∈ seen)) 9]
def gC (seen : List ByteArray) (m : Mir) : List ByteArray ⊕ (Int ⊕ Unit) := if mE seen m = 0 then .inl (seen ++ [m.name]) else .inr (.inl (mE seen m))
def chkR (ms : List Mir) : Int ⊕ Unit := runL gC (fun _ => .inr ()) ms []
def chkM (ms : List Mir) : Int := if (ms.length : Int) > 64 then 5 else match chkR ms with
  | .inl e => e
  | .inr _ => 0
theorem mE_new {seen : List ByteArray} {m : Mir} (h : mE seen m = 0) : m.name ∉ seen := by
  have := firstNZ_zero h (whenI (decide (m.name ∈ seen)) 9) (by simp)
  unfold whenI at this
  intro hm
  simp [hm] at this
theorem checkMs_eq {n : Nat} (hn : 100 ≤ n) (ms : List Mir) (hz : ∀ m, m ∈ ms → m.name.size < n) : F_field_CheckMirrors n (ms.map encM) = some (chkM ms) := by
  unfold F_field_CheckMirrors chkM
  rw [List.length_map]
  by_cases hl : (ms.length : Int) > 64
  · rw [if_pos hl, if_pos hl]
  · rw [if_neg hl, if_neg hl]
    have := loopF_list0 (step := F_field_CheckMirrors_L1 n (ms.map encM)) gC (fun _ => .inr ()) (fun i (s : List ByteArray) => ((i : Int), s.map entK)) ms (fun _ _ => True)
      (fun i s x hx _ => by
        have hi := (List.getElem?_eq_some_iff.1 hx).1
        have hc := check_eq hn (hz x (List.mem_of_getElem? hx))
        have step : F_field_CheckMirrors_L1 n (ms.map encM) ((i : Int), s.map entK) = if mE s x = 0 then some (.inl (((i + 1 : Nat) : Int), (s ++ [x.name]).map entK)) else some (.inr (.inl (mE s x))) := by
          have hi2 : inI64 ((i : Int) + 1) := by unfold inI64; omega
          unfold F_field_CheckMirrors_L1
          dsimp only
          rw [if_pos (lenlt hx), elM hx, Option.bind_some]
          unfold Mir.tup
          dsimp only
          rw [hc, Option.bind_some, if_pos (mok_k x.name s)]
          simp only [mfind_k, if_pos hi2]
          by_cases hm : x.name ∈ s
          · have hne : mE s x = firstNZ [mirE x, 9] := by unfold mE whenI; simp [hm]
            have hnz : ¬ mE s x = 0 := fun h => mE_new h hm
            rw [if_pos hm, if_pos (show (some (B true)).isSome = true from rfl), Option.bind_some, show un_b (B true) = some true from rfl, Option.bind_some, when_eq, Option.bind_some, first2 (by omega), Option.bind_some]
            have hw : whenI true 9 = 9 := rfl
            rw [hw, ← hne, if_neg hnz, if_neg hnz]
          · have hne : mE s x = firstNZ [mirE x, 0] := by unfold mE whenI; simp [hm]
            rw [if_neg hm, if_neg (by simp), show F_field_when_3 n = some 0 from rfl, Option.bind_some, first2 (by omega), Option.bind_some, ← hne, mput_k _ _ hm]
            rfl
        unfold gC
        by_cases h : mE s x = 0
        · rw [if_pos h] at step ⊢; exact ⟨step, trivial⟩
        · rw [if_neg h] at step ⊢; exact step)
      (fun s _ => by unfold F_field_CheckMirrors_L1; dsimp only; rw [if_neg (by simp)]) (s := []) (k := n) trivial (by omega)
    rw [show ((0 : Int), ([] : List D)) = (((0 : Nat) : Int), ([] : List ByteArray).map entK) from rfl, this, Option.bind_some]
    unfold chkR
    cases runL gC (fun _ => .inr ()) ms [] <;> rfl

/-! The reference's check. -/
theorem dup_loop {n : Nat} {ms : List Mir} (hl : ms.length ≤ 64) (hn : 100 ≤ n) {i : Nat} {x : Mir} (hx : ms[i]? = some x) :
    loopF (F_ref04_CheckMirrors_L1 n (ms.map encM) (i : Int)) n 0 = some (if x.name ∈ (ms.take i).map Mir.name then .inl () else .inr ()) := by
  have hi := (List.getElem?_eq_some_iff.1 hx).1
  have key : ∀ (l : List Mir), runL (fun (_ : Unit) (m : Mir) => (if m.name = x.name then .inr (.inl ()) else .inl () : Unit ⊕ (Unit ⊕ Unit))) (fun _ => .inr ()) l () = if x.name ∈ l.map Mir.name then .inl () else .inr () := by
    intro l
    induction l with
    | nil => rfl
    | cons p l ih =>
      unfold runL
      by_cases h : p.name = x.name
      · rw [if_pos h]; simp [h]
      · rw [if_neg h]
        dsimp only
        rw [ih]
        have h' : ¬ x.name = p.name := fun e => h e.symm
        simp [h']
  have := loopF_list0 (step := F_ref04_CheckMirrors_L1 n (ms.map encM) (i : Int)) (fun (_ : Unit) (m : Mir) => (if m.name = x.name then .inr (.inl ()) else .inl () : Unit ⊕ (Unit ⊕ Unit))) (fun _ => .inr ()) (fun k _ => (k : Int)) (ms.take i) (fun _ _ => True)
    (fun k s y hy _ => by
      have hk := (List.getElem?_eq_some_iff.1 hy).1
      rw [List.length_take] at hk
      have hy2 : ms[k]? = some y := by
        rw [List.getElem?_take] at hy
        split at hy
        · exact hy
        · cases hy
      unfold F_ref04_CheckMirrors_L1
      have e : ((y.tup.1).toList == (x.tup.1).toList) = decide (y.name = x.name) := toList_beq _ _
      by_cases h : y.name = x.name
      · rw [if_pos h]
        dsimp only
        rw [if_pos (by omega), elM hy2, Option.bind_some, elM hx, Option.bind_some, e, if_pos (by simpa using h)]
      · rw [if_neg h]
        refine ⟨?_, trivial⟩
        rw [if_pos (by omega), elM hy2, Option.bind_some, elM hx, Option.bind_some, e, if_neg (by simpa using h), if_pos (by unfold inI64; omega)]; rfl)
    (fun s _ => by
      unfold F_ref04_CheckMirrors_L1
      rw [if_neg (by rw [List.length_take]; omega)]) (s := ()) (k := n) trivial (by rw [List.length_take]; omega)
  rw [show (0 : Int) = ((0 : Nat) : Int) from rfl, this, key]
theorem refMs_eq {n : Nat} (hn : 100 ≤ n) (ms : List Mir) : F_ref04_CheckMirrors n (ms.map encM) = some (chkM ms) := by
  unfold F_ref04_CheckMirrors chkM
  rw [List.length_map]
  by_cases hl : (ms.length : Int) > 64
  · rw [if_pos hl, if_pos hl]
  · rw [if_neg hl, if_neg hl]
    have := loopF_list0 (step := F_ref04_CheckMirrors_L2 n (ms.map encM)) gC (fun _ => .inr ()) (fun i (_ : List ByteArray) => (i : Int)) ms (fun i s => s = (ms.take i).map Mir.name)
      (fun i s x hx hs => by
        have hi := (List.getElem?_eq_some_iff.1 hx).1
        have hc := refCheck_eq hn x
        have hd := dup_loop (n := n) (by omega) hn hx
        rw [← hs] at hd
        have hnext : s ++ [x.name] = (ms.take (i + 1)).map Mir.name := by
          rw [List.take_add_one, hx, List.map_append, ← hs]; rfl
        have step : F_ref04_CheckMirrors_L2 n (ms.map encM) (i : Int) = if mE s x = 0 then some (.inl ((i + 1 : Nat) : Int)) else some (.inr (.inl (mE s x))) := by
          unfold F_ref04_CheckMirrors_L2
          rw [if_pos (lenlt hx), elM hx, Option.bind_some]
          show (F_ref04_CheckMirror n x.name x.c.1 x.c.2.1 x.c.2.2 x.u.1 x.u.2.1 x.u.2.2 x.v.1 x.v.2.1 x.v.2.2).bind _ = _
          rw [hc, Option.bind_some, hd, Option.bind_some]
          have hi2 : inI64 ((i : Int) + 1) := by unfold inI64; omega
          by_cases h0 : mirE x = 0
          · rw [if_pos h0]
            by_cases hm : x.name ∈ s
            · have hne : mE s x = 9 := by unfold mE whenI; simp [hm, firstNZ, h0]
              rw [if_pos hm, hne]; rfl
            · have hne : mE s x = 0 := by unfold mE whenI; simp [hm, firstNZ, h0]
              rw [if_neg hm, if_pos hne]
              dsimp only
              rw [if_pos hi2]; rfl
          · have hne : mE s x = mirE x := by unfold mE; simp [firstNZ, h0]
            rw [if_neg h0, hne, if_neg h0]
        unfold gC
        by_cases h : mE s x = 0
        · rw [if_pos h] at step ⊢; exact ⟨step, hnext⟩
        · rw [if_neg h] at step ⊢; exact step)
      (fun s _ => by unfold F_ref04_CheckMirrors_L2; rw [if_neg (by simp)]) (s := []) (k := n) (by simp) (by omega)
    rw [show (0 : Int) = ((0 : Nat) : Int) from rfl, this, Option.bind_some]
    unfold chkR
    cases runL gC (fun _ => .inr ()) ms [] <;> rfl
end Go.Proofs.YtojmcpnpojdnmaaGreatDoor
