/-
  What is read of the arguments of a statement: any value of plain parts is data. An own text.
-/
import Derived.Test.YtclmbhokfhjnoaaGreatDoorBase
import GoSem.ClaimChange
import Derived.ProofKit
import Derived.OpenShut
set_option linter.unusedVariables false
set_option linter.unusedSimpArgs false
set_option linter.unnecessarySimpa false
namespace Go.Proofs.YtclmbhokfhjnoaaGreatDoor
open Go.SX Go.RowKit

/-- The kinds of the cells of a type. -/
inductive Kd
  | int (k : IntKind)
  | bool
  | str
  | flt (k : FloatKind)
  | lst (agg : Bool) (ks : List Kd)

mutual
def Kd.ok : Kd → D → Prop
  | .int k, d => ∃ n, d = .v (.int k n) ∧ k.min ≤ n ∧ n ≤ k.max
  | .bool, d => ∃ b, d = .v (.bool b)
  | .str, d => ∃ s, d = .v (.string s) ∧ s.size ≤ maxLen
  | .flt k, d => ∃ b, d = .v (.float k b) ∧ (Lit.float k b).wf = true
  | .lst agg ks, d => ∃ es, d = .lst false ks.length es ∧ es.length ≤ maxLen ∧ ∀ e, e ∈ es → match agg with
    | true => ∃ cs, e = .agg cs ∧ Kd.oks ks cs
    | false => Kd.oks ks [e]
def Kd.oks : List Kd → List D → Prop
  | [], ds => ds = []
  | k :: ks, ds => ∃ d r, ds = d :: r ∧ Kd.ok k d ∧ Kd.oks ks r
end

def kindsF (P : Program) (f : TypeId → Option (List Kd)) : Nat → List Field → Option (List Kd)
  | _, [] => some []
  | off, fd :: l => match f fd.type with
    | some ks => match Nat.beq fd.offset off && Nat.beq ks.length (P.cellsOf fd.type), kindsF P f (off + ks.length) l with
      | true, some r => some (ks ++ r)
      | _, _ => none
    | none => none
def kinds (P : Program) : Nat → TypeId → Option (List Kd)
  | 0, _ => none
  | n + 1, t => match P.underlying t with
    | some (.int k) => some [.int k]
    | some .bool => some [.bool]
    | some .string => some [.str]
    | some (.float k) => some [.flt k]
    | some (.slice e) => match kinds P n e, P.underlying e with
      | some ks, some (.struct _) => match Nat.beq ks.length (P.cellsOf e) && Nat.blt 0 ks.length with
        | true => some [.lst true ks]
        | false => none
      | some ks, some (.array _ _) => match Nat.beq ks.length (P.cellsOf e) && Nat.blt 0 ks.length with
        | true => some [.lst true ks]
        | false => none
      | some ks, some _ => match Nat.beq ks.length (P.cellsOf e) && Nat.beq 1 ks.length with
        | true => some [.lst false ks]
        | false => none
      | _, _ => none
    | some (.struct fs) => match kindsF P (kinds P n) 0 fs.toList with
      | some ks => match Nat.beq ks.length (P.cellsOf t) with
        | true => some ks
        | false => none
      | none => none
    | some (.array m e) => match kinds P n e with
      | some ks => match Nat.beq ks.length (P.cellsOf e) && Nat.beq (m * ks.length) (P.cellsOf t) with
        | true => some (List.replicate m ks).flatten
        | false => none
      | none => none
    | _ => none

def Reads (W : World) : List D → List Value → Prop
  | [], [] => True
  | d :: ds, v :: vs => (DR W (fun _ => False) d v ∧ one v = true) ∧ Reads W ds vs
  | _, _ => False
theorem Reads.append {W : World} : ∀ {a : List D} {x : List Value} {b : List D} {y : List Value}, Reads W a x → Reads W b y → Reads W (a ++ b) (x ++ y)
  | [], [], _, _, _, h => h
  | _ :: _, _ :: _, _, _, h, k => ⟨h.1, Reads.append h.2 k⟩
  | [], _ :: _, _, _, h, _ => h.elim
  | _ :: _, [], _, _, h, _ => h.elim
theorem Reads.len {W : World} : ∀ {a : List D} {x : List Value}, Reads W a x → a.length = x.length
  | [], [], _ => rfl
  | _ :: _, _ :: _, h => by simp [Reads.len h.2]
  | [], _ :: _, h => h.elim
  | _ :: _, [], h => h.elim
theorem Reads.at {W : World} : ∀ {a : List D} {x : List Value}, Reads W a x → ∀ (i : Nat) (d : D) (v : Value), a[i]? = some d → x[i]? = some v → DR W (fun _ => False) d v ∧ one v = true
  | [], [], _, i, d, v, h, _ => by simp at h
  | _ :: _, _ :: _, hh, 0, d, v, h, k => by simp at h k; subst h; subst k; exact hh.1
  | _ :: _, _ :: _, hh, i + 1, d, v, h, k => Reads.at hh.2 i d v (by simpa using h) (by simpa using k)
  | [], _ :: _, h, _, _, _, _, _ => h.elim
  | _ :: _, [], h, _, _, _, _, _ => h.elim
theorem oks_append : ∀ {a b : List Kd} {x y : List D}, Kd.oks a x → Kd.oks b y → Kd.oks (a ++ b) (x ++ y)
  | [], _, x, y, h, k => by unfold Kd.oks at h; subst h; exact k
  | q :: a, b, x, y, h, k => by
    unfold Kd.oks at h
    obtain ⟨d, r, rfl, h1, h2⟩ := h
    show Kd.oks (q :: (a ++ b)) (d :: (r ++ y))
    unfold Kd.oks
    exact ⟨d, r ++ y, rfl, h1, oks_append h2 k⟩
theorem oks_len : ∀ {a : List Kd} {x : List D}, Kd.oks a x → x.length = a.length
  | [], x, h => by unfold Kd.oks at h; subst h; rfl
  | q :: a, x, h => by
    unfold Kd.oks at h
    obtain ⟨d, r, rfl, h1, h2⟩ := h
    simp [oks_len h2]
theorem oks_one {k : Kd} {d : D} (h : Kd.ok k d) : Kd.oks [k] [d] := by
  unfold Kd.oks; exact ⟨d, [], rfl, h, by unfold Kd.oks; rfl⟩

section
variable {H : Type} {enc : TypeId × Value → H} {P : Program} {W : World} {base : Nat} {sp : Nat → Bool} {held : Bool}

theorem reads1 {W : World} {k : Kd} {d : D} {v : Value} (h1 : Kd.ok k d) (h2 : DR W (fun _ => False) d v) (h3 : one v = true) : ∃ ds, Kd.oks [k] ds ∧ Reads W ds [v] := ⟨[d], oks_one h1, ⟨h2, h3⟩, trivial⟩

theorem fields_read {f : TypeId → Option (List Kd)} {g : TypeId → List Value → Prop} (hf : ∀ t cs ks, f t = some ks → g t cs → ∃ ds, Kd.oks ks ds ∧ Reads W ds cs) {cs : List Value} :
    ∀ (fs : List Field) (off : Nat) (ks : List Kd), kindsF P f off fs = some ks → (∀ fd, fd ∈ fs → g fd.type ((cs.drop fd.offset).take (P.cellsOf fd.type))) → cs.length = off + ks.length → ∃ ds, Kd.oks ks ds ∧ Reads W ds (cs.drop off)
  | [], off, ks, h, _, hl => by
    simp only [kindsF, Option.some.injEq] at h; subst h
    refine ⟨[], by unfold Kd.oks; rfl, ?_⟩
    rw [List.drop_eq_nil_of_le (by simp at hl; omega)]; trivial
  | fd :: l, off, ks, h, hg, hl => by
    unfold kindsF at h
    split at h
    case h_2 => cases h
    rename_i k1 hk1
    split at h
    case h_2 => cases h
    rename_i r hb hr
    simp only [Option.some.injEq] at h; subst h
    simp only [Bool.and_eq_true, Nat.beq_eq] at hb
    obtain ⟨ds1, a1, b1⟩ := hf _ _ _ hk1 (hg fd List.mem_cons_self)
    rw [List.length_append] at hl
    obtain ⟨ds2, a2, b2⟩ := fields_read hf l (off + k1.length) r hr (fun x hx => hg x (List.mem_cons_of_mem _ hx)) (by omega)
    refine ⟨ds1 ++ ds2, oks_append a1 a2, ?_⟩
    have := b1.append b2
    rw [hb.1, ← hb.2, ← List.drop_drop, List.take_append_drop] at this
    exact this

theorem elems_read {ks : List Kd} {cs : List Value} {m : Nat} (hf : ∀ i, i < m → ∃ ds, Kd.oks ks ds ∧ Reads W ds ((cs.drop (i * ks.length)).take ks.length)) (hl : cs.length = m * ks.length) :
    ∀ j, j ≤ m → ∃ ds, Kd.oks (List.replicate j ks).flatten ds ∧ Reads W ds (cs.drop ((m - j) * ks.length))
  | 0, _ => by
    refine ⟨[], by unfold Kd.oks; rfl, ?_⟩
    rw [List.drop_eq_nil_of_le (by simp [hl])]; trivial
  | j + 1, hj => by
    obtain ⟨ds2, a2, b2⟩ := elems_read hf hl j (by omega)
    obtain ⟨ds1, a1, b1⟩ := hf (m - (j + 1)) (by omega)
    refine ⟨ds1 ++ ds2, by rw [List.replicate_succ, List.flatten_cons]; exact oks_append a1 a2, ?_⟩
    have e : (m - j) * ks.length = (m - (j + 1)) * ks.length + ks.length := by
      rw [show m - j = m - (j + 1) + 1 by omega, Nat.add_mul, Nat.one_mul]
    rw [e] at b2
    have := b1.append b2
    rw [← List.drop_drop, List.take_append_drop] at this
    exact this

theorem mapM_some {α β : Type} {f : α → Option β} : ∀ {l : List α} {r : List β}, l.mapM f = some r → ∀ a, a ∈ l → ∃ b, f a = some b
  | [], _, _, a, ha => by cases ha
  | x :: l, r, h, a, ha => by
    simp only [List.mapM_cons, Option.bind_eq_bind, Option.bind_eq_some_iff, Option.pure_def, Option.some.injEq] at h
    obtain ⟨b, hb, r', hr', rfl⟩ := h
    rcases List.mem_cons.1 ha with rfl | ha
    · exact ⟨b, hb⟩
    · exact mapM_some hr' a ha

theorem trod_struct' {fuel : Nat} {t : TypeId} {fs : Array Field} {cs : List Value} {x : DataW H × List MemPlace} (ht : P.underlying t = some (.struct fs)) (h : DataW.trod enc P W base sp held fuel t cs = some x) :
    ∃ n, fuel = n + 1 ∧ cs.length = P.cellsOf t ∧ ∀ fd, fd ∈ fs.toList → ∃ y, DataW.trod enc P W base sp held n fd.type ((cs.drop fd.offset).take (P.cellsOf fd.type)) = some y := by
  cases fuel with
  | zero => simp [DataW.trod] at h
  | succ n =>
    refine ⟨n, rfl, ?_⟩
    simp only [DataW.trod, ht] at h
    split at h
    case isFalse => cases h
    rename_i hl
    simp only [Option.map_eq_some_iff] at h
    obtain ⟨r, hr, _⟩ := h
    exact ⟨hl, fun fd hfd => mapM_some hr fd hfd⟩
theorem trod_array' {fuel : Nat} {t e : TypeId} {m : Nat} {cs : List Value} {x : DataW H × List MemPlace} (ht : P.underlying t = some (.array m e)) (h : DataW.trod enc P W base sp held fuel t cs = some x) :
    ∃ n, fuel = n + 1 ∧ cs.length = P.cellsOf t ∧ ∀ i, i < m → ∃ y, DataW.trod enc P W base sp held n e ((cs.drop (i * P.cellsOf e)).take (P.cellsOf e)) = some y := by
  cases fuel with
  | zero => simp [DataW.trod] at h
  | succ n =>
    refine ⟨n, rfl, ?_⟩
    simp only [DataW.trod, ht] at h
    split at h
    case isFalse => cases h
    rename_i hl
    simp only [Option.map_eq_some_iff] at h
    obtain ⟨r, hr, _⟩ := h
    exact ⟨hl, fun i hi => mapM_some hr i (by simpa using hi)⟩
theorem trod_float' {fuel : Nat} {t : TypeId} {k : FloatKind} {cs : List Value} {x : DataW H × List MemPlace} (ht : P.underlying t = some (.float k)) (h : DataW.trod enc P W base sp held fuel t cs = some x) :
    ∃ b, cs = [.float k b] ∧ (Lit.float k b).wf = true := by
  cases fuel with
  | zero => simp [DataW.trod] at h
  | succ n =>
    unfold DataW.trod at h
    rw [ht] at h
    split at h <;> simp_all

/-- A list, of which each element reads. -/
theorem slice_read {agg : Bool} {ks : List Kd} {fuel : Nat} {t e : TypeId} {cs : List Value} {x : DataW H × List MemPlace} (ht : P.underlying t = some (.slice e)) (h : DataW.trod enc P W base sp held fuel t cs = some x)
    (hk : ks.length = P.cellsOf e) (hpos : 0 < ks.length) (h1 : agg = false → ks.length = 1)
    (ih : ∀ (n : Nat) (c : List Value) (y : DataW H × List MemPlace), DataW.trod enc P W base sp held n e c = some y → ∃ ds, Kd.oks ks ds ∧ Reads W ds c) :
    ∃ ds, Kd.oks [.lst agg ks] ds ∧ Reads W ds cs := by
  rcases DataW.trod_slice ht h with ⟨rfl, _⟩ | ⟨a, len, cap, elems, rest, n, _, rfl, _, hb, hl, hm, hlen, hel, _, _⟩
  · refine reads1 (d := .lst false ks.length []) ?_ ?_ rfl
    · unfold Kd.ok; exact ⟨[], rfl, Nat.zero_le _, fun e he => by cases he⟩
    · exact .lst false ks.length [] none 0 0 0 (fun _ => .nilIface) (fun h => by cases h) (Nat.le_refl _) (fun h => absurd rfl h) (by simp) (by simp) (by simp)
  · have each : ∀ i, i < len → ∃ ds c, Kd.oks ks ds ∧ Reads W ds c ∧ c.length = ks.length ∧ ∀ j, j < ks.length → W.cell? ((a.add (i * ks.length)).add j) = c[j]? := by
      intro i hi
      have h2 := hel i hi
      rw [List.getElem?_eq_getElem (by omega), ← hk] at h2
      rw [Option.bind_eq_some_iff] at h2
      obtain ⟨c, hc, hy⟩ := h2
      obtain ⟨ds, d1, d2⟩ := ih _ _ _ hy
      refine ⟨ds, c, d1, d2, by rw [← d2.len, oks_len d1], fun j hj => ?_⟩
      unfold World.cells? at hc
      split at hc
      case isFalse => cases hc
      have hcl : c.length = ks.length := by rw [← d2.len, oks_len d1]
      obtain ⟨b, hb1, hb2⟩ := Lib.mapM_at hc j j (by simp [hj])
      rw [hb1, hb2]
    let ds (i : Nat) : List D := if hi : i < len then Classical.choose (each i hi) else []
    let mk (d : List D) : D := if agg then .agg d else d.headD (.v .nilIface)
    have hds : ∀ i, i < len → ∃ c, Kd.oks ks (ds i) ∧ Reads W (ds i) c ∧ c.length = ks.length ∧ ∀ j, j < ks.length → W.cell? ((a.add (i * ks.length)).add j) = c[j]? := by
      intro i hi
      have := Classical.choose_spec (each i hi)
      simp only [ds, dif_pos hi]; exact this
    have hleaf : ∀ (k : Kd) (d : D), Kd.ok k d → d.cells = [d] := by
      intro k d hd
      cases k <;> simp only [Kd.ok] at hd
      · obtain ⟨n, rfl, _⟩ := hd; rfl
      · obtain ⟨n, rfl⟩ := hd; rfl
      · obtain ⟨n, rfl, _⟩ := hd; rfl
      · obtain ⟨n, rfl, _⟩ := hd; rfl
      · obtain ⟨n, rfl, _⟩ := hd; rfl
    have hmk : ∀ i, i < len → (mk (ds i)).cells = ds i := by
      intro i hi
      obtain ⟨c, c1, _⟩ := hds i hi
      simp only [mk]
      split
      · rfl
      · rename_i hag
        have h3 := h1 (by simpa using hag)
        have h4 := oks_len c1
        rw [h3] at h4
        match hdi : ds i, h4 with
        | [d], _ =>
          rw [hdi] at c1
          match hks : ks, h3 with
          | [k], _ =>
            unfold Kd.oks at c1
            obtain ⟨d', r', e1, e2, e3⟩ := c1
            cases e1
            exact hleaf k d e2
    have ha : 0 < len → a = ⟨a.block, a.off, none⟩ ∧ a.block < W.heap.size := by
      intro h0
      obtain ⟨c, c1, c2, c3, c4⟩ := hds 0 h0
      have h5 := c4 0 hpos
      rw [List.getElem?_eq_getElem (by omega)] at h5
      have e0 : (a.add (0 * ks.length)).add 0 = a := by simp [Addr.add]
      rw [e0] at h5
      unfold World.cell? at h5
      split at h5
      · rename_i q1 q2 q3 hheap
        split at h5
        · cases h5
        · rename_i hs
          refine ⟨?_, ?_⟩
          · revert hs
            obtain ⟨b, o, s⟩ := a
            cases s with
            | none => intro _; rfl
            | some s => intro hs; exact absurd rfl hs
          · rcases Nat.lt_or_ge a.block W.heap.size with h | h
            · exact h
            · have : W.heap[a.block]? = some _ := hheap
              rw [Array.getElem?_eq_none h] at this; cases this
      · cases h5
    have hcell : ∀ (i j : Nat) (c : D), i < len → (ds i)[j]? = some c → ∃ v, W.cell? ⟨a.block, a.off + (i * ks.length + j), none⟩ = some v ∧ DR W (fun _ => False) c v ∧ one v = true := by
      intro i j c hi hj
      obtain ⟨c', c1, c2, c3, c4⟩ := hds i hi
      have hjl : j < (ds i).length := (List.getElem?_eq_some_iff.1 hj).1
      rw [oks_len c1] at hjl
      have h6 := c4 j hjl
      have hv : c'[j]? = some (c'[j]'(by omega)) := List.getElem?_eq_getElem (by omega)
      rw [hv] at h6
      refine ⟨_, ?_, c2.at j _ _ hj hv⟩
      have e : (a.add (i * ks.length)).add j = ⟨a.block, a.off + (i * ks.length + j), none⟩ := by
        rw [(ha (by omega)).1, Go.SX.add_at, Go.SX.add_at, Nat.add_assoc]
      rw [← h6, e]
    refine reads1 (d := .lst false ks.length ((List.range len).map fun i => mk (ds i))) ?_ ?_ rfl
    · unfold Kd.ok
      refine ⟨_, rfl, by simp; omega, fun e he => ?_⟩
      simp only [List.mem_map, List.mem_range] at he
      obtain ⟨i, hi, rfl⟩ := he
      obtain ⟨c, c1, _⟩ := hds i hi
      cases agg with
      | true => exact ⟨ds i, rfl, c1⟩
      | false =>
        have h3 := h1 rfl
        have h4 := oks_len c1
        rw [h3] at h4
        simp only [mk]
        match hdi : ds i, h4 with
        | [d], _ => rw [hdi] at c1; exact c1
    · have key := DR.lst (w := W) (M := fun _ => False) false ks.length ((List.range len).map fun i => mk (ds i)) (some a) cap a.block a.off (fun k => (W.cell? ⟨a.block, a.off + k, none⟩).getD .nilIface)
        (fun h => by cases h) (by simp; omega)
        (fun hne => by
          have h0 : 0 < len := by
            rcases Nat.eq_zero_or_pos len with h | h
            · subst h; simp at hne
            · exact h
          exact ⟨by rw [← (ha h0).1], fun h => h, (ha h0).2⟩)
        (fun i e he => by
          rw [List.getElem?_map] at he
          simp only [Option.map_eq_some_iff] at he
          obtain ⟨k, hk1, rfl⟩ := he
          obtain ⟨hk2, rfl⟩ := List.getElem?_eq_some_iff.1 hk1
          simp only [List.length_range] at hk2
          simp only [List.getElem_range]
          obtain ⟨c, c1, _⟩ := hds i hk2
          rw [hmk i hk2, oks_len c1])
        (fun i e j c he hj => by
          rw [List.getElem?_map] at he
          simp only [Option.map_eq_some_iff] at he
          obtain ⟨k, hk1, rfl⟩ := he
          obtain ⟨hk2, rfl⟩ := List.getElem?_eq_some_iff.1 hk1
          simp only [List.length_range] at hk2
          simp only [List.getElem_range] at hj
          rw [hmk i hk2] at hj
          obtain ⟨v, v1, v2, v3⟩ := hcell i j c hk2 hj
          simp only [v1, Option.getD_some]
          exact ⟨trivial, v3⟩)
        (fun i e j c he hj => by
          rw [List.getElem?_map] at he
          simp only [Option.map_eq_some_iff] at he
          obtain ⟨k, hk1, rfl⟩ := he
          obtain ⟨hk2, rfl⟩ := List.getElem?_eq_some_iff.1 hk1
          simp only [List.length_range] at hk2
          simp only [List.getElem_range] at hj
          rw [hmk i hk2] at hj
          obtain ⟨v, v1, v2, v3⟩ := hcell i j c hk2 hj
          simp only [v1, Option.getD_some]
          exact v2)
      simpa using key

theorem trod_read : ∀ (d : Nat) (fuel : Nat) (t : TypeId) (cs : List Value) (x : DataW H × List MemPlace) (ks : List Kd), kinds P d t = some ks → DataW.trod enc P W base sp held fuel t cs = some x → ∃ ds, Kd.oks ks ds ∧ Reads W ds cs
  | 0, _, _, _, _, _, h, _ => by cases h
  | d + 1, fuel, t, cs, x, ks, h, hx => by
    unfold kinds at h
    split at h
    · rename_i k ht
      cases h
      obtain ⟨n, rfl, _, hw⟩ := DataW.trod_int ht hx
      simp only [Lit.wf, Bool.and_eq_true, decide_eq_true_eq] at hw
      exact reads1 (by unfold Kd.ok; exact ⟨n, rfl, hw⟩) (.v _) rfl
    · rename_i ht
      cases h
      obtain ⟨b, rfl, _⟩ := DataW.trod_bool ht hx
      exact reads1 (by unfold Kd.ok; exact ⟨b, rfl⟩) (.v _) rfl
    · rename_i ht
      cases h
      obtain ⟨s, rfl, _, hs⟩ := DataW.trod_string ht hx
      exact reads1 (by unfold Kd.ok; exact ⟨s, rfl, hs⟩) (.v _) rfl
    · rename_i k ht
      cases h
      obtain ⟨b, rfl, hw⟩ := trod_float' ht hx
      exact reads1 (by unfold Kd.ok; exact ⟨b, rfl, hw⟩) (.v _) rfl
    · rename_i e ht
      split at h
      · rename_i k1 _ hk1 _
        split at h
        case h_2 => cases h
        rename_i hb
        cases h
        simp only [Bool.and_eq_true, Nat.beq_eq, Nat.blt_eq] at hb
        exact slice_read ht hx hb.1 hb.2 (fun h => by cases h) fun n c y hy => trod_read d n e c y _ hk1 hy
      · rename_i k1 _ _ hk1 _
        split at h
        case h_2 => cases h
        rename_i hb
        cases h
        simp only [Bool.and_eq_true, Nat.beq_eq, Nat.blt_eq] at hb
        exact slice_read ht hx hb.1 hb.2 (fun h => by cases h) fun n c y hy => trod_read d n e c y _ hk1 hy
      · rename_i k1 _ _ _ hk1 _
        split at h
        case h_2 => cases h
        rename_i hb
        cases h
        simp only [Bool.and_eq_true, Nat.beq_eq] at hb
        exact slice_read ht hx hb.1 (by omega) (fun _ => hb.2.symm) fun n c y hy => trod_read d n e c y _ hk1 hy
      · cases h
    · rename_i fs ht
      split at h
      case h_2 => cases h
      rename_i k1 hk1
      split at h
      case h_2 => cases h
      rename_i hb
      cases h
      simp only [Nat.beq_eq] at hb
      obtain ⟨n, rfl, hl, hf⟩ := trod_struct' ht hx
      have := fields_read (P := P) (W := W) (f := kinds P d) (g := fun t cs => ∃ y, DataW.trod enc P W base sp held n t cs = some y) (fun t cs ks h1 h2 => by
        obtain ⟨y, hy⟩ := h2
        exact trod_read d n t cs y ks h1 hy) fs.toList 0 _ hk1 hf (by omega)
      rwa [List.drop_zero] at this
    · rename_i m e ht
      split at h
      case h_2 => cases h
      rename_i k1 hk1
      split at h
      case h_2 => cases h
      rename_i hb
      cases h
      simp only [Bool.and_eq_true, Nat.beq_eq] at hb
      obtain ⟨n, rfl, hl, hf⟩ := trod_array' ht hx
      have := elems_read (W := W) (ks := k1) (cs := cs) (m := m) (fun i hi => by
        obtain ⟨y, hy⟩ := hf i hi
        rw [← hb.1] at hy
        exact trod_read d n e _ y _ hk1 hy) (by omega) m (Nat.le_refl _)
      rwa [Nat.sub_self, Nat.zero_mul, List.drop_zero] at this
    · cases h
end
end Go.Proofs.YtclmbhokfhjnoaaGreatDoor
