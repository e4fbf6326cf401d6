/-
  What a row's list of package-level variables gives: each of them holds the data that the contracts lean on. An own text.
-/
import Derived.Test.YtclmbhokfhjnoaaGreatDoorFrame
import Derived.Deep.DeepHandedRow
import Derived.Lib.LaidTab
set_option linter.unusedVariables false
set_option linter.unusedSimpArgs false
set_option linter.unnecessarySimpa false
namespace Go.Proofs.YtclmbhokfhjnoaaGreatDoor
open Go.SX Go.RowKit Go.WideShapes Go.ChangeShapes

theorem laid_at {P : Program} {w : World} {n : String} {d : DataW Unit} : ∀ {l : List (String × DataW Unit)} {ps : List MemPlace} (i : Nat), DataW.LaidVars P w l ps → l[i]? = some (n, d) →
    ∃ g t cs fuel p, P.globalNamed n = some g ∧ (P.globals[g]?).map (·.type) = some t ∧ w.var? P n = some cs ∧ DataW.trod (fun _ => ()) P w 0 (fun _ => true) false fuel t cs.toList = some (d, p)
  | [], _, i, _, hi => by simp at hi
  | (m, e) :: r, ps, 0, h, hi => by
    simp only [List.getElem?_cons_zero, Option.some.injEq, Prod.mk.injEq] at hi
    obtain ⟨rfl, rfl⟩ := hi
    obtain ⟨g, t, cs, fuel, p, q, h1, h2, h3, h4, _, _⟩ := h
    exact ⟨g, t, cs, fuel, p, h1, h2, h3, h4⟩
  | (m, e) :: r, ps, i + 1, h, hi => by
    obtain ⟨g, t, cs, fuel, p, q, h1, h2, h3, h4, h5, _⟩ := h
    exact laid_at i h5 (by simpa using hi)
theorem rows_flat {α : Type} {n : Nat} : ∀ (m : Nat) (cs : List α) (zss : List (List α)), zss.length = m → cs.length = m * n → (∀ i z, zss[i]? = some z → (cs.drop (i * n)).take n = z) → cs = zss.flatten
  | 0, cs, zss, hz, hc, _ => by
    rw [Nat.zero_mul] at hc
    rw [List.eq_nil_of_length_eq_zero hc, List.eq_nil_of_length_eq_zero hz]; rfl
  | m + 1, cs, zss, hz, hc, h => by
    match zss, hz with
    | z :: r, hz =>
      have h0 := h 0 z rfl
      rw [Nat.zero_mul, List.drop_zero] at h0
      have ih := rows_flat (n := n) m (cs.drop n) r (by simpa using hz) (by simp [hc, Nat.add_mul]) (fun i y hi => by
        have := h (i + 1) y (by simpa using hi)
        rw [List.drop_drop, Nat.add_comm n, ← Nat.succ_mul]
        exact this)
      rw [List.flatten_cons, ← ih, ← h0, List.take_append_drop]
theorem cells_of_tab2 {H : Type} {enc : TypeId × Value → H} {P : Program} {w : World} {base : Nat} {sp : Nat → Bool} {held : Bool} {fuel : Nat} {t t1 e : TypeId} {m n : Nat} {k : IntKind} {cs : List Value} {zss : List (List Int)} {p : List MemPlace}
    (ht : P.underlying t = some (.array m t1)) (h1 : P.underlying t1 = some (.array n e)) (he : P.underlying e = some (.int k)) (hce : P.cellsOf e = 1) (hc1 : P.cellsOf t1 = n) (hct : P.cellsOf t = m * n)
    (h : DataW.trod enc P w base sp held fuel t cs = some (.agg (zss.map (Lib.tabData k)), p)) : cs = (zss.flatten).map fun z => Value.int k z := by
  cases fuel with
  | zero => simp [DataW.trod] at h
  | succ fuel =>
    simp only [DataW.trod, ht, hc1, hct] at h
    split at h
    case isFalse => cases h
    rename_i hl
    obtain ⟨xs, hm, hx⟩ := Option.map_eq_some_iff.1 h
    have hxs : xs.map (·.1) = zss.map (Lib.tabData (H := H) k) := by
      have := congrArg Prod.fst hx
      simpa using this
    have hxl : xs.length = m := by simpa using Lib.mapM_length hm
    have hzl : zss.length = m := by
      have := congrArg List.length hxs
      simp at this
      omega
    rw [rows_flat (n := n) m cs (zss.map fun zs => zs.map fun z => Value.int k z) (by simpa using hzl) hl (fun i z hi => ?_)]
    · rw [List.map_flatten]
    · rw [List.getElem?_map] at hi
      obtain ⟨zs, hzs, rfl⟩ := Option.map_eq_some_iff.1 hi
      have him : i < m := by
        have := (List.getElem?_eq_some_iff.1 hzs).1
        omega
      obtain ⟨b, hb, hf⟩ := Lib.mapM_at hm i i (by simp [him])
      have h2 : (xs.map (·.1))[i]? = some b.1 := by simp [hb]
      rw [hxs, List.getElem?_map, hzs] at h2
      obtain ⟨b1, b2⟩ := b
      have h3 : Lib.tabData k zs = b1 := Option.some.inj h2
      rw [← h3] at hf
      exact Lib.cells_of_tab h1 he hce hc1 hf
theorem gat_of {P : Program} {W : World} {name : String} {g : Nat} {k : IntKind} {zs : List Int} (hg : P.globalNamed name = some g) (h : W.var? P name = some (zs.map fun z => Value.int k z).toArray) :
    GAt W (fun _ => False) g (.agg (zs.map fun z => .v (.int k z))) := by
  have hc := World.var?_cell hg h
  unfold World.var? at h
  rw [hg, Option.bind_some] at h
  split at h
  case h_2 => cases h
  rename_i cs t fz hh
  simp only [Option.some.injEq] at h
  refine ⟨⟨fun h => h, ?_, fun j c hj => ?_⟩, cs, t, fz, hh, by rw [h]; simp [D.cells]⟩
  · rcases Nat.lt_or_ge g W.heap.size with h | h
    · exact h
    · rw [Array.getElem?_eq_none h] at hh; cases hh
  · have hj' : (zs.map fun z => D.v (.int k z))[j]? = some c := hj
    rw [List.getElem?_map] at hj'
    obtain ⟨z, hz, rfl⟩ := Option.map_eq_some_iff.1 hj'
    refine ⟨.int k z, ?_, .v _⟩
    rw [Nat.zero_add, hc j]
    simp [hz]
theorem gat1 {P : Program} {W : World} {laid : List (String × DataW Unit)} {ps : List MemPlace} {name : String} {g : Nat} {t e : TypeId} {n : Nat} {k : IntKind} {zs : List Int} (i : Nat) (hl : DataW.LaidVars P W laid ps) (hi : laid[i]? = some (name, Lib.tabData k zs))
    (hg : P.globalNamed name = some g) (hty : (P.globals[g]?).map (·.type) = some t) (ht : P.underlying t = some (.array n e)) (he : P.underlying e = some (.int k)) (hce : P.cellsOf e = 1) (hct : P.cellsOf t = n) :
    GAt W (fun _ => False) g (.agg (zs.map fun z => .v (.int k z))) := by
  obtain ⟨g', t', cs, fuel, p, hg', ht', hv, hd⟩ := laid_at i hl hi
  obtain rfl := Option.some.inj (hg.symm.trans hg')
  obtain rfl := Option.some.inj (hty.symm.trans ht')
  have := Lib.cells_of_tab ht he hce hct hd
  exact gat_of hg (by rw [hv, ← this])
theorem gat2 {P : Program} {W : World} {laid : List (String × DataW Unit)} {ps : List MemPlace} {name : String} {g : Nat} {t t1 e : TypeId} {m n : Nat} {k : IntKind} {zss : List (List Int)} (i : Nat) (hl : DataW.LaidVars P W laid ps) (hi : laid[i]? = some (name, .agg (zss.map (Lib.tabData k))))
    (hg : P.globalNamed name = some g) (hty : (P.globals[g]?).map (·.type) = some t) (ht : P.underlying t = some (.array m t1)) (h1 : P.underlying t1 = some (.array n e)) (he : P.underlying e = some (.int k)) (hce : P.cellsOf e = 1) (hc1 : P.cellsOf t1 = n) (hct : P.cellsOf t = m * n) :
    GAt W (fun _ => False) g (.agg ((zss.flatten).map fun z => .v (.int k z))) := by
  obtain ⟨g', t', cs, fuel, p, hg', ht', hv, hd⟩ := laid_at i hl hi
  obtain rfl := Option.some.inj (hg.symm.trans hg')
  obtain rfl := Option.some.inj (hty.symm.trans ht')
  have := cells_of_tab2 ht h1 he hce hc1 hct hd
  exact gat_of hg (by rw [hv, ← this])
theorem globs_of {W : World} (h0 : GAt W (fun _ => False) 0 (.agg ((([[-1, -1], [1, -1], [1, 1], [-1, 1]] : List (List Int)).flatten).map fun z => .v (.int .i64 z))))
    (h2 : GAt W (fun _ => False) 2 (.agg (Lib.pow10Tab.map fun z => .v (.int .u64 z)))) (g : Nat) (x : D) (hg : cx.G g = some x) : GAt W (fun _ => False) g x := by
  have e : cx.G g = (match Nat.beq g 0 with
    | true => some (.agg [I (-1), I (-1), I 1, I (-1), I 1, I 1, I (-1), I 1])
    | false => match Nat.beq g 2 with
      | true => some pow10D
      | false => none) := rfl
  rw [e] at hg
  split at hg
  · rename_i hb
    rw [Nat.eq_of_beq_eq_true hb]
    cases hg
    exact h0
  · split at hg
    · rename_i hb
      rw [Nat.eq_of_beq_eq_true hb]
      cases hg
      exact h2
    · cases hg
end Go.Proofs.YtclmbhokfhjnoaaGreatDoor
