/-
  From what a statement computes to its row: the arguments are data, and read behind the call as they read before. An own text.
-/
import Derived.Test.YtclmbhokfhjnoaaGreatDoorRead
import Derived.WideShapes
import Derived.ChangeStays
import Derived.ChangeSame
set_option linter.unusedVariables false
set_option linter.unusedSimpArgs false
set_option linter.unnecessarySimpa false
namespace Go.Proofs.YtclmbhokfhjnoaaGreatDoor
set_option maxRecDepth 20000
open Go.SX Go.RowKit Go.WideShapes Go.ChangeShapes

def Plain (P : Program) (t : TypeId) : Prop := ∃ d ks, kinds P d t = some ks

theorem kindsF_facts {P : Program} {f : TypeId → Option (List Kd)} : ∀ (fs : List Field) (off : Nat) (ks : List Kd), kindsF P f off fs = some ks →
    (∀ fd, fd ∈ fs → ∃ k, f fd.type = some k) ∧ ks.length = (fs.map fun fd => P.cellsOf fd.type).sum ∧ ∀ (j : Nat) fd, fs[j]? = some fd → fd.offset = off + ((fs.take j).map fun fd => P.cellsOf fd.type).sum
  | [], off, ks, h => by
    simp only [kindsF, Option.some.injEq] at h; subst h
    exact ⟨fun _ h => (by cases h), rfl, fun j fd h => (by simp at h)⟩
  | fd :: l, off, ks, h => by
    unfold kindsF at h
    split at h
    case h_2 => cases h
    rename_i k1 hk1
    split at h
    case h_2 => cases h
    rename_i r hb hr
    simp only [Option.some.injEq] at h; subst h
    simp only [Bool.and_eq_true, Nat.beq_eq] at hb
    obtain ⟨a, b, c⟩ := kindsF_facts l _ r hr
    refine ⟨fun x hx => ?_, ?_, fun j x hj => ?_⟩
    · rcases List.mem_cons.1 hx with rfl | hx
      · exact ⟨_, hk1⟩
      · exact a x hx
    · simp [b, hb.2]
    · cases j with
      | zero => simp at hj; subst hj; simp [hb.1]
      | succ j =>
        have := c j x (by simpa using hj)
        simp only [List.take_succ_cons, List.map_cons, List.sum_cons]
        rw [this, hb.2]; omega

theorem plain_kids (P : Program) : Kids P (Plain P) where
  pointer := fun {t e} h ht => by
    obtain ⟨d, ks, h⟩ := h
    cases d with
    | zero => cases h
    | succ d => unfold kinds at h; rw [ht] at h; cases h
  slice := fun {t e} h ht => by
    obtain ⟨d, ks, h⟩ := h
    cases d with
    | zero => cases h
    | succ d =>
      unfold kinds at h; rw [ht] at h; simp only at h
      cases hk : kinds P d e with
      | none => rw [hk] at h; simp at h
      | some k => exact ⟨d, k, hk⟩
  array := fun {t e n} h ht => by
    obtain ⟨d, ks, h⟩ := h
    cases d with
    | zero => cases h
    | succ d =>
      unfold kinds at h; rw [ht] at h; simp only at h
      split at h
      case h_2 => cases h
      rename_i k1 hk1
      split at h
      case h_2 => cases h
      rename_i hb
      simp only [Bool.and_eq_true, Nat.beq_eq] at hb
      exact ⟨⟨d, _, hk1⟩, by rw [← hb.2, hb.1]⟩
  struct := fun {t fs} h ht => by
    obtain ⟨d, ks, h⟩ := h
    cases d with
    | zero => cases h
    | succ d =>
      unfold kinds at h; rw [ht] at h; simp only at h
      split at h
      case h_2 => cases h
      rename_i k1 hk1
      split at h
      case h_2 => cases h
      rename_i hb
      simp only [Nat.beq_eq] at hb
      obtain ⟨a, b, c⟩ := kindsF_facts _ _ _ hk1
      exact ⟨fun f hf => by obtain ⟨k, hk⟩ := a f hf; exact ⟨d, k, hk⟩, by rw [← hb, b], fun j f hj => by rw [c j f hj, Nat.zero_add]⟩
  map := fun {t k e} h ht => by
    obtain ⟨d, ks, h⟩ := h
    cases d with
    | zero => cases h
    | succ d => unfold kinds at h; rw [ht] at h; cases h
theorem plain_pos {P : Program} {t e : TypeId} (h : Plain P t) (ht : P.underlying t = some (.slice e)) : 0 < P.cellsOf e := by
  obtain ⟨d, ks, h⟩ := h
  cases d with
  | zero => cases h
  | succ d =>
    unfold kinds at h; rw [ht] at h; simp only at h
    split at h
    · split at h
      case h_2 => cases h
      rename_i hb
      simp only [Bool.and_eq_true, Nat.beq_eq, Nat.blt_eq] at hb
      omega
    · split at h
      case h_2 => cases h
      rename_i hb
      simp only [Bool.and_eq_true, Nat.beq_eq, Nat.blt_eq] at hb
      omega
    · split at h
      case h_2 => cases h
      rename_i hb
      simp only [Bool.and_eq_true, Nat.beq_eq] at hb
      omega
    · cases h

def isAggT (P : Program) (t : TypeId) : Bool := match P.underlying t with
  | some (.struct _) => true
  | some (.array _ _) => true
  | _ => false
def okA : Bool × List Kd → D → Prop
  | (true, ks), d => ∃ cs, d = .agg cs ∧ Kd.oks ks cs
  | (false, ks), d => Kd.oks ks [d]
def okAs : List (Bool × List Kd) → List D → Prop
  | [], ds => ds = []
  | k :: r, ds => ∃ d l, ds = d :: l ∧ okA k d ∧ okAs r l
def paramKinds (P : Program) : List TypeId → Option (List (Bool × List Kd))
  | [] => some []
  | t :: ts => match kinds P 12 t, paramKinds P ts with
    | some ks, some r => match isAggT P t || Nat.beq ks.length 1 with
      | true => some ((isAggT P t, ks) :: r)
      | false => none
    | _, _ => none

section
variable {H : Type} {enc : TypeId × Value → H} {P : Program} {W : World} {base : Nat} {sp : Nat → Bool} {held : Bool}
theorem single_of {r : Reach} {b0 : Nat} {t : TypeId} {v : Value} {ks : List Kd} (hk : kinds P 12 t = some ks) (hval : Value.okWide P W r b0 t v) (ha : isAggT P t = false) : v.cells = #[v] := by
  unfold kinds at hk
  unfold isAggT at ha
  split at hk
  · rename_i k ht; obtain ⟨n, rfl⟩ := okWide_int ht hval; rfl
  · rename_i ht; obtain ⟨n, rfl⟩ := okWide_bool ht hval; rfl
  · rename_i ht; obtain ⟨n, rfl⟩ := okWide_string ht hval; rfl
  · rename_i k ht
    rw [Value.okWide, ht] at hval
    cases v <;> simp_all [Cell.okWide, Cell.ok, Value.cells]
  · rename_i e ht; obtain ⟨a, l, c, rfl⟩ := okWide_slice ht hval; rfl
  · rename_i ht; rw [ht] at ha; cases ha
  · rename_i ht; rw [ht] at ha; cases ha
  · cases hk
theorem param_read {r : Reach} {b0 : Nat} {t : TypeId} {v : Value} {d : DataW H} {p : List MemPlace} {ks : List Kd} (hk : kinds P 12 t = some ks) (hval : Value.okWide P W r b0 t v) (hd : DataW.Trod enc P W base sp held t v d p) (h1 : (isAggT P t || Nat.beq ks.length 1) = true) :
    ∃ x, okA (isAggT P t, ks) x ∧ DR W (fun _ => False) x v := by
  obtain ⟨fuel, hf⟩ := hd
  obtain ⟨ds, a, b⟩ := trod_read 12 fuel t _ _ ks hk hf
  cases hag : isAggT P t with
  | true =>
    have hv : ∃ cs, v = .agg cs := by
      unfold isAggT at hag
      unfold Value.okWide at hval
      split at hag
      · rename_i ht; rw [ht] at hval; obtain ⟨cs, h, _⟩ := hval; exact ⟨cs, h⟩
      · rename_i ht; rw [ht] at hval; obtain ⟨cs, h, _⟩ := hval; exact ⟨cs, h⟩
      · cases hag
    obtain ⟨cs, rfl⟩ := hv
    have hc : (Value.agg cs).cells.toList = cs.toList := rfl
    rw [hc] at b
    have := DR.agg (w := W) (M := fun _ => False) ds cs.toList b.len (fun i c y hc hy => (b.at i c y hc hy).1)
    exact ⟨.agg ds, ⟨ds, rfl, a⟩, by simpa using this⟩
  | false =>
    have hs := single_of hk hval hag
    rw [hs] at b
    rw [hag] at h1
    simp only [Bool.false_or, Nat.beq_eq] at h1
    have hl := oks_len a
    rw [h1] at hl
    match ds, hl with
    | [x], _ => exact ⟨x, a, (b.at 0 x v rfl rfl).1⟩
theorem args_read {r : Reach} {b0 : Nat} : ∀ {ts : List TypeId} {vs : List Value} {ds : List (DataW H)} {p : List MemPlace} {pk : List (Bool × List Kd)}, DataW.TrodAll enc P W base sp held ts vs ds p → paramKinds P ts = some pk →
    (∀ (j : Nat) t v, ts[j]? = some t → vs[j]? = some v → Value.okWide P W r b0 t v) → ∃ Ds : List D, okAs pk Ds ∧ Ds.length = vs.length ∧ ∀ (i : Nat) (c : D) (y : Value), Ds[i]? = some c → vs[i]? = some y → DR W (fun _ => False) c y
  | [], vs, ds, p, pk, h, hk, _ => by
    obtain ⟨rfl, rfl, rfl⟩ := trodAll_nil h
    cases hk
    exact ⟨[], rfl, rfl, fun i c y h => by simp at h⟩
  | t :: ts, vs, ds, p, pk, h, hk, hv => by
    obtain ⟨v, vs', d, ds', a, b, rfl, rfl, rfl, h1, h2⟩ := trodAll_cons h
    unfold paramKinds at hk
    split at hk
    case h_2 => cases hk
    rename_i ks r hks hr
    split at hk
    case h_2 => cases hk
    rename_i hb
    cases hk
    obtain ⟨x, x1, x2⟩ := param_read hks (hv 0 t v rfl rfl) h1 hb
    obtain ⟨Ds, y1, y2, y3⟩ := args_read h2 hr (fun j t v h k => hv (j + 1) t v (by simpa using h) (by simpa using k))
    refine ⟨x :: Ds, ⟨x, Ds, rfl, x1, y1⟩, by simp [y2], fun i c y hc hy => ?_⟩
    cases i with
    | zero => simp at hc hy; subst hc; subst hy; exact x2
    | succ i => exact y3 i c y (by simpa using hc) (by simpa using hy)
theorem args_plain : ∀ {ts : List TypeId} {pk : List (Bool × List Kd)}, paramKinds P ts = some pk → ∀ t, t ∈ ts → Plain P t
  | [], _, _, t, h => by cases h
  | t :: ts, pk, hk, u, hu => by
    unfold paramKinds at hk
    split at hk
    case h_2 => cases hk
    rename_i ks r hks hr
    rcases List.mem_cons.1 hu with rfl | hu
    · exact ⟨_, _, hks⟩
    · exact args_plain hr u hu
theorem args_stay {W' : World} {sp' : Nat → Bool} : ∀ {ts : List TypeId} {vs : List Value} {ds : List (DataW H)} {p : List MemPlace}, DataW.TrodAll enc P W base (fun _ => true) true ts vs ds p → (∀ t, t ∈ ts → Plain P t) →
    (∀ q, q ∈ p → W.sameAt W' q) → (∀ q, q ∈ p → sp' q.block = true) → DataW.TrodAll enc P W' base sp' true ts vs ds p
  | [], vs, ds, p, h, _, _, _ => by
    obtain ⟨rfl, rfl, rfl⟩ := trodAll_nil h
    exact rfl
  | t :: ts, vs, ds, p, h, hp, h3, h4 => by
    obtain ⟨v, vs', d, ds', a, b, rfl, rfl, rfl, ⟨fuel, h1⟩, h2⟩ := trodAll_cons h
    exact ⟨a, b, ⟨fuel, DataW.trod_stays (plain_kids P) (fun ht hu => plain_pos ht hu) (fun h => by cases h) (hp t List.mem_cons_self) h1 (fun q hq => h3 q (List.mem_append_left _ hq)) (fun q hq => h4 q (List.mem_append_left _ hq))⟩,
      args_stay h2 (fun t ht => hp t (List.mem_cons_of_mem _ ht)) (fun q hq => h3 q (List.mem_append_right _ hq)) (fun q hq => h4 q (List.mem_append_right _ hq)), rfl⟩
end

theorem below_ext {w w' : World} (h : Ext w (fun _ => False) w') : Below w.heap.size w w' := ⟨h.os, h.tape, h.output, h.size, fun r hr => h.same r hr (fun h => h)⟩
theorem sameAt_below {W W' : World} (h : Below W.heap.size W W') {p : MemPlace} (hp : p.block < W.heap.size) : W.sameAt W' p := by
  cases p with
  | cell b off =>
    show W'.cell? ⟨b, off, none⟩ = W.cell? ⟨b, off, none⟩
    unfold World.cell?
    rw [h.block b hp]
  | map b => exact h.block b hp

theorem trod_true {H : Type} {enc : TypeId × Value → H} {P : Program} {w : World} {base : Nat} {sp : Nat → Bool} {held : Bool} {t : TypeId} (ht : P.underlying t = some .bool) : DataW.Trod enc P w base sp held t (.bool true) (.lit (.bool true)) [] :=
  ⟨1, by simp [DataW.trod, Value.cells, ht]⟩
/-- WHAT A STATEMENT's ROW ASKS, from what the statement computes of data. -/
theorem contract_of {f : FuncId} {fn : Func} {spec : ChangeSpec} {pk : List (Bool × List Kd)} {bt : TypeId} (hpk : paramKinds Tryz.prog fn.params.toList = some pk)
    (hb : Tryz.prog.underlying bt = some .bool) (hres : fn.resultTypes = #[bt]) (hvars : spec.vars = [])
    (hspec : ∀ (H : Type) (ds : List (DataW H)), ds.length = fn.params.size → spec.fn H ds = { results := [.lit (.bool true)], args := ds })
    (hlaw : ∀ Ds, okAs pk Ds → Computes cx f Ds (.v (.bool true)))
    (H : Type) (enc : TypeId × Value → H) (W : World) (base : Nat) (args : Array Value) (ds gs : List (DataW H)) (before : List MemPlace)
    (hval : ∀ (j : Nat) t v, fn.params[j]? = some t → args[j]? = some v → Value.okWide Tryz.prog W .any base t v)
    (hW : DataW.Whole enc Tryz.prog fn.params.toList spec.vars false W args.toList ds gs before)
    (hG : ∀ g x, cx.G g = some x → GAt W (fun _ => False) g x) :
    Calls Tryz.prog f args W fun e W' => ∃ v, e = .returned v ∧ spec.post enc Tryz.prog fn false true false false W args v W' := by
  have hW' := hW
  obtain ⟨p, q, hA, hV, rfl, hfz, hnd⟩ := hW
  rw [hvars] at hV
  obtain ⟨rfl, rfl⟩ := trodVars_none hV
  have hval' : ∀ (j : Nat) t v, fn.params.toList[j]? = some t → args.toList[j]? = some v → Value.okWide Tryz.prog W .any base t v := by
    intro j t v hj hv
    rw [Array.getElem?_toList] at hj hv
    exact hval j t v hj hv
  obtain ⟨Ds, h1, h2, h3⟩ := args_read (H := H) (enc := enc) (P := Tryz.prog) (W := W) (base := 0) (sp := fun _ => true) (held := true) (r := .any) (b0 := base) (ts := fn.params.toList) (vs := args.toList) hA hpk hval'
  have hc := hlaw Ds h1 W (fun _ => False) args.toList (fun _ h => h.elim) hG h2 h3
  rw [Array.toArray_toList] at hc
  refine hc.mono fun e W' ⟨y, he, hy, hx⟩ => ⟨y, he, ?_⟩
  have hyt := dr_v hy
  subst hyt
  have hbl := below_ext hx
  have hlt := hW'.lt
  have hlen : ds.length = fn.params.size := by
    have : ∀ {ts : List TypeId} {vs : List Value} {ds : List (DataW H)} {p : List MemPlace}, DataW.TrodAll enc Tryz.prog W 0 (fun _ => true) true ts vs ds p → ds.length = ts.length := by
      intro ts
      induction ts with
      | nil => intro vs ds p h; obtain ⟨rfl, rfl, rfl⟩ := trodAll_nil h; rfl
      | cons t ts ih => intro vs ds p h; obtain ⟨v, vs', d, ds', a, b, rfl, rfl, rfl, _, h2⟩ := trodAll_cons h; simp [ih h2]
    exact (this hA).trans Array.length_toList
  have hsp := hspec H (ds ++ []) (by rw [List.append_nil]; exact hlen)
  refine ⟨ds, [], p ++ [], [], p, [], hW', ?_, ?_, ?_, hbl.frame _, fun h => by cases h⟩
  · rw [hsp, hres]
    exact trodAll_mk1 (trod_true hb)
  · rw [hsp]
    simp only [List.append_nil]
    exact args_stay hA (args_plain hpk) (fun q hq => sameAt_below hbl (hlt q (List.mem_append_left _ hq))) (fun q hq => decide_eq_true (hlt q (List.mem_append_left _ hq)))
  · rw [hsp, hvars]
    rfl
end Go.Proofs.YtclmbhokfhjnoaaGreatDoor
