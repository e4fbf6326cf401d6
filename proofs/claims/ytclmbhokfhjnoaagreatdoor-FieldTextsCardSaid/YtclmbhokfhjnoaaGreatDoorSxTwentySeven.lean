/-
  Runs in which nothing is symbolic, with a table of what is known of calls.
-/
import Derived.Test.YtclmbhokfhjnoaaGreatDoorSxTwentySix
set_option linter.unusedVariables false
set_option linter.unusedSimpArgs false
set_option linter.unnecessarySimpa false
namespace Go.SX

def eqV : Value → Value → Bool
  | .int k a, .int j b => decide (k = j) && a == b
  | .bool a, .bool b => a == b
  | .string a, .string b => a.data.toList == b.data.toList
  | .float k a, .float j b => decide (k = j) && Nat.beq a b
  | _, _ => false
mutual
def eqD : D → D → Bool
  | .v x, .v y => eqV x y
  | .agg a, .agg b => eqDs a b
  | .tup a, .tup b => eqDs a b
  | .lst f n a, .lst g m b => f == g && Nat.beq n m && eqDs a b
  | _, _ => false
def eqDs : List D → List D → Bool
  | [], [] => true
  | x :: a, y :: b => eqD x y && eqDs a b
  | _, _ => false
end
theorem eqV_sound {x y : Value} (h : eqV x y = true) : x = y := by
  unfold eqV at h
  split at h
  · simp only [Bool.and_eq_true, decide_eq_true_eq, beq_iff_eq] at h; rw [h.1, h.2]
  · rw [beq_iff_eq] at h; rw [h]
  · rename_i a b
    rw [beq_iff_eq] at h
    obtain ⟨⟨a⟩⟩ := a
    obtain ⟨⟨b⟩⟩ := b
    simp only at h
    rw [h]
  · simp only [Bool.and_eq_true, decide_eq_true_eq] at h
    rw [h.1, Nat.eq_of_beq_eq_true h.2]
  · cases h
mutual
theorem eqD_sound : ∀ (x y : D), eqD x y = true → x = y
  | .v x, y, h => by
    cases y with
    | v y => rw [eqV_sound (x := x) (y := y) (by simpa [eqD] using h)]
    | _ => simp [eqD] at h
  | .agg a, y, h => by
    cases y with
    | agg b => rw [eqDs_sound a b (by simpa [eqD] using h)]
    | _ => simp [eqD] at h
  | .tup a, y, h => by
    cases y with
    | tup b => rw [eqDs_sound a b (by simpa [eqD] using h)]
    | _ => simp [eqD] at h
  | .lst f n a, y, h => by
    cases y with
    | lst g m b =>
      simp only [eqD, Bool.and_eq_true, beq_iff_eq] at h
      obtain ⟨⟨h1, h2⟩, h3⟩ := h
      have := Nat.eq_of_beq_eq_true h2
      rw [h1, this, eqDs_sound a b h3]
    | _ => simp [eqD] at h
  | .fn _ _ _, y, h => by
    cases y <;> simp [eqD] at h
theorem eqDs_sound : ∀ (x y : List D), eqDs x y = true → x = y
  | [], y, h => by
    cases y with
    | nil => rfl
    | cons _ _ => simp [eqDs] at h
  | a :: x, y, h => by
    cases y with
    | nil => simp [eqDs] at h
    | cons b y =>
      simp only [eqDs, Bool.and_eq_true] at h
      rw [eqD_sound a b h.1, eqDs_sound x y h.2]
end
/-- A table of calls: a function, its arguments, its result. -/
def findK (f : Nat) (ds : List D) : List (Nat × List D × D) → Option D
  | [] => none
  | p :: l => match Nat.beq p.1 f && eqDs p.2.1 ds with
    | true => some p.2.2
    | false => findK f ds l
theorem findK_of {f : Nat} {ds : List D} {r : D} : ∀ {l : List (Nat × List D × D)}, findK f ds l = some r → (f, ds, r) ∈ l
  | [], h => by cases h
  | p :: l, h => by
    unfold findK at h
    split at h
    · rename_i hc
      simp only [Bool.and_eq_true] at hc
      have e1 := Nat.eq_of_beq_eq_true hc.1
      have e2 := eqDs_sound _ _ hc.2
      simp only [Option.some.injEq] at h
      rw [← e1, ← e2, ← h]
      exact List.mem_cons_self
    · exact List.mem_cons_of_mem _ (findK_of h)
def tabK (l : List (Nat × List D × D)) (f : Nat) : Option (List D → Option D) := match l.any fun p => Nat.beq p.1 f with
  | true => some fun ds => findK f ds l
  | false => none
/-- What is known: functions, told as such, and a table. -/
def Cx.know (cx : Cx) (K : Nat → Option (List D → Option D)) : Cx := { P := cx.P, G := cx.G, K }
def AllK (cx : Cx) : List (Nat × List D × D) → Prop
  | [] => True
  | p :: l => Computes cx p.1 p.2.1 p.2.2 ∧ AllK cx l
theorem AllK.mem {cx : Cx} : ∀ {l : List (Nat × List D × D)}, AllK cx l → ∀ p, p ∈ l → Computes cx p.1 p.2.1 p.2.2
  | [], _, p, h => by cases h
  | q :: l, hh, p, h => by
    cases h with
    | head => exact hh.1
    | tail _ h => exact AllK.mem hh.2 p h
theorem noAsk_know {cx : Cx} (hN : NoAsk cx) {K : Nat → Option (List D → Option D)} (hk : ∀ f g ds r, K f = some g → g ds = some r → Computes cx f ds r) : NoAsk (cx.know K) :=
  ⟨hN.ask, fun f g ds r h1 h2 => hk f g ds r h1 h2⟩
theorem tabK_ok {cx : Cx} {l : List (Nat × List D × D)} (h : AllK cx l) : ∀ f g ds r, tabK l f = some g → g ds = some r → Computes cx f ds r := by
  intro f g ds r h1 h2
  unfold tabK at h1
  split at h1
  · simp only [Option.some.injEq] at h1
    subst h1
    exact h.mem _ (findK_of h2)
  · cases h1
def orK (K1 K2 : Nat → Option (List D → Option D)) (f : Nat) : Option (List D → Option D) := match K1 f with
  | some g => some g
  | none => K2 f
theorem orK_ok {cx : Cx} {K1 K2 : Nat → Option (List D → Option D)} (h1 : ∀ f g ds r, K1 f = some g → g ds = some r → Computes cx f ds r) (h2 : ∀ f g ds r, K2 f = some g → g ds = some r → Computes cx f ds r) :
    ∀ f g ds r, orK K1 K2 f = some g → g ds = some r → Computes cx f ds r := by
  intro f g ds r h k
  unfold orK at h
  split at h
  · rename_i g' hg
    simp only [Option.some.injEq] at h
    subst h
    exact h1 f _ ds r hg k
  · exact h2 f g ds r h k
/-- A run in which nothing is symbolic, with what is known of calls. -/
theorem runK {cx : Cx} (hN : NoAsk cx) (hm : cx.P.follows .mixedOrders = true) {K : Nat → Option (List D → Option D)} (hk : ∀ f g ds r, K f = some g → g ds = some r → Computes cx f ds r)
    {n : Nat} {f : FuncId} {args : List D} {r : D} {ob : List Prop} (h : runFn false n (cx.know K) f args [] = some (r, ob)) (ho : All ob) : Computes cx f args r :=
  computes_run (cx := cx.know K) (noAsk_know hN hk) hm h ho

/-! Bytes of strings. -/
/-- A byte of a string, where there is one. -/
def strAt (s : ByteArray) (i : Int) : Option Int := match (if 0 ≤ i then s[i.toNat]? else none) with
  | some b => some (b.toNat : Int)
  | none => none
theorem index_str {P : Program} {t : TypeId} (hu : P.underlying t = some .string) {s : ByteArray} {i x : Int} (h : strAt s i = some x) : pureRun P (Instr.index t (.string s) (.int .i64 i)) = some (.int .u8 x) := by
  unfold strAt at h
  have e : pureRun P (Instr.index t (.string s) (.int .i64 i)) = pureRun P ((match P.underlying t with
    | some d => pure d
    | none => stuck "no such type") >>= fun d => match d, (Value.string s) with
    | .array len elem, .agg cs => (if 0 ≤ i ∧ i < len then do part elem cs (i.toNat * (← sizeOf elem)) else boundsPanic .i64 i len .index)
    | .string, .string s => (match (if 0 ≤ i then s[i.toNat]? else none) with
      | some b => pure (.int .u8 b.toNat)
      | none => boundsPanic .i64 i s.size .index)
    | _, _ => stuck "Index: array or string expected") := rfl
  rw [e, hu]
  split at h
  · rename_i b hb
    cases h
    simp only [pure_bind, hb]
    rfl
  · cases h
/-- A part of a string, where its bounds are in order. -/
def strSub (s : ByteArray) (lo hi : Option Int) : Option ByteArray :=
  if 0 ≤ lo.getD 0 ∧ lo.getD 0 ≤ hi.getD s.size ∧ hi.getD s.size ≤ (s.size : Int) then some (s.extract (lo.getD 0).toNat (hi.getD s.size).toNat) else none
theorem slice_str {P : Program} {t : TypeId} (hu : P.underlying t = some .string) {s x : ByteArray} {lo hi : Option Int} (h : strSub s lo hi = some x) :
    pureRun P (Instr.sliceAt t (.string s) (lo.map (.int .i64)) (hi.map (.int .i64)) none) = some (.string x) := by
  unfold strSub at h
  split at h
  case isFalse => cases h
  rename_i hb
  simp only [Option.some.injEq] at h
  have bnd : ∀ (i : Int) (y : Nat) (c : BoundsCode), 0 ≤ i → i ≤ y → Instr.sliceBound (.int .i64 i) y c = pure i.toNat := by
    intro i y c h1 h2
    simp [Instr.sliceBound, asIntOf, h1, h2]
  have e : pureRun P (Instr.sliceAt t (.string s) (lo.map (.int .i64)) (hi.map (.int .i64)) none) = pureRun P ((match P.underlying t with
    | some d => pure d
    | none => stuck "no such type") >>= fun d => match d with
    | .array n elem => do
      let a ← Instr.sureAddr (.string s)
      let (l, h, m) ← Instr.sliceBounds false n n (lo.map (.int .i64)) (hi.map (.int .i64)) none
      let size ← sizeOf elem
      pure (.slice (some (if m = l then a else a.add (l * size))) (h - l) (m - l))
    | _ => Instr.slice t (.string s) (lo.map (.int .i64)) (hi.map (.int .i64)) none) := rfl
  rw [e, hu]
  simp only [pure_bind]
  have e2 : pureRun P (Instr.slice t (.string s) (lo.map (.int .i64)) (hi.map (.int .i64)) none) = pureRun P ((match P.underlying t with
    | some d => pure d
    | none => stuck "no such type") >>= fun d => match d, (Value.string s) with
    | .string, .string s => do
      if (none : Option Value).isSome then stuck "Slice: full slice of a string"
      let (l, h, _) ← Instr.sliceBounds false s.size s.size (lo.map (.int .i64)) (hi.map (.int .i64)) none
      pure (.string (s.extract l h))
    | .slice elem, .slice a len cap => do
      let (l, h, m) ← Instr.sliceBounds true len cap (lo.map (.int .i64)) (hi.map (.int .i64)) none
      let size ← sizeOf elem
      pure (.slice (if m = l then a else a.map (·.add (l * size))) (h - l) (m - l))
    | .pointer arr, x => do
      let a ← asAddr x
      let .array n elem ← underlying arr | stuck "Slice: array type expected"
      let (l, h, m) ← Instr.sliceBounds false n n (lo.map (.int .i64)) (hi.map (.int .i64)) none
      let size ← sizeOf elem
      pure (.slice (some (if m = l then a else a.add (l * size))) (h - l) (m - l))
    | _, _ => stuck "Slice: string, slice or pointer to array expected") := rfl
  rw [e2, hu]
  simp only [pure_bind]
  cases lo with
  | none =>
    cases hi with
    | none =>
      simp only [Option.getD_none, Int.toNat_natCast, Int.toNat_zero] at h hb
      subst h
      simp [Instr.sliceBounds]
      rfl
    | some b =>
      simp only [Option.getD_none, Option.getD_some, Int.toNat_zero] at h hb
      subst h
      simp [Instr.sliceBounds, bnd b s.size _ hb.2.1 hb.2.2]
      rfl
  | some a =>
    cases hi with
    | none =>
      simp only [Option.getD_none, Option.getD_some, Int.toNat_natCast] at h hb
      subst h
      simp [Instr.sliceBounds, bnd a s.size _ hb.1 hb.2.1]
      rfl
    | some b =>
      simp only [Option.getD_some] at h hb
      subst h
      have h0 : 0 ≤ b := by omega
      have h1 : a ≤ (b.toNat : Int) := by omega
      simp [Instr.sliceBounds, bnd b s.size _ h0 hb.2.2, bnd a b.toNat _ hb.1 h1]
      rfl

/-! The first elements of a list. -/
def unc {α : Type} (un : D → Option α) : List D → Option (α × List D)
  | [] => none
  | d :: l => (un d).map fun x => (x, l)
theorem unc_ok {α : Type} {un : D → Option α} {enc : α → D} (hun : ∀ {d : D} {x : α}, un d = some x → d = enc x) {es : List D} {v : α × List D} (h : unc un es = some v) {l : List D} (e : v.2 = l) : es = enc v.1 :: l := by
  cases es with
  | nil => cases h
  | cons d es =>
    simp only [unc, Option.map_eq_some_iff] at h
    obtain ⟨x, hx, rfl⟩ := h
    rw [hun hx, ← e]
theorem isNilL_nil {l : List D} (h : isNilL l = true) : l = [] := by cases l <;> simp_all [isNilL]
theorem computes_list {cx : Cx} {f : FuncId} {args : List D} {full : Bool} {sz : Nat} {l l' : List D} (e : l = l') (h : Computes cx f args (.lst full sz l)) : Computes cx f args (.lst full sz l') := e ▸ h
theorem cons_tail {d : D} {l : List D} {sz : Nat} : (0 : Int) ≤ 1 ∧ (1 : Int) ≤ ((d :: l : List D).length : Int) ∧ ((d :: l : List D).length : Int) ≤ ((d :: l : List D).length : Int) ∧ ((d :: l) = [] ∨ sz = sz) := by
  refine ⟨by decide, ?_, Int.le_refl _, .inr rfl⟩
  simp only [List.length_cons]
  omega
end Go.SX
