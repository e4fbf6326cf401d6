/-
  Contracts out of runs of the evaluator; loops.
-/
import Derived.Test.YtclmbhokfhjnoaaGreatDoorSxTwentyOne
set_option linter.unusedVariables false
set_option linter.unusedSimpArgs false
set_option linter.unnecessarySimpa false
namespace Go.SX
variable {cx : Cx}

def All : List Prop → Prop
  | [] => True
  | p :: l => p ∧ All l
theorem All.mem {l : List Prop} (h : All l) : ∀ p, p ∈ l → p := by
  induction l with
  | nil => intro p hp; cases hp
  | cons q l ih =>
    intro p hp
    cases hp with
    | head => exact h.1
    | tail _ hp => exact ih h.2 p hp

def runFn (sym : Bool) (n : Nat) (cx : Cx) (f : FuncId) (args : List D) (orc : List Orc) : Option (D × List Prop) :=
  match enterA (aexec n cx) cx f (args.map .d) { nt := 0, sym, tm := [], hp := [], nx := 0, orc, ob := [], vis := 0, sfx := true } with
  | some (x, s) => match x.toDH s.hp with
    | some (r, _) => some (r, s.ob)
    | none => none
  | none => none

/-- A run that the oracle leads has this result, and its debts are paid. -/
def Leads (n : Nat) (cx : Cx) (f : FuncId) (args : List D) (orc : List Orc) (r : D) : Prop := match runFn true n cx f args orc with
  | some (r', ob) => r' = r ∧ All ob
  | none => False

def Closed (n : Nat) (cx : Cx) (f : FuncId) (args : List D) : Option D := match runFn false n cx f args [] with
  | some (r, []) => some r
  | _ => none

theorem computes_run (hN : NoAsk cx) (hm : cx.P.follows .mixedOrders = true) {sym : Bool} {n : Nat} {f : FuncId} {args : List D} {orc : List Orc} {r : D} {ob : List Prop} (h : runFn sym n cx f args orc = some (r, ob)) (ho : All ob) : Computes cx f args r := by
  unfold runFn at h
  split at h
  case h_2 => cases h
  rename_i x s hx
  split at h
  case h_2 => cases h
  rename_i y fs hy
  simp only [Option.some.injEq, Prod.mk.injEq] at h
  obtain ⟨rfl, rfl⟩ := h
  obtain ⟨_, h2⟩ := enterA_sound (aexec_ok hN hm n) (aexec_sfx cx n) hx ho.mem
  intro w F vs hF hG hl hv
  have hMM : ∀ r, MM F [] (fun _ => undef) r → F r := by
    rintro r (h | ⟨b, k, hb, _⟩)
    · exact h
    · simp [look] at hb
  have hs : HSim cx F [] (fun _ => undef) w := ⟨fun b k hb => by simp [look] at hb, fun b b' k k' r hb => by simp [look] at hb, fun r ⟨b, k, hb, _⟩ => by simp [look] at hb, hF,
    fun g x hg => (hG g x hg).ext (Nat.le_refl _) (fun _ _ _ => rfl) fun r _ h => hMM r h⟩
  refine (h2 F (fun _ => undef) w vs hs (by simpa using hl) fun i c z hc hz => ?_).mono ?_
  · simp only [List.getElem?_map, Option.map_eq_some_iff] at hc
    obtain ⟨d, hd, rfl⟩ := hc
    exact .d _ _ ((hv i d z hd hz).ext (Nat.le_refl _) (fun _ _ _ => rfl) fun r _ h => hMM r h)
  · rintro e w' ⟨v, rfl, ρ', g1, g2, g3⟩
    refine ⟨v, rfl, ?_, g2.ext.mono fun r ⟨b, k, hb, _⟩ => by simp [look] at hb⟩
    have := toDH_sound g1 fs x v y fs hy (fun _ h => h) g3
    exact this.ext (Nat.le_refl _) (fun _ _ _ => rfl) fun r _ h => .inl h

theorem computes_of (hN : NoAsk cx) (hm : cx.P.follows .mixedOrders = true) {n : Nat} {f : FuncId} {args : List D} {orc : List Orc} {r : D} (h : Leads n cx f args orc r) : Computes cx f args r := by
  unfold Leads at h
  split at h
  · rename_i r' ob hr
    obtain ⟨rfl, ho⟩ := h
    exact computes_run hN hm hr ho
  · exact h.elim
theorem computes_closed (hN : NoAsk cx) (hm : cx.P.follows .mixedOrders = true) {n : Nat} {f : FuncId} {args : List D} {r : D} (h : Closed n cx f args = some r) : Computes cx f args r := by
  unfold Closed at h
  split at h
  · rename_i r' hr
    cases h
    exact computes_run hN hm hr trivial
  · cases h

/-! Loops. -/

/-- One round: the code's exit, and what is kept of the state behind it. -/
def runRound (n : Nat) (cx : Cx) (c : Code) (nt vis : Nat) (rnd : Bool) (nx : Nat) (tm : List (Nat × AV)) (hp : List (Nat × Blk)) (orc : List Orc) (pr kt kb : List Nat) : Option (Ex × List (Nat × AV) × List (Nat × Blk) × List Prop) :=
  match aexec n cx c { nt, sym := true, tm, hp, nx, orc, ob := [], vis, sfx := true, rnd } with
  | some (e, s) => match normS s pr kt kb with
    | some s' => some (e, s'.tm, s'.hp, s.ob)
    | none => none
  | none => none

inductive Round (n : Nat) (cx : Cx) (c : Code) (nt vis : Nat) (rnd : Bool) (nx : Nat) (tm : List (Nat × AV)) (hp : List (Nat × Blk)) (orc : List Orc) (pr kt kb : List Nat) (e : Ex) (tm' : List (Nat × AV)) (hp' : List (Nat × Blk)) : Prop
  | mk (ob : List Prop) (h : runRound n cx c nt vis rnd nx tm hp orc pr kt kb = some (e, tm', hp', ob)) (ho : All ob) : Round n cx c nt vis rnd nx tm hp orc pr kt kb e tm' hp'

theorem round_sound (hN : NoAsk cx) (hm : cx.P.follows .mixedOrders = true) {n : Nat} {c : Code} {nt vis nx : Nat} {rnd : Bool} {tm tm' : List (Nat × AV)} {hp hp' : List (Nat × Blk)} {orc : List Orc} {pr kt kb : List Nat} {e : Ex}
    (h : Round n cx c nt vis rnd nx tm hp orc pr kt kb e tm' hp') {F : Nat → Prop} {s : St} {ρ : Nat → Value} {a : Act} {w : World} {rr : Option Nat} (hrr : rnd = false → rr = none) (hs : Sim cx F s ρ a w) (h1 : s.tm = tm) (h2 : s.hp = hp) (h3 : s.nt = nt) (h4 : s.vis = vis) :
    wpR rr cx.P c (fun e' a' w' => e' = toExit e ∧ After cx F vis nt hp ρ w a.defers tm' hp' a' w') a w := by
  subst h1 h2 h3 h4
  obtain ⟨ob, hr, ho⟩ := h
  unfold runRound at hr
  split at hr
  case h_2 => cases hr
  rename_i e1 s1 hx
  split at hr
  case h_2 => cases hr
  rename_i s2 hnorm
  simp only [Option.some.injEq, Prod.mk.injEq] at hr
  obtain ⟨rfl, rfl, rfl, rfl⟩ := hr
  obtain ⟨_, g⟩ := aexec_ok hN hm n _ _ _ _ hx ho.mem
  obtain ⟨v1, v2, _⟩ := aexec_sfx cx n _ _ _ _ hx
  refine wpR_mono (g rr F ρ a w hrr ⟨hs.hs, hs.ts, hs.nt⟩) ?_
  rintro e' a' w' ⟨rfl, haft⟩
  obtain ⟨ρ', q1, q2, qd⟩ := haft.sim (nr_nt v2)
  obtain ⟨ρ1, r1, r2, r3, r4⟩ := normS_sound hnorm q1
  refine ⟨rfl, ρ1, r1.hs, r1.ts, ?_, qd, ?_⟩
  · rw [r1.nt, r4, nr_nt v2]
  · rw [v1] at r2; exact q2.trans r2

theorem round_of {n : Nat} {c : Code} {nt vis nx : Nat} {rnd : Bool} {tm tm' : List (Nat × AV)} {hp hp' : List (Nat × Blk)} {orc : List Orc} {pr kt kb : List Nat} {e : Ex} {ob : List Prop}
    (h : runRound n cx c nt vis rnd nx tm hp orc pr kt kb = some (e, tm', hp', ob)) (ho : All ob) : Round n cx c nt vis rnd nx tm hp orc pr kt kb e tm' hp' := by
  exact .mk ob h ho
theorem allN : All [] := trivial
theorem allC {p : Prop} {l : List Prop} (h : p) (t : All l) : All (p :: l) := ⟨h, t⟩
theorem round_fr {n : Nat} {c : Code} {nt vis nx : Nat} {rnd : Bool} {tm tm' : List (Nat × AV)} {hp hp' : List (Nat × Blk)} {orc : List Orc} {pr kt kb : List Nat} {e : Ex} {ob : List Prop}
    (ho : All ob) (h : runRound n cx c nt vis rnd nx tm hp orc pr kt kb = some (e, tm', hp', ob)) : Round n cx c nt vis rnd nx tm hp orc pr kt kb e tm' hp' := round_of h ho

/-- The i-th loop's body of a piece of code, in the order of the text. -/
def loopsIn : Code → List Code
  | .seq a b => loopsIn a ++ loopsIn b
  | .cond _ t e => loopsIn t ++ loopsIn e
  | .block _ b => loopsIn b
  | .scope b => loopsIn b
  | .loop b => b :: loopsIn b
  | .rangeFunc _ _ a b => loopsIn a ++ loopsIn b
  | _ => []
def loopAt (P : Program) (f i : Nat) : Code := match P.funcs[f]? with
  | some fn => match fn.body with
    | some b => match nth (loopsIn b) i with
      | some c => c
      | none => .skip
    | none => .skip
  | none => .skip

/-- The ranges over functions of a piece of code. -/
def rangesIn : Code → List (Code × Code)
  | .seq a b => rangesIn a ++ rangesIn b
  | .cond _ t e => rangesIn t ++ rangesIn e
  | .block _ b => rangesIn b
  | .scope b => rangesIn b
  | .loop b => rangesIn b
  | .rangeFunc _ _ a b => (a, b) :: rangesIn b
  | _ => []
def rangeAt (P : Program) (f i : Nat) : Code × Code := match P.funcs[f]? with
  | some fn => match fn.body with
    | some b => match nth (rangesIn b) i with
      | some c => c
      | none => (.skip, .skip)
    | none => (.skip, .skip)
  | none => (.skip, .skip)

theorem noAsk_of (P : Program) (G : Nat → Option D) (h : (P.funcs.toList.all fun fn => !(fn.body.isSome && (fn.name == "runtime.NumGoroutine"))) = true) : NoAsk { P, G } := by
  refine ⟨fun f fn hf hb => ?_, fun f g ds r hg => by cases hg⟩
  rw [List.all_eq_true] at h
  have hm : fn ∈ P.funcs.toList := by
    have := Array.mem_of_getElem? hf
    simpa using this
  have := h fn hm
  rw [hb] at this
  simpa using this

/-! Data, for short. -/
abbrev I (n : Int) : D := .v (.int .i64 n)
abbrev B (b : Bool) : D := .v (.bool b)
theorem nth_map {α β : Type} (f : α → β) : ∀ (l : List α) (k : Nat), nth (l.map f) k = (nth l k).map f
  | [], _ => rfl
  | _ :: _, 0 => rfl
  | _ :: l, k + 1 => nth_map f l k
theorem nth_eq {α : Type} : ∀ (l : List α) (k : Nat), nth l k = l[k]?
  | [], _ => rfl
  | _ :: _, 0 => rfl
  | _ :: l, k + 1 => nth_eq l k
end Go.SX
