/-
  The arguments of a statement, taken apart. An own text.
-/
import Derived.Test.YtclmbhokfhjnoaaGreatDoorFrame
set_option linter.unusedVariables false
set_option linter.unusedSimpArgs false
set_option linter.unnecessarySimpa false
namespace Go.Proofs.YtclmbhokfhjnoaaGreatDoor
open Go.SX

theorem okAs_c {k : Bool × List Kd} {r : List (Bool × List Kd)} {Ds : List D} (h : okAs (k :: r) Ds) : ∃ d l, Ds = d :: l ∧ okA k d ∧ okAs r l := h
theorem okAs_n {Ds : List D} (h : okAs [] Ds) : Ds = [] := h
theorem okA_t {ks : List Kd} {d : D} (h : okA (true, ks) d) : ∃ cs, d = .agg cs ∧ Kd.oks ks cs := h
theorem oks_c {k : Kd} {ks : List Kd} {ds : List D} (h : Kd.oks (k :: ks) ds) : ∃ d r, ds = d :: r ∧ Kd.ok k d ∧ Kd.oks ks r := by unfold Kd.oks at h; exact h
theorem oks_n {ds : List D} (h : Kd.oks [] ds) : ds = [] := by unfold Kd.oks at h; exact h
theorem oks_1 {k : Kd} {d : D} (h : Kd.oks [k] [d]) : Kd.ok k d := by
  obtain ⟨d', r, h1, h2, _⟩ := oks_c h
  cases h1; exact h2
theorem okA_f {k : Kd} {d : D} (h : okA (false, [k]) d) : Kd.ok k d := oks_1 h
theorem ok_i {k : IntKind} {d : D} (h : Kd.ok (.int k) d) : ∃ n, d = .v (.int k n) ∧ k.min ≤ n ∧ n ≤ k.max := by unfold Kd.ok at h; exact h
theorem ok_b {d : D} (h : Kd.ok .bool d) : ∃ b, d = .v (.bool b) := by unfold Kd.ok at h; exact h
theorem ok_s {d : D} (h : Kd.ok .str d) : ∃ s, d = .v (.string s) ∧ s.size ≤ maxLen := by unfold Kd.ok at h; exact h
theorem ok_fl {k : FloatKind} {d : D} (h : Kd.ok (.flt k) d) : ∃ b, d = .v (.float k b) ∧ (Lit.float k b).wf = true := by unfold Kd.ok at h; exact h
theorem ok_lt {ks : List Kd} {d : D} (h : Kd.ok (.lst true ks) d) : ∃ es, d = .lst false ks.length es ∧ es.length ≤ maxLen ∧ ∀ e, e ∈ es → ∃ cs, e = .agg cs ∧ Kd.oks ks cs := by unfold Kd.ok at h; exact h
theorem ok_lf {k : Kd} {d : D} (h : Kd.ok (.lst false [k]) d) : ∃ es, d = .lst false 1 es ∧ es.length ≤ maxLen ∧ ∀ e, e ∈ es → Kd.ok k e := by
  unfold Kd.ok at h
  obtain ⟨es, h1, h2, h3⟩ := h
  exact ⟨es, h1, h2, fun e he => oks_1 (h3 e he)⟩
theorem map_of {α : Type} {enc : α → D} {p : α → Prop} : ∀ {es : List D}, (∀ e, e ∈ es → ∃ x, e = enc x ∧ p x) → ∃ xs : List α, es = xs.map enc ∧ ∀ x, x ∈ xs → p x
  | [], _ => ⟨[], rfl, fun x hx => by cases hx⟩
  | e :: es, h => by
    obtain ⟨x, rfl, hx⟩ := h e List.mem_cons_self
    obtain ⟨xs, rfl, hxs⟩ := map_of (es := es) fun y hy => h y (List.mem_cons_of_mem _ hy)
    refine ⟨x :: xs, rfl, fun y hy => ?_⟩
    rcases List.mem_cons.1 hy with rfl | hy
    · exact hx
    · exact hxs y hy
theorem i64_b {n : Int} (h : IntKind.i64.min ≤ n ∧ n ≤ IntKind.i64.max) : inI64 n := h
theorem i8_b {n : Int} (h : IntKind.i8.min ≤ n ∧ n ≤ IntKind.i8.max) : -128 ≤ n ∧ n ≤ 127 := h
theorem i16_b {n : Int} (h : IntKind.i16.min ≤ n ∧ n ≤ IntKind.i16.max) : -32768 ≤ n ∧ n ≤ 32767 := h
theorem u8_b {n : Int} (h : IntKind.u8.min ≤ n ∧ n ≤ IntKind.u8.max) : 0 ≤ n ∧ n ≤ 255 := h
theorem u16_b {n : Int} (h : IntKind.u16.min ≤ n ∧ n ≤ IntKind.u16.max) : 0 ≤ n ∧ n ≤ 65535 := h
end Go.Proofs.YtclmbhokfhjnoaaGreatDoor
