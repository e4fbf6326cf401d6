/-
  The arguments of FieldParted, taken apart; the law is computed, and true. An own text.
-/
import Derived.Test.YtbjnjffckhdhgaaGreatDoorArgs
import Derived.Test.YtbjnjffckhdhgaaGreatDoorPartLaw
set_option linter.unusedVariables false
set_option linter.unusedSimpArgs false
set_option linter.unnecessarySimpa false
namespace Go.Proofs.YtbjnjffckhdhgaaGreatDoor
open Go.SX
theorem hlaw_FieldParted (Ds : List D) (hh : okAs [(false, [.lst true [.int .i64, .int .i64]]), (false, [.lst true [.int .i64, .int .i64]])] Ds) : Computes cx 4 Ds (.v (.bool true)) := by
  obtain ⟨d1, l1_, rfl, p1, hh1⟩ := okAs_c hh
  obtain ⟨es0, rfl, l0, h0⟩ := ok_lt (okA_f p1)
  obtain ⟨a0, rfl, b0⟩ := map_of (enc := fun x : Int × Int => (.agg [.v (.int .i64 x.1), .v (.int .i64 x.2)] : D)) (p := fun x : Int × Int => (inI64 x.1) ∧ (inI64 x.2)) (es := es0) (fun e he => by
    obtain ⟨cs, rfl, q⟩ := h0 e he
    obtain ⟨d2, r2, rfl, p2, q2⟩ := oks_c q
    obtain ⟨x0, rfl, b0⟩ := ok_i p2
    obtain ⟨d3, r3, rfl, p3, q3⟩ := oks_c q2
    obtain ⟨x1, rfl, b1⟩ := ok_i p3
    rw [oks_n q3]
    exact ⟨(x0, x1), rfl, ⟨i64_b b0, i64_b b1⟩⟩)
  rw [List.length_map] at l0
  obtain ⟨d4, l4_, rfl, p4, hh4⟩ := okAs_c hh1
  obtain ⟨es1, rfl, l1, h1⟩ := ok_lt (okA_f p4)
  obtain ⟨a1, rfl, b1⟩ := map_of (enc := fun x : Int × Int => (.agg [.v (.int .i64 x.1), .v (.int .i64 x.2)] : D)) (p := fun x : Int × Int => (inI64 x.1) ∧ (inI64 x.2)) (es := es1) (fun e he => by
    obtain ⟨cs, rfl, q⟩ := h1 e he
    obtain ⟨d5, r5, rfl, p5, q5⟩ := oks_c q
    obtain ⟨x0, rfl, b0⟩ := ok_i p5
    obtain ⟨d6, r6, rfl, p6, q6⟩ := oks_c q5
    obtain ⟨x1, rfl, b1⟩ := ok_i p6
    rw [oks_n q6]
    exact ⟨(x0, x1), rfl, ⟨i64_b b0, i64_b b1⟩⟩)
  rw [List.length_map] at l1
  cases okAs_n hh4
  exact c_law04_FieldParted (law_FieldParted a0 a1)
end Go.Proofs.YtbjnjffckhdhgaaGreatDoor
