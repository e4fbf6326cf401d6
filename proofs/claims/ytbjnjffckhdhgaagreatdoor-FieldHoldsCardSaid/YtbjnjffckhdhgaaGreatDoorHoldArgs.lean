/-
  The arguments of FieldHolds, taken apart; the law is computed, and true. An own text.
-/
import Derived.Test.YtbjnjffckhdhgaaGreatDoorArgs
import Derived.Test.YtbjnjffckhdhgaaGreatDoorHoldLaw2
set_option linter.unusedVariables false
set_option linter.unusedSimpArgs false
set_option linter.unnecessarySimpa false
namespace Go.Proofs.YtbjnjffckhdhgaaGreatDoor
open Go.SX
theorem hlaw_FieldHolds (Ds : List D) (hh : okAs [(false, [.lst true [.int .i64, .int .i64]]), (false, [.int .u8])] Ds) : Computes cx 3 Ds (.v (.bool true)) := by
  obtain ⟨d1, l1_, rfl, p1, hh1⟩ := okAs_c hh
  obtain ⟨es0, rfl, l0, h0⟩ := ok_lt (okA_f p1)
  obtain ⟨a0, rfl, b0⟩ := map_of (enc := fun x : Int × Int => (.agg [.v (.int .i64 x.1), .v (.int .i64 x.2)] : D)) (p := fun x : Int × Int => (inI64 x.1) ∧ (inI64 x.2)) (es := es0) (fun e he => by
    obtain ⟨cs, rfl, q⟩ := h0 e he
    obtain ⟨d2, r2, rfl, p2, q2⟩ := oks_c q
    obtain ⟨x0, rfl, b0⟩ := ok_i p2
    obtain ⟨d3, r3, rfl, p3, q3⟩ := oks_c q2
    obtain ⟨x1, rfl, b1⟩ := ok_i p3
    rw [oks_n q3]
    exact ⟨(x0, x1), rfl, ⟨i64_b b0, i64_b b1⟩⟩)
  rw [List.length_map] at l0
  obtain ⟨d4, l4_, rfl, p4, hh4⟩ := okAs_c hh1
  obtain ⟨a1, rfl, h1⟩ := ok_i (okA_f p4)
  have b1 := u8_b h1
  cases okAs_n hh4
  exact c_law04_FieldHolds (law_FieldHolds a0 a1 b1)
end Go.Proofs.YtbjnjffckhdhgaaGreatDoor
