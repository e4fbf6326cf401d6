/-
  The arguments of DriveBack, taken apart; the law is computed, and true. An own text.
-/
import Derived.Test.YtoblljobcafecaaGreatDoorArgs
import Derived.Test.YtoblljobcafecaaGreatDoorBackLaw
set_option linter.unusedVariables false
set_option linter.unusedSimpArgs false
set_option linter.unnecessarySimpa false
namespace Go.Proofs.YtoblljobcafecaaGreatDoor
open Go.SX
theorem hlaw_DriveBack (Ds : List D) (hh : okAs [(false, [.lst true [.int .i64, .int .i64, .int .i64]]), (false, [.str])] Ds) : Computes cx 4 Ds (.v (.bool true)) := by
  obtain ⟨d1, l1_, rfl, p1, hh1⟩ := okAs_c hh
  obtain ⟨es0, rfl, l0, h0⟩ := ok_lt (okA_f p1)
  obtain ⟨a0, rfl, b0⟩ := map_of (enc := fun x : Int × Int × Int => (.agg [.v (.int .i64 x.1), .v (.int .i64 x.2.1), .v (.int .i64 x.2.2)] : D)) (p := fun x : Int × Int × Int => (inI64 x.1) ∧ (inI64 x.2.1) ∧ (inI64 x.2.2)) (es := es0) (fun e he => by
    obtain ⟨cs, rfl, q⟩ := h0 e he
    obtain ⟨d2, r2, rfl, p2, q2⟩ := oks_c q
    obtain ⟨x0, rfl, b0⟩ := ok_i p2
    obtain ⟨d3, r3, rfl, p3, q3⟩ := oks_c q2
    obtain ⟨x1, rfl, b1⟩ := ok_i p3
    obtain ⟨d4, r4, rfl, p4, q4⟩ := oks_c q3
    obtain ⟨x2, rfl, b2⟩ := ok_i p4
    rw [oks_n q4]
    exact ⟨(x0, x1, x2), rfl, ⟨i64_b b0, i64_b b1, i64_b b2⟩⟩)
  rw [List.length_map] at l0
  obtain ⟨d5, l5_, rfl, p5, hh5⟩ := okAs_c hh1
  obtain ⟨a1, rfl, h1⟩ := ok_s (okA_f p5)
  cases okAs_n hh5
  exact c_law03_DriveBack (law_DriveBack a0 a1)
end Go.Proofs.YtoblljobcafecaaGreatDoor
