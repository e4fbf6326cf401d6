/-
  The arguments of DrivePairs, taken apart; the law is computed, and true. An own text.
-/
import Derived.Test.YtmgbmngmmpeaaaaGreatDoorArgs
import Derived.Test.YtmgbmngmmpeaaaaGreatDoorPairsLaw
set_option linter.unusedVariables false
set_option linter.unusedSimpArgs false
set_option linter.unnecessarySimpa false
namespace Go.Proofs.YtmgbmngmmpeaaaaGreatDoor
open Go.SX
theorem hlaw_DrivePairs (Ds : List D) (hh : okAs [(false, [.lst true [.int .i64, .int .i64, .int .i64]]), (true, [.int .i64, .int .i64])] Ds) : Computes cx 13 Ds (.v (.bool true)) := by
  obtain ⟨d1, l1_, rfl, p1, hh1⟩ := okAs_c hh
  obtain ⟨es0, rfl, l0, h0⟩ := ok_lt (okA_f p1)
  obtain ⟨a0, rfl, b0⟩ := map_of (enc := fun x : Int × Int × Int => (.agg [.v (.int .i64 x.1), .v (.int .i64 x.2.1), .v (.int .i64 x.2.2)] : D)) (p := fun x : Int × Int × Int => (inI64 x.1) ∧ (inI64 x.2.1) ∧ (inI64 x.2.2)) (es := es0) (fun e he => by
    obtain ⟨cs, rfl, q⟩ := h0 e he
    obtain ⟨d2, r2, rfl, p2, q2⟩ := oks_c q
    obtain ⟨x0, rfl, b0⟩ := ok_i p2
    obtain ⟨d3, r3, rfl, p3, q3⟩ := oks_c q2
    obtain ⟨x1, rfl, b1⟩ := ok_i p3
    obtain ⟨d4, r4, rfl, p4, q4⟩ := oks_c q3
    obtain ⟨x2, rfl, b2⟩ := ok_i p4
    rw [oks_n q4]
    exact ⟨(x0, x1, x2), rfl, ⟨i64_b b0, i64_b b1, i64_b b2⟩⟩)
  rw [List.length_map] at l0
  obtain ⟨d5, l5_, rfl, p5, hh5⟩ := okAs_c hh1
  obtain ⟨cs6, rfl, q6⟩ := okA_t p5
  obtain ⟨d7, r7, rfl, p7, q7⟩ := oks_c q6
  obtain ⟨a1, rfl, h1⟩ := ok_i p7
  have b1 := i64_b h1
  obtain ⟨d8, r8, rfl, p8, q8⟩ := oks_c q7
  obtain ⟨a2, rfl, h2⟩ := ok_i p8
  have b2 := i64_b h2
  cases oks_n q8
  cases okAs_n hh5
  exact c_law03_DrivePairs (law_DrivePairs a0 a1 a2)
end Go.Proofs.YtmgbmngmmpeaaaaGreatDoor
