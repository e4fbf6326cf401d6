/-
  The arguments of DriveSeen, taken apart; the law is computed, and true. An own text.
-/
import Derived.Test.YtmgbmngmmpeaaaaGreatDoorArgs
import Derived.Test.YtmgbmngmmpeaaaaGreatDoorSeenLaw
set_option linter.unusedVariables false
set_option linter.unusedSimpArgs false
set_option linter.unnecessarySimpa false
namespace Go.Proofs.YtmgbmngmmpeaaaaGreatDoor
open Go.SX
theorem hlaw_DriveSeen (Ds : List D) (hh : okAs [(false, [.int .i8]), (false, [.int .i16]), (false, [.lst true [.int .i16, .int .u8, .int .u8]])] Ds) : Computes cx 14 Ds (.v (.bool true)) := by
  obtain ⟨d1, l1_, rfl, p1, hh1⟩ := okAs_c hh
  obtain ⟨a0, rfl, h0⟩ := ok_i (okA_f p1)
  have b0 := i8_b h0
  obtain ⟨d2, l2_, rfl, p2, hh2⟩ := okAs_c hh1
  obtain ⟨a1, rfl, h1⟩ := ok_i (okA_f p2)
  have b1 := i16_b h1
  obtain ⟨d3, l3_, rfl, p3, hh3⟩ := okAs_c hh2
  obtain ⟨es2, rfl, l2, h2⟩ := ok_lt (okA_f p3)
  obtain ⟨a2, rfl, b2⟩ := map_of (enc := fun x : Int × Int × Int => (.agg [.v (.int .i16 x.1), .v (.int .u8 x.2.1), .v (.int .u8 x.2.2)] : D)) (p := fun x : Int × Int × Int => (-32768 ≤ x.1 ∧ x.1 ≤ 32767) ∧ (0 ≤ x.2.1 ∧ x.2.1 ≤ 255) ∧ (0 ≤ x.2.2 ∧ x.2.2 ≤ 255)) (es := es2) (fun e he => by
    obtain ⟨cs, rfl, q⟩ := h2 e he
    obtain ⟨d4, r4, rfl, p4, q4⟩ := oks_c q
    obtain ⟨x0, rfl, b0⟩ := ok_i p4
    obtain ⟨d5, r5, rfl, p5, q5⟩ := oks_c q4
    obtain ⟨x1, rfl, b1⟩ := ok_i p5
    obtain ⟨d6, r6, rfl, p6, q6⟩ := oks_c q5
    obtain ⟨x2, rfl, b2⟩ := ok_i p6
    rw [oks_n q6]
    exact ⟨(x0, x1, x2), rfl, ⟨i16_b b0, u8_b b1, u8_b b2⟩⟩)
  rw [List.length_map] at l2
  cases okAs_n hh3
  exact c_law03_DriveSeen (law_DriveSeen b0 b1 b2)
end Go.Proofs.YtmgbmngmmpeaaaaGreatDoor
