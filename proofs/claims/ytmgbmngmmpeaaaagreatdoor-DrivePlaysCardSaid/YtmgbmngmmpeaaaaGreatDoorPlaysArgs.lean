/-
  The arguments of DrivePlays, taken apart; the law is computed, and true. An own text.
-/
import Derived.Test.YtmgbmngmmpeaaaaGreatDoorArgs
import Derived.Test.YtmgbmngmmpeaaaaGreatDoorPlaysLaw
set_option linter.unusedVariables false
set_option linter.unusedSimpArgs false
set_option linter.unnecessarySimpa false
namespace Go.Proofs.YtmgbmngmmpeaaaaGreatDoor
open Go.SX
theorem hlaw_DrivePlays (Ds : List D) (hh : okAs [(true, [.int .i64, .int .i64, .int .i64]), (true, [.int .i64, .int .i64, .int .i64]), (false, [.lst false [.int .i8]])] Ds) : Computes cx 10 Ds (.v (.bool true)) := by
  obtain ⟨d1, l1_, rfl, p1, hh1⟩ := okAs_c hh
  obtain ⟨cs2, rfl, q2⟩ := okA_t p1
  obtain ⟨d3, r3, rfl, p3, q3⟩ := oks_c q2
  obtain ⟨a0, rfl, h0⟩ := ok_i p3
  have b0 := i64_b h0
  obtain ⟨d4, r4, rfl, p4, q4⟩ := oks_c q3
  obtain ⟨a1, rfl, h1⟩ := ok_i p4
  have b1 := i64_b h1
  obtain ⟨d5, r5, rfl, p5, q5⟩ := oks_c q4
  obtain ⟨a2, rfl, h2⟩ := ok_i p5
  have b2 := i64_b h2
  cases oks_n q5
  obtain ⟨d6, l6_, rfl, p6, hh6⟩ := okAs_c hh1
  obtain ⟨cs7, rfl, q7⟩ := okA_t p6
  obtain ⟨d8, r8, rfl, p8, q8⟩ := oks_c q7
  obtain ⟨a3, rfl, h3⟩ := ok_i p8
  have b3 := i64_b h3
  obtain ⟨d9, r9, rfl, p9, q9⟩ := oks_c q8
  obtain ⟨a4, rfl, h4⟩ := ok_i p9
  have b4 := i64_b h4
  obtain ⟨d10, r10, rfl, p10, q10⟩ := oks_c q9
  obtain ⟨a5, rfl, h5⟩ := ok_i p10
  have b5 := i64_b h5
  cases oks_n q10
  obtain ⟨d11, l11_, rfl, p11, hh11⟩ := okAs_c hh6
  obtain ⟨es6, rfl, l6, h6⟩ := ok_lf (okA_f p11)
  obtain ⟨a6, rfl, b6⟩ := map_of (enc := fun x : Int => (.v (.int .i8 x) : D)) (p := fun x : Int => -128 ≤ x ∧ x ≤ 127) (es := es6) (fun e he => by
    obtain ⟨x, rfl, b⟩ := ok_i (h6 e he)
    exact ⟨x, rfl, i8_b b⟩)
  rw [List.length_map] at l6
  cases okAs_n hh11
  exact c_law03_DrivePlays (law_DrivePlays a0 a1 a2 a3 a4 a5 a6 b6)
end Go.Proofs.YtmgbmngmmpeaaaaGreatDoor
