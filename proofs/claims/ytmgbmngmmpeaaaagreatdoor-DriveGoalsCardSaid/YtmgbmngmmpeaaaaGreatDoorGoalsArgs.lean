/-
  The arguments of DriveGoals, taken apart; the law is computed, and true. An own text.
-/
import Derived.Test.YtmgbmngmmpeaaaaGreatDoorArgs
import Derived.Test.YtmgbmngmmpeaaaaGreatDoorGoalsLaw
set_option linter.unusedVariables false
set_option linter.unusedSimpArgs false
set_option linter.unnecessarySimpa false
namespace Go.Proofs.YtmgbmngmmpeaaaaGreatDoor
open Go.SX
theorem hlaw_DriveGoals (Ds : List D) (hh : okAs [(true, [.int .i64, .int .i64]), (true, [.int .i64, .int .i64]), (true, [.int .i64, .int .i64, .int .i16, .int .i16, .int .u8, .int .u16])] Ds) : Computes cx 12 Ds (.v (.bool true)) := by
  obtain ⟨d1, l1_, rfl, p1, hh1⟩ := okAs_c hh
  obtain ⟨cs2, rfl, q2⟩ := okA_t p1
  obtain ⟨d3, r3, rfl, p3, q3⟩ := oks_c q2
  obtain ⟨a0, rfl, h0⟩ := ok_i p3
  have b0 := i64_b h0
  obtain ⟨d4, r4, rfl, p4, q4⟩ := oks_c q3
  obtain ⟨a1, rfl, h1⟩ := ok_i p4
  have b1 := i64_b h1
  cases oks_n q4
  obtain ⟨d5, l5_, rfl, p5, hh5⟩ := okAs_c hh1
  obtain ⟨cs6, rfl, q6⟩ := okA_t p5
  obtain ⟨d7, r7, rfl, p7, q7⟩ := oks_c q6
  obtain ⟨a2, rfl, h2⟩ := ok_i p7
  have b2 := i64_b h2
  obtain ⟨d8, r8, rfl, p8, q8⟩ := oks_c q7
  obtain ⟨a3, rfl, h3⟩ := ok_i p8
  have b3 := i64_b h3
  cases oks_n q8
  obtain ⟨d9, l9_, rfl, p9, hh9⟩ := okAs_c hh5
  obtain ⟨cs10, rfl, q10⟩ := okA_t p9
  obtain ⟨d11, r11, rfl, p11, q11⟩ := oks_c q10
  obtain ⟨a4, rfl, h4⟩ := ok_i p11
  have b4 := i64_b h4
  obtain ⟨d12, r12, rfl, p12, q12⟩ := oks_c q11
  obtain ⟨a5, rfl, h5⟩ := ok_i p12
  have b5 := i64_b h5
  obtain ⟨d13, r13, rfl, p13, q13⟩ := oks_c q12
  obtain ⟨a6, rfl, h6⟩ := ok_i p13
  have b6 := i16_b h6
  obtain ⟨d14, r14, rfl, p14, q14⟩ := oks_c q13
  obtain ⟨a7, rfl, h7⟩ := ok_i p14
  have b7 := i16_b h7
  obtain ⟨d15, r15, rfl, p15, q15⟩ := oks_c q14
  obtain ⟨a8, rfl, h8⟩ := ok_i p15
  have b8 := u8_b h8
  obtain ⟨d16, r16, rfl, p16, q16⟩ := oks_c q15
  obtain ⟨a9, rfl, h9⟩ := ok_i p16
  have b9 := u16_b h9
  cases oks_n q16
  cases okAs_n hh9
  exact c_law03_DriveGoals (law_DriveGoals a0 a1 a2 a3 a4 a5 a6 a7 a8 a9 b6 b7 b8 b9)
end Go.Proofs.YtmgbmngmmpeaaaaGreatDoor
