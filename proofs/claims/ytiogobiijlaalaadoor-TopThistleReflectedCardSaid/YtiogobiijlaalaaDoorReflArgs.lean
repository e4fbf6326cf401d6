/-
  The arguments of TopThistleReflected, taken apart; the law is computed, and true. An own text.
-/
import Derived.Test.YtiogobiijlaalaaDoorArgs
import Derived.Test.YtiogobiijlaalaaDoorReflLaw
set_option linter.unusedVariables false
set_option linter.unusedSimpArgs false
set_option linter.unnecessarySimpa false
namespace Go.Proofs.YtiogobiijlaalaaDoor
open Go.SX
theorem hlaw_TopThistleReflected (Ds : List D) (hh : okAs [(true, [.int .i8, .int .i8, .int .i8, .int .i8]), (true, [.int .i8, .int .i8, .int .i8, .int .i8]), (false, [.int .u8])] Ds) : Computes cx 3 Ds (.v (.bool true)) := by
  obtain ⟨d1, l1_, rfl, p1, hh1⟩ := okAs_c hh
  obtain ⟨cs2, rfl, q2⟩ := okA_t p1
  obtain ⟨d3, r3, rfl, p3, q3⟩ := oks_c q2
  obtain ⟨a0, rfl, h0⟩ := ok_i p3
  have b0 := i8_b h0
  obtain ⟨d4, r4, rfl, p4, q4⟩ := oks_c q3
  obtain ⟨a1, rfl, h1⟩ := ok_i p4
  have b1 := i8_b h1
  obtain ⟨d5, r5, rfl, p5, q5⟩ := oks_c q4
  obtain ⟨a2, rfl, h2⟩ := ok_i p5
  have b2 := i8_b h2
  obtain ⟨d6, r6, rfl, p6, q6⟩ := oks_c q5
  obtain ⟨a3, rfl, h3⟩ := ok_i p6
  have b3 := i8_b h3
  cases oks_n q6
  obtain ⟨d7, l7_, rfl, p7, hh7⟩ := okAs_c hh1
  obtain ⟨cs8, rfl, q8⟩ := okA_t p7
  obtain ⟨d9, r9, rfl, p9, q9⟩ := oks_c q8
  obtain ⟨a4, rfl, h4⟩ := ok_i p9
  have b4 := i8_b h4
  obtain ⟨d10, r10, rfl, p10, q10⟩ := oks_c q9
  obtain ⟨a5, rfl, h5⟩ := ok_i p10
  have b5 := i8_b h5
  obtain ⟨d11, r11, rfl, p11, q11⟩ := oks_c q10
  obtain ⟨a6, rfl, h6⟩ := ok_i p11
  have b6 := i8_b h6
  obtain ⟨d12, r12, rfl, p12, q12⟩ := oks_c q11
  obtain ⟨a7, rfl, h7⟩ := ok_i p12
  have b7 := i8_b h7
  cases oks_n q12
  obtain ⟨d13, l13_, rfl, p13, hh13⟩ := okAs_c hh7
  obtain ⟨a8, rfl, h8⟩ := ok_i (okA_f p13)
  have b8 := u8_b h8
  cases okAs_n hh13
  exact c_top_TopThistleReflected (law_TopThistleReflected a0 a1 a2 a3 a4 a5 a6 a7 a8 b8)
end Go.Proofs.YtiogobiijlaalaaDoor
