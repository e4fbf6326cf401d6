/-
  The arguments of FieldSuns, taken apart; the law is computed, and true. An own text.
-/
import Derived.Test.YtojmcpnpojdnmaaGreatDoorArgs
import Derived.Test.YtojmcpnpojdnmaaGreatDoorSunsLaw
set_option linter.unusedVariables false
set_option linter.unusedSimpArgs false
set_option linter.unnecessarySimpa false
namespace Go.Proofs.YtojmcpnpojdnmaaGreatDoor
open Go.SX
theorem hlaw_FieldSuns (Ds : List D) (hh : okAs [(true, [.str, .int .i64, .int .i64, .int .i64, .int .i64, .int .i64, .int .i64, .int .i64, .int .i64, .int .i64]), (true, [.int .i64, .int .i64, .int .i64])] Ds) : Computes cx 3 Ds (.v (.bool true)) := by
  obtain ⟨d1, l1_, rfl, p1, hh1⟩ := okAs_c hh
  obtain ⟨cs2, rfl, q2⟩ := okA_t p1
  obtain ⟨d3, r3, rfl, p3, q3⟩ := oks_c q2
  obtain ⟨a0, rfl, h0⟩ := ok_s p3
  obtain ⟨d4, r4, rfl, p4, q4⟩ := oks_c q3
  obtain ⟨a1, rfl, h1⟩ := ok_i p4
  have b1 := i64_b h1
  obtain ⟨d5, r5, rfl, p5, q5⟩ := oks_c q4
  obtain ⟨a2, rfl, h2⟩ := ok_i p5
  have b2 := i64_b h2
  obtain ⟨d6, r6, rfl, p6, q6⟩ := oks_c q5
  obtain ⟨a3, rfl, h3⟩ := ok_i p6
  have b3 := i64_b h3
  obtain ⟨d7, r7, rfl, p7, q7⟩ := oks_c q6
  obtain ⟨a4, rfl, h4⟩ := ok_i p7
  have b4 := i64_b h4
  obtain ⟨d8, r8, rfl, p8, q8⟩ := oks_c q7
  obtain ⟨a5, rfl, h5⟩ := ok_i p8
  have b5 := i64_b h5
  obtain ⟨d9, r9, rfl, p9, q9⟩ := oks_c q8
  obtain ⟨a6, rfl, h6⟩ := ok_i p9
  have b6 := i64_b h6
  obtain ⟨d10, r10, rfl, p10, q10⟩ := oks_c q9
  obtain ⟨a7, rfl, h7⟩ := ok_i p10
  have b7 := i64_b h7
  obtain ⟨d11, r11, rfl, p11, q11⟩ := oks_c q10
  obtain ⟨a8, rfl, h8⟩ := ok_i p11
  have b8 := i64_b h8
  obtain ⟨d12, r12, rfl, p12, q12⟩ := oks_c q11
  obtain ⟨a9, rfl, h9⟩ := ok_i p12
  have b9 := i64_b h9
  cases oks_n q12
  obtain ⟨d13, l13_, rfl, p13, hh13⟩ := okAs_c hh1
  obtain ⟨cs14, rfl, q14⟩ := okA_t p13
  obtain ⟨d15, r15, rfl, p15, q15⟩ := oks_c q14
  obtain ⟨a10, rfl, h10⟩ := ok_i p15
  have b10 := i64_b h10
  obtain ⟨d16, r16, rfl, p16, q16⟩ := oks_c q15
  obtain ⟨a11, rfl, h11⟩ := ok_i p16
  have b11 := i64_b h11
  obtain ⟨d17, r17, rfl, p17, q17⟩ := oks_c q16
  obtain ⟨a12, rfl, h12⟩ := ok_i p17
  have b12 := i64_b h12
  cases oks_n q17
  cases okAs_n hh13
  exact c_law04_FieldSuns (law_FieldSuns a0 a1 a2 a3 a4 a5 a6 a7 a8 a9 a10 a11 a12)
end Go.Proofs.YtojmcpnpojdnmaaGreatDoor
