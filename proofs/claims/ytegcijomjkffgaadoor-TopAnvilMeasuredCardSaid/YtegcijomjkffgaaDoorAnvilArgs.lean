/-
  The arguments of TopAnvilMeasured, taken apart; the law is computed, and true. An own text.
-/
import Derived.Test.YtegcijomjkffgaaDoorArgs
import Derived.Test.YtegcijomjkffgaaDoorAnvilLaw
set_option linter.unusedVariables false
set_option linter.unusedSimpArgs false
set_option linter.unnecessarySimpa false
namespace Go.Proofs.YtegcijomjkffgaaDoor
open Go.SX
theorem hlaw_TopAnvilMeasured (Ds : List D) (hh : okAs [(true, [.int .i16, .int .i16]), (false, [.lst true [.int .i8, .int .u8, .int .u8]]), (true, [.int .i64, .int .i64, .int .i64, .int .i64, .int .i64, .int .i64, .int .u8, .int .u16, .int .u16])] Ds) : Computes cx 3 Ds (.v (.bool true)) := by
  obtain ⟨d1, l1_, rfl, p1, hh1⟩ := okAs_c hh
  obtain ⟨cs2, rfl, q2⟩ := okA_t p1
  obtain ⟨d3, r3, rfl, p3, q3⟩ := oks_c q2
  obtain ⟨a0, rfl, h0⟩ := ok_i p3
  have b0 := i16_b h0
  obtain ⟨d4, r4, rfl, p4, q4⟩ := oks_c q3
  obtain ⟨a1, rfl, h1⟩ := ok_i p4
  have b1 := i16_b h1
  cases oks_n q4
  obtain ⟨d5, l5_, rfl, p5, hh5⟩ := okAs_c hh1
  obtain ⟨es2, rfl, l2, h2⟩ := ok_lt (okA_f p5)
  obtain ⟨a2, rfl, b2⟩ := map_of (enc := fun x : Int × Int × Int => (.agg [.v (.int .i8 x.1), .v (.int .u8 x.2.1), .v (.int .u8 x.2.2)] : D)) (p := fun x : Int × Int × Int => (-128 ≤ x.1 ∧ x.1 ≤ 127) ∧ (0 ≤ x.2.1 ∧ x.2.1 ≤ 255) ∧ (0 ≤ x.2.2 ∧ x.2.2 ≤ 255)) (es := es2) (fun e he => by
    obtain ⟨cs, rfl, q⟩ := h2 e he
    obtain ⟨d6, r6, rfl, p6, q6⟩ := oks_c q
    obtain ⟨x0, rfl, b0⟩ := ok_i p6
    obtain ⟨d7, r7, rfl, p7, q7⟩ := oks_c q6
    obtain ⟨x1, rfl, b1⟩ := ok_i p7
    obtain ⟨d8, r8, rfl, p8, q8⟩ := oks_c q7
    obtain ⟨x2, rfl, b2⟩ := ok_i p8
    rw [oks_n q8]
    exact ⟨(x0, x1, x2), rfl, ⟨i8_b b0, u8_b b1, u8_b b2⟩⟩)
  rw [List.length_map] at l2
  obtain ⟨d9, l9_, rfl, p9, hh9⟩ := okAs_c hh5
  obtain ⟨cs10, rfl, q10⟩ := okA_t p9
  obtain ⟨d11, r11, rfl, p11, q11⟩ := oks_c q10
  obtain ⟨a3, rfl, h3⟩ := ok_i p11
  have b3 := i64_b h3
  obtain ⟨d12, r12, rfl, p12, q12⟩ := oks_c q11
  obtain ⟨a4, rfl, h4⟩ := ok_i p12
  have b4 := i64_b h4
  obtain ⟨d13, r13, rfl, p13, q13⟩ := oks_c q12
  obtain ⟨a5, rfl, h5⟩ := ok_i p13
  have b5 := i64_b h5
  obtain ⟨d14, r14, rfl, p14, q14⟩ := oks_c q13
  obtain ⟨a6, rfl, h6⟩ := ok_i p14
  have b6 := i64_b h6
  obtain ⟨d15, r15, rfl, p15, q15⟩ := oks_c q14
  obtain ⟨a7, rfl, h7⟩ := ok_i p15
  have b7 := i64_b h7
  obtain ⟨d16, r16, rfl, p16, q16⟩ := oks_c q15
  obtain ⟨a8, rfl, h8⟩ := ok_i p16
  have b8 := i64_b h8
  obtain ⟨d17, r17, rfl, p17, q17⟩ := oks_c q16
  obtain ⟨a9, rfl, h9⟩ := ok_i p17
  have b9 := u8_b h9
  obtain ⟨d18, r18, rfl, p18, q18⟩ := oks_c q17
  obtain ⟨a10, rfl, h10⟩ := ok_i p18
  have b10 := u16_b h10
  obtain ⟨d19, r19, rfl, p19, q19⟩ := oks_c q18
  obtain ⟨a11, rfl, h11⟩ := ok_i p19
  have b11 := u16_b h11
  cases oks_n q19
  cases okAs_n hh9
  exact c_top_TopAnvilMeasured (law_TopAnvilMeasured b0 b1 b2 b9 b10 b11)
end Go.Proofs.YtegcijomjkffgaaDoor
