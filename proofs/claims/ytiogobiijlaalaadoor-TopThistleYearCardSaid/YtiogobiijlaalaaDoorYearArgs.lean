/-
  The arguments of TopThistleYear, taken apart; the law is computed, and true. An own text.
-/
import Derived.Test.YtiogobiijlaalaaDoorArgs
import Derived.Test.YtiogobiijlaalaaDoorYearLaw
set_option linter.unusedVariables false
namespace Go.Proofs.YtiogobiijlaalaaDoor
open Go.SX
theorem hlaw_TopThistleYear (Ds : List D) (hh : okAs [(true, [.str, .lst true [.int .i64, .int .i64, .int .i64, .int .i64]]), (false, [.lst true [.str, .int .i64, .int .i64, .int .i64, .int .i64, .int .i64, .int .i64, .int .i64, .int .i64, .int .i64]]), (true, [.int .i8, .int .i8, .int .i8, .int .i8])] Ds) : Computes cx 4 Ds (.v (.bool true)) := by
  obtain ⟨d1, l1_, rfl, p1, hh1⟩ := okAs_c hh
  obtain ⟨cs2, rfl, q2⟩ := okA_t p1
  obtain ⟨d3, r3, rfl, p3, q3⟩ := oks_c q2
  obtain ⟨a0, rfl, h0⟩ := ok_s p3
  obtain ⟨d4, r4, rfl, p4, q4⟩ := oks_c q3
  obtain ⟨es1, rfl, l1, h1⟩ := ok_lt p4
  obtain ⟨a1, rfl, b1⟩ := map_of (enc := fun x : Int × Int × Int × Int => (.agg [.v (.int .i64 x.1), .v (.int .i64 x.2.1), .v (.int .i64 x.2.2.1), .v (.int .i64 x.2.2.2)] : D)) (p := fun x : Int × Int × Int × Int => (inI64 x.1) ∧ (inI64 x.2.1) ∧ (inI64 x.2.2.1) ∧ (inI64 x.2.2.2)) (es := es1) (fun e he => by
    obtain ⟨cs, rfl, q⟩ := h1 e he
    obtain ⟨d5, r5, rfl, p5, q5⟩ := oks_c q
    obtain ⟨x0, rfl, b0⟩ := ok_i p5
    obtain ⟨d6, r6, rfl, p6, q6⟩ := oks_c q5
    obtain ⟨x1, rfl, b1⟩ := ok_i p6
    obtain ⟨d7, r7, rfl, p7, q7⟩ := oks_c q6
    obtain ⟨x2, rfl, b2⟩ := ok_i p7
    obtain ⟨d8, r8, rfl, p8, q8⟩ := oks_c q7
    obtain ⟨x3, rfl, b3⟩ := ok_i p8
    rw [oks_n q8]
    exact ⟨(x0, x1, x2, x3), rfl, ⟨i64_b b0, i64_b b1, i64_b b2, i64_b b3⟩⟩)
  rw [List.length_map] at l1
  cases oks_n q4
  obtain ⟨d9, l9_, rfl, p9, hh9⟩ := okAs_c hh1
  obtain ⟨es2, rfl, l2, h2⟩ := ok_lt (okA_f p9)
  obtain ⟨a2, rfl, b2⟩ := map_of (enc := fun x : ByteArray × Int × Int × Int × Int × Int × Int × Int × Int × Int => (.agg [.v (.string x.1), .v (.int .i64 x.2.1), .v (.int .i64 x.2.2.1), .v (.int .i64 x.2.2.2.1), .v (.int .i64 x.2.2.2.2.1), .v (.int .i64 x.2.2.2.2.2.1), .v (.int .i64 x.2.2.2.2.2.2.1), .v (.int .i64 x.2.2.2.2.2.2.2.1), .v (.int .i64 x.2.2.2.2.2.2.2.2.1), .v (.int .i64 x.2.2.2.2.2.2.2.2.2)] : D)) (p := fun x : ByteArray × Int × Int × Int × Int × Int × Int × Int × Int × Int => (x.1.size ≤ maxLen) ∧ (inI64 x.2.1) ∧ (inI64 x.2.2.1) ∧ (inI64 x.2.2.2.1) ∧ (inI64 x.2.2.2.2.1) ∧ (inI64 x.2.2.2.2.2.1) ∧ (inI64 x.2.2.2.2.2.2.1) ∧ (inI64 x.2.2.2.2.2.2.2.1) ∧ (inI64 x.2.2.2.2.2.2.2.2.1) ∧ (inI64 x.2.2.2.2.2.2.2.2.2)) (es := es2) (fun e he => by
    obtain ⟨cs, rfl, q⟩ := h2 e he
    obtain ⟨d10, r10, rfl, p10, q10⟩ := oks_c q
    obtain ⟨x0, rfl, b0⟩ := ok_s p10
    obtain ⟨d11, r11, rfl, p11, q11⟩ := oks_c q10
    obtain ⟨x1, rfl, b1⟩ := ok_i p11
    obtain ⟨d12, r12, rfl, p12, q12⟩ := oks_c q11
    obtain ⟨x2, rfl, b2⟩ := ok_i p12
    obtain ⟨d13, r13, rfl, p13, q13⟩ := oks_c q12
    obtain ⟨x3, rfl, b3⟩ := ok_i p13
    obtain ⟨d14, r14, rfl, p14, q14⟩ := oks_c q13
    obtain ⟨x4, rfl, b4⟩ := ok_i p14
    obtain ⟨d15, r15, rfl, p15, q15⟩ := oks_c q14
    obtain ⟨x5, rfl, b5⟩ := ok_i p15
    obtain ⟨d16, r16, rfl, p16, q16⟩ := oks_c q15
    obtain ⟨x6, rfl, b6⟩ := ok_i p16
    obtain ⟨d17, r17, rfl, p17, q17⟩ := oks_c q16
    obtain ⟨x7, rfl, b7⟩ := ok_i p17
    obtain ⟨d18, r18, rfl, p18, q18⟩ := oks_c q17
    obtain ⟨x8, rfl, b8⟩ := ok_i p18
    obtain ⟨d19, r19, rfl, p19, q19⟩ := oks_c q18
    obtain ⟨x9, rfl, b9⟩ := ok_i p19
    rw [oks_n q19]
    exact ⟨(x0, x1, x2, x3, x4, x5, x6, x7, x8, x9), rfl, ⟨b0, i64_b b1, i64_b b2, i64_b b3, i64_b b4, i64_b b5, i64_b b6, i64_b b7, i64_b b8, i64_b b9⟩⟩)
  rw [List.length_map] at l2
  obtain ⟨d20, l20_, rfl, p20, hh20⟩ := okAs_c hh9
  obtain ⟨cs21, rfl, q21⟩ := okA_t p20
  obtain ⟨d22, r22, rfl, p22, q22⟩ := oks_c q21
  obtain ⟨a3, rfl, h3⟩ := ok_i p22
  have b3 := i8_b h3
  obtain ⟨d23, r23, rfl, p23, q23⟩ := oks_c q22
  obtain ⟨a4, rfl, h4⟩ := ok_i p23
  have b4 := i8_b h4
  obtain ⟨d24, r24, rfl, p24, q24⟩ := oks_c q23
  obtain ⟨a5, rfl, h5⟩ := ok_i p24
  have b5 := i8_b h5
  obtain ⟨d25, r25, rfl, p25, q25⟩ := oks_c q24
  obtain ⟨a6, rfl, h6⟩ := ok_i p25
  have b6 := i8_b h6
  cases oks_n q25
  cases okAs_n hh20
  exact c_top_TopThistleYear (law_TopThistleYear a0 a1 a2 a3 a4 a5 a6 b3 b4 b5 l2)
end Go.Proofs.YtiogobiijlaalaaDoor
