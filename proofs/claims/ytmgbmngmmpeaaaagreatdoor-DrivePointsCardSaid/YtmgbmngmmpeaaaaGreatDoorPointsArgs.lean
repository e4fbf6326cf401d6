/-
  The arguments of DrivePoints, taken apart; the law is computed, and true. An own text.
-/
import Derived.Test.YtmgbmngmmpeaaaaGreatDoorArgs
import Derived.Test.YtmgbmngmmpeaaaaGreatDoorPointsLaw
set_option linter.unusedVariables false
set_option linter.unusedSimpArgs false
set_option linter.unnecessarySimpa false
namespace Go.Proofs.YtmgbmngmmpeaaaaGreatDoor
open Go.SX
theorem hlaw_DrivePoints (Ds : List D) (hh : okAs [(true, [.int .i64, .int .i64, .int .i64, .int .i64, .int .i64, .int .i64, .int .i64, .int .i64]), (true, [.int .i64, .int .i64, .int .i64, .int .i64, .int .i64, .int .i64, .int .i64, .int .i64]), (true, [.lst true [.int .i64, .int .i64, .int .i64], .lst true [.int .i64, .int .i64, .int .i64]])] Ds) : Computes cx 15 Ds (.v (.bool true)) := by
  obtain ⟨d1, l1_, rfl, p1, hh1⟩ := okAs_c hh
  obtain ⟨cs2, rfl, q2⟩ := okA_t p1
  obtain ⟨d3, r3, rfl, p3, q3⟩ := oks_c q2
  obtain ⟨a0, rfl, h0⟩ := ok_i p3
  have b0 := i64_b h0
  obtain ⟨d4, r4, rfl, p4, q4⟩ := oks_c q3
  obtain ⟨a1, rfl, h1⟩ := ok_i p4
  have b1 := i64_b h1
  obtain ⟨d5, r5, rfl, p5, q5⟩ := oks_c q4
  obtain ⟨a2, rfl, h2⟩ := ok_i p5
  have b2 := i64_b h2
  obtain ⟨d6, r6, rfl, p6, q6⟩ := oks_c q5
  obtain ⟨a3, rfl, h3⟩ := ok_i p6
  have b3 := i64_b h3
  obtain ⟨d7, r7, rfl, p7, q7⟩ := oks_c q6
  obtain ⟨a4, rfl, h4⟩ := ok_i p7
  have b4 := i64_b h4
  obtain ⟨d8, r8, rfl, p8, q8⟩ := oks_c q7
  obtain ⟨a5, rfl, h5⟩ := ok_i p8
  have b5 := i64_b h5
  obtain ⟨d9, r9, rfl, p9, q9⟩ := oks_c q8
  obtain ⟨a6, rfl, h6⟩ := ok_i p9
  have b6 := i64_b h6
  obtain ⟨d10, r10, rfl, p10, q10⟩ := oks_c q9
  obtain ⟨a7, rfl, h7⟩ := ok_i p10
  have b7 := i64_b h7
  cases oks_n q10
  obtain ⟨d11, l11_, rfl, p11, hh11⟩ := okAs_c hh1
  obtain ⟨cs12, rfl, q12⟩ := okA_t p11
  obtain ⟨d13, r13, rfl, p13, q13⟩ := oks_c q12
  obtain ⟨a8, rfl, h8⟩ := ok_i p13
  have b8 := i64_b h8
  obtain ⟨d14, r14, rfl, p14, q14⟩ := oks_c q13
  obtain ⟨a9, rfl, h9⟩ := ok_i p14
  have b9 := i64_b h9
  obtain ⟨d15, r15, rfl, p15, q15⟩ := oks_c q14
  obtain ⟨a10, rfl, h10⟩ := ok_i p15
  have b10 := i64_b h10
  obtain ⟨d16, r16, rfl, p16, q16⟩ := oks_c q15
  obtain ⟨a11, rfl, h11⟩ := ok_i p16
  have b11 := i64_b h11
  obtain ⟨d17, r17, rfl, p17, q17⟩ := oks_c q16
  obtain ⟨a12, rfl, h12⟩ := ok_i p17
  have b12 := i64_b h12
  obtain ⟨d18, r18, rfl, p18, q18⟩ := oks_c q17
  obtain ⟨a13, rfl, h13⟩ := ok_i p18
  have b13 := i64_b h13
  obtain ⟨d19, r19, rfl, p19, q19⟩ := oks_c q18
  obtain ⟨a14, rfl, h14⟩ := ok_i p19
  have b14 := i64_b h14
  obtain ⟨d20, r20, rfl, p20, q20⟩ := oks_c q19
  obtain ⟨a15, rfl, h15⟩ := ok_i p20
  have b15 := i64_b h15
  cases oks_n q20
  obtain ⟨d21, l21_, rfl, p21, hh21⟩ := okAs_c hh11
  obtain ⟨cs22, rfl, q22⟩ := okA_t p21
  obtain ⟨d23, r23, rfl, p23, q23⟩ := oks_c q22
  obtain ⟨es16, rfl, l16, h16⟩ := ok_lt p23
  obtain ⟨a16, rfl, b16⟩ := map_of (enc := fun x : Int × Int × Int => (.agg [.v (.int .i64 x.1), .v (.int .i64 x.2.1), .v (.int .i64 x.2.2)] : D)) (p := fun x : Int × Int × Int => (inI64 x.1) ∧ (inI64 x.2.1) ∧ (inI64 x.2.2)) (es := es16) (fun e he => by
    obtain ⟨cs, rfl, q⟩ := h16 e he
    obtain ⟨d24, r24, rfl, p24, q24⟩ := oks_c q
    obtain ⟨x0, rfl, b0⟩ := ok_i p24
    obtain ⟨d25, r25, rfl, p25, q25⟩ := oks_c q24
    obtain ⟨x1, rfl, b1⟩ := ok_i p25
    obtain ⟨d26, r26, rfl, p26, q26⟩ := oks_c q25
    obtain ⟨x2, rfl, b2⟩ := ok_i p26
    rw [oks_n q26]
    exact ⟨(x0, x1, x2), rfl, ⟨i64_b b0, i64_b b1, i64_b b2⟩⟩)
  rw [List.length_map] at l16
  obtain ⟨d27, r27, rfl, p27, q27⟩ := oks_c q23
  obtain ⟨es17, rfl, l17, h17⟩ := ok_lt p27
  obtain ⟨a17, rfl, b17⟩ := map_of (enc := fun x : Int × Int × Int => (.agg [.v (.int .i64 x.1), .v (.int .i64 x.2.1), .v (.int .i64 x.2.2)] : D)) (p := fun x : Int × Int × Int => (inI64 x.1) ∧ (inI64 x.2.1) ∧ (inI64 x.2.2)) (es := es17) (fun e he => by
    obtain ⟨cs, rfl, q⟩ := h17 e he
    obtain ⟨d28, r28, rfl, p28, q28⟩ := oks_c q
    obtain ⟨x0, rfl, b0⟩ := ok_i p28
    obtain ⟨d29, r29, rfl, p29, q29⟩ := oks_c q28
    obtain ⟨x1, rfl, b1⟩ := ok_i p29
    obtain ⟨d30, r30, rfl, p30, q30⟩ := oks_c q29
    obtain ⟨x2, rfl, b2⟩ := ok_i p30
    rw [oks_n q30]
    exact ⟨(x0, x1, x2), rfl, ⟨i64_b b0, i64_b b1, i64_b b2⟩⟩)
  rw [List.length_map] at l17
  cases oks_n q27
  cases okAs_n hh21
  exact c_law03_DrivePoints (law_DrivePoints a0 a1 a2 a3 a4 a5 a6 a7 a8 a9 a10 a11 a12 a13 a14 a15 a16 a17)
end Go.Proofs.YtmgbmngmmpeaaaaGreatDoor
