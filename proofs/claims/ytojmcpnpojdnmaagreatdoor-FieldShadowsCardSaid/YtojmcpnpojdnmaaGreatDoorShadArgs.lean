/-
  The arguments of FieldShadows, taken apart; the law is computed, and true. An own text.
-/
import Derived.Test.YtojmcpnpojdnmaaGreatDoorArgs
import Derived.Test.YtojmcpnpojdnmaaGreatDoorShadLaw
set_option linter.unusedVariables false
namespace Go.Proofs.YtojmcpnpojdnmaaGreatDoor
open Go.SX
theorem hlaw_FieldShadows (Ds : List D) (hh : okAs [(false, [.lst true [.str, .int .i64, .int .i64, .int .i64, .int .i64, .int .i64, .int .i64, .int .i64, .int .i64, .int .i64]]), (true, [.int .i64, .int .i64, .int .i64, .int .i64, .int .i64, .int .i64, .int .i64, .int .i64])] Ds) : Computes cx 6 Ds (.v (.bool true)) := by
  obtain ⟨d1, l1_, rfl, p1, hh1⟩ := okAs_c hh
  obtain ⟨es0, rfl, l0, h0⟩ := ok_lt (okA_f p1)
  obtain ⟨a0, rfl, b0⟩ := map_of (enc := fun x : ByteArray × Int × Int × Int × Int × Int × Int × Int × Int × Int => (.agg [.v (.string x.1), .v (.int .i64 x.2.1), .v (.int .i64 x.2.2.1), .v (.int .i64 x.2.2.2.1), .v (.int .i64 x.2.2.2.2.1), .v (.int .i64 x.2.2.2.2.2.1), .v (.int .i64 x.2.2.2.2.2.2.1), .v (.int .i64 x.2.2.2.2.2.2.2.1), .v (.int .i64 x.2.2.2.2.2.2.2.2.1), .v (.int .i64 x.2.2.2.2.2.2.2.2.2)] : D)) (p := fun x : ByteArray × Int × Int × Int × Int × Int × Int × Int × Int × Int => (x.1.size ≤ maxLen) ∧ (inI64 x.2.1) ∧ (inI64 x.2.2.1) ∧ (inI64 x.2.2.2.1) ∧ (inI64 x.2.2.2.2.1) ∧ (inI64 x.2.2.2.2.2.1) ∧ (inI64 x.2.2.2.2.2.2.1) ∧ (inI64 x.2.2.2.2.2.2.2.1) ∧ (inI64 x.2.2.2.2.2.2.2.2.1) ∧ (inI64 x.2.2.2.2.2.2.2.2.2)) (es := es0) (fun e he => by
    obtain ⟨cs, rfl, q⟩ := h0 e he
    obtain ⟨d2, r2, rfl, p2, q2⟩ := oks_c q
    obtain ⟨x0, rfl, b0⟩ := ok_s p2
    obtain ⟨d3, r3, rfl, p3, q3⟩ := oks_c q2
    obtain ⟨x1, rfl, b1⟩ := ok_i p3
    obtain ⟨d4, r4, rfl, p4, q4⟩ := oks_c q3
    obtain ⟨x2, rfl, b2⟩ := ok_i p4
    obtain ⟨d5, r5, rfl, p5, q5⟩ := oks_c q4
    obtain ⟨x3, rfl, b3⟩ := ok_i p5
    obtain ⟨d6, r6, rfl, p6, q6⟩ := oks_c q5
    obtain ⟨x4, rfl, b4⟩ := ok_i p6
    obtain ⟨d7, r7, rfl, p7, q7⟩ := oks_c q6
    obtain ⟨x5, rfl, b5⟩ := ok_i p7
    obtain ⟨d8, r8, rfl, p8, q8⟩ := oks_c q7
    obtain ⟨x6, rfl, b6⟩ := ok_i p8
    obtain ⟨d9, r9, rfl, p9, q9⟩ := oks_c q8
    obtain ⟨x7, rfl, b7⟩ := ok_i p9
    obtain ⟨d10, r10, rfl, p10, q10⟩ := oks_c q9
    obtain ⟨x8, rfl, b8⟩ := ok_i p10
    obtain ⟨d11, r11, rfl, p11, q11⟩ := oks_c q10
    obtain ⟨x9, rfl, b9⟩ := ok_i p11
    rw [oks_n q11]
    exact ⟨(x0, x1, x2, x3, x4, x5, x6, x7, x8, x9), rfl, ⟨b0, i64_b b1, i64_b b2, i64_b b3, i64_b b4, i64_b b5, i64_b b6, i64_b b7, i64_b b8, i64_b b9⟩⟩)
  rw [List.length_map] at l0
  obtain ⟨d12, l12_, rfl, p12, hh12⟩ := okAs_c hh1
  obtain ⟨cs13, rfl, q13⟩ := okA_t p12
  obtain ⟨d14, r14, rfl, p14, q14⟩ := oks_c q13
  obtain ⟨a1, rfl, h1⟩ := ok_i p14
  have b1 := i64_b h1
  obtain ⟨d15, r15, rfl, p15, q15⟩ := oks_c q14
  obtain ⟨a2, rfl, h2⟩ := ok_i p15
  have b2 := i64_b h2
  obtain ⟨d16, r16, rfl, p16, q16⟩ := oks_c q15
  obtain ⟨a3, rfl, h3⟩ := ok_i p16
  have b3 := i64_b h3
  obtain ⟨d17, r17, rfl, p17, q17⟩ := oks_c q16
  obtain ⟨a4, rfl, h4⟩ := ok_i p17
  have b4 := i64_b h4
  obtain ⟨d18, r18, rfl, p18, q18⟩ := oks_c q17
  obtain ⟨a5, rfl, h5⟩ := ok_i p18
  have b5 := i64_b h5
  obtain ⟨d19, r19, rfl, p19, q19⟩ := oks_c q18
  obtain ⟨a6, rfl, h6⟩ := ok_i p19
  have b6 := i64_b h6
  obtain ⟨d20, r20, rfl, p20, q20⟩ := oks_c q19
  obtain ⟨a7, rfl, h7⟩ := ok_i p20
  have b7 := i64_b h7
  obtain ⟨d21, r21, rfl, p21, q21⟩ := oks_c q20
  obtain ⟨a8, rfl, h8⟩ := ok_i p21
  have b8 := i64_b h8
  cases oks_n q21
  cases okAs_n hh12
  exact c_law04_FieldShadows (law_FieldShadows a0 a1 a2 a3 a4 a5 a6 a7 a8 (Nat.le_trans l0 (by decide)))
end Go.Proofs.YtojmcpnpojdnmaaGreatDoor
