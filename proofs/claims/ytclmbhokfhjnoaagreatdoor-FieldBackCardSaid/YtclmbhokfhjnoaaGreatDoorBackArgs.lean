/-
  The arguments of FieldBack, taken apart; the law is computed, and true. An own text.
-/
import Derived.Test.YtclmbhokfhjnoaaGreatDoorArgs
import Derived.Test.YtclmbhokfhjnoaaGreatDoorBackLaw
set_option linter.unusedVariables false
set_option linter.unusedSimpArgs false
set_option linter.unnecessarySimpa false
namespace Go.Proofs.YtclmbhokfhjnoaaGreatDoor
open Go.SX
theorem hlaw_FieldBack (Ds : List D) (hh : okAs [(false, [.lst true [.str, .int .i64, .int .i64, .int .i64, .int .i64, .int .i64, .int .i64, .int .i64, .int .i64, .int .i64]]), (false, [.str])] Ds) : Computes cx 4 Ds (.v (.bool true)) := by
  obtain ⟨d1, l1_, rfl, p1, hh1⟩ := okAs_c hh
  obtain ⟨es0, rfl, l0, h0⟩ := ok_lt (okA_f p1)
  obtain ⟨a0, rfl, b0⟩ := map_of (enc := fun x : ByteArray × Int × Int × Int × Int × Int × Int × Int × Int × Int => (.agg [.v (.string x.1), .v (.int .i64 x.2.1), .v (.int .i64 x.2.2.1), .v (.int .i64 x.2.2.2.1), .v (.int .i64 x.2.2.2.2.1), .v (.int .i64 x.2.2.2.2.2.1), .v (.int .i64 x.2.2.2.2.2.2.1), .v (.int .i64 x.2.2.2.2.2.2.2.1), .v (.int .i64 x.2.2.2.2.2.2.2.2.1), .v (.int .i64 x.2.2.2.2.2.2.2.2.2)] : D)) (p := fun x : ByteArray × Int × Int × Int × Int × Int × Int × Int × Int × Int => (x.1.size ≤ maxLen) ∧ (inI64 x.2.1) ∧ (inI64 x.2.2.1) ∧ (inI64 x.2.2.2.1) ∧ (inI64 x.2.2.2.2.1) ∧ (inI64 x.2.2.2.2.2.1) ∧ (inI64 x.2.2.2.2.2.2.1) ∧ (inI64 x.2.2.2.2.2.2.2.1) ∧ (inI64 x.2.2.2.2.2.2.2.2.1) ∧ (inI64 x.2.2.2.2.2.2.2.2.2)) (es := es0) (fun e he => by
    obtain ⟨cs, rfl, q⟩ := h0 e he
    obtain ⟨d2, r2, rfl, p2, q2⟩ := oks_c q
    obtain ⟨x0, rfl, b0⟩ := ok_s p2
    obtain ⟨d3, r3, rfl, p3, q3⟩ := oks_c q2
    obtain ⟨x1, rfl, b1⟩ := ok_i p3
    obtain ⟨d4, r4, rfl, p4, q4⟩ := oks_c q3
    obtain ⟨x2, rfl, b2⟩ := ok_i p4
    obtain ⟨d5, r5, rfl, p5, q5⟩ := oks_c q4
    obtain ⟨x3, rfl, b3⟩ := ok_i p5
    obtain ⟨d6, r6, rfl, p6, q6⟩ := oks_c q5
    obtain ⟨x4, rfl, b4⟩ := ok_i p6
    obtain ⟨d7, r7, rfl, p7, q7⟩ := oks_c q6
    obtain ⟨x5, rfl, b5⟩ := ok_i p7
    obtain ⟨d8, r8, rfl, p8, q8⟩ := oks_c q7
    obtain ⟨x6, rfl, b6⟩ := ok_i p8
    obtain ⟨d9, r9, rfl, p9, q9⟩ := oks_c q8
    obtain ⟨x7, rfl, b7⟩ := ok_i p9
    obtain ⟨d10, r10, rfl, p10, q10⟩ := oks_c q9
    obtain ⟨x8, rfl, b8⟩ := ok_i p10
    obtain ⟨d11, r11, rfl, p11, q11⟩ := oks_c q10
    obtain ⟨x9, rfl, b9⟩ := ok_i p11
    rw [oks_n q11]
    exact ⟨(x0, x1, x2, x3, x4, x5, x6, x7, x8, x9), rfl, ⟨b0, i64_b b1, i64_b b2, i64_b b3, i64_b b4, i64_b b5, i64_b b6, i64_b b7, i64_b b8, i64_b b9⟩⟩)
  rw [List.length_map] at l0
  obtain ⟨d12, l12_, rfl, p12, hh12⟩ := okAs_c hh1
  obtain ⟨a1, rfl, h1⟩ := ok_s (okA_f p12)
  cases okAs_n hh12
  exact c_law04_FieldBack (law_FieldBack a0 a1 (Nat.le_trans l0 (by decide)))
end Go.Proofs.YtclmbhokfhjnoaaGreatDoor
