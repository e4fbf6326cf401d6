/-
  The arguments of DriveHits, taken apart; the law is computed, and true. An own text.
-/
import Derived.Test.YtmgbmngmmpeaaaaGreatDoorArgs
import Derived.Test.YtmgbmngmmpeaaaaGreatDoorHitsLaw
set_option linter.unusedVariables false
set_option linter.unusedSimpArgs false
set_option linter.unnecessarySimpa false
namespace Go.Proofs.YtmgbmngmmpeaaaaGreatDoor
open Go.SX
theorem hlaw_DriveHits (Ds : List D) (hh : okAs [(true, [.int .i64, .int .i64, .int .i64, .int .i64, .int .i64, .int .i64, .int .i64, .int .i64]), (false, [.lst true [.int .i64, .int .i64, .int .i64]])] Ds) : Computes cx 11 Ds (.v (.bool true)) := by
  obtain ⟨d1, l1_, rfl, p1, hh1⟩ := okAs_c hh
  obtain ⟨cs2, rfl, q2⟩ := okA_t p1
  obtain ⟨d3, r3, rfl, p3, q3⟩ := oks_c q2
  obtain ⟨a0, rfl, h0⟩ := ok_i p3
  have b0 := i64_b h0
  obtain ⟨d4, r4, rfl, p4, q4⟩ := oks_c q3
  obtain ⟨a1, rfl, h1⟩ := ok_i p4
  have b1 := i64_b h1
  obtain ⟨d5, r5, rfl, p5, q5⟩ := oks_c q4
  obtain ⟨a2, rfl, h2⟩ := ok_i p5
  have b2 := i64_b h2
  obtain ⟨d6, r6, rfl, p6, q6⟩ := oks_c q5
  obtain ⟨a3, rfl, h3⟩ := ok_i p6
  have b3 := i64_b h3
  obtain ⟨d7, r7, rfl, p7, q7⟩ := oks_c q6
  obtain ⟨a4, rfl, h4⟩ := ok_i p7
  have b4 := i64_b h4
  obtain ⟨d8, r8, rfl, p8, q8⟩ := oks_c q7
  obtain ⟨a5, rfl, h5⟩ := ok_i p8
  have b5 := i64_b h5
  obtain ⟨d9, r9, rfl, p9, q9⟩ := oks_c q8
  obtain ⟨a6, rfl, h6⟩ := ok_i p9
  have b6 := i64_b h6
  obtain ⟨d10, r10, rfl, p10, q10⟩ := oks_c q9
  obtain ⟨a7, rfl, h7⟩ := ok_i p10
  have b7 := i64_b h7
  cases oks_n q10
  obtain ⟨d11, l11_, rfl, p11, hh11⟩ := okAs_c hh1
  obtain ⟨es8, rfl, l8, h8⟩ := ok_lt (okA_f p11)
  obtain ⟨a8, rfl, b8⟩ := map_of (enc := fun x : Int × Int × Int => (.agg [.v (.int .i64 x.1), .v (.int .i64 x.2.1), .v (.int .i64 x.2.2)] : D)) (p := fun x : Int × Int × Int => (inI64 x.1) ∧ (inI64 x.2.1) ∧ (inI64 x.2.2)) (es := es8) (fun e he => by
    obtain ⟨cs, rfl, q⟩ := h8 e he
    obtain ⟨d12, r12, rfl, p12, q12⟩ := oks_c q
    obtain ⟨x0, rfl, b0⟩ := ok_i p12
    obtain ⟨d13, r13, rfl, p13, q13⟩ := oks_c q12
    obtain ⟨x1, rfl, b1⟩ := ok_i p13
    obtain ⟨d14, r14, rfl, p14, q14⟩ := oks_c q13
    obtain ⟨x2, rfl, b2⟩ := ok_i p14
    rw [oks_n q14]
    exact ⟨(x0, x1, x2), rfl, ⟨i64_b b0, i64_b b1, i64_b b2⟩⟩)
  rw [List.length_map] at l8
  cases okAs_n hh11
  exact c_law03_DriveHits (law_DriveHits a0 a1 a2 a3 a4 a5 a6 a7 a8)
end Go.Proofs.YtmgbmngmmpeaaaaGreatDoor
