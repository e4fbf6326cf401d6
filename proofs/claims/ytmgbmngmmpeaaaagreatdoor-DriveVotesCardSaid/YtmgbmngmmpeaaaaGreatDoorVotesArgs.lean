/-
  The arguments of DriveVotes, taken apart; the law is computed, and true. An own text.
-/
import Derived.Test.YtmgbmngmmpeaaaaGreatDoorArgs
import Derived.Test.YtmgbmngmmpeaaaaGreatDoorVotesLaw
set_option linter.unusedVariables false
set_option linter.unusedSimpArgs false
set_option linter.unnecessarySimpa false
namespace Go.Proofs.YtmgbmngmmpeaaaaGreatDoor
open Go.SX
theorem hlaw_DriveVotes (Ds : List D) (hh : okAs [(true, [.int .i64, .int .i64, .int .i64]), (false, [.int .i64])] Ds) : Computes cx 8 Ds (.v (.bool true)) := by
  obtain ⟨d1, l1_, rfl, p1, hh1⟩ := okAs_c hh
  obtain ⟨cs2, rfl, q2⟩ := okA_t p1
  obtain ⟨d3, r3, rfl, p3, q3⟩ := oks_c q2
  obtain ⟨a0, rfl, h0⟩ := ok_i p3
  have b0 := i64_b h0
  obtain ⟨d4, r4, rfl, p4, q4⟩ := oks_c q3
  obtain ⟨a1, rfl, h1⟩ := ok_i p4
  have b1 := i64_b h1
  obtain ⟨d5, r5, rfl, p5, q5⟩ := oks_c q4
  obtain ⟨a2, rfl, h2⟩ := ok_i p5
  have b2 := i64_b h2
  cases oks_n q5
  obtain ⟨d6, l6_, rfl, p6, hh6⟩ := okAs_c hh1
  obtain ⟨a3, rfl, h3⟩ := ok_i (okA_f p6)
  have b3 := i64_b h3
  cases okAs_n hh6
  exact c_law03_DriveVotes (law_DriveVotes a0 a1 a2 a3)
end Go.Proofs.YtmgbmngmmpeaaaaGreatDoor
