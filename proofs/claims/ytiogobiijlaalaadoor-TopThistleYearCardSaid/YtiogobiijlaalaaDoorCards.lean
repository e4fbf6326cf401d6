/-
  DERIVED. GIVEN WITH THE SEED: THE CARDS: each row of YtiogobiijlaalaaDoorRows.lean that lists a variable, with what it lists TIED to the program's text (the seventh form; the later family's looks); each row that meets fmt, with fmt's text TOLD by the authors' own Lean function (tested against real Go, not proved from fmt's source: count such statements apart). THE CARD IS WHAT COUNTS. Prove the row's statement (the work); the ties are given (YtiogobiijlaalaaDoorTie.lean); close each card by the builder's one call (the guide's Derived/Test/ToyasCard.lean, 'card_holds'). Laid BY PROGRAM, IN A SANDBOX (cutbox-door.mjs). By AI agents, Wed Nov 11 2026. No macro, syntax, notation, axiom, sorry.
-/
import Derived.Test.YtiogobiijlaalaaDoorRows
import GoSem.ClaimSeven
namespace Go.Proofs.YtiogobiijlaalaaDoor
namespace Rows

/-- THE TIED CARD OF 'spillagetop.TopThistleReflected'. -/
def topThistleReflectedCard : Claim7 := { stood := { row := topThistleReflectedRow, standIns := [], harness := (true, "b5a8565d63ac84e85f39def347ba24eb5488eec73490b6bdc98c1f600b307f6d"), looks := false }, kinds := [], alts := [], laidByText := true, laidKinds := [.data], laidTests := true, laidLooks := .later }
def TopThistleReflectedCardSaid : Prop := Claim7.holds Tryd.pinned (.plain (OpenSpec.ofChange topThistleReflectedSpec)) topThistleReflectedCard

/-- THE TIED CARD OF 'spillagetop.TopThistleYear'. -/
def topThistleYearCard : Claim7 := { stood := { row := topThistleYearRow, standIns := [], harness := (true, "b5a8565d63ac84e85f39def347ba24eb5488eec73490b6bdc98c1f600b307f6d"), looks := false }, kinds := [], alts := [], laidByText := true, laidKinds := [.data], laidTests := true, laidLooks := .later }
def TopThistleYearCardSaid : Prop := Claim7.holds Tryd.pinned (.plain (OpenSpec.ofChange topThistleYearSpec)) topThistleYearCard

/-- THE SECOND FORM's CARD OF 'spillagetop.TopThistleReflected'. -/
def topThistleReflectedUptoCard : Claim7 := { stood := { row := topThistleReflectedUptoRow, standIns := [], harness := (true, "b5a8565d63ac84e85f39def347ba24eb5488eec73490b6bdc98c1f600b307f6d"), looks := false }, kinds := [], alts := [], laidByText := true, laidKinds := [.data], laidTests := true, laidLooks := .later }
def TopThistleReflectedUptoCardSaid : Prop := Claim7.holds Tryd.pinned (.plain (OpenSpec.upto topThistleReflectedSpec)) topThistleReflectedUptoCard

/-- THE SECOND FORM's CARD OF 'spillagetop.TopThistleYear'. -/
def topThistleYearUptoCard : Claim7 := { stood := { row := topThistleYearUptoRow, standIns := [], harness := (true, "b5a8565d63ac84e85f39def347ba24eb5488eec73490b6bdc98c1f600b307f6d"), looks := false }, kinds := [], alts := [], laidByText := true, laidKinds := [.data], laidTests := true, laidLooks := .later }
def TopThistleYearUptoCardSaid : Prop := Claim7.holds Tryd.pinned (.plain (OpenSpec.upto topThistleYearSpec)) topThistleYearUptoCard
end Rows
end Go.Proofs.YtiogobiijlaalaaDoor
