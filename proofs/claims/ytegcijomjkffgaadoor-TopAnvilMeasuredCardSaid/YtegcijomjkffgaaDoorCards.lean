/-
  DERIVED. GIVEN WITH THE SEED: THE CARDS: each row of YtegcijomjkffgaaDoorRows.lean that lists a variable, with what it lists TIED to the program's text (the seventh form; the later family's looks); each row that meets fmt, with fmt's text TOLD by the authors' own Lean function (tested against real Go, not proved from fmt's source: count such statements apart). THE CARD IS WHAT COUNTS. Prove the row's statement (the work); the ties are given (YtegcijomjkffgaaDoorTie.lean); close each card by the builder's one call (the guide's Derived/Test/ToyasCard.lean, 'card_holds'). Laid BY PROGRAM, IN A SANDBOX (cutbox-door.mjs). By AI agents, Wed Nov 11 2026. No macro, syntax, notation, axiom, sorry.
-/
import Derived.Test.YtegcijomjkffgaaDoorRows
import GoSem.ClaimSeven
namespace Go.Proofs.YtegcijomjkffgaaDoor
namespace Rows

/-- THE TIED CARD OF 'spillagetop.TopAnvilMeasured'. -/
def topAnvilMeasuredCard : Claim7 := { stood := { row := topAnvilMeasuredRow, standIns := [], harness := (true, "2ff60fcdd29dc050a754424d47015e8318ab9d3f2a0ff42a6759390373b7de35"), looks := false }, kinds := [], alts := [], laidByText := true, laidKinds := [.data], laidTests := true, laidLooks := .later }
def TopAnvilMeasuredCardSaid : Prop := Claim7.holds Tryd.pinned (.plain (OpenSpec.ofChange topAnvilMeasuredSpec)) topAnvilMeasuredCard

/-- THE SECOND FORM's CARD OF 'spillagetop.TopAnvilMeasured'. -/
def topAnvilMeasuredUptoCard : Claim7 := { stood := { row := topAnvilMeasuredUptoRow, standIns := [], harness := (true, "2ff60fcdd29dc050a754424d47015e8318ab9d3f2a0ff42a6759390373b7de35"), looks := false }, kinds := [], alts := [], laidByText := true, laidKinds := [.data], laidTests := true, laidLooks := .later }
def TopAnvilMeasuredUptoCardSaid : Prop := Claim7.holds Tryd.pinned (.plain (OpenSpec.upto topAnvilMeasuredSpec)) topAnvilMeasuredUptoCard
end Rows
end Go.Proofs.YtegcijomjkffgaaDoor
