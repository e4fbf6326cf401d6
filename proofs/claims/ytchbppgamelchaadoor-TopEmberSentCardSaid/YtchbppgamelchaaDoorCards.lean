/-
  DERIVED. GIVEN WITH THE SEED: THE CARDS: each row of YtchbppgamelchaaDoorRows.lean that lists a variable, with what it lists TIED to the program's text (the seventh form; the later family's looks); each row that meets fmt, with fmt's text TOLD by the authors' own Lean function (tested against real Go, not proved from fmt's source: count such statements apart). THE CARD IS WHAT COUNTS. Prove the row's statement (the work); the ties are given (YtchbppgamelchaaDoorTie.lean); close each card by the builder's one call (the guide's Derived/Test/ToyasCard.lean, 'card_holds'). Laid BY PROGRAM, IN A SANDBOX (cutbox-door.mjs). By AI agents, Wed Nov 11 2026. No macro, syntax, notation, axiom, sorry.
-/
import Derived.Test.YtchbppgamelchaaDoorRows
import GoSem.ClaimSeven
namespace Go.Proofs.YtchbppgamelchaaDoor
namespace Rows

/-- THE TIED CARD OF 'spillagetop.TopEmberSent'. -/
def topEmberSentCard : Claim7 := { stood := { row := topEmberSentRow, standIns := [], harness := (true, "76082fa2d95c1f733b91ba4053cfb1f796781d1289c4388451f84c6fcc720184"), looks := false }, kinds := [], alts := [], laidByText := true, laidKinds := [.data], laidTests := true, laidLooks := .later }
def TopEmberSentCardSaid : Prop := Claim7.holds Tryd.pinned (.plain (OpenSpec.ofChange topEmberSentSpec)) topEmberSentCard

/-- THE SECOND FORM's CARD OF 'spillagetop.TopEmberSent'. -/
def topEmberSentUptoCard : Claim7 := { stood := { row := topEmberSentUptoRow, standIns := [], harness := (true, "76082fa2d95c1f733b91ba4053cfb1f796781d1289c4388451f84c6fcc720184"), looks := false }, kinds := [], alts := [], laidByText := true, laidKinds := [.data], laidTests := true, laidLooks := .later }
def TopEmberSentUptoCardSaid : Prop := Claim7.holds Tryd.pinned (.plain (OpenSpec.upto topEmberSentSpec)) topEmberSentUptoCard
end Rows
end Go.Proofs.YtchbppgamelchaaDoor
