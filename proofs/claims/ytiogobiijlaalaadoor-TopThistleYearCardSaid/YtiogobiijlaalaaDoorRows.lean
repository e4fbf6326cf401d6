/-
  NARROWER THAN 'FOR EVERY INPUT', by the rows' own cells (each row's printed sentence says how): TopThistleReflected: laid · TopThistleYear: laid.
  DERIVED. THE GIVEN ROWS OF THIS SEAT. 2 by the template 'for every input the law returns true; each argument reads behind the call as it read before'; 0 by the template 'total and deterministic' (their statements: YtiogobiijlaalaaDoorTotals.lean).
  GIVEN WITH THE SEED: the statements are not yours to turn. If you find one false, say at which input.
  Laid BY PROGRAM, IN A SANDBOX (cutbox-rows.mjs): the forced cells as the released guide's own fill.sh prints them over the translation aa0e77d4ea6b5838… (all of the seat's roots in one cut). By AI agents, Wed Nov 11 2026. No macro, syntax, notation, axiom, sorry.
-/
import Derived.Test.YtiogobiijlaalaaDoorChecked
import GoSem.Claim
import GoSem.ClaimJoined
import GoSem.ClaimMapViews
import Derived.JoinedTies
import Derived.KernelRfl
namespace Go.Proofs.YtiogobiijlaalaaDoor
/- THE CELL 'sum', in the pinned program and in every row, IS THE sha256 OF THE DUMP (.gsa) THAT YtiogobiijlaalaaDoorProg.lean LOADS. Nothing in Lean hashes anything: it is a label: what it is worth is what the hold of that sum in a sandbox is worth. -/
noncomputable def Tryd.pinned : Pinned := { name := "ytiogobiijlaalaadoor", sum := "aa0e77d4ea6b583823ce063364c3d5ea6e9a18fdc0f92d7db07b546e4833135e", checked := Tryd.checked }
namespace Rows
def none {H : Type} : Left H := { results := [], args := [] }

/- WHAT THE LISTED PACKAGE-LEVEL VARIABLES READ AS WHEN THE CALL BEGINS. Each datum BY PROGRAM (the guide's laid-datum.mjs) off the statement by which the dump's own 'gosem.cut.vars' lays the variable. In a bare row this is a premise. The card (YtiogobiijlaalaaDoorCards.lean) ties it to the program's text. -/
def laid_spillage_sun_axes {H : Type} : DataW H := .agg [.agg [.lit (.int .i64 1), .lit (.int .i64 0), .lit (.int .i64 0)], .agg [.lit (.int .i64 0), .lit (.int .i64 0), .lit (.int .i64 1)]]

/-- 'spillagetop.TopThistleReflected': WHATEVER THE INPUT: true; the input reads as it did. -/
def topThistleReflectedSpec : ChangeSpec := { name := "topThistleReflected", fn := fun _ => fun
  | [d1, d2, d3] => { results := [.lit (.bool true)], args := [d1, d2, d3] }
  | _ => none }
def topThistleReflectedRow : OpenClaim := { program := "ytiogobiijlaalaadoor", sum := "aa0e77d4ea6b583823ce063364c3d5ea6e9a18fdc0f92d7db07b546e4833135e", func := "spillage/spillagetop.TopThistleReflected", spec := "topThistleReflected", unfollowed := true, recurses := true, named := ["spillage/sun.axes"], apart := false, laid := [("spillage/sun.axes", laid_spillage_sun_axes)] }
def TopThistleReflectedSaid : Prop := topThistleReflectedRow.holds Tryd.pinned (OpenSpec.ofChange topThistleReflectedSpec)

/-- ITS FALSE NEIGHBOUR: 'it returns false'. Refute it at one input. -/
def topThistleReflectedWrong : ChangeSpec := { name := "topThistleReflected", fn := fun _ => fun
  | [d1, d2, d3] => { results := [.lit (.bool false)], args := [d1, d2, d3] }
  | _ => none }
def TopThistleReflectedWrongFalsely : Prop := topThistleReflectedRow.holds Tryd.pinned (OpenSpec.ofChange topThistleReflectedWrong)

/-- 'spillagetop.TopThistleYear': WHATEVER THE INPUT: true; the input reads as it did. -/
def topThistleYearSpec : ChangeSpec := { name := "topThistleYear", fn := fun _ => fun
  | [d1, d2, d3] => { results := [.lit (.bool true)], args := [d1, d2, d3] }
  | _ => none }
def topThistleYearRow : OpenClaim := { program := "ytiogobiijlaalaadoor", sum := "aa0e77d4ea6b583823ce063364c3d5ea6e9a18fdc0f92d7db07b546e4833135e", func := "spillage/spillagetop.TopThistleYear", spec := "topThistleYear", unfollowed := true, recurses := true, named := ["spillage/sun.axes"], apart := false, laid := [("spillage/sun.axes", laid_spillage_sun_axes)] }
def TopThistleYearSaid : Prop := topThistleYearRow.holds Tryd.pinned (OpenSpec.ofChange topThistleYearSpec)

/-- ITS FALSE NEIGHBOUR: 'it returns false'. Refute it at one input. -/
def topThistleYearWrong : ChangeSpec := { name := "topThistleYear", fn := fun _ => fun
  | [d1, d2, d3] => { results := [.lit (.bool false)], args := [d1, d2, d3] }
  | _ => none }
def TopThistleYearWrongFalsely : Prop := topThistleYearRow.holds Tryd.pinned (OpenSpec.ofChange topThistleYearWrong)

/- THE SECOND FORM. 'bulk': how many values and letters a reading holds, each counted each time it is reached (what is shared counts as often as it is met; a slice's spare places count too). A statement '..UptoSaid' is the law's where the arguments, and the package variables that the reading takes, are together of bulk at most 1048576: NARROWER than '..Said'. Prove '..Said' where nothing that the law and all that it calls make is longer than what came in: it says more and counts as full. Else prove '..UptoSaid'. A law counts once. -/
mutual
def uptoBulk {H : Type} : DataW H → Nat
  | .lit (.string bytes) => bytes.length + 1
  | .lit _ => 1
  | .nil => 1
  | .ptr d => uptoBulk d + 1
  | .slice elems spare => uptoBulkAll elems + uptoBulkAll spare + 1
  | .agg parts => uptoBulkAll parts + 1
  | .iface _ d => uptoBulk d + 1
  | .map entries => uptoBulkEntries entries + 1
  | .held _ => 1
def uptoBulkAll {H : Type} : List (DataW H) → Nat
  | [] => 0
  | d :: r => uptoBulk d + uptoBulkAll r
def uptoBulkEntries {H : Type} : List (Lit × DataW H) → Nat
  | [] => 0
  | x :: r => uptoBulkEntry x + uptoBulkEntries r
def uptoBulkEntry {H : Type} : Lit × DataW H → Nat
  | (.string bytes, d) => bytes.length + uptoBulk d + 1
  | (_, d) => uptoBulk d + 1
 end
def uptoSmall : (H : Type) → List (DataW H) → Bool := fun _ ds => decide (uptoBulkAll ds ≤ 1048576)
def OpenSpec.upto (s : _root_.Go.ChangeSpec) : _root_.Go.OpenSpec := { _root_.Go.OpenSpec.ofChange s with cond := some uptoSmall }

/-- 'spillagetop.TopThistleReflected', WHERE WHAT IT READS IS OF BULK AT MOST 1048576: true; the input reads as it did. -/
def topThistleReflectedUptoRow : OpenClaim := { program := "ytiogobiijlaalaadoor", sum := "aa0e77d4ea6b583823ce063364c3d5ea6e9a18fdc0f92d7db07b546e4833135e", func := "spillage/spillagetop.TopThistleReflected", spec := "topThistleReflected", unfollowed := true, recurses := true, named := ["spillage/sun.axes"], apart := false, laid := [("spillage/sun.axes", laid_spillage_sun_axes)], narrowed := true }
def TopThistleReflectedUptoSaid : Prop := topThistleReflectedUptoRow.holds Tryd.pinned (OpenSpec.upto topThistleReflectedSpec)

/-- 'spillagetop.TopThistleYear', WHERE WHAT IT READS IS OF BULK AT MOST 1048576: true; the input reads as it did. -/
def topThistleYearUptoRow : OpenClaim := { program := "ytiogobiijlaalaadoor", sum := "aa0e77d4ea6b583823ce063364c3d5ea6e9a18fdc0f92d7db07b546e4833135e", func := "spillage/spillagetop.TopThistleYear", spec := "topThistleYear", unfollowed := true, recurses := true, named := ["spillage/sun.axes"], apart := false, laid := [("spillage/sun.axes", laid_spillage_sun_axes)], narrowed := true }
def TopThistleYearUptoSaid : Prop := topThistleYearUptoRow.holds Tryd.pinned (OpenSpec.upto topThistleYearSpec)

end Rows
end Go.Proofs.YtiogobiijlaalaaDoor
