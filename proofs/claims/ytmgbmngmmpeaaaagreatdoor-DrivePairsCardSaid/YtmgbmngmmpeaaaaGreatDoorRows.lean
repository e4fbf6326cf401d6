/-
  NARROWER THAN 'FOR EVERY INPUT', by the rows' own cells (each row's printed sentence says how): DriveMoves: laid · DriveTracks: laid · DriveFits: laid · DriveModels: laid · DriveTargets: laid · DriveVotes: laid · DriveLoads: laid · DrivePlays: laid · DriveHits: laid · DriveGoals: laid · DrivePairs: laid · DriveSeen: laid · DrivePoints: laid · DriveTexts: laid · DriveBack: laid.
  DERIVED. THE GIVEN ROWS OF THIS SEAT. 15 by the template 'for every input the law returns true; each argument reads behind the call as it read before'; 0 by the template 'total and deterministic' (their statements: YtmgbmngmmpeaaaaGreatDoorTotals.lean).
  GIVEN WITH THE SEED: the statements are not yours to turn. If you find one false, say at which input.
  Laid BY PROGRAM, IN A SANDBOX (cutbox-rows.mjs): the forced cells as the released guide's own fill.sh prints them over the translation 7301962f8636c3df… (all of the seat's roots in one cut). By AI agents, Wed Nov 11 2026. No macro, syntax, notation, axiom, sorry.
-/
import Derived.Test.YtmgbmngmmpeaaaaGreatDoorChecked
import GoSem.PinnedTables
import GoSem.Claim
import GoSem.ClaimJoined
import GoSem.ClaimMapViews
import Derived.JoinedTies
import Derived.KernelRfl
namespace Go.Proofs.YtmgbmngmmpeaaaaGreatDoor
/- THE CELL 'sum', in the pinned program and in every row, IS THE sha256 OF THE DUMP (.gsa) THAT YtmgbmngmmpeaaaaGreatDoorProg.lean LOADS. Nothing in Lean hashes anything: it is a label: what it is worth is what the hold of that sum in a sandbox is worth. -/
noncomputable def Tryz.pinned : Pinned := { name := "ytmgbmngmmpeaaaagreatdoor", sum := "7301962f8636c3dfb873177e0da83f416d9788fc20a832b1cc36c941fc4f4335", checked := Tryz.checked }
namespace Rows
def none {H : Type} : Left H := { results := [], args := [] }

/- WHAT THE LISTED PACKAGE-LEVEL VARIABLES READ AS WHEN THE CALL BEGINS. Each datum BY PROGRAM (the guide's laid-datum.mjs) off the statement by which the dump's own 'gosem.cut.vars' lays the variable. In a bare row this is a premise. The card (YtmgbmngmmpeaaaaGreatDoorCards.lean) ties it to the program's text. -/
def laid_math_bits_deBruijn32tab {H : Type} : DataW H := .agg [.lit (.int .u8 0), .lit (.int .u8 1), .lit (.int .u8 28), .lit (.int .u8 2), .lit (.int .u8 29), .lit (.int .u8 14), .lit (.int .u8 24), .lit (.int .u8 3), .lit (.int .u8 30), .lit (.int .u8 22), .lit (.int .u8 20), .lit (.int .u8 15), .lit (.int .u8 25), .lit (.int .u8 17), .lit (.int .u8 4), .lit (.int .u8 8), .lit (.int .u8 31), .lit (.int .u8 27), .lit (.int .u8 13), .lit (.int .u8 23), .lit (.int .u8 21), .lit (.int .u8 19), .lit (.int .u8 16), .lit (.int .u8 7), .lit (.int .u8 26), .lit (.int .u8 12), .lit (.int .u8 18), .lit (.int .u8 6), .lit (.int .u8 11), .lit (.int .u8 5), .lit (.int .u8 10), .lit (.int .u8 9)]
def laid_math_bits_deBruijn64tab {H : Type} : DataW H := .agg [.lit (.int .u8 0), .lit (.int .u8 1), .lit (.int .u8 56), .lit (.int .u8 2), .lit (.int .u8 57), .lit (.int .u8 49), .lit (.int .u8 28), .lit (.int .u8 3), .lit (.int .u8 61), .lit (.int .u8 58), .lit (.int .u8 42), .lit (.int .u8 50), .lit (.int .u8 38), .lit (.int .u8 29), .lit (.int .u8 17), .lit (.int .u8 4), .lit (.int .u8 62), .lit (.int .u8 47), .lit (.int .u8 59), .lit (.int .u8 36), .lit (.int .u8 45), .lit (.int .u8 43), .lit (.int .u8 51), .lit (.int .u8 22), .lit (.int .u8 53), .lit (.int .u8 39), .lit (.int .u8 33), .lit (.int .u8 30), .lit (.int .u8 24), .lit (.int .u8 18), .lit (.int .u8 12), .lit (.int .u8 5), .lit (.int .u8 63), .lit (.int .u8 55), .lit (.int .u8 48), .lit (.int .u8 27), .lit (.int .u8 60), .lit (.int .u8 41), .lit (.int .u8 37), .lit (.int .u8 16), .lit (.int .u8 46), .lit (.int .u8 35), .lit (.int .u8 44), .lit (.int .u8 21), .lit (.int .u8 52), .lit (.int .u8 32), .lit (.int .u8 23), .lit (.int .u8 11), .lit (.int .u8 54), .lit (.int .u8 26), .lit (.int .u8 40), .lit (.int .u8 15), .lit (.int .u8 34), .lit (.int .u8 20), .lit (.int .u8 31), .lit (.int .u8 10), .lit (.int .u8 25), .lit (.int .u8 14), .lit (.int .u8 19), .lit (.int .u8 9), .lit (.int .u8 13), .lit (.int .u8 8), .lit (.int .u8 7), .lit (.int .u8 6)]
def laid_internal_strconv_uint64pow10 {H : Type} : DataW H := .agg [.lit (.int .u64 1), .lit (.int .u64 10), .lit (.int .u64 100), .lit (.int .u64 1000), .lit (.int .u64 10000), .lit (.int .u64 100000), .lit (.int .u64 1000000), .lit (.int .u64 10000000), .lit (.int .u64 100000000), .lit (.int .u64 1000000000), .lit (.int .u64 10000000000), .lit (.int .u64 100000000000), .lit (.int .u64 1000000000000), .lit (.int .u64 10000000000000), .lit (.int .u64 100000000000000), .lit (.int .u64 1000000000000000), .lit (.int .u64 10000000000000000), .lit (.int .u64 100000000000000000), .lit (.int .u64 1000000000000000000), .lit (.int .u64 10000000000000000000)]
def laid_spillage_drive_ends {H : Type} : DataW H := .agg [.agg [.lit (.int .i64 1), .lit (.int .i64 0)], .agg [.lit (.int .i64 0), .lit (.int .i64 1)]]
def laid_unicode_utf8_acceptRanges {H : Type} : DataW H := .agg [.agg [.lit (.int .u8 128), .lit (.int .u8 191)], .agg [.lit (.int .u8 160), .lit (.int .u8 191)], .agg [.lit (.int .u8 128), .lit (.int .u8 159)], .agg [.lit (.int .u8 144), .lit (.int .u8 191)], .agg [.lit (.int .u8 128), .lit (.int .u8 143)], .agg [.lit (.int .u8 0), .lit (.int .u8 0)], .agg [.lit (.int .u8 0), .lit (.int .u8 0)], .agg [.lit (.int .u8 0), .lit (.int .u8 0)], .agg [.lit (.int .u8 0), .lit (.int .u8 0)], .agg [.lit (.int .u8 0), .lit (.int .u8 0)], .agg [.lit (.int .u8 0), .lit (.int .u8 0)], .agg [.lit (.int .u8 0), .lit (.int .u8 0)], .agg [.lit (.int .u8 0), .lit (.int .u8 0)], .agg [.lit (.int .u8 0), .lit (.int .u8 0)], .agg [.lit (.int .u8 0), .lit (.int .u8 0)], .agg [.lit (.int .u8 0), .lit (.int .u8 0)]]
/-- One of Go's own tables, pinned by name: the form's constant. -/
def laid_unicode_utf8_first : DataW Unit := Go.Pinned.utf8First

/-- 'spillagelaw03.DriveMoves': WHATEVER THE INPUT: true; the input reads as it did. -/
def driveMovesSpec : ChangeSpec := { name := "driveMoves", fn := fun _ => fun
  | [d1, d2, d3] => { results := [.lit (.bool true)], args := [d1, d2, d3] }
  | _ => none }
def driveMovesRow : OpenClaim := { program := "ytmgbmngmmpeaaaagreatdoor", sum := "7301962f8636c3dfb873177e0da83f416d9788fc20a832b1cc36c941fc4f4335", func := "spillage/spillagelaw03.DriveMoves", spec := "driveMoves", inPlace := ["math.Float64bits", "math.Float64frombits", "math.archFloor", "math.archTrunc", "internal/abi.NoEscape", "internal/bytealg.MakeNoZero"], unfollowed := true, recurses := true, named := ["spillage/drive.ends", "internal/strconv.uint64pow10", "math/bits.deBruijn32tab", "math/bits.deBruijn64tab"], apart := false, laid := [("math/bits.deBruijn32tab", laid_math_bits_deBruijn32tab), ("math/bits.deBruijn64tab", laid_math_bits_deBruijn64tab), ("internal/strconv.uint64pow10", laid_internal_strconv_uint64pow10), ("spillage/drive.ends", laid_spillage_drive_ends)] }
def DriveMovesSaid : Prop := driveMovesRow.holds Tryz.pinned (OpenSpec.ofChange driveMovesSpec)

/-- ITS FALSE NEIGHBOUR: 'it returns false'. Refute it at one input. -/
def driveMovesWrong : ChangeSpec := { name := "driveMoves", fn := fun _ => fun
  | [d1, d2, d3] => { results := [.lit (.bool false)], args := [d1, d2, d3] }
  | _ => none }
def DriveMovesWrongFalsely : Prop := driveMovesRow.holds Tryz.pinned (OpenSpec.ofChange driveMovesWrong)

/-- 'spillagelaw03.DriveTracks': WHATEVER THE INPUT: true; the input reads as it did. -/
def driveTracksSpec : ChangeSpec := { name := "driveTracks", fn := fun _ => fun
  | [d1, d2, d3] => { results := [.lit (.bool true)], args := [d1, d2, d3] }
  | _ => none }
def driveTracksRow : OpenClaim := { program := "ytmgbmngmmpeaaaagreatdoor", sum := "7301962f8636c3dfb873177e0da83f416d9788fc20a832b1cc36c941fc4f4335", func := "spillage/spillagelaw03.DriveTracks", spec := "driveTracks", inPlace := ["math.Float64bits", "math.Float64frombits", "math.archFloor", "math.archTrunc", "internal/abi.NoEscape", "internal/bytealg.MakeNoZero"], unfollowed := true, recurses := true, named := ["spillage/drive.ends", "internal/strconv.uint64pow10", "math/bits.deBruijn32tab", "math/bits.deBruijn64tab"], apart := false, laid := [("math/bits.deBruijn32tab", laid_math_bits_deBruijn32tab), ("math/bits.deBruijn64tab", laid_math_bits_deBruijn64tab), ("internal/strconv.uint64pow10", laid_internal_strconv_uint64pow10), ("spillage/drive.ends", laid_spillage_drive_ends)] }
def DriveTracksSaid : Prop := driveTracksRow.holds Tryz.pinned (OpenSpec.ofChange driveTracksSpec)

/-- ITS FALSE NEIGHBOUR: 'it returns false'. Refute it at one input. -/
def driveTracksWrong : ChangeSpec := { name := "driveTracks", fn := fun _ => fun
  | [d1, d2, d3] => { results := [.lit (.bool false)], args := [d1, d2, d3] }
  | _ => none }
def DriveTracksWrongFalsely : Prop := driveTracksRow.holds Tryz.pinned (OpenSpec.ofChange driveTracksWrong)

/-- 'spillagelaw03.DriveFits': WHATEVER THE INPUT: true; the input reads as it did. -/
def driveFitsSpec : ChangeSpec := { name := "driveFits", fn := fun _ => fun
  | [d1, d2] => { results := [.lit (.bool true)], args := [d1, d2] }
  | _ => none }
def driveFitsRow : OpenClaim := { program := "ytmgbmngmmpeaaaagreatdoor", sum := "7301962f8636c3dfb873177e0da83f416d9788fc20a832b1cc36c941fc4f4335", func := "spillage/spillagelaw03.DriveFits", spec := "driveFits", inPlace := ["math.Float64bits", "math.Float64frombits", "math.archFloor", "math.archTrunc", "internal/abi.NoEscape", "internal/bytealg.MakeNoZero"], unfollowed := true, recurses := true, named := ["spillage/drive.ends", "internal/strconv.uint64pow10", "math/bits.deBruijn32tab", "math/bits.deBruijn64tab"], apart := false, laid := [("math/bits.deBruijn32tab", laid_math_bits_deBruijn32tab), ("math/bits.deBruijn64tab", laid_math_bits_deBruijn64tab), ("internal/strconv.uint64pow10", laid_internal_strconv_uint64pow10), ("spillage/drive.ends", laid_spillage_drive_ends)] }
def DriveFitsSaid : Prop := driveFitsRow.holds Tryz.pinned (OpenSpec.ofChange driveFitsSpec)

/-- ITS FALSE NEIGHBOUR: 'it returns false'. Refute it at one input. -/
def driveFitsWrong : ChangeSpec := { name := "driveFits", fn := fun _ => fun
  | [d1, d2] => { results := [.lit (.bool false)], args := [d1, d2] }
  | _ => none }
def DriveFitsWrongFalsely : Prop := driveFitsRow.holds Tryz.pinned (OpenSpec.ofChange driveFitsWrong)

/-- 'spillagelaw03.DriveModels': WHATEVER THE INPUT: true; the input reads as it did. -/
def driveModelsSpec : ChangeSpec := { name := "driveModels", fn := fun _ => fun
  | [d1, d2, d3] => { results := [.lit (.bool true)], args := [d1, d2, d3] }
  | _ => none }
def driveModelsRow : OpenClaim := { program := "ytmgbmngmmpeaaaagreatdoor", sum := "7301962f8636c3dfb873177e0da83f416d9788fc20a832b1cc36c941fc4f4335", func := "spillage/spillagelaw03.DriveModels", spec := "driveModels", inPlace := ["math.Float64bits", "math.Float64frombits", "math.archFloor", "math.archTrunc", "internal/abi.NoEscape", "internal/bytealg.MakeNoZero"], unfollowed := true, recurses := true, named := ["spillage/drive.ends", "internal/strconv.uint64pow10", "math/bits.deBruijn32tab", "math/bits.deBruijn64tab"], apart := false, laid := [("math/bits.deBruijn32tab", laid_math_bits_deBruijn32tab), ("math/bits.deBruijn64tab", laid_math_bits_deBruijn64tab), ("internal/strconv.uint64pow10", laid_internal_strconv_uint64pow10), ("spillage/drive.ends", laid_spillage_drive_ends)] }
def DriveModelsSaid : Prop := driveModelsRow.holds Tryz.pinned (OpenSpec.ofChange driveModelsSpec)

/-- ITS FALSE NEIGHBOUR: 'it returns false'. Refute it at one input. -/
def driveModelsWrong : ChangeSpec := { name := "driveModels", fn := fun _ => fun
  | [d1, d2, d3] => { results := [.lit (.bool false)], args := [d1, d2, d3] }
  | _ => none }
def DriveModelsWrongFalsely : Prop := driveModelsRow.holds Tryz.pinned (OpenSpec.ofChange driveModelsWrong)

/-- 'spillagelaw03.DriveTargets': WHATEVER THE INPUT: true; the input reads as it did. -/
def driveTargetsSpec : ChangeSpec := { name := "driveTargets", fn := fun _ => fun
  | [d1, d2, d3] => { results := [.lit (.bool true)], args := [d1, d2, d3] }
  | _ => none }
def driveTargetsRow : OpenClaim := { program := "ytmgbmngmmpeaaaagreatdoor", sum := "7301962f8636c3dfb873177e0da83f416d9788fc20a832b1cc36c941fc4f4335", func := "spillage/spillagelaw03.DriveTargets", spec := "driveTargets", inPlace := ["math.Float64bits", "math.Float64frombits", "math.archFloor", "math.archTrunc", "internal/abi.NoEscape", "internal/bytealg.MakeNoZero"], unfollowed := true, recurses := true, named := ["spillage/drive.ends", "internal/strconv.uint64pow10", "math/bits.deBruijn32tab", "math/bits.deBruijn64tab"], apart := false, laid := [("math/bits.deBruijn32tab", laid_math_bits_deBruijn32tab), ("math/bits.deBruijn64tab", laid_math_bits_deBruijn64tab), ("internal/strconv.uint64pow10", laid_internal_strconv_uint64pow10), ("spillage/drive.ends", laid_spillage_drive_ends)] }
def DriveTargetsSaid : Prop := driveTargetsRow.holds Tryz.pinned (OpenSpec.ofChange driveTargetsSpec)

/-- ITS FALSE NEIGHBOUR: 'it returns false'. Refute it at one input. -/
def driveTargetsWrong : ChangeSpec := { name := "driveTargets", fn := fun _ => fun
  | [d1, d2, d3] => { results := [.lit (.bool false)], args := [d1, d2, d3] }
  | _ => none }
def DriveTargetsWrongFalsely : Prop := driveTargetsRow.holds Tryz.pinned (OpenSpec.ofChange driveTargetsWrong)

/-- 'spillagelaw03.DriveVotes': WHATEVER THE INPUT: true; the input reads as it did. -/
def driveVotesSpec : ChangeSpec := { name := "driveVotes", fn := fun _ => fun
  | [d1, d2] => { results := [.lit (.bool true)], args := [d1, d2] }
  | _ => none }
def driveVotesRow : OpenClaim := { program := "ytmgbmngmmpeaaaagreatdoor", sum := "7301962f8636c3dfb873177e0da83f416d9788fc20a832b1cc36c941fc4f4335", func := "spillage/spillagelaw03.DriveVotes", spec := "driveVotes", inPlace := ["math.Float64bits", "math.Float64frombits", "math.archFloor", "math.archTrunc", "internal/abi.NoEscape", "internal/bytealg.MakeNoZero"], unfollowed := true, recurses := true, named := ["spillage/drive.ends", "internal/strconv.uint64pow10", "math/bits.deBruijn32tab", "math/bits.deBruijn64tab"], apart := false, laid := [("math/bits.deBruijn32tab", laid_math_bits_deBruijn32tab), ("math/bits.deBruijn64tab", laid_math_bits_deBruijn64tab), ("internal/strconv.uint64pow10", laid_internal_strconv_uint64pow10), ("spillage/drive.ends", laid_spillage_drive_ends)] }
def DriveVotesSaid : Prop := driveVotesRow.holds Tryz.pinned (OpenSpec.ofChange driveVotesSpec)

/-- ITS FALSE NEIGHBOUR: 'it returns false'. Refute it at one input. -/
def driveVotesWrong : ChangeSpec := { name := "driveVotes", fn := fun _ => fun
  | [d1, d2] => { results := [.lit (.bool false)], args := [d1, d2] }
  | _ => none }
def DriveVotesWrongFalsely : Prop := driveVotesRow.holds Tryz.pinned (OpenSpec.ofChange driveVotesWrong)

/-- 'spillagelaw03.DriveLoads': WHATEVER THE INPUT: true; the input reads as it did. -/
def driveLoadsSpec : ChangeSpec := { name := "driveLoads", fn := fun _ => fun
  | [d1, d2, d3] => { results := [.lit (.bool true)], args := [d1, d2, d3] }
  | _ => none }
def driveLoadsRow : OpenClaim := { program := "ytmgbmngmmpeaaaagreatdoor", sum := "7301962f8636c3dfb873177e0da83f416d9788fc20a832b1cc36c941fc4f4335", func := "spillage/spillagelaw03.DriveLoads", spec := "driveLoads", inPlace := ["math.Float64bits", "math.Float64frombits", "math.archFloor", "math.archTrunc", "internal/abi.NoEscape", "internal/bytealg.MakeNoZero"], unfollowed := true, recurses := true, named := ["spillage/drive.ends", "internal/strconv.uint64pow10", "math/bits.deBruijn32tab", "math/bits.deBruijn64tab"], apart := false, laid := [("math/bits.deBruijn32tab", laid_math_bits_deBruijn32tab), ("math/bits.deBruijn64tab", laid_math_bits_deBruijn64tab), ("internal/strconv.uint64pow10", laid_internal_strconv_uint64pow10), ("spillage/drive.ends", laid_spillage_drive_ends)] }
def DriveLoadsSaid : Prop := driveLoadsRow.holds Tryz.pinned (OpenSpec.ofChange driveLoadsSpec)

/-- ITS FALSE NEIGHBOUR: 'it returns false'. Refute it at one input. -/
def driveLoadsWrong : ChangeSpec := { name := "driveLoads", fn := fun _ => fun
  | [d1, d2, d3] => { results := [.lit (.bool false)], args := [d1, d2, d3] }
  | _ => none }
def DriveLoadsWrongFalsely : Prop := driveLoadsRow.holds Tryz.pinned (OpenSpec.ofChange driveLoadsWrong)

/-- 'spillagelaw03.DrivePlays': WHATEVER THE INPUT: true; the input reads as it did. -/
def drivePlaysSpec : ChangeSpec := { name := "drivePlays", fn := fun _ => fun
  | [d1, d2, d3] => { results := [.lit (.bool true)], args := [d1, d2, d3] }
  | _ => none }
def drivePlaysRow : OpenClaim := { program := "ytmgbmngmmpeaaaagreatdoor", sum := "7301962f8636c3dfb873177e0da83f416d9788fc20a832b1cc36c941fc4f4335", func := "spillage/spillagelaw03.DrivePlays", spec := "drivePlays", inPlace := ["math.Float64bits", "math.Float64frombits", "math.archFloor", "math.archTrunc", "internal/abi.NoEscape", "internal/bytealg.MakeNoZero"], unfollowed := true, recurses := true, named := ["spillage/drive.ends", "internal/strconv.uint64pow10", "math/bits.deBruijn32tab", "math/bits.deBruijn64tab"], apart := false, laid := [("math/bits.deBruijn32tab", laid_math_bits_deBruijn32tab), ("math/bits.deBruijn64tab", laid_math_bits_deBruijn64tab), ("internal/strconv.uint64pow10", laid_internal_strconv_uint64pow10), ("spillage/drive.ends", laid_spillage_drive_ends)] }
def DrivePlaysSaid : Prop := drivePlaysRow.holds Tryz.pinned (OpenSpec.ofChange drivePlaysSpec)

/-- ITS FALSE NEIGHBOUR: 'it returns false'. Refute it at one input. -/
def drivePlaysWrong : ChangeSpec := { name := "drivePlays", fn := fun _ => fun
  | [d1, d2, d3] => { results := [.lit (.bool false)], args := [d1, d2, d3] }
  | _ => none }
def DrivePlaysWrongFalsely : Prop := drivePlaysRow.holds Tryz.pinned (OpenSpec.ofChange drivePlaysWrong)

/-- 'spillagelaw03.DriveHits': WHATEVER THE INPUT: true; the input reads as it did. -/
def driveHitsSpec : ChangeSpec := { name := "driveHits", fn := fun _ => fun
  | [d1, d2] => { results := [.lit (.bool true)], args := [d1, d2] }
  | _ => none }
def driveHitsRow : OpenClaim := { program := "ytmgbmngmmpeaaaagreatdoor", sum := "7301962f8636c3dfb873177e0da83f416d9788fc20a832b1cc36c941fc4f4335", func := "spillage/spillagelaw03.DriveHits", spec := "driveHits", inPlace := ["math.Float64bits", "math.Float64frombits", "math.archFloor", "math.archTrunc", "internal/abi.NoEscape", "internal/bytealg.MakeNoZero"], unfollowed := true, recurses := true, named := ["spillage/drive.ends", "internal/strconv.uint64pow10", "math/bits.deBruijn32tab", "math/bits.deBruijn64tab"], apart := false, laid := [("math/bits.deBruijn32tab", laid_math_bits_deBruijn32tab), ("math/bits.deBruijn64tab", laid_math_bits_deBruijn64tab), ("internal/strconv.uint64pow10", laid_internal_strconv_uint64pow10), ("spillage/drive.ends", laid_spillage_drive_ends)] }
def DriveHitsSaid : Prop := driveHitsRow.holds Tryz.pinned (OpenSpec.ofChange driveHitsSpec)

/-- ITS FALSE NEIGHBOUR: 'it returns false'. Refute it at one input. -/
def driveHitsWrong : ChangeSpec := { name := "driveHits", fn := fun _ => fun
  | [d1, d2] => { results := [.lit (.bool false)], args := [d1, d2] }
  | _ => none }
def DriveHitsWrongFalsely : Prop := driveHitsRow.holds Tryz.pinned (OpenSpec.ofChange driveHitsWrong)

/-- 'spillagelaw03.DriveGoals': WHATEVER THE INPUT: true; the input reads as it did. -/
def driveGoalsSpec : ChangeSpec := { name := "driveGoals", fn := fun _ => fun
  | [d1, d2, d3] => { results := [.lit (.bool true)], args := [d1, d2, d3] }
  | _ => none }
def driveGoalsRow : OpenClaim := { program := "ytmgbmngmmpeaaaagreatdoor", sum := "7301962f8636c3dfb873177e0da83f416d9788fc20a832b1cc36c941fc4f4335", func := "spillage/spillagelaw03.DriveGoals", spec := "driveGoals", inPlace := ["math.Float64bits", "math.Float64frombits", "math.archFloor", "math.archTrunc", "internal/abi.NoEscape", "internal/bytealg.MakeNoZero"], unfollowed := true, recurses := true, named := ["spillage/drive.ends", "internal/strconv.uint64pow10", "math/bits.deBruijn32tab", "math/bits.deBruijn64tab"], apart := false, laid := [("math/bits.deBruijn32tab", laid_math_bits_deBruijn32tab), ("math/bits.deBruijn64tab", laid_math_bits_deBruijn64tab), ("internal/strconv.uint64pow10", laid_internal_strconv_uint64pow10), ("spillage/drive.ends", laid_spillage_drive_ends)] }
def DriveGoalsSaid : Prop := driveGoalsRow.holds Tryz.pinned (OpenSpec.ofChange driveGoalsSpec)

/-- ITS FALSE NEIGHBOUR: 'it returns false'. Refute it at one input. -/
def driveGoalsWrong : ChangeSpec := { name := "driveGoals", fn := fun _ => fun
  | [d1, d2, d3] => { results := [.lit (.bool false)], args := [d1, d2, d3] }
  | _ => none }
def DriveGoalsWrongFalsely : Prop := driveGoalsRow.holds Tryz.pinned (OpenSpec.ofChange driveGoalsWrong)

/-- 'spillagelaw03.DrivePairs': WHATEVER THE INPUT: true; the input reads as it did. -/
def drivePairsSpec : ChangeSpec := { name := "drivePairs", fn := fun _ => fun
  | [d1, d2] => { results := [.lit (.bool true)], args := [d1, d2] }
  | _ => none }
def drivePairsRow : OpenClaim := { program := "ytmgbmngmmpeaaaagreatdoor", sum := "7301962f8636c3dfb873177e0da83f416d9788fc20a832b1cc36c941fc4f4335", func := "spillage/spillagelaw03.DrivePairs", spec := "drivePairs", inPlace := ["math.Float64bits", "math.Float64frombits", "math.archFloor", "math.archTrunc", "internal/abi.NoEscape", "internal/bytealg.MakeNoZero"], unfollowed := true, recurses := true, named := ["spillage/drive.ends", "internal/strconv.uint64pow10", "math/bits.deBruijn32tab", "math/bits.deBruijn64tab"], apart := false, laid := [("math/bits.deBruijn32tab", laid_math_bits_deBruijn32tab), ("math/bits.deBruijn64tab", laid_math_bits_deBruijn64tab), ("internal/strconv.uint64pow10", laid_internal_strconv_uint64pow10), ("spillage/drive.ends", laid_spillage_drive_ends)] }
def DrivePairsSaid : Prop := drivePairsRow.holds Tryz.pinned (OpenSpec.ofChange drivePairsSpec)

/-- ITS FALSE NEIGHBOUR: 'it returns false'. Refute it at one input. -/
def drivePairsWrong : ChangeSpec := { name := "drivePairs", fn := fun _ => fun
  | [d1, d2] => { results := [.lit (.bool false)], args := [d1, d2] }
  | _ => none }
def DrivePairsWrongFalsely : Prop := drivePairsRow.holds Tryz.pinned (OpenSpec.ofChange drivePairsWrong)

/-- 'spillagelaw03.DriveSeen': WHATEVER THE INPUT: true; the input reads as it did. -/
def driveSeenSpec : ChangeSpec := { name := "driveSeen", fn := fun _ => fun
  | [d1, d2, d3] => { results := [.lit (.bool true)], args := [d1, d2, d3] }
  | _ => none }
def driveSeenRow : OpenClaim := { program := "ytmgbmngmmpeaaaagreatdoor", sum := "7301962f8636c3dfb873177e0da83f416d9788fc20a832b1cc36c941fc4f4335", func := "spillage/spillagelaw03.DriveSeen", spec := "driveSeen", inPlace := ["math.Float64bits", "math.Float64frombits", "math.archFloor", "math.archTrunc", "internal/abi.NoEscape", "internal/bytealg.MakeNoZero"], unfollowed := true, recurses := true, named := ["spillage/drive.ends", "internal/strconv.uint64pow10", "math/bits.deBruijn32tab", "math/bits.deBruijn64tab"], apart := false, laid := [("math/bits.deBruijn32tab", laid_math_bits_deBruijn32tab), ("math/bits.deBruijn64tab", laid_math_bits_deBruijn64tab), ("internal/strconv.uint64pow10", laid_internal_strconv_uint64pow10), ("spillage/drive.ends", laid_spillage_drive_ends)] }
def DriveSeenSaid : Prop := driveSeenRow.holds Tryz.pinned (OpenSpec.ofChange driveSeenSpec)

/-- ITS FALSE NEIGHBOUR: 'it returns false'. Refute it at one input. -/
def driveSeenWrong : ChangeSpec := { name := "driveSeen", fn := fun _ => fun
  | [d1, d2, d3] => { results := [.lit (.bool false)], args := [d1, d2, d3] }
  | _ => none }
def DriveSeenWrongFalsely : Prop := driveSeenRow.holds Tryz.pinned (OpenSpec.ofChange driveSeenWrong)

/-- 'spillagelaw03.DrivePoints': WHATEVER THE INPUT: true; the input reads as it did. -/
def drivePointsSpec : ChangeSpec := { name := "drivePoints", fn := fun _ => fun
  | [d1, d2, d3] => { results := [.lit (.bool true)], args := [d1, d2, d3] }
  | _ => none }
def drivePointsRow : OpenClaim := { program := "ytmgbmngmmpeaaaagreatdoor", sum := "7301962f8636c3dfb873177e0da83f416d9788fc20a832b1cc36c941fc4f4335", func := "spillage/spillagelaw03.DrivePoints", spec := "drivePoints", inPlace := ["math.Float64bits", "math.Float64frombits", "math.archFloor", "math.archTrunc", "internal/abi.NoEscape", "internal/bytealg.MakeNoZero"], unfollowed := true, recurses := true, named := ["spillage/drive.ends", "internal/strconv.uint64pow10", "math/bits.deBruijn32tab", "math/bits.deBruijn64tab"], apart := false, laid := [("math/bits.deBruijn32tab", laid_math_bits_deBruijn32tab), ("math/bits.deBruijn64tab", laid_math_bits_deBruijn64tab), ("internal/strconv.uint64pow10", laid_internal_strconv_uint64pow10), ("spillage/drive.ends", laid_spillage_drive_ends)] }
def DrivePointsSaid : Prop := drivePointsRow.holds Tryz.pinned (OpenSpec.ofChange drivePointsSpec)

/-- ITS FALSE NEIGHBOUR: 'it returns false'. Refute it at one input. -/
def drivePointsWrong : ChangeSpec := { name := "drivePoints", fn := fun _ => fun
  | [d1, d2, d3] => { results := [.lit (.bool false)], args := [d1, d2, d3] }
  | _ => none }
def DrivePointsWrongFalsely : Prop := drivePointsRow.holds Tryz.pinned (OpenSpec.ofChange drivePointsWrong)

/-- 'spillagelaw03.DriveTexts': WHATEVER THE INPUT: true; the input reads as it did. -/
def driveTextsSpec : ChangeSpec := { name := "driveTexts", fn := fun _ => fun
  | [d1, d2] => { results := [.lit (.bool true)], args := [d1, d2] }
  | _ => none }
def driveTextsRow : OpenClaim := { program := "ytmgbmngmmpeaaaagreatdoor", sum := "7301962f8636c3dfb873177e0da83f416d9788fc20a832b1cc36c941fc4f4335", func := "spillage/spillagelaw03.DriveTexts", spec := "driveTexts", inPlace := ["math.Float64bits", "math.Float64frombits", "math.archFloor", "math.archTrunc", "internal/abi.NoEscape", "internal/bytealg.MakeNoZero", "internal/bytealg.IndexByteString", "internal/bytealg.CountString", "internal/bytealg.IndexString"], unfollowed := true, recurses := true, named := ["spillage/drive.ends", "internal/strconv.uint64pow10", "math/bits.deBruijn32tab", "math/bits.deBruijn64tab", "unicode/utf8.first", "unicode/utf8.acceptRanges", "internal/bytealg.MaxLen"], apart := false, laid := [("math/bits.deBruijn32tab", laid_math_bits_deBruijn32tab), ("math/bits.deBruijn64tab", laid_math_bits_deBruijn64tab), ("internal/strconv.uint64pow10", laid_internal_strconv_uint64pow10), ("unicode/utf8.acceptRanges", laid_unicode_utf8_acceptRanges), ("spillage/drive.ends", laid_spillage_drive_ends), ("unicode/utf8.first", laid_unicode_utf8_first)] }
def DriveTextsSaid : Prop := driveTextsRow.holds Tryz.pinned (OpenSpec.ofChange driveTextsSpec)

/-- ITS FALSE NEIGHBOUR: 'it returns false'. Refute it at one input. -/
def driveTextsWrong : ChangeSpec := { name := "driveTexts", fn := fun _ => fun
  | [d1, d2] => { results := [.lit (.bool false)], args := [d1, d2] }
  | _ => none }
def DriveTextsWrongFalsely : Prop := driveTextsRow.holds Tryz.pinned (OpenSpec.ofChange driveTextsWrong)

/-- 'spillagelaw03.DriveBack': WHATEVER THE INPUT: true; the input reads as it did. -/
def driveBackSpec : ChangeSpec := { name := "driveBack", fn := fun _ => fun
  | [d1, d2] => { results := [.lit (.bool true)], args := [d1, d2] }
  | _ => none }
def driveBackRow : OpenClaim := { program := "ytmgbmngmmpeaaaagreatdoor", sum := "7301962f8636c3dfb873177e0da83f416d9788fc20a832b1cc36c941fc4f4335", func := "spillage/spillagelaw03.DriveBack", spec := "driveBack", inPlace := ["math.Float64bits", "math.Float64frombits", "math.archFloor", "math.archTrunc", "internal/abi.NoEscape", "internal/bytealg.MakeNoZero", "internal/bytealg.IndexByteString", "internal/bytealg.CountString", "internal/bytealg.IndexString"], unfollowed := true, recurses := true, named := ["spillage/drive.ends", "internal/strconv.uint64pow10", "math/bits.deBruijn32tab", "math/bits.deBruijn64tab", "unicode/utf8.first", "unicode/utf8.acceptRanges", "internal/bytealg.MaxLen"], apart := false, laid := [("math/bits.deBruijn32tab", laid_math_bits_deBruijn32tab), ("math/bits.deBruijn64tab", laid_math_bits_deBruijn64tab), ("internal/strconv.uint64pow10", laid_internal_strconv_uint64pow10), ("unicode/utf8.acceptRanges", laid_unicode_utf8_acceptRanges), ("spillage/drive.ends", laid_spillage_drive_ends), ("unicode/utf8.first", laid_unicode_utf8_first)] }
def DriveBackSaid : Prop := driveBackRow.holds Tryz.pinned (OpenSpec.ofChange driveBackSpec)

/-- ITS FALSE NEIGHBOUR: 'it returns false'. Refute it at one input. -/
def driveBackWrong : ChangeSpec := { name := "driveBack", fn := fun _ => fun
  | [d1, d2] => { results := [.lit (.bool false)], args := [d1, d2] }
  | _ => none }
def DriveBackWrongFalsely : Prop := driveBackRow.holds Tryz.pinned (OpenSpec.ofChange driveBackWrong)

/- THE SECOND FORM. 'bulk': how many values and letters a reading holds, each counted each time it is reached (what is shared counts as often as it is met; a slice's spare places count too). A statement '..UptoSaid' is the law's where the arguments, and the package variables that the reading takes, are together of bulk at most 1048576: NARROWER than '..Said'. Prove '..Said' where nothing that the law and all that it calls make is longer than what came in: it says more and counts as full. Else prove '..UptoSaid'. A law counts once. -/
mutual
def uptoBulk {H : Type} : DataW H → Nat
  | .lit (.string bytes) => bytes.length + 1
  | .lit _ => 1
  | .nil => 1
  | .ptr d => uptoBulk d + 1
  | .slice elems spare => uptoBulkAll elems + uptoBulkAll spare + 1
  | .agg parts => uptoBulkAll parts + 1
  | .iface _ d => uptoBulk d + 1
  | .map entries => uptoBulkEntries entries + 1
  | .held _ => 1
def uptoBulkAll {H : Type} : List (DataW H) → Nat
  | [] => 0
  | d :: r => uptoBulk d + uptoBulkAll r
def uptoBulkEntries {H : Type} : List (Lit × DataW H) → Nat
  | [] => 0
  | x :: r => uptoBulkEntry x + uptoBulkEntries r
def uptoBulkEntry {H : Type} : Lit × DataW H → Nat
  | (.string bytes, d) => bytes.length + uptoBulk d + 1
  | (_, d) => uptoBulk d + 1
 end
def uptoSmall : (H : Type) → List (DataW H) → Bool := fun _ ds => decide (uptoBulkAll ds ≤ 1048576)
def OpenSpec.upto (s : _root_.Go.ChangeSpec) : _root_.Go.OpenSpec := { _root_.Go.OpenSpec.ofChange s with cond := some uptoSmall }

/-- 'spillagelaw03.DriveMoves', WHERE WHAT IT READS IS OF BULK AT MOST 1048576: true; the input reads as it did. -/
def driveMovesUptoRow : OpenClaim := { program := "ytmgbmngmmpeaaaagreatdoor", sum := "7301962f8636c3dfb873177e0da83f416d9788fc20a832b1cc36c941fc4f4335", func := "spillage/spillagelaw03.DriveMoves", spec := "driveMoves", inPlace := ["math.Float64bits", "math.Float64frombits", "math.archFloor", "math.archTrunc", "internal/abi.NoEscape", "internal/bytealg.MakeNoZero"], unfollowed := true, recurses := true, named := ["spillage/drive.ends", "internal/strconv.uint64pow10", "math/bits.deBruijn32tab", "math/bits.deBruijn64tab"], apart := false, laid := [("math/bits.deBruijn32tab", laid_math_bits_deBruijn32tab), ("math/bits.deBruijn64tab", laid_math_bits_deBruijn64tab), ("internal/strconv.uint64pow10", laid_internal_strconv_uint64pow10), ("spillage/drive.ends", laid_spillage_drive_ends)], narrowed := true }
def DriveMovesUptoSaid : Prop := driveMovesUptoRow.holds Tryz.pinned (OpenSpec.upto driveMovesSpec)

/-- 'spillagelaw03.DriveTracks', WHERE WHAT IT READS IS OF BULK AT MOST 1048576: true; the input reads as it did. -/
def driveTracksUptoRow : OpenClaim := { program := "ytmgbmngmmpeaaaagreatdoor", sum := "7301962f8636c3dfb873177e0da83f416d9788fc20a832b1cc36c941fc4f4335", func := "spillage/spillagelaw03.DriveTracks", spec := "driveTracks", inPlace := ["math.Float64bits", "math.Float64frombits", "math.archFloor", "math.archTrunc", "internal/abi.NoEscape", "internal/bytealg.MakeNoZero"], unfollowed := true, recurses := true, named := ["spillage/drive.ends", "internal/strconv.uint64pow10", "math/bits.deBruijn32tab", "math/bits.deBruijn64tab"], apart := false, laid := [("math/bits.deBruijn32tab", laid_math_bits_deBruijn32tab), ("math/bits.deBruijn64tab", laid_math_bits_deBruijn64tab), ("internal/strconv.uint64pow10", laid_internal_strconv_uint64pow10), ("spillage/drive.ends", laid_spillage_drive_ends)], narrowed := true }
def DriveTracksUptoSaid : Prop := driveTracksUptoRow.holds Tryz.pinned (OpenSpec.upto driveTracksSpec)

/-- 'spillagelaw03.DriveFits', WHERE WHAT IT READS IS OF BULK AT MOST 1048576: true; the input reads as it did. -/
def driveFitsUptoRow : OpenClaim := { program := "ytmgbmngmmpeaaaagreatdoor", sum := "7301962f8636c3dfb873177e0da83f416d9788fc20a832b1cc36c941fc4f4335", func := "spillage/spillagelaw03.DriveFits", spec := "driveFits", inPlace := ["math.Float64bits", "math.Float64frombits", "math.archFloor", "math.archTrunc", "internal/abi.NoEscape", "internal/bytealg.MakeNoZero"], unfollowed := true, recurses := true, named := ["spillage/drive.ends", "internal/strconv.uint64pow10", "math/bits.deBruijn32tab", "math/bits.deBruijn64tab"], apart := false, laid := [("math/bits.deBruijn32tab", laid_math_bits_deBruijn32tab), ("math/bits.deBruijn64tab", laid_math_bits_deBruijn64tab), ("internal/strconv.uint64pow10", laid_internal_strconv_uint64pow10), ("spillage/drive.ends", laid_spillage_drive_ends)], narrowed := true }
def DriveFitsUptoSaid : Prop := driveFitsUptoRow.holds Tryz.pinned (OpenSpec.upto driveFitsSpec)

/-- 'spillagelaw03.DriveModels', WHERE WHAT IT READS IS OF BULK AT MOST 1048576: true; the input reads as it did. -/
def driveModelsUptoRow : OpenClaim := { program := "ytmgbmngmmpeaaaagreatdoor", sum := "7301962f8636c3dfb873177e0da83f416d9788fc20a832b1cc36c941fc4f4335", func := "spillage/spillagelaw03.DriveModels", spec := "driveModels", inPlace := ["math.Float64bits", "math.Float64frombits", "math.archFloor", "math.archTrunc", "internal/abi.NoEscape", "internal/bytealg.MakeNoZero"], unfollowed := true, recurses := true, named := ["spillage/drive.ends", "internal/strconv.uint64pow10", "math/bits.deBruijn32tab", "math/bits.deBruijn64tab"], apart := false, laid := [("math/bits.deBruijn32tab", laid_math_bits_deBruijn32tab), ("math/bits.deBruijn64tab", laid_math_bits_deBruijn64tab), ("internal/strconv.uint64pow10", laid_internal_strconv_uint64pow10), ("spillage/drive.ends", laid_spillage_drive_ends)], narrowed := true }
def DriveModelsUptoSaid : Prop := driveModelsUptoRow.holds Tryz.pinned (OpenSpec.upto driveModelsSpec)

/-- 'spillagelaw03.DriveTargets', WHERE WHAT IT READS IS OF BULK AT MOST 1048576: true; the input reads as it did. -/
def driveTargetsUptoRow : OpenClaim := { program := "ytmgbmngmmpeaaaagreatdoor", sum := "7301962f8636c3dfb873177e0da83f416d9788fc20a832b1cc36c941fc4f4335", func := "spillage/spillagelaw03.DriveTargets", spec := "driveTargets", inPlace := ["math.Float64bits", "math.Float64frombits", "math.archFloor", "math.archTrunc", "internal/abi.NoEscape", "internal/bytealg.MakeNoZero"], unfollowed := true, recurses := true, named := ["spillage/drive.ends", "internal/strconv.uint64pow10", "math/bits.deBruijn32tab", "math/bits.deBruijn64tab"], apart := false, laid := [("math/bits.deBruijn32tab", laid_math_bits_deBruijn32tab), ("math/bits.deBruijn64tab", laid_math_bits_deBruijn64tab), ("internal/strconv.uint64pow10", laid_internal_strconv_uint64pow10), ("spillage/drive.ends", laid_spillage_drive_ends)], narrowed := true }
def DriveTargetsUptoSaid : Prop := driveTargetsUptoRow.holds Tryz.pinned (OpenSpec.upto driveTargetsSpec)

/-- 'spillagelaw03.DriveVotes', WHERE WHAT IT READS IS OF BULK AT MOST 1048576: true; the input reads as it did. -/
def driveVotesUptoRow : OpenClaim := { program := "ytmgbmngmmpeaaaagreatdoor", sum := "7301962f8636c3dfb873177e0da83f416d9788fc20a832b1cc36c941fc4f4335", func := "spillage/spillagelaw03.DriveVotes", spec := "driveVotes", inPlace := ["math.Float64bits", "math.Float64frombits", "math.archFloor", "math.archTrunc", "internal/abi.NoEscape", "internal/bytealg.MakeNoZero"], unfollowed := true, recurses := true, named := ["spillage/drive.ends", "internal/strconv.uint64pow10", "math/bits.deBruijn32tab", "math/bits.deBruijn64tab"], apart := false, laid := [("math/bits.deBruijn32tab", laid_math_bits_deBruijn32tab), ("math/bits.deBruijn64tab", laid_math_bits_deBruijn64tab), ("internal/strconv.uint64pow10", laid_internal_strconv_uint64pow10), ("spillage/drive.ends", laid_spillage_drive_ends)], narrowed := true }
def DriveVotesUptoSaid : Prop := driveVotesUptoRow.holds Tryz.pinned (OpenSpec.upto driveVotesSpec)

/-- 'spillagelaw03.DriveLoads', WHERE WHAT IT READS IS OF BULK AT MOST 1048576: true; the input reads as it did. -/
def driveLoadsUptoRow : OpenClaim := { program := "ytmgbmngmmpeaaaagreatdoor", sum := "7301962f8636c3dfb873177e0da83f416d9788fc20a832b1cc36c941fc4f4335", func := "spillage/spillagelaw03.DriveLoads", spec := "driveLoads", inPlace := ["math.Float64bits", "math.Float64frombits", "math.archFloor", "math.archTrunc", "internal/abi.NoEscape", "internal/bytealg.MakeNoZero"], unfollowed := true, recurses := true, named := ["spillage/drive.ends", "internal/strconv.uint64pow10", "math/bits.deBruijn32tab", "math/bits.deBruijn64tab"], apart := false, laid := [("math/bits.deBruijn32tab", laid_math_bits_deBruijn32tab), ("math/bits.deBruijn64tab", laid_math_bits_deBruijn64tab), ("internal/strconv.uint64pow10", laid_internal_strconv_uint64pow10), ("spillage/drive.ends", laid_spillage_drive_ends)], narrowed := true }
def DriveLoadsUptoSaid : Prop := driveLoadsUptoRow.holds Tryz.pinned (OpenSpec.upto driveLoadsSpec)

/-- 'spillagelaw03.DrivePlays', WHERE WHAT IT READS IS OF BULK AT MOST 1048576: true; the input reads as it did. -/
def drivePlaysUptoRow : OpenClaim := { program := "ytmgbmngmmpeaaaagreatdoor", sum := "7301962f8636c3dfb873177e0da83f416d9788fc20a832b1cc36c941fc4f4335", func := "spillage/spillagelaw03.DrivePlays", spec := "drivePlays", inPlace := ["math.Float64bits", "math.Float64frombits", "math.archFloor", "math.archTrunc", "internal/abi.NoEscape", "internal/bytealg.MakeNoZero"], unfollowed := true, recurses := true, named := ["spillage/drive.ends", "internal/strconv.uint64pow10", "math/bits.deBruijn32tab", "math/bits.deBruijn64tab"], apart := false, laid := [("math/bits.deBruijn32tab", laid_math_bits_deBruijn32tab), ("math/bits.deBruijn64tab", laid_math_bits_deBruijn64tab), ("internal/strconv.uint64pow10", laid_internal_strconv_uint64pow10), ("spillage/drive.ends", laid_spillage_drive_ends)], narrowed := true }
def DrivePlaysUptoSaid : Prop := drivePlaysUptoRow.holds Tryz.pinned (OpenSpec.upto drivePlaysSpec)

/-- 'spillagelaw03.DriveHits', WHERE WHAT IT READS IS OF BULK AT MOST 1048576: true; the input reads as it did. -/
def driveHitsUptoRow : OpenClaim := { program := "ytmgbmngmmpeaaaagreatdoor", sum := "7301962f8636c3dfb873177e0da83f416d9788fc20a832b1cc36c941fc4f4335", func := "spillage/spillagelaw03.DriveHits", spec := "driveHits", inPlace := ["math.Float64bits", "math.Float64frombits", "math.archFloor", "math.archTrunc", "internal/abi.NoEscape", "internal/bytealg.MakeNoZero"], unfollowed := true, recurses := true, named := ["spillage/drive.ends", "internal/strconv.uint64pow10", "math/bits.deBruijn32tab", "math/bits.deBruijn64tab"], apart := false, laid := [("math/bits.deBruijn32tab", laid_math_bits_deBruijn32tab), ("math/bits.deBruijn64tab", laid_math_bits_deBruijn64tab), ("internal/strconv.uint64pow10", laid_internal_strconv_uint64pow10), ("spillage/drive.ends", laid_spillage_drive_ends)], narrowed := true }
def DriveHitsUptoSaid : Prop := driveHitsUptoRow.holds Tryz.pinned (OpenSpec.upto driveHitsSpec)

/-- 'spillagelaw03.DriveGoals', WHERE WHAT IT READS IS OF BULK AT MOST 1048576: true; the input reads as it did. -/
def driveGoalsUptoRow : OpenClaim := { program := "ytmgbmngmmpeaaaagreatdoor", sum := "7301962f8636c3dfb873177e0da83f416d9788fc20a832b1cc36c941fc4f4335", func := "spillage/spillagelaw03.DriveGoals", spec := "driveGoals", inPlace := ["math.Float64bits", "math.Float64frombits", "math.archFloor", "math.archTrunc", "internal/abi.NoEscape", "internal/bytealg.MakeNoZero"], unfollowed := true, recurses := true, named := ["spillage/drive.ends", "internal/strconv.uint64pow10", "math/bits.deBruijn32tab", "math/bits.deBruijn64tab"], apart := false, laid := [("math/bits.deBruijn32tab", laid_math_bits_deBruijn32tab), ("math/bits.deBruijn64tab", laid_math_bits_deBruijn64tab), ("internal/strconv.uint64pow10", laid_internal_strconv_uint64pow10), ("spillage/drive.ends", laid_spillage_drive_ends)], narrowed := true }
def DriveGoalsUptoSaid : Prop := driveGoalsUptoRow.holds Tryz.pinned (OpenSpec.upto driveGoalsSpec)

/-- 'spillagelaw03.DrivePairs', WHERE WHAT IT READS IS OF BULK AT MOST 1048576: true; the input reads as it did. -/
def drivePairsUptoRow : OpenClaim := { program := "ytmgbmngmmpeaaaagreatdoor", sum := "7301962f8636c3dfb873177e0da83f416d9788fc20a832b1cc36c941fc4f4335", func := "spillage/spillagelaw03.DrivePairs", spec := "drivePairs", inPlace := ["math.Float64bits", "math.Float64frombits", "math.archFloor", "math.archTrunc", "internal/abi.NoEscape", "internal/bytealg.MakeNoZero"], unfollowed := true, recurses := true, named := ["spillage/drive.ends", "internal/strconv.uint64pow10", "math/bits.deBruijn32tab", "math/bits.deBruijn64tab"], apart := false, laid := [("math/bits.deBruijn32tab", laid_math_bits_deBruijn32tab), ("math/bits.deBruijn64tab", laid_math_bits_deBruijn64tab), ("internal/strconv.uint64pow10", laid_internal_strconv_uint64pow10), ("spillage/drive.ends", laid_spillage_drive_ends)], narrowed := true }
def DrivePairsUptoSaid : Prop := drivePairsUptoRow.holds Tryz.pinned (OpenSpec.upto drivePairsSpec)

/-- 'spillagelaw03.DriveSeen', WHERE WHAT IT READS IS OF BULK AT MOST 1048576: true; the input reads as it did. -/
def driveSeenUptoRow : OpenClaim := { program := "ytmgbmngmmpeaaaagreatdoor", sum := "7301962f8636c3dfb873177e0da83f416d9788fc20a832b1cc36c941fc4f4335", func := "spillage/spillagelaw03.DriveSeen", spec := "driveSeen", inPlace := ["math.Float64bits", "math.Float64frombits", "math.archFloor", "math.archTrunc", "internal/abi.NoEscape", "internal/bytealg.MakeNoZero"], unfollowed := true, recurses := true, named := ["spillage/drive.ends", "internal/strconv.uint64pow10", "math/bits.deBruijn32tab", "math/bits.deBruijn64tab"], apart := false, laid := [("math/bits.deBruijn32tab", laid_math_bits_deBruijn32tab), ("math/bits.deBruijn64tab", laid_math_bits_deBruijn64tab), ("internal/strconv.uint64pow10", laid_internal_strconv_uint64pow10), ("spillage/drive.ends", laid_spillage_drive_ends)], narrowed := true }
def DriveSeenUptoSaid : Prop := driveSeenUptoRow.holds Tryz.pinned (OpenSpec.upto driveSeenSpec)

/-- 'spillagelaw03.DrivePoints', WHERE WHAT IT READS IS OF BULK AT MOST 1048576: true; the input reads as it did. -/
def drivePointsUptoRow : OpenClaim := { program := "ytmgbmngmmpeaaaagreatdoor", sum := "7301962f8636c3dfb873177e0da83f416d9788fc20a832b1cc36c941fc4f4335", func := "spillage/spillagelaw03.DrivePoints", spec := "drivePoints", inPlace := ["math.Float64bits", "math.Float64frombits", "math.archFloor", "math.archTrunc", "internal/abi.NoEscape", "internal/bytealg.MakeNoZero"], unfollowed := true, recurses := true, named := ["spillage/drive.ends", "internal/strconv.uint64pow10", "math/bits.deBruijn32tab", "math/bits.deBruijn64tab"], apart := false, laid := [("math/bits.deBruijn32tab", laid_math_bits_deBruijn32tab), ("math/bits.deBruijn64tab", laid_math_bits_deBruijn64tab), ("internal/strconv.uint64pow10", laid_internal_strconv_uint64pow10), ("spillage/drive.ends", laid_spillage_drive_ends)], narrowed := true }
def DrivePointsUptoSaid : Prop := drivePointsUptoRow.holds Tryz.pinned (OpenSpec.upto drivePointsSpec)

/-- 'spillagelaw03.DriveTexts', WHERE WHAT IT READS IS OF BULK AT MOST 1048576: true; the input reads as it did. -/
def driveTextsUptoRow : OpenClaim := { program := "ytmgbmngmmpeaaaagreatdoor", sum := "7301962f8636c3dfb873177e0da83f416d9788fc20a832b1cc36c941fc4f4335", func := "spillage/spillagelaw03.DriveTexts", spec := "driveTexts", inPlace := ["math.Float64bits", "math.Float64frombits", "math.archFloor", "math.archTrunc", "internal/abi.NoEscape", "internal/bytealg.MakeNoZero", "internal/bytealg.IndexByteString", "internal/bytealg.CountString", "internal/bytealg.IndexString"], unfollowed := true, recurses := true, named := ["spillage/drive.ends", "internal/strconv.uint64pow10", "math/bits.deBruijn32tab", "math/bits.deBruijn64tab", "unicode/utf8.first", "unicode/utf8.acceptRanges", "internal/bytealg.MaxLen"], apart := false, laid := [("math/bits.deBruijn32tab", laid_math_bits_deBruijn32tab), ("math/bits.deBruijn64tab", laid_math_bits_deBruijn64tab), ("internal/strconv.uint64pow10", laid_internal_strconv_uint64pow10), ("unicode/utf8.acceptRanges", laid_unicode_utf8_acceptRanges), ("spillage/drive.ends", laid_spillage_drive_ends), ("unicode/utf8.first", laid_unicode_utf8_first)], narrowed := true }
def DriveTextsUptoSaid : Prop := driveTextsUptoRow.holds Tryz.pinned (OpenSpec.upto driveTextsSpec)

/-- 'spillagelaw03.DriveBack', WHERE WHAT IT READS IS OF BULK AT MOST 1048576: true; the input reads as it did. -/
def driveBackUptoRow : OpenClaim := { program := "ytmgbmngmmpeaaaagreatdoor", sum := "7301962f8636c3dfb873177e0da83f416d9788fc20a832b1cc36c941fc4f4335", func := "spillage/spillagelaw03.DriveBack", spec := "driveBack", inPlace := ["math.Float64bits", "math.Float64frombits", "math.archFloor", "math.archTrunc", "internal/abi.NoEscape", "internal/bytealg.MakeNoZero", "internal/bytealg.IndexByteString", "internal/bytealg.CountString", "internal/bytealg.IndexString"], unfollowed := true, recurses := true, named := ["spillage/drive.ends", "internal/strconv.uint64pow10", "math/bits.deBruijn32tab", "math/bits.deBruijn64tab", "unicode/utf8.first", "unicode/utf8.acceptRanges", "internal/bytealg.MaxLen"], apart := false, laid := [("math/bits.deBruijn32tab", laid_math_bits_deBruijn32tab), ("math/bits.deBruijn64tab", laid_math_bits_deBruijn64tab), ("internal/strconv.uint64pow10", laid_internal_strconv_uint64pow10), ("unicode/utf8.acceptRanges", laid_unicode_utf8_acceptRanges), ("spillage/drive.ends", laid_spillage_drive_ends), ("unicode/utf8.first", laid_unicode_utf8_first)], narrowed := true }
def DriveBackUptoSaid : Prop := driveBackUptoRow.holds Tryz.pinned (OpenSpec.upto driveBackSpec)

end Rows
end Go.Proofs.YtmgbmngmmpeaaaaGreatDoor
