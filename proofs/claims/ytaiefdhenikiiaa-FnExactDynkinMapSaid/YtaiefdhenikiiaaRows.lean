/-
  No cell of these rows narrows 'for every input' (looked for: loops, veiled, ifaces, maps, wideKeys, modest, calm, conditions, laid).
  DERIVED. THE GIVEN ROWS OF THIS SEAT. 18 by the template 'for every input the law returns true; each argument reads behind the call as it read before'; 0 by the template 'total and deterministic' (their statements: YtaiefdhenikiiaaTotals.lean).
  GIVEN WITH THE SEED: the statements are not yours to turn. If you find one false, say at which input.
  Laid BY PROGRAM, IN A SANDBOX (cutbox-rows.mjs): the forced cells as the released guide's own fill.sh prints them over the translation 046fead0c13a0011… (all of the seat's roots in one cut). By AI agents, Wed Nov 11 2026. No macro, syntax, notation, axiom, sorry.
-/
import Derived.Test.YtaiefdhenikiiaaChecked
import GoSem.Claim
import GoSem.ClaimJoined
import GoSem.ClaimMapViews
import Derived.JoinedTies
import Derived.KernelRfl
namespace Go.Proofs.Ytaiefdhenikiiaa
/- THE CELL 'sum', in the pinned program and in every row, IS THE sha256 OF THE DUMP (.gsa) THAT YtaiefdhenikiiaaProg.lean LOADS. Nothing in Lean hashes anything: it is a label: what it is worth is what the hold of that sum in a sandbox is worth. -/
noncomputable def Try.pinned : Pinned := { name := "ytaiefdhenikiiaa", sum := "046fead0c13a001162094d2d602b5d919b96599bb7a976c84e3020e9cb1cdae1", checked := Try.checked }
namespace Rows
def none {H : Type} : Left H := { results := [], args := [] }

/-- 'laws.FnExactInverseCoordinates': WHATEVER THE INPUT: true; the input reads as it did. -/
def fnExactInverseCoordinatesSpec : ChangeSpec := { name := "fnExactInverseCoordinates", fn := fun _ => fun
  | [d1, d2, d3] => { results := [.lit (.bool true)], args := [d1, d2, d3] }
  | _ => none }
def fnExactInverseCoordinatesRow : OpenClaim := { program := "ytaiefdhenikiiaa", sum := "046fead0c13a001162094d2d602b5d919b96599bb7a976c84e3020e9cb1cdae1", func := "loop.example/g01260/laws.FnExactInverseCoordinates", spec := "fnExactInverseCoordinates", inPlace := ["internal/bytealg.abigen_runtime_cmpstring"], unfollowed := true, recurses := true, apart := false }
def FnExactInverseCoordinatesSaid : Prop := fnExactInverseCoordinatesRow.holds Try.pinned (OpenSpec.ofChange fnExactInverseCoordinatesSpec)

/-- ITS FALSE NEIGHBOUR: 'it returns false'. Refute it at one input. -/
def fnExactInverseCoordinatesWrong : ChangeSpec := { name := "fnExactInverseCoordinates", fn := fun _ => fun
  | [d1, d2, d3] => { results := [.lit (.bool false)], args := [d1, d2, d3] }
  | _ => none }
def FnExactInverseCoordinatesWrongFalsely : Prop := fnExactInverseCoordinatesRow.holds Try.pinned (OpenSpec.ofChange fnExactInverseCoordinatesWrong)

/-- 'laws.FnExactDegreesOf': WHATEVER THE INPUT: true; the input reads as it did. -/
def fnExactDegreesOfSpec : ChangeSpec := { name := "fnExactDegreesOf", fn := fun _ => fun
  | [d] => { results := [.lit (.bool true)], args := [d] }
  | _ => none }
def fnExactDegreesOfRow : OpenClaim := { program := "ytaiefdhenikiiaa", sum := "046fead0c13a001162094d2d602b5d919b96599bb7a976c84e3020e9cb1cdae1", func := "loop.example/g01260/laws.FnExactDegreesOf", spec := "fnExactDegreesOf", inPlace := ["internal/bytealg.abigen_runtime_cmpstring"], apart := false }
def FnExactDegreesOfSaid : Prop := fnExactDegreesOfRow.holds Try.pinned (OpenSpec.ofChange fnExactDegreesOfSpec)

/-- ITS FALSE NEIGHBOUR: 'it returns false'. Refute it at one input. -/
def fnExactDegreesOfWrong : ChangeSpec := { name := "fnExactDegreesOf", fn := fun _ => fun
  | [d] => { results := [.lit (.bool false)], args := [d] }
  | _ => none }
def FnExactDegreesOfWrongFalsely : Prop := fnExactDegreesOfRow.holds Try.pinned (OpenSpec.ofChange fnExactDegreesOfWrong)

/-- 'laws.FnExactWithoutBeginning': WHATEVER THE INPUT: true; the input reads as it did. -/
def fnExactWithoutBeginningSpec : ChangeSpec := { name := "fnExactWithoutBeginning", fn := fun _ => fun
  | [d1, d2] => { results := [.lit (.bool true)], args := [d1, d2] }
  | _ => none }
def fnExactWithoutBeginningRow : OpenClaim := { program := "ytaiefdhenikiiaa", sum := "046fead0c13a001162094d2d602b5d919b96599bb7a976c84e3020e9cb1cdae1", func := "loop.example/g01260/laws.FnExactWithoutBeginning", spec := "fnExactWithoutBeginning", inPlace := ["internal/bytealg.abigen_runtime_cmpstring"], unfollowed := true, recurses := true, apart := false }
def FnExactWithoutBeginningSaid : Prop := fnExactWithoutBeginningRow.holds Try.pinned (OpenSpec.ofChange fnExactWithoutBeginningSpec)

/-- ITS FALSE NEIGHBOUR: 'it returns false'. Refute it at one input. -/
def fnExactWithoutBeginningWrong : ChangeSpec := { name := "fnExactWithoutBeginning", fn := fun _ => fun
  | [d1, d2] => { results := [.lit (.bool false)], args := [d1, d2] }
  | _ => none }
def FnExactWithoutBeginningWrongFalsely : Prop := fnExactWithoutBeginningRow.holds Try.pinned (OpenSpec.ofChange fnExactWithoutBeginningWrong)

/-- 'laws.FnExactWithoutEnd': WHATEVER THE INPUT: true; the input reads as it did. -/
def fnExactWithoutEndSpec : ChangeSpec := { name := "fnExactWithoutEnd", fn := fun _ => fun
  | [d1, d2] => { results := [.lit (.bool true)], args := [d1, d2] }
  | _ => none }
def fnExactWithoutEndRow : OpenClaim := { program := "ytaiefdhenikiiaa", sum := "046fead0c13a001162094d2d602b5d919b96599bb7a976c84e3020e9cb1cdae1", func := "loop.example/g01260/laws.FnExactWithoutEnd", spec := "fnExactWithoutEnd", inPlace := ["internal/bytealg.abigen_runtime_cmpstring"], unfollowed := true, recurses := true, apart := false }
def FnExactWithoutEndSaid : Prop := fnExactWithoutEndRow.holds Try.pinned (OpenSpec.ofChange fnExactWithoutEndSpec)

/-- ITS FALSE NEIGHBOUR: 'it returns false'. Refute it at one input. -/
def fnExactWithoutEndWrong : ChangeSpec := { name := "fnExactWithoutEnd", fn := fun _ => fun
  | [d1, d2] => { results := [.lit (.bool false)], args := [d1, d2] }
  | _ => none }
def FnExactWithoutEndWrongFalsely : Prop := fnExactWithoutEndRow.holds Try.pinned (OpenSpec.ofChange fnExactWithoutEndWrong)

/-- 'laws.FnExactLeftBracket': WHATEVER THE INPUT: true; the input reads as it did. -/
def fnExactLeftBracketSpec : ChangeSpec := { name := "fnExactLeftBracket", fn := fun _ => fun
  | [d1, d2, d3] => { results := [.lit (.bool true)], args := [d1, d2, d3] }
  | _ => none }
def fnExactLeftBracketRow : OpenClaim := { program := "ytaiefdhenikiiaa", sum := "046fead0c13a001162094d2d602b5d919b96599bb7a976c84e3020e9cb1cdae1", func := "loop.example/g01260/laws.FnExactLeftBracket", spec := "fnExactLeftBracket", recurses := true, apart := false }
def FnExactLeftBracketSaid : Prop := fnExactLeftBracketRow.holds Try.pinned (OpenSpec.ofChange fnExactLeftBracketSpec)

/-- ITS FALSE NEIGHBOUR: 'it returns false'. Refute it at one input. -/
def fnExactLeftBracketWrong : ChangeSpec := { name := "fnExactLeftBracket", fn := fun _ => fun
  | [d1, d2, d3] => { results := [.lit (.bool false)], args := [d1, d2, d3] }
  | _ => none }
def FnExactLeftBracketWrongFalsely : Prop := fnExactLeftBracketRow.holds Try.pinned (OpenSpec.ofChange fnExactLeftBracketWrong)

/-- 'laws.FnExactBracketOf': WHATEVER THE INPUT: true; the input reads as it did. -/
def fnExactBracketOfSpec : ChangeSpec := { name := "fnExactBracketOf", fn := fun _ => fun
  | [d1, d2, d3] => { results := [.lit (.bool true)], args := [d1, d2, d3] }
  | _ => none }
def fnExactBracketOfRow : OpenClaim := { program := "ytaiefdhenikiiaa", sum := "046fead0c13a001162094d2d602b5d919b96599bb7a976c84e3020e9cb1cdae1", func := "loop.example/g01260/laws.FnExactBracketOf", spec := "fnExactBracketOf", recurses := true, apart := false }
def FnExactBracketOfSaid : Prop := fnExactBracketOfRow.holds Try.pinned (OpenSpec.ofChange fnExactBracketOfSpec)

/-- ITS FALSE NEIGHBOUR: 'it returns false'. Refute it at one input. -/
def fnExactBracketOfWrong : ChangeSpec := { name := "fnExactBracketOf", fn := fun _ => fun
  | [d1, d2, d3] => { results := [.lit (.bool false)], args := [d1, d2, d3] }
  | _ => none }
def FnExactBracketOfWrongFalsely : Prop := fnExactBracketOfRow.holds Try.pinned (OpenSpec.ofChange fnExactBracketOfWrong)

/-- 'laws.FnExactStepSignature': WHATEVER THE INPUT: true; the input reads as it did. -/
def fnExactStepSignatureSpec : ChangeSpec := { name := "fnExactStepSignature", fn := fun _ => fun
  | [d1, d2, d3] => { results := [.lit (.bool true)], args := [d1, d2, d3] }
  | _ => none }
def fnExactStepSignatureRow : OpenClaim := { program := "ytaiefdhenikiiaa", sum := "046fead0c13a001162094d2d602b5d919b96599bb7a976c84e3020e9cb1cdae1", func := "loop.example/g01260/laws.FnExactStepSignature", spec := "fnExactStepSignature", unfollowed := true, recurses := true, apart := false }
def FnExactStepSignatureSaid : Prop := fnExactStepSignatureRow.holds Try.pinned (OpenSpec.ofChange fnExactStepSignatureSpec)

/-- ITS FALSE NEIGHBOUR: 'it returns false'. Refute it at one input. -/
def fnExactStepSignatureWrong : ChangeSpec := { name := "fnExactStepSignature", fn := fun _ => fun
  | [d1, d2, d3] => { results := [.lit (.bool false)], args := [d1, d2, d3] }
  | _ => none }
def FnExactStepSignatureWrongFalsely : Prop := fnExactStepSignatureRow.holds Try.pinned (OpenSpec.ofChange fnExactStepSignatureWrong)

/-- 'laws.FnExactRepeatedBracket': WHATEVER THE INPUT: true; the input reads as it did. -/
def fnExactRepeatedBracketSpec : ChangeSpec := { name := "fnExactRepeatedBracket", fn := fun _ => fun
  | [d1, d2, d3] => { results := [.lit (.bool true)], args := [d1, d2, d3] }
  | _ => none }
def fnExactRepeatedBracketRow : OpenClaim := { program := "ytaiefdhenikiiaa", sum := "046fead0c13a001162094d2d602b5d919b96599bb7a976c84e3020e9cb1cdae1", func := "loop.example/g01260/laws.FnExactRepeatedBracket", spec := "fnExactRepeatedBracket", inPlace := ["internal/bytealg.abigen_runtime_cmpstring"], apart := false }
def FnExactRepeatedBracketSaid : Prop := fnExactRepeatedBracketRow.holds Try.pinned (OpenSpec.ofChange fnExactRepeatedBracketSpec)

/-- ITS FALSE NEIGHBOUR: 'it returns false'. Refute it at one input. -/
def fnExactRepeatedBracketWrong : ChangeSpec := { name := "fnExactRepeatedBracket", fn := fun _ => fun
  | [d1, d2, d3] => { results := [.lit (.bool false)], args := [d1, d2, d3] }
  | _ => none }
def FnExactRepeatedBracketWrongFalsely : Prop := fnExactRepeatedBracketRow.holds Try.pinned (OpenSpec.ofChange fnExactRepeatedBracketWrong)

/-- 'laws.FnExactAreSignaturesEqual': WHATEVER THE INPUT: true; the input reads as it did. -/
def fnExactAreSignaturesEqualSpec : ChangeSpec := { name := "fnExactAreSignaturesEqual", fn := fun _ => fun
  | [d1, d2, d3, d4] => { results := [.lit (.bool true)], args := [d1, d2, d3, d4] }
  | _ => none }
def fnExactAreSignaturesEqualRow : OpenClaim := { program := "ytaiefdhenikiiaa", sum := "046fead0c13a001162094d2d602b5d919b96599bb7a976c84e3020e9cb1cdae1", func := "loop.example/g01260/laws.FnExactAreSignaturesEqual", spec := "fnExactAreSignaturesEqual", unfollowed := true, recurses := true, apart := false }
def FnExactAreSignaturesEqualSaid : Prop := fnExactAreSignaturesEqualRow.holds Try.pinned (OpenSpec.ofChange fnExactAreSignaturesEqualSpec)

/-- ITS FALSE NEIGHBOUR: 'it returns false'. Refute it at one input. -/
def fnExactAreSignaturesEqualWrong : ChangeSpec := { name := "fnExactAreSignaturesEqual", fn := fun _ => fun
  | [d1, d2, d3, d4] => { results := [.lit (.bool false)], args := [d1, d2, d3, d4] }
  | _ => none }
def FnExactAreSignaturesEqualWrongFalsely : Prop := fnExactAreSignaturesEqualRow.holds Try.pinned (OpenSpec.ofChange fnExactAreSignaturesEqualWrong)

/-- 'laws.FnExactSeriesOfCoordinates': WHATEVER THE INPUT: true; the input reads as it did. -/
def fnExactSeriesOfCoordinatesSpec : ChangeSpec := { name := "fnExactSeriesOfCoordinates", fn := fun _ => fun
  | [d1, d2, d3] => { results := [.lit (.bool true)], args := [d1, d2, d3] }
  | _ => none }
def fnExactSeriesOfCoordinatesRow : OpenClaim := { program := "ytaiefdhenikiiaa", sum := "046fead0c13a001162094d2d602b5d919b96599bb7a976c84e3020e9cb1cdae1", func := "loop.example/g01260/laws.FnExactSeriesOfCoordinates", spec := "fnExactSeriesOfCoordinates", inPlace := ["internal/bytealg.abigen_runtime_cmpstring"], unfollowed := true, recurses := true, apart := false }
def FnExactSeriesOfCoordinatesSaid : Prop := fnExactSeriesOfCoordinatesRow.holds Try.pinned (OpenSpec.ofChange fnExactSeriesOfCoordinatesSpec)

/-- ITS FALSE NEIGHBOUR: 'it returns false'. Refute it at one input. -/
def fnExactSeriesOfCoordinatesWrong : ChangeSpec := { name := "fnExactSeriesOfCoordinates", fn := fun _ => fun
  | [d1, d2, d3] => { results := [.lit (.bool false)], args := [d1, d2, d3] }
  | _ => none }
def FnExactSeriesOfCoordinatesWrongFalsely : Prop := fnExactSeriesOfCoordinatesRow.holds Try.pinned (OpenSpec.ofChange fnExactSeriesOfCoordinatesWrong)

/-- 'laws.FnExactLieCoordinates': WHATEVER THE INPUT: true; the input reads as it did. -/
def fnExactLieCoordinatesSpec : ChangeSpec := { name := "fnExactLieCoordinates", fn := fun _ => fun
  | [d] => { results := [.lit (.bool true)], args := [d] }
  | _ => none }
def fnExactLieCoordinatesRow : OpenClaim := { program := "ytaiefdhenikiiaa", sum := "046fead0c13a001162094d2d602b5d919b96599bb7a976c84e3020e9cb1cdae1", func := "loop.example/g01260/laws.FnExactLieCoordinates", spec := "fnExactLieCoordinates", inPlace := ["internal/bytealg.abigen_runtime_cmpstring"], recurses := true, apart := false }
def FnExactLieCoordinatesSaid : Prop := fnExactLieCoordinatesRow.holds Try.pinned (OpenSpec.ofChange fnExactLieCoordinatesSpec)

/-- ITS FALSE NEIGHBOUR: 'it returns false'. Refute it at one input. -/
def fnExactLieCoordinatesWrong : ChangeSpec := { name := "fnExactLieCoordinates", fn := fun _ => fun
  | [d] => { results := [.lit (.bool false)], args := [d] }
  | _ => none }
def FnExactLieCoordinatesWrongFalsely : Prop := fnExactLieCoordinatesRow.holds Try.pinned (OpenSpec.ofChange fnExactLieCoordinatesWrong)

/-- 'laws.FnExactDynkinMap': WHATEVER THE INPUT: true; the input reads as it did. -/
def fnExactDynkinMapSpec : ChangeSpec := { name := "fnExactDynkinMap", fn := fun _ => fun
  | [d] => { results := [.lit (.bool true)], args := [d] }
  | _ => none }
def fnExactDynkinMapRow : OpenClaim := { program := "ytaiefdhenikiiaa", sum := "046fead0c13a001162094d2d602b5d919b96599bb7a976c84e3020e9cb1cdae1", func := "loop.example/g01260/laws.FnExactDynkinMap", spec := "fnExactDynkinMap", inPlace := ["internal/bytealg.abigen_runtime_cmpstring"], recurses := true, apart := false }
def FnExactDynkinMapSaid : Prop := fnExactDynkinMapRow.holds Try.pinned (OpenSpec.ofChange fnExactDynkinMapSpec)

/-- ITS FALSE NEIGHBOUR: 'it returns false'. Refute it at one input. -/
def fnExactDynkinMapWrong : ChangeSpec := { name := "fnExactDynkinMap", fn := fun _ => fun
  | [d] => { results := [.lit (.bool false)], args := [d] }
  | _ => none }
def FnExactDynkinMapWrongFalsely : Prop := fnExactDynkinMapRow.holds Try.pinned (OpenSpec.ofChange fnExactDynkinMapWrong)

/-- 'laws.FnExactSignatureOf': WHATEVER THE INPUT: true; the input reads as it did. -/
def fnExactSignatureOfSpec : ChangeSpec := { name := "fnExactSignatureOf", fn := fun _ => fun
  | [d1, d2, d3] => { results := [.lit (.bool true)], args := [d1, d2, d3] }
  | _ => none }
def fnExactSignatureOfRow : OpenClaim := { program := "ytaiefdhenikiiaa", sum := "046fead0c13a001162094d2d602b5d919b96599bb7a976c84e3020e9cb1cdae1", func := "loop.example/g01260/laws.FnExactSignatureOf", spec := "fnExactSignatureOf", unfollowed := true, recurses := true, apart := false }
def FnExactSignatureOfSaid : Prop := fnExactSignatureOfRow.holds Try.pinned (OpenSpec.ofChange fnExactSignatureOfSpec)

/-- ITS FALSE NEIGHBOUR: 'it returns false'. Refute it at one input. -/
def fnExactSignatureOfWrong : ChangeSpec := { name := "fnExactSignatureOf", fn := fun _ => fun
  | [d1, d2, d3] => { results := [.lit (.bool false)], args := [d1, d2, d3] }
  | _ => none }
def FnExactSignatureOfWrongFalsely : Prop := fnExactSignatureOfRow.holds Try.pinned (OpenSpec.ofChange fnExactSignatureOfWrong)

/-- 'laws.FnExactMeanSignature': WHATEVER THE INPUT: true; the input reads as it did. -/
def fnExactMeanSignatureSpec : ChangeSpec := { name := "fnExactMeanSignature", fn := fun _ => fun
  | [d1, d2, d3, d4] => { results := [.lit (.bool true)], args := [d1, d2, d3, d4] }
  | _ => none }
def fnExactMeanSignatureRow : OpenClaim := { program := "ytaiefdhenikiiaa", sum := "046fead0c13a001162094d2d602b5d919b96599bb7a976c84e3020e9cb1cdae1", func := "loop.example/g01260/laws.FnExactMeanSignature", spec := "fnExactMeanSignature", unfollowed := true, recurses := true, apart := false }
def FnExactMeanSignatureSaid : Prop := fnExactMeanSignatureRow.holds Try.pinned (OpenSpec.ofChange fnExactMeanSignatureSpec)

/-- ITS FALSE NEIGHBOUR: 'it returns false'. Refute it at one input. -/
def fnExactMeanSignatureWrong : ChangeSpec := { name := "fnExactMeanSignature", fn := fun _ => fun
  | [d1, d2, d3, d4] => { results := [.lit (.bool false)], args := [d1, d2, d3, d4] }
  | _ => none }
def FnExactMeanSignatureWrongFalsely : Prop := fnExactMeanSignatureRow.holds Try.pinned (OpenSpec.ofChange fnExactMeanSignatureWrong)

/-- 'laws.FnExactDualSeries': WHATEVER THE INPUT: true; the input reads as it did. -/
def fnExactDualSeriesSpec : ChangeSpec := { name := "fnExactDualSeries", fn := fun _ => fun
  | [d1, d2, d3] => { results := [.lit (.bool true)], args := [d1, d2, d3] }
  | _ => none }
def fnExactDualSeriesRow : OpenClaim := { program := "ytaiefdhenikiiaa", sum := "046fead0c13a001162094d2d602b5d919b96599bb7a976c84e3020e9cb1cdae1", func := "loop.example/g01260/laws.FnExactDualSeries", spec := "fnExactDualSeries", inPlace := ["internal/bytealg.abigen_runtime_cmpstring"], unfollowed := true, recurses := true, apart := false }
def FnExactDualSeriesSaid : Prop := fnExactDualSeriesRow.holds Try.pinned (OpenSpec.ofChange fnExactDualSeriesSpec)

/-- ITS FALSE NEIGHBOUR: 'it returns false'. Refute it at one input. -/
def fnExactDualSeriesWrong : ChangeSpec := { name := "fnExactDualSeries", fn := fun _ => fun
  | [d1, d2, d3] => { results := [.lit (.bool false)], args := [d1, d2, d3] }
  | _ => none }
def FnExactDualSeriesWrongFalsely : Prop := fnExactDualSeriesRow.holds Try.pinned (OpenSpec.ofChange fnExactDualSeriesWrong)

/-- 'laws.FnExactJoinedSeries': WHATEVER THE INPUT: true; the input reads as it did. -/
def fnExactJoinedSeriesSpec : ChangeSpec := { name := "fnExactJoinedSeries", fn := fun _ => fun
  | [d1, d2] => { results := [.lit (.bool true)], args := [d1, d2] }
  | _ => none }
def fnExactJoinedSeriesRow : OpenClaim := { program := "ytaiefdhenikiiaa", sum := "046fead0c13a001162094d2d602b5d919b96599bb7a976c84e3020e9cb1cdae1", func := "loop.example/g01260/laws.FnExactJoinedSeries", spec := "fnExactJoinedSeries", inPlace := ["internal/bytealg.abigen_runtime_cmpstring"], unfollowed := true, recurses := true, apart := false }
def FnExactJoinedSeriesSaid : Prop := fnExactJoinedSeriesRow.holds Try.pinned (OpenSpec.ofChange fnExactJoinedSeriesSpec)

/-- ITS FALSE NEIGHBOUR: 'it returns false'. Refute it at one input. -/
def fnExactJoinedSeriesWrong : ChangeSpec := { name := "fnExactJoinedSeries", fn := fun _ => fun
  | [d1, d2] => { results := [.lit (.bool false)], args := [d1, d2] }
  | _ => none }
def FnExactJoinedSeriesWrongFalsely : Prop := fnExactJoinedSeriesRow.holds Try.pinned (OpenSpec.ofChange fnExactJoinedSeriesWrong)

/-- 'laws.FnExactLogSignature': WHATEVER THE INPUT: true; the input reads as it did. -/
def fnExactLogSignatureSpec : ChangeSpec := { name := "fnExactLogSignature", fn := fun _ => fun
  | [d1, d2, d3] => { results := [.lit (.bool true)], args := [d1, d2, d3] }
  | _ => none }
def fnExactLogSignatureRow : OpenClaim := { program := "ytaiefdhenikiiaa", sum := "046fead0c13a001162094d2d602b5d919b96599bb7a976c84e3020e9cb1cdae1", func := "loop.example/g01260/laws.FnExactLogSignature", spec := "fnExactLogSignature", unfollowed := true, recurses := true, apart := false }
def FnExactLogSignatureSaid : Prop := fnExactLogSignatureRow.holds Try.pinned (OpenSpec.ofChange fnExactLogSignatureSpec)

/-- ITS FALSE NEIGHBOUR: 'it returns false'. Refute it at one input. -/
def fnExactLogSignatureWrong : ChangeSpec := { name := "fnExactLogSignature", fn := fun _ => fun
  | [d1, d2, d3] => { results := [.lit (.bool false)], args := [d1, d2, d3] }
  | _ => none }
def FnExactLogSignatureWrongFalsely : Prop := fnExactLogSignatureRow.holds Try.pinned (OpenSpec.ofChange fnExactLogSignatureWrong)

/-- 'laws.FnExactSignatureOfCoordinates': WHATEVER THE INPUT: true; the input reads as it did. -/
def fnExactSignatureOfCoordinatesSpec : ChangeSpec := { name := "fnExactSignatureOfCoordinates", fn := fun _ => fun
  | [d1, d2, d3] => { results := [.lit (.bool true)], args := [d1, d2, d3] }
  | _ => none }
def fnExactSignatureOfCoordinatesRow : OpenClaim := { program := "ytaiefdhenikiiaa", sum := "046fead0c13a001162094d2d602b5d919b96599bb7a976c84e3020e9cb1cdae1", func := "loop.example/g01260/laws.FnExactSignatureOfCoordinates", spec := "fnExactSignatureOfCoordinates", inPlace := ["internal/bytealg.abigen_runtime_cmpstring"], unfollowed := true, recurses := true, apart := false }
def FnExactSignatureOfCoordinatesSaid : Prop := fnExactSignatureOfCoordinatesRow.holds Try.pinned (OpenSpec.ofChange fnExactSignatureOfCoordinatesSpec)

/-- ITS FALSE NEIGHBOUR: 'it returns false'. Refute it at one input. -/
def fnExactSignatureOfCoordinatesWrong : ChangeSpec := { name := "fnExactSignatureOfCoordinates", fn := fun _ => fun
  | [d1, d2, d3] => { results := [.lit (.bool false)], args := [d1, d2, d3] }
  | _ => none }
def FnExactSignatureOfCoordinatesWrongFalsely : Prop := fnExactSignatureOfCoordinatesRow.holds Try.pinned (OpenSpec.ofChange fnExactSignatureOfCoordinatesWrong)

/- THE SECOND FORM. 'bulk': how many values and letters a reading holds, each counted each time it is reached (what is shared counts as often as it is met; a slice's spare places count too). A statement '..UptoSaid' is the law's where the arguments, and the package variables that the reading takes, are together of bulk at most 1048576: NARROWER than '..Said'. Prove '..Said' where nothing that the law and all that it calls make is longer than what came in: it says more and counts as full. Else prove '..UptoSaid'. A law counts once. -/
mutual
def uptoBulk {H : Type} : DataW H → Nat
  | .lit (.string bytes) => bytes.length + 1
  | .lit _ => 1
  | .nil => 1
  | .ptr d => uptoBulk d + 1
  | .slice elems spare => uptoBulkAll elems + uptoBulkAll spare + 1
  | .agg parts => uptoBulkAll parts + 1
  | .iface _ d => uptoBulk d + 1
  | .map entries => uptoBulkEntries entries + 1
  | .held _ => 1
def uptoBulkAll {H : Type} : List (DataW H) → Nat
  | [] => 0
  | d :: r => uptoBulk d + uptoBulkAll r
def uptoBulkEntries {H : Type} : List (Lit × DataW H) → Nat
  | [] => 0
  | x :: r => uptoBulkEntry x + uptoBulkEntries r
def uptoBulkEntry {H : Type} : Lit × DataW H → Nat
  | (.string bytes, d) => bytes.length + uptoBulk d + 1
  | (_, d) => uptoBulk d + 1
 end
def uptoSmall : (H : Type) → List (DataW H) → Bool := fun _ ds => decide (uptoBulkAll ds ≤ 1048576)
def OpenSpec.upto (s : _root_.Go.ChangeSpec) : _root_.Go.OpenSpec := { _root_.Go.OpenSpec.ofChange s with cond := some uptoSmall }

/-- 'laws.FnExactInverseCoordinates', WHERE WHAT IT READS IS OF BULK AT MOST 1048576: true; the input reads as it did. -/
def fnExactInverseCoordinatesUptoRow : OpenClaim := { program := "ytaiefdhenikiiaa", sum := "046fead0c13a001162094d2d602b5d919b96599bb7a976c84e3020e9cb1cdae1", func := "loop.example/g01260/laws.FnExactInverseCoordinates", spec := "fnExactInverseCoordinates", inPlace := ["internal/bytealg.abigen_runtime_cmpstring"], unfollowed := true, recurses := true, apart := false, narrowed := true }
def FnExactInverseCoordinatesUptoSaid : Prop := fnExactInverseCoordinatesUptoRow.holds Try.pinned (OpenSpec.upto fnExactInverseCoordinatesSpec)

/-- 'laws.FnExactDegreesOf', WHERE WHAT IT READS IS OF BULK AT MOST 1048576: true; the input reads as it did. -/
def fnExactDegreesOfUptoRow : OpenClaim := { program := "ytaiefdhenikiiaa", sum := "046fead0c13a001162094d2d602b5d919b96599bb7a976c84e3020e9cb1cdae1", func := "loop.example/g01260/laws.FnExactDegreesOf", spec := "fnExactDegreesOf", inPlace := ["internal/bytealg.abigen_runtime_cmpstring"], apart := false, narrowed := true }
def FnExactDegreesOfUptoSaid : Prop := fnExactDegreesOfUptoRow.holds Try.pinned (OpenSpec.upto fnExactDegreesOfSpec)

/-- 'laws.FnExactWithoutBeginning', WHERE WHAT IT READS IS OF BULK AT MOST 1048576: true; the input reads as it did. -/
def fnExactWithoutBeginningUptoRow : OpenClaim := { program := "ytaiefdhenikiiaa", sum := "046fead0c13a001162094d2d602b5d919b96599bb7a976c84e3020e9cb1cdae1", func := "loop.example/g01260/laws.FnExactWithoutBeginning", spec := "fnExactWithoutBeginning", inPlace := ["internal/bytealg.abigen_runtime_cmpstring"], unfollowed := true, recurses := true, apart := false, narrowed := true }
def FnExactWithoutBeginningUptoSaid : Prop := fnExactWithoutBeginningUptoRow.holds Try.pinned (OpenSpec.upto fnExactWithoutBeginningSpec)

/-- 'laws.FnExactWithoutEnd', WHERE WHAT IT READS IS OF BULK AT MOST 1048576: true; the input reads as it did. -/
def fnExactWithoutEndUptoRow : OpenClaim := { program := "ytaiefdhenikiiaa", sum := "046fead0c13a001162094d2d602b5d919b96599bb7a976c84e3020e9cb1cdae1", func := "loop.example/g01260/laws.FnExactWithoutEnd", spec := "fnExactWithoutEnd", inPlace := ["internal/bytealg.abigen_runtime_cmpstring"], unfollowed := true, recurses := true, apart := false, narrowed := true }
def FnExactWithoutEndUptoSaid : Prop := fnExactWithoutEndUptoRow.holds Try.pinned (OpenSpec.upto fnExactWithoutEndSpec)

/-- 'laws.FnExactLeftBracket', WHERE WHAT IT READS IS OF BULK AT MOST 1048576: true; the input reads as it did. -/
def fnExactLeftBracketUptoRow : OpenClaim := { program := "ytaiefdhenikiiaa", sum := "046fead0c13a001162094d2d602b5d919b96599bb7a976c84e3020e9cb1cdae1", func := "loop.example/g01260/laws.FnExactLeftBracket", spec := "fnExactLeftBracket", recurses := true, apart := false, narrowed := true }
def FnExactLeftBracketUptoSaid : Prop := fnExactLeftBracketUptoRow.holds Try.pinned (OpenSpec.upto fnExactLeftBracketSpec)

/-- 'laws.FnExactBracketOf', WHERE WHAT IT READS IS OF BULK AT MOST 1048576: true; the input reads as it did. -/
def fnExactBracketOfUptoRow : OpenClaim := { program := "ytaiefdhenikiiaa", sum := "046fead0c13a001162094d2d602b5d919b96599bb7a976c84e3020e9cb1cdae1", func := "loop.example/g01260/laws.FnExactBracketOf", spec := "fnExactBracketOf", recurses := true, apart := false, narrowed := true }
def FnExactBracketOfUptoSaid : Prop := fnExactBracketOfUptoRow.holds Try.pinned (OpenSpec.upto fnExactBracketOfSpec)

/-- 'laws.FnExactStepSignature', WHERE WHAT IT READS IS OF BULK AT MOST 1048576: true; the input reads as it did. -/
def fnExactStepSignatureUptoRow : OpenClaim := { program := "ytaiefdhenikiiaa", sum := "046fead0c13a001162094d2d602b5d919b96599bb7a976c84e3020e9cb1cdae1", func := "loop.example/g01260/laws.FnExactStepSignature", spec := "fnExactStepSignature", unfollowed := true, recurses := true, apart := false, narrowed := true }
def FnExactStepSignatureUptoSaid : Prop := fnExactStepSignatureUptoRow.holds Try.pinned (OpenSpec.upto fnExactStepSignatureSpec)

/-- 'laws.FnExactRepeatedBracket', WHERE WHAT IT READS IS OF BULK AT MOST 1048576: true; the input reads as it did. -/
def fnExactRepeatedBracketUptoRow : OpenClaim := { program := "ytaiefdhenikiiaa", sum := "046fead0c13a001162094d2d602b5d919b96599bb7a976c84e3020e9cb1cdae1", func := "loop.example/g01260/laws.FnExactRepeatedBracket", spec := "fnExactRepeatedBracket", inPlace := ["internal/bytealg.abigen_runtime_cmpstring"], apart := false, narrowed := true }
def FnExactRepeatedBracketUptoSaid : Prop := fnExactRepeatedBracketUptoRow.holds Try.pinned (OpenSpec.upto fnExactRepeatedBracketSpec)

/-- 'laws.FnExactAreSignaturesEqual', WHERE WHAT IT READS IS OF BULK AT MOST 1048576: true; the input reads as it did. -/
def fnExactAreSignaturesEqualUptoRow : OpenClaim := { program := "ytaiefdhenikiiaa", sum := "046fead0c13a001162094d2d602b5d919b96599bb7a976c84e3020e9cb1cdae1", func := "loop.example/g01260/laws.FnExactAreSignaturesEqual", spec := "fnExactAreSignaturesEqual", unfollowed := true, recurses := true, apart := false, narrowed := true }
def FnExactAreSignaturesEqualUptoSaid : Prop := fnExactAreSignaturesEqualUptoRow.holds Try.pinned (OpenSpec.upto fnExactAreSignaturesEqualSpec)

/-- 'laws.FnExactSeriesOfCoordinates', WHERE WHAT IT READS IS OF BULK AT MOST 1048576: true; the input reads as it did. -/
def fnExactSeriesOfCoordinatesUptoRow : OpenClaim := { program := "ytaiefdhenikiiaa", sum := "046fead0c13a001162094d2d602b5d919b96599bb7a976c84e3020e9cb1cdae1", func := "loop.example/g01260/laws.FnExactSeriesOfCoordinates", spec := "fnExactSeriesOfCoordinates", inPlace := ["internal/bytealg.abigen_runtime_cmpstring"], unfollowed := true, recurses := true, apart := false, narrowed := true }
def FnExactSeriesOfCoordinatesUptoSaid : Prop := fnExactSeriesOfCoordinatesUptoRow.holds Try.pinned (OpenSpec.upto fnExactSeriesOfCoordinatesSpec)

/-- 'laws.FnExactLieCoordinates', WHERE WHAT IT READS IS OF BULK AT MOST 1048576: true; the input reads as it did. -/
def fnExactLieCoordinatesUptoRow : OpenClaim := { program := "ytaiefdhenikiiaa", sum := "046fead0c13a001162094d2d602b5d919b96599bb7a976c84e3020e9cb1cdae1", func := "loop.example/g01260/laws.FnExactLieCoordinates", spec := "fnExactLieCoordinates", inPlace := ["internal/bytealg.abigen_runtime_cmpstring"], recurses := true, apart := false, narrowed := true }
def FnExactLieCoordinatesUptoSaid : Prop := fnExactLieCoordinatesUptoRow.holds Try.pinned (OpenSpec.upto fnExactLieCoordinatesSpec)

/-- 'laws.FnExactDynkinMap', WHERE WHAT IT READS IS OF BULK AT MOST 1048576: true; the input reads as it did. -/
def fnExactDynkinMapUptoRow : OpenClaim := { program := "ytaiefdhenikiiaa", sum := "046fead0c13a001162094d2d602b5d919b96599bb7a976c84e3020e9cb1cdae1", func := "loop.example/g01260/laws.FnExactDynkinMap", spec := "fnExactDynkinMap", inPlace := ["internal/bytealg.abigen_runtime_cmpstring"], recurses := true, apart := false, narrowed := true }
def FnExactDynkinMapUptoSaid : Prop := fnExactDynkinMapUptoRow.holds Try.pinned (OpenSpec.upto fnExactDynkinMapSpec)

/-- 'laws.FnExactSignatureOf', WHERE WHAT IT READS IS OF BULK AT MOST 1048576: true; the input reads as it did. -/
def fnExactSignatureOfUptoRow : OpenClaim := { program := "ytaiefdhenikiiaa", sum := "046fead0c13a001162094d2d602b5d919b96599bb7a976c84e3020e9cb1cdae1", func := "loop.example/g01260/laws.FnExactSignatureOf", spec := "fnExactSignatureOf", unfollowed := true, recurses := true, apart := false, narrowed := true }
def FnExactSignatureOfUptoSaid : Prop := fnExactSignatureOfUptoRow.holds Try.pinned (OpenSpec.upto fnExactSignatureOfSpec)

/-- 'laws.FnExactMeanSignature', WHERE WHAT IT READS IS OF BULK AT MOST 1048576: true; the input reads as it did. -/
def fnExactMeanSignatureUptoRow : OpenClaim := { program := "ytaiefdhenikiiaa", sum := "046fead0c13a001162094d2d602b5d919b96599bb7a976c84e3020e9cb1cdae1", func := "loop.example/g01260/laws.FnExactMeanSignature", spec := "fnExactMeanSignature", unfollowed := true, recurses := true, apart := false, narrowed := true }
def FnExactMeanSignatureUptoSaid : Prop := fnExactMeanSignatureUptoRow.holds Try.pinned (OpenSpec.upto fnExactMeanSignatureSpec)

/-- 'laws.FnExactDualSeries', WHERE WHAT IT READS IS OF BULK AT MOST 1048576: true; the input reads as it did. -/
def fnExactDualSeriesUptoRow : OpenClaim := { program := "ytaiefdhenikiiaa", sum := "046fead0c13a001162094d2d602b5d919b96599bb7a976c84e3020e9cb1cdae1", func := "loop.example/g01260/laws.FnExactDualSeries", spec := "fnExactDualSeries", inPlace := ["internal/bytealg.abigen_runtime_cmpstring"], unfollowed := true, recurses := true, apart := false, narrowed := true }
def FnExactDualSeriesUptoSaid : Prop := fnExactDualSeriesUptoRow.holds Try.pinned (OpenSpec.upto fnExactDualSeriesSpec)

/-- 'laws.FnExactJoinedSeries', WHERE WHAT IT READS IS OF BULK AT MOST 1048576: true; the input reads as it did. -/
def fnExactJoinedSeriesUptoRow : OpenClaim := { program := "ytaiefdhenikiiaa", sum := "046fead0c13a001162094d2d602b5d919b96599bb7a976c84e3020e9cb1cdae1", func := "loop.example/g01260/laws.FnExactJoinedSeries", spec := "fnExactJoinedSeries", inPlace := ["internal/bytealg.abigen_runtime_cmpstring"], unfollowed := true, recurses := true, apart := false, narrowed := true }
def FnExactJoinedSeriesUptoSaid : Prop := fnExactJoinedSeriesUptoRow.holds Try.pinned (OpenSpec.upto fnExactJoinedSeriesSpec)

/-- 'laws.FnExactLogSignature', WHERE WHAT IT READS IS OF BULK AT MOST 1048576: true; the input reads as it did. -/
def fnExactLogSignatureUptoRow : OpenClaim := { program := "ytaiefdhenikiiaa", sum := "046fead0c13a001162094d2d602b5d919b96599bb7a976c84e3020e9cb1cdae1", func := "loop.example/g01260/laws.FnExactLogSignature", spec := "fnExactLogSignature", unfollowed := true, recurses := true, apart := false, narrowed := true }
def FnExactLogSignatureUptoSaid : Prop := fnExactLogSignatureUptoRow.holds Try.pinned (OpenSpec.upto fnExactLogSignatureSpec)

/-- 'laws.FnExactSignatureOfCoordinates', WHERE WHAT IT READS IS OF BULK AT MOST 1048576: true; the input reads as it did. -/
def fnExactSignatureOfCoordinatesUptoRow : OpenClaim := { program := "ytaiefdhenikiiaa", sum := "046fead0c13a001162094d2d602b5d919b96599bb7a976c84e3020e9cb1cdae1", func := "loop.example/g01260/laws.FnExactSignatureOfCoordinates", spec := "fnExactSignatureOfCoordinates", inPlace := ["internal/bytealg.abigen_runtime_cmpstring"], unfollowed := true, recurses := true, apart := false, narrowed := true }
def FnExactSignatureOfCoordinatesUptoSaid : Prop := fnExactSignatureOfCoordinatesUptoRow.holds Try.pinned (OpenSpec.upto fnExactSignatureOfCoordinatesSpec)

end Rows
end Go.Proofs.Ytaiefdhenikiiaa
