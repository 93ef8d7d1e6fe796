/-
  No cell of these rows narrows 'for every input' (looked for: loops, veiled, ifaces, maps, wideKeys, modest, calm, conditions, laid).
  DERIVED. THE GIVEN ROWS OF THIS SEAT. 14 by the template 'for every input the law returns true; each argument reads behind the call as it read before'; 0 by the template 'total and deterministic' (their statements: YtocldhojbnegjaaTotals.lean).
  GIVEN WITH THE SEED: the statements are not yours to turn. If you find one false, say at which input.
  Laid BY PROGRAM, IN A SANDBOX (cutbox-rows.mjs): the forced cells as the released guide's own fill.sh prints them over the translation d6e7b1de237b92db… (all of the seat's roots in one cut). By AI agents, Wed Nov 11 2026. No macro, syntax, notation, axiom, sorry.
-/
import Derived.Test.YtocldhojbnegjaaChecked
import GoSem.Claim
import GoSem.ClaimJoined
import GoSem.ClaimMapViews
import Derived.JoinedTies
import Derived.KernelRfl
namespace Go.Proofs.Ytocldhojbnegjaa
/- THE CELL 'sum', in the pinned program and in every row, IS THE sha256 OF THE DUMP (.gsa) THAT YtocldhojbnegjaaProg.lean LOADS. Nothing in Lean hashes anything: it is a label: what it is worth is what the hold of that sum in a sandbox is worth. -/
noncomputable def Try.pinned : Pinned := { name := "ytocldhojbnegjaa", sum := "d6e7b1de237b92db2c4d02e8ba037044eab29f909f97978f124b1a8cb860fcc6", checked := Try.checked }
namespace Rows
def none {H : Type} : Left H := { results := [], args := [] }

/-- 'laws.FnExactCutOf': WHATEVER THE INPUT: true; the input reads as it did. -/
def fnExactCutOfSpec : ChangeSpec := { name := "fnExactCutOf", fn := fun _ => fun
  | [d1, d2] => { results := [.lit (.bool true)], args := [d1, d2] }
  | _ => none }
def fnExactCutOfRow : OpenClaim := { program := "ytocldhojbnegjaa", sum := "d6e7b1de237b92db2c4d02e8ba037044eab29f909f97978f124b1a8cb860fcc6", func := "loop.example/g01260/laws.FnExactCutOf", spec := "fnExactCutOf", apart := false }
def FnExactCutOfSaid : Prop := fnExactCutOfRow.holds Try.pinned (OpenSpec.ofChange fnExactCutOfSpec)

/-- ITS FALSE NEIGHBOUR: 'it returns false'. Refute it at one input. -/
def fnExactCutOfWrong : ChangeSpec := { name := "fnExactCutOf", fn := fun _ => fun
  | [d1, d2] => { results := [.lit (.bool false)], args := [d1, d2] }
  | _ => none }
def FnExactCutOfWrongFalsely : Prop := fnExactCutOfRow.holds Try.pinned (OpenSpec.ofChange fnExactCutOfWrong)

/-- 'laws.FnExactFactorsOf': WHATEVER THE INPUT: true; the input reads as it did. -/
def fnExactFactorsOfSpec : ChangeSpec := { name := "fnExactFactorsOf", fn := fun _ => fun
  | [d1, d2] => { results := [.lit (.bool true)], args := [d1, d2] }
  | _ => none }
def fnExactFactorsOfRow : OpenClaim := { program := "ytocldhojbnegjaa", sum := "d6e7b1de237b92db2c4d02e8ba037044eab29f909f97978f124b1a8cb860fcc6", func := "loop.example/g01260/laws.FnExactFactorsOf", spec := "fnExactFactorsOf", apart := false }
def FnExactFactorsOfSaid : Prop := fnExactFactorsOfRow.holds Try.pinned (OpenSpec.ofChange fnExactFactorsOfSpec)

/-- ITS FALSE NEIGHBOUR: 'it returns false'. Refute it at one input. -/
def fnExactFactorsOfWrong : ChangeSpec := { name := "fnExactFactorsOf", fn := fun _ => fun
  | [d1, d2] => { results := [.lit (.bool false)], args := [d1, d2] }
  | _ => none }
def FnExactFactorsOfWrongFalsely : Prop := fnExactFactorsOfRow.holds Try.pinned (OpenSpec.ofChange fnExactFactorsOfWrong)

/-- 'laws.FnExactParseBracket': WHATEVER THE INPUT: true; the input reads as it did. -/
def fnExactParseBracketSpec : ChangeSpec := { name := "fnExactParseBracket", fn := fun _ => fun
  | [d1, d2] => { results := [.lit (.bool true)], args := [d1, d2] }
  | _ => none }
def fnExactParseBracketRow : OpenClaim := { program := "ytocldhojbnegjaa", sum := "d6e7b1de237b92db2c4d02e8ba037044eab29f909f97978f124b1a8cb860fcc6", func := "loop.example/g01260/laws.FnExactParseBracket", spec := "fnExactParseBracket", inPlace := ["internal/bytealg.IndexByteString", "internal/abi.NoEscape"], recurses := true, apart := false }
def FnExactParseBracketSaid : Prop := fnExactParseBracketRow.holds Try.pinned (OpenSpec.ofChange fnExactParseBracketSpec)

/-- ITS FALSE NEIGHBOUR: 'it returns false'. Refute it at one input. -/
def fnExactParseBracketWrong : ChangeSpec := { name := "fnExactParseBracket", fn := fun _ => fun
  | [d1, d2] => { results := [.lit (.bool false)], args := [d1, d2] }
  | _ => none }
def FnExactParseBracketWrongFalsely : Prop := fnExactParseBracketRow.holds Try.pinned (OpenSpec.ofChange fnExactParseBracketWrong)

/-- 'laws.FnExactDoubleArea': WHATEVER THE INPUT: true; the input reads as it did. -/
def fnExactDoubleAreaSpec : ChangeSpec := { name := "fnExactDoubleArea", fn := fun _ => fun
  | [d1, d2, d3, d4] => { results := [.lit (.bool true)], args := [d1, d2, d3, d4] }
  | _ => none }
def fnExactDoubleAreaRow : OpenClaim := { program := "ytocldhojbnegjaa", sum := "d6e7b1de237b92db2c4d02e8ba037044eab29f909f97978f124b1a8cb860fcc6", func := "loop.example/g01260/laws.FnExactDoubleArea", spec := "fnExactDoubleArea", unfollowed := true, recurses := true, apart := false }
def FnExactDoubleAreaSaid : Prop := fnExactDoubleAreaRow.holds Try.pinned (OpenSpec.ofChange fnExactDoubleAreaSpec)

/-- ITS FALSE NEIGHBOUR: 'it returns false'. Refute it at one input. -/
def fnExactDoubleAreaWrong : ChangeSpec := { name := "fnExactDoubleArea", fn := fun _ => fun
  | [d1, d2, d3, d4] => { results := [.lit (.bool false)], args := [d1, d2, d3, d4] }
  | _ => none }
def FnExactDoubleAreaWrongFalsely : Prop := fnExactDoubleAreaRow.holds Try.pinned (OpenSpec.ofChange fnExactDoubleAreaWrong)

/-- 'laws.FnExactTransposeMap': WHATEVER THE INPUT: true; the input reads as it did. -/
def fnExactTransposeMapSpec : ChangeSpec := { name := "fnExactTransposeMap", fn := fun _ => fun
  | [d1, d2, d3] => { results := [.lit (.bool true)], args := [d1, d2, d3] }
  | _ => none }
def fnExactTransposeMapRow : OpenClaim := { program := "ytocldhojbnegjaa", sum := "d6e7b1de237b92db2c4d02e8ba037044eab29f909f97978f124b1a8cb860fcc6", func := "loop.example/g01260/laws.FnExactTransposeMap", spec := "fnExactTransposeMap", unfollowed := true, recurses := true, apart := false }
def FnExactTransposeMapSaid : Prop := fnExactTransposeMapRow.holds Try.pinned (OpenSpec.ofChange fnExactTransposeMapSpec)

/-- ITS FALSE NEIGHBOUR: 'it returns false'. Refute it at one input. -/
def fnExactTransposeMapWrong : ChangeSpec := { name := "fnExactTransposeMap", fn := fun _ => fun
  | [d1, d2, d3] => { results := [.lit (.bool false)], args := [d1, d2, d3] }
  | _ => none }
def FnExactTransposeMapWrongFalsely : Prop := fnExactTransposeMapRow.holds Try.pinned (OpenSpec.ofChange fnExactTransposeMapWrong)

/-- 'laws.FnExactEndOf': WHATEVER THE INPUT: true; the input reads as it did. -/
def fnExactEndOfSpec : ChangeSpec := { name := "fnExactEndOf", fn := fun _ => fun
  | [d1, d2] => { results := [.lit (.bool true)], args := [d1, d2] }
  | _ => none }
def fnExactEndOfRow : OpenClaim := { program := "ytocldhojbnegjaa", sum := "d6e7b1de237b92db2c4d02e8ba037044eab29f909f97978f124b1a8cb860fcc6", func := "loop.example/g01260/laws.FnExactEndOf", spec := "fnExactEndOf", unfollowed := true, recurses := true, apart := false }
def FnExactEndOfSaid : Prop := fnExactEndOfRow.holds Try.pinned (OpenSpec.ofChange fnExactEndOfSpec)

/-- ITS FALSE NEIGHBOUR: 'it returns false'. Refute it at one input. -/
def fnExactEndOfWrong : ChangeSpec := { name := "fnExactEndOf", fn := fun _ => fun
  | [d1, d2] => { results := [.lit (.bool false)], args := [d1, d2] }
  | _ => none }
def FnExactEndOfWrongFalsely : Prop := fnExactEndOfRow.holds Try.pinned (OpenSpec.ofChange fnExactEndOfWrong)

/-- 'laws.FnExactLyndonWords': WHATEVER THE INPUT: true; the input reads as it did. -/
def fnExactLyndonWordsSpec : ChangeSpec := { name := "fnExactLyndonWords", fn := fun _ => fun
  | [d1, d2] => { results := [.lit (.bool true)], args := [d1, d2] }
  | _ => none }
def fnExactLyndonWordsRow : OpenClaim := { program := "ytocldhojbnegjaa", sum := "d6e7b1de237b92db2c4d02e8ba037044eab29f909f97978f124b1a8cb860fcc6", func := "loop.example/g01260/laws.FnExactLyndonWords", spec := "fnExactLyndonWords", unfollowed := true, recurses := true, apart := false }
def FnExactLyndonWordsSaid : Prop := fnExactLyndonWordsRow.holds Try.pinned (OpenSpec.ofChange fnExactLyndonWordsSpec)

/-- ITS FALSE NEIGHBOUR: 'it returns false'. Refute it at one input. -/
def fnExactLyndonWordsWrong : ChangeSpec := { name := "fnExactLyndonWords", fn := fun _ => fun
  | [d1, d2] => { results := [.lit (.bool false)], args := [d1, d2] }
  | _ => none }
def FnExactLyndonWordsWrongFalsely : Prop := fnExactLyndonWordsRow.holds Try.pinned (OpenSpec.ofChange fnExactLyndonWordsWrong)

/-- 'laws.FnExactReversePath': WHATEVER THE INPUT: true; the input reads as it did. -/
def fnExactReversePathSpec : ChangeSpec := { name := "fnExactReversePath", fn := fun _ => fun
  | [d1, d2] => { results := [.lit (.bool true)], args := [d1, d2] }
  | _ => none }
def fnExactReversePathRow : OpenClaim := { program := "ytocldhojbnegjaa", sum := "d6e7b1de237b92db2c4d02e8ba037044eab29f909f97978f124b1a8cb860fcc6", func := "loop.example/g01260/laws.FnExactReversePath", spec := "fnExactReversePath", unfollowed := true, recurses := true, apart := false }
def FnExactReversePathSaid : Prop := fnExactReversePathRow.holds Try.pinned (OpenSpec.ofChange fnExactReversePathSpec)

/-- ITS FALSE NEIGHBOUR: 'it returns false'. Refute it at one input. -/
def fnExactReversePathWrong : ChangeSpec := { name := "fnExactReversePath", fn := fun _ => fun
  | [d1, d2] => { results := [.lit (.bool false)], args := [d1, d2] }
  | _ => none }
def FnExactReversePathWrongFalsely : Prop := fnExactReversePathRow.holds Try.pinned (OpenSpec.ofChange fnExactReversePathWrong)

/-- 'laws.FnExactRootOf': WHATEVER THE INPUT: true; the input reads as it did. -/
def fnExactRootOfSpec : ChangeSpec := { name := "fnExactRootOf", fn := fun _ => fun
  | [d1, d2] => { results := [.lit (.bool true)], args := [d1, d2] }
  | _ => none }
def fnExactRootOfRow : OpenClaim := { program := "ytocldhojbnegjaa", sum := "d6e7b1de237b92db2c4d02e8ba037044eab29f909f97978f124b1a8cb860fcc6", func := "loop.example/g01260/laws.FnExactRootOf", spec := "fnExactRootOf", inPlace := ["internal/abi.NoEscape", "internal/bytealg.MakeNoZero"], apart := false }
def FnExactRootOfSaid : Prop := fnExactRootOfRow.holds Try.pinned (OpenSpec.ofChange fnExactRootOfSpec)

/-- ITS FALSE NEIGHBOUR: 'it returns false'. Refute it at one input. -/
def fnExactRootOfWrong : ChangeSpec := { name := "fnExactRootOf", fn := fun _ => fun
  | [d1, d2] => { results := [.lit (.bool false)], args := [d1, d2] }
  | _ => none }
def FnExactRootOfWrongFalsely : Prop := fnExactRootOfRow.holds Try.pinned (OpenSpec.ofChange fnExactRootOfWrong)

/-- 'laws.FnExactScalePath': WHATEVER THE INPUT: true; the input reads as it did. -/
def fnExactScalePathSpec : ChangeSpec := { name := "fnExactScalePath", fn := fun _ => fun
  | [d1, d2, d3] => { results := [.lit (.bool true)], args := [d1, d2, d3] }
  | _ => none }
def fnExactScalePathRow : OpenClaim := { program := "ytocldhojbnegjaa", sum := "d6e7b1de237b92db2c4d02e8ba037044eab29f909f97978f124b1a8cb860fcc6", func := "loop.example/g01260/laws.FnExactScalePath", spec := "fnExactScalePath", unfollowed := true, recurses := true, apart := false }
def FnExactScalePathSaid : Prop := fnExactScalePathRow.holds Try.pinned (OpenSpec.ofChange fnExactScalePathSpec)

/-- ITS FALSE NEIGHBOUR: 'it returns false'. Refute it at one input. -/
def fnExactScalePathWrong : ChangeSpec := { name := "fnExactScalePath", fn := fun _ => fun
  | [d1, d2, d3] => { results := [.lit (.bool false)], args := [d1, d2, d3] }
  | _ => none }
def FnExactScalePathWrongFalsely : Prop := fnExactScalePathRow.holds Try.pinned (OpenSpec.ofChange fnExactScalePathWrong)

/-- 'laws.FnExactJoinPaths': WHATEVER THE INPUT: true; the input reads as it did. -/
def fnExactJoinPathsSpec : ChangeSpec := { name := "fnExactJoinPaths", fn := fun _ => fun
  | [d1, d2, d3] => { results := [.lit (.bool true)], args := [d1, d2, d3] }
  | _ => none }
def fnExactJoinPathsRow : OpenClaim := { program := "ytocldhojbnegjaa", sum := "d6e7b1de237b92db2c4d02e8ba037044eab29f909f97978f124b1a8cb860fcc6", func := "loop.example/g01260/laws.FnExactJoinPaths", spec := "fnExactJoinPaths", unfollowed := true, recurses := true, apart := false }
def FnExactJoinPathsSaid : Prop := fnExactJoinPathsRow.holds Try.pinned (OpenSpec.ofChange fnExactJoinPathsSpec)

/-- ITS FALSE NEIGHBOUR: 'it returns false'. Refute it at one input. -/
def fnExactJoinPathsWrong : ChangeSpec := { name := "fnExactJoinPaths", fn := fun _ => fun
  | [d1, d2, d3] => { results := [.lit (.bool false)], args := [d1, d2, d3] }
  | _ => none }
def FnExactJoinPathsWrongFalsely : Prop := fnExactJoinPathsRow.holds Try.pinned (OpenSpec.ofChange fnExactJoinPathsWrong)

/-- 'laws.FnExactComposeMaps': WHATEVER THE INPUT: true; the input reads as it did. -/
def fnExactComposeMapsSpec : ChangeSpec := { name := "fnExactComposeMaps", fn := fun _ => fun
  | [d1, d2, d3, d4, d5] => { results := [.lit (.bool true)], args := [d1, d2, d3, d4, d5] }
  | _ => none }
def fnExactComposeMapsRow : OpenClaim := { program := "ytocldhojbnegjaa", sum := "d6e7b1de237b92db2c4d02e8ba037044eab29f909f97978f124b1a8cb860fcc6", func := "loop.example/g01260/laws.FnExactComposeMaps", spec := "fnExactComposeMaps", unfollowed := true, recurses := true, apart := false }
def FnExactComposeMapsSaid : Prop := fnExactComposeMapsRow.holds Try.pinned (OpenSpec.ofChange fnExactComposeMapsSpec)

/-- ITS FALSE NEIGHBOUR: 'it returns false'. Refute it at one input. -/
def fnExactComposeMapsWrong : ChangeSpec := { name := "fnExactComposeMaps", fn := fun _ => fun
  | [d1, d2, d3, d4, d5] => { results := [.lit (.bool false)], args := [d1, d2, d3, d4, d5] }
  | _ => none }
def FnExactComposeMapsWrongFalsely : Prop := fnExactComposeMapsRow.holds Try.pinned (OpenSpec.ofChange fnExactComposeMapsWrong)

/-- 'laws.FnExactMapPath': WHATEVER THE INPUT: true; the input reads as it did. -/
def fnExactMapPathSpec : ChangeSpec := { name := "fnExactMapPath", fn := fun _ => fun
  | [d1, d2, d3, d4] => { results := [.lit (.bool true)], args := [d1, d2, d3, d4] }
  | _ => none }
def fnExactMapPathRow : OpenClaim := { program := "ytocldhojbnegjaa", sum := "d6e7b1de237b92db2c4d02e8ba037044eab29f909f97978f124b1a8cb860fcc6", func := "loop.example/g01260/laws.FnExactMapPath", spec := "fnExactMapPath", unfollowed := true, recurses := true, apart := false }
def FnExactMapPathSaid : Prop := fnExactMapPathRow.holds Try.pinned (OpenSpec.ofChange fnExactMapPathSpec)

/-- ITS FALSE NEIGHBOUR: 'it returns false'. Refute it at one input. -/
def fnExactMapPathWrong : ChangeSpec := { name := "fnExactMapPath", fn := fun _ => fun
  | [d1, d2, d3, d4] => { results := [.lit (.bool false)], args := [d1, d2, d3, d4] }
  | _ => none }
def FnExactMapPathWrongFalsely : Prop := fnExactMapPathRow.holds Try.pinned (OpenSpec.ofChange fnExactMapPathWrong)

/-- 'laws.FnExactReducePath': WHATEVER THE INPUT: true; the input reads as it did. -/
def fnExactReducePathSpec : ChangeSpec := { name := "fnExactReducePath", fn := fun _ => fun
  | [d1, d2] => { results := [.lit (.bool true)], args := [d1, d2] }
  | _ => none }
def fnExactReducePathRow : OpenClaim := { program := "ytocldhojbnegjaa", sum := "d6e7b1de237b92db2c4d02e8ba037044eab29f909f97978f124b1a8cb860fcc6", func := "loop.example/g01260/laws.FnExactReducePath", spec := "fnExactReducePath", inPlace := ["slices.overlaps[[]int64]"], unfollowed := true, recurses := true, apart := false }
def FnExactReducePathSaid : Prop := fnExactReducePathRow.holds Try.pinned (OpenSpec.ofChange fnExactReducePathSpec)

/-- ITS FALSE NEIGHBOUR: 'it returns false'. Refute it at one input. -/
def fnExactReducePathWrong : ChangeSpec := { name := "fnExactReducePath", fn := fun _ => fun
  | [d1, d2] => { results := [.lit (.bool false)], args := [d1, d2] }
  | _ => none }
def FnExactReducePathWrongFalsely : Prop := fnExactReducePathRow.holds Try.pinned (OpenSpec.ofChange fnExactReducePathWrong)

/- THE SECOND FORM. 'bulk': how many values and letters a reading holds, each counted each time it is reached (what is shared counts as often as it is met; a slice's spare places count too). A statement '..UptoSaid' is the law's where the arguments, and the package variables that the reading takes, are together of bulk at most 1048576: NARROWER than '..Said'. Prove '..Said' where nothing that the law and all that it calls make is longer than what came in: it says more and counts as full. Else prove '..UptoSaid'. A law counts once. -/
mutual
def uptoBulk {H : Type} : DataW H → Nat
  | .lit (.string bytes) => bytes.length + 1
  | .lit _ => 1
  | .nil => 1
  | .ptr d => uptoBulk d + 1
  | .slice elems spare => uptoBulkAll elems + uptoBulkAll spare + 1
  | .agg parts => uptoBulkAll parts + 1
  | .iface _ d => uptoBulk d + 1
  | .map entries => uptoBulkEntries entries + 1
  | .held _ => 1
def uptoBulkAll {H : Type} : List (DataW H) → Nat
  | [] => 0
  | d :: r => uptoBulk d + uptoBulkAll r
def uptoBulkEntries {H : Type} : List (Lit × DataW H) → Nat
  | [] => 0
  | x :: r => uptoBulkEntry x + uptoBulkEntries r
def uptoBulkEntry {H : Type} : Lit × DataW H → Nat
  | (.string bytes, d) => bytes.length + uptoBulk d + 1
  | (_, d) => uptoBulk d + 1
 end
def uptoSmall : (H : Type) → List (DataW H) → Bool := fun _ ds => decide (uptoBulkAll ds ≤ 1048576)
def OpenSpec.upto (s : _root_.Go.ChangeSpec) : _root_.Go.OpenSpec := { _root_.Go.OpenSpec.ofChange s with cond := some uptoSmall }

/-- 'laws.FnExactCutOf', WHERE WHAT IT READS IS OF BULK AT MOST 1048576: true; the input reads as it did. -/
def fnExactCutOfUptoRow : OpenClaim := { program := "ytocldhojbnegjaa", sum := "d6e7b1de237b92db2c4d02e8ba037044eab29f909f97978f124b1a8cb860fcc6", func := "loop.example/g01260/laws.FnExactCutOf", spec := "fnExactCutOf", apart := false, narrowed := true }
def FnExactCutOfUptoSaid : Prop := fnExactCutOfUptoRow.holds Try.pinned (OpenSpec.upto fnExactCutOfSpec)

/-- 'laws.FnExactFactorsOf', WHERE WHAT IT READS IS OF BULK AT MOST 1048576: true; the input reads as it did. -/
def fnExactFactorsOfUptoRow : OpenClaim := { program := "ytocldhojbnegjaa", sum := "d6e7b1de237b92db2c4d02e8ba037044eab29f909f97978f124b1a8cb860fcc6", func := "loop.example/g01260/laws.FnExactFactorsOf", spec := "fnExactFactorsOf", apart := false, narrowed := true }
def FnExactFactorsOfUptoSaid : Prop := fnExactFactorsOfUptoRow.holds Try.pinned (OpenSpec.upto fnExactFactorsOfSpec)

/-- 'laws.FnExactParseBracket', WHERE WHAT IT READS IS OF BULK AT MOST 1048576: true; the input reads as it did. -/
def fnExactParseBracketUptoRow : OpenClaim := { program := "ytocldhojbnegjaa", sum := "d6e7b1de237b92db2c4d02e8ba037044eab29f909f97978f124b1a8cb860fcc6", func := "loop.example/g01260/laws.FnExactParseBracket", spec := "fnExactParseBracket", inPlace := ["internal/bytealg.IndexByteString", "internal/abi.NoEscape"], recurses := true, apart := false, narrowed := true }
def FnExactParseBracketUptoSaid : Prop := fnExactParseBracketUptoRow.holds Try.pinned (OpenSpec.upto fnExactParseBracketSpec)

/-- 'laws.FnExactDoubleArea', WHERE WHAT IT READS IS OF BULK AT MOST 1048576: true; the input reads as it did. -/
def fnExactDoubleAreaUptoRow : OpenClaim := { program := "ytocldhojbnegjaa", sum := "d6e7b1de237b92db2c4d02e8ba037044eab29f909f97978f124b1a8cb860fcc6", func := "loop.example/g01260/laws.FnExactDoubleArea", spec := "fnExactDoubleArea", unfollowed := true, recurses := true, apart := false, narrowed := true }
def FnExactDoubleAreaUptoSaid : Prop := fnExactDoubleAreaUptoRow.holds Try.pinned (OpenSpec.upto fnExactDoubleAreaSpec)

/-- 'laws.FnExactTransposeMap', WHERE WHAT IT READS IS OF BULK AT MOST 1048576: true; the input reads as it did. -/
def fnExactTransposeMapUptoRow : OpenClaim := { program := "ytocldhojbnegjaa", sum := "d6e7b1de237b92db2c4d02e8ba037044eab29f909f97978f124b1a8cb860fcc6", func := "loop.example/g01260/laws.FnExactTransposeMap", spec := "fnExactTransposeMap", unfollowed := true, recurses := true, apart := false, narrowed := true }
def FnExactTransposeMapUptoSaid : Prop := fnExactTransposeMapUptoRow.holds Try.pinned (OpenSpec.upto fnExactTransposeMapSpec)

/-- 'laws.FnExactEndOf', WHERE WHAT IT READS IS OF BULK AT MOST 1048576: true; the input reads as it did. -/
def fnExactEndOfUptoRow : OpenClaim := { program := "ytocldhojbnegjaa", sum := "d6e7b1de237b92db2c4d02e8ba037044eab29f909f97978f124b1a8cb860fcc6", func := "loop.example/g01260/laws.FnExactEndOf", spec := "fnExactEndOf", unfollowed := true, recurses := true, apart := false, narrowed := true }
def FnExactEndOfUptoSaid : Prop := fnExactEndOfUptoRow.holds Try.pinned (OpenSpec.upto fnExactEndOfSpec)

/-- 'laws.FnExactLyndonWords', WHERE WHAT IT READS IS OF BULK AT MOST 1048576: true; the input reads as it did. -/
def fnExactLyndonWordsUptoRow : OpenClaim := { program := "ytocldhojbnegjaa", sum := "d6e7b1de237b92db2c4d02e8ba037044eab29f909f97978f124b1a8cb860fcc6", func := "loop.example/g01260/laws.FnExactLyndonWords", spec := "fnExactLyndonWords", unfollowed := true, recurses := true, apart := false, narrowed := true }
def FnExactLyndonWordsUptoSaid : Prop := fnExactLyndonWordsUptoRow.holds Try.pinned (OpenSpec.upto fnExactLyndonWordsSpec)

/-- 'laws.FnExactReversePath', WHERE WHAT IT READS IS OF BULK AT MOST 1048576: true; the input reads as it did. -/
def fnExactReversePathUptoRow : OpenClaim := { program := "ytocldhojbnegjaa", sum := "d6e7b1de237b92db2c4d02e8ba037044eab29f909f97978f124b1a8cb860fcc6", func := "loop.example/g01260/laws.FnExactReversePath", spec := "fnExactReversePath", unfollowed := true, recurses := true, apart := false, narrowed := true }
def FnExactReversePathUptoSaid : Prop := fnExactReversePathUptoRow.holds Try.pinned (OpenSpec.upto fnExactReversePathSpec)

/-- 'laws.FnExactRootOf', WHERE WHAT IT READS IS OF BULK AT MOST 1048576: true; the input reads as it did. -/
def fnExactRootOfUptoRow : OpenClaim := { program := "ytocldhojbnegjaa", sum := "d6e7b1de237b92db2c4d02e8ba037044eab29f909f97978f124b1a8cb860fcc6", func := "loop.example/g01260/laws.FnExactRootOf", spec := "fnExactRootOf", inPlace := ["internal/abi.NoEscape", "internal/bytealg.MakeNoZero"], apart := false, narrowed := true }
def FnExactRootOfUptoSaid : Prop := fnExactRootOfUptoRow.holds Try.pinned (OpenSpec.upto fnExactRootOfSpec)

/-- 'laws.FnExactScalePath', WHERE WHAT IT READS IS OF BULK AT MOST 1048576: true; the input reads as it did. -/
def fnExactScalePathUptoRow : OpenClaim := { program := "ytocldhojbnegjaa", sum := "d6e7b1de237b92db2c4d02e8ba037044eab29f909f97978f124b1a8cb860fcc6", func := "loop.example/g01260/laws.FnExactScalePath", spec := "fnExactScalePath", unfollowed := true, recurses := true, apart := false, narrowed := true }
def FnExactScalePathUptoSaid : Prop := fnExactScalePathUptoRow.holds Try.pinned (OpenSpec.upto fnExactScalePathSpec)

/-- 'laws.FnExactJoinPaths', WHERE WHAT IT READS IS OF BULK AT MOST 1048576: true; the input reads as it did. -/
def fnExactJoinPathsUptoRow : OpenClaim := { program := "ytocldhojbnegjaa", sum := "d6e7b1de237b92db2c4d02e8ba037044eab29f909f97978f124b1a8cb860fcc6", func := "loop.example/g01260/laws.FnExactJoinPaths", spec := "fnExactJoinPaths", unfollowed := true, recurses := true, apart := false, narrowed := true }
def FnExactJoinPathsUptoSaid : Prop := fnExactJoinPathsUptoRow.holds Try.pinned (OpenSpec.upto fnExactJoinPathsSpec)

/-- 'laws.FnExactComposeMaps', WHERE WHAT IT READS IS OF BULK AT MOST 1048576: true; the input reads as it did. -/
def fnExactComposeMapsUptoRow : OpenClaim := { program := "ytocldhojbnegjaa", sum := "d6e7b1de237b92db2c4d02e8ba037044eab29f909f97978f124b1a8cb860fcc6", func := "loop.example/g01260/laws.FnExactComposeMaps", spec := "fnExactComposeMaps", unfollowed := true, recurses := true, apart := false, narrowed := true }
def FnExactComposeMapsUptoSaid : Prop := fnExactComposeMapsUptoRow.holds Try.pinned (OpenSpec.upto fnExactComposeMapsSpec)

/-- 'laws.FnExactMapPath', WHERE WHAT IT READS IS OF BULK AT MOST 1048576: true; the input reads as it did. -/
def fnExactMapPathUptoRow : OpenClaim := { program := "ytocldhojbnegjaa", sum := "d6e7b1de237b92db2c4d02e8ba037044eab29f909f97978f124b1a8cb860fcc6", func := "loop.example/g01260/laws.FnExactMapPath", spec := "fnExactMapPath", unfollowed := true, recurses := true, apart := false, narrowed := true }
def FnExactMapPathUptoSaid : Prop := fnExactMapPathUptoRow.holds Try.pinned (OpenSpec.upto fnExactMapPathSpec)

/-- 'laws.FnExactReducePath', WHERE WHAT IT READS IS OF BULK AT MOST 1048576: true; the input reads as it did. -/
def fnExactReducePathUptoRow : OpenClaim := { program := "ytocldhojbnegjaa", sum := "d6e7b1de237b92db2c4d02e8ba037044eab29f909f97978f124b1a8cb860fcc6", func := "loop.example/g01260/laws.FnExactReducePath", spec := "fnExactReducePath", inPlace := ["slices.overlaps[[]int64]"], unfollowed := true, recurses := true, apart := false, narrowed := true }
def FnExactReducePathUptoSaid : Prop := fnExactReducePathUptoRow.holds Try.pinned (OpenSpec.upto fnExactReducePathSpec)

end Rows
end Go.Proofs.Ytocldhojbnegjaa
