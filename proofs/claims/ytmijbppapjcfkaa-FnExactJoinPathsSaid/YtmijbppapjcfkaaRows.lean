/-
  No cell of these rows narrows 'for every input' (looked for: loops, veiled, ifaces, maps, wideKeys, modest, calm, conditions, laid).
  DERIVED. THE GIVEN ROWS OF THIS SEAT. 5 by the template 'for every input the law returns true; each argument reads behind the call as it read before'; 0 by the template 'total and deterministic' (their statements: YtmijbppapjcfkaaTotals.lean).
  GIVEN WITH THE SEED: the statements are not yours to turn. If you find one false, say at which input.
  Laid BY PROGRAM, IN A SANDBOX (cutbox-rows.mjs): the forced cells as the released guide's own fill.sh prints them over the translation 4b78d7ee315c4396… (all of the seat's roots in one cut). By AI agents, Wed Nov 11 2026. No macro, syntax, notation, axiom, sorry.
-/
import Derived.Test.YtmijbppapjcfkaaChecked
import GoSem.Claim
import GoSem.ClaimJoined
import GoSem.ClaimMapViews
import Derived.JoinedTies
import Derived.KernelRfl
namespace Go.Proofs.Ytmijbppapjcfkaa
/- THE CELL 'sum', in the pinned program and in every row, IS THE sha256 OF THE DUMP (.gsa) THAT YtmijbppapjcfkaaProg.lean LOADS. Nothing in Lean hashes anything: it is a label: what it is worth is what the hold of that sum in a sandbox is worth. -/
noncomputable def Try.pinned : Pinned := { name := "ytmijbppapjcfkaa", sum := "4b78d7ee315c439669668b3b016e2a0528a3a60ce623210ff635ba315b395e6b", checked := Try.checked }
namespace Rows
def none {H : Type} : Left H := { results := [], args := [] }

/-- 'laws.FnExactParseBracket': WHATEVER THE INPUT: true; the input reads as it did. -/
def fnExactParseBracketSpec : ChangeSpec := { name := "fnExactParseBracket", fn := fun _ => fun
  | [d1, d2] => { results := [.lit (.bool true)], args := [d1, d2] }
  | _ => none }
def fnExactParseBracketRow : OpenClaim := { program := "ytmijbppapjcfkaa", sum := "4b78d7ee315c439669668b3b016e2a0528a3a60ce623210ff635ba315b395e6b", func := "loop.example/g01260/laws.FnExactParseBracket", spec := "fnExactParseBracket", inPlace := ["internal/bytealg.IndexByteString", "internal/abi.NoEscape"], recurses := true, apart := false }
def FnExactParseBracketSaid : Prop := fnExactParseBracketRow.holds Try.pinned (OpenSpec.ofChange fnExactParseBracketSpec)

/-- ITS FALSE NEIGHBOUR: 'it returns false'. Refute it at one input. -/
def fnExactParseBracketWrong : ChangeSpec := { name := "fnExactParseBracket", fn := fun _ => fun
  | [d1, d2] => { results := [.lit (.bool false)], args := [d1, d2] }
  | _ => none }
def FnExactParseBracketWrongFalsely : Prop := fnExactParseBracketRow.holds Try.pinned (OpenSpec.ofChange fnExactParseBracketWrong)

/-- 'laws.FnExactJoinPaths': WHATEVER THE INPUT: true; the input reads as it did. -/
def fnExactJoinPathsSpec : ChangeSpec := { name := "fnExactJoinPaths", fn := fun _ => fun
  | [d1, d2, d3] => { results := [.lit (.bool true)], args := [d1, d2, d3] }
  | _ => none }
def fnExactJoinPathsRow : OpenClaim := { program := "ytmijbppapjcfkaa", sum := "4b78d7ee315c439669668b3b016e2a0528a3a60ce623210ff635ba315b395e6b", func := "loop.example/g01260/laws.FnExactJoinPaths", spec := "fnExactJoinPaths", unfollowed := true, recurses := true, apart := false }
def FnExactJoinPathsSaid : Prop := fnExactJoinPathsRow.holds Try.pinned (OpenSpec.ofChange fnExactJoinPathsSpec)

/-- ITS FALSE NEIGHBOUR: 'it returns false'. Refute it at one input. -/
def fnExactJoinPathsWrong : ChangeSpec := { name := "fnExactJoinPaths", fn := fun _ => fun
  | [d1, d2, d3] => { results := [.lit (.bool false)], args := [d1, d2, d3] }
  | _ => none }
def FnExactJoinPathsWrongFalsely : Prop := fnExactJoinPathsRow.holds Try.pinned (OpenSpec.ofChange fnExactJoinPathsWrong)

/-- 'laws.FnLyndons': WHATEVER THE INPUT: true; the input reads as it did. -/
def fnLyndonsSpec : ChangeSpec := { name := "fnLyndons", fn := fun _ => fun
  | [d] => { results := [.lit (.bool true)], args := [d] }
  | _ => none }
def fnLyndonsRow : OpenClaim := { program := "ytmijbppapjcfkaa", sum := "4b78d7ee315c439669668b3b016e2a0528a3a60ce623210ff635ba315b395e6b", func := "loop.example/g01260/laws.FnLyndons", spec := "fnLyndons", unfollowed := true, recurses := true, apart := false }
def FnLyndonsSaid : Prop := fnLyndonsRow.holds Try.pinned (OpenSpec.ofChange fnLyndonsSpec)

/-- ITS FALSE NEIGHBOUR: 'it returns false'. Refute it at one input. -/
def fnLyndonsWrong : ChangeSpec := { name := "fnLyndons", fn := fun _ => fun
  | [d] => { results := [.lit (.bool false)], args := [d] }
  | _ => none }
def FnLyndonsWrongFalsely : Prop := fnLyndonsRow.holds Try.pinned (OpenSpec.ofChange fnLyndonsWrong)

/-- 'laws.FnNecklaces': WHATEVER THE INPUT: true; the input reads as it did. -/
def fnNecklacesSpec : ChangeSpec := { name := "fnNecklaces", fn := fun _ => fun
  | [d] => { results := [.lit (.bool true)], args := [d] }
  | _ => none }
def fnNecklacesRow : OpenClaim := { program := "ytmijbppapjcfkaa", sum := "4b78d7ee315c439669668b3b016e2a0528a3a60ce623210ff635ba315b395e6b", func := "loop.example/g01260/laws.FnNecklaces", spec := "fnNecklaces", inPlace := ["internal/abi.NoEscape", "internal/bytealg.MakeNoZero", "internal/bytealg.IndexByteString"], recurses := true, apart := false }
def FnNecklacesSaid : Prop := fnNecklacesRow.holds Try.pinned (OpenSpec.ofChange fnNecklacesSpec)

/-- ITS FALSE NEIGHBOUR: 'it returns false'. Refute it at one input. -/
def fnNecklacesWrong : ChangeSpec := { name := "fnNecklaces", fn := fun _ => fun
  | [d] => { results := [.lit (.bool false)], args := [d] }
  | _ => none }
def FnNecklacesWrongFalsely : Prop := fnNecklacesRow.holds Try.pinned (OpenSpec.ofChange fnNecklacesWrong)

/-- 'laws.FnExactReducePath': WHATEVER THE INPUT: true; the input reads as it did. -/
def fnExactReducePathSpec : ChangeSpec := { name := "fnExactReducePath", fn := fun _ => fun
  | [d1, d2] => { results := [.lit (.bool true)], args := [d1, d2] }
  | _ => none }
def fnExactReducePathRow : OpenClaim := { program := "ytmijbppapjcfkaa", sum := "4b78d7ee315c439669668b3b016e2a0528a3a60ce623210ff635ba315b395e6b", func := "loop.example/g01260/laws.FnExactReducePath", spec := "fnExactReducePath", inPlace := ["slices.overlaps[[]int64]"], unfollowed := true, recurses := true, apart := false }
def FnExactReducePathSaid : Prop := fnExactReducePathRow.holds Try.pinned (OpenSpec.ofChange fnExactReducePathSpec)

/-- ITS FALSE NEIGHBOUR: 'it returns false'. Refute it at one input. -/
def fnExactReducePathWrong : ChangeSpec := { name := "fnExactReducePath", fn := fun _ => fun
  | [d1, d2] => { results := [.lit (.bool false)], args := [d1, d2] }
  | _ => none }
def FnExactReducePathWrongFalsely : Prop := fnExactReducePathRow.holds Try.pinned (OpenSpec.ofChange fnExactReducePathWrong)

/- THE SECOND FORM. 'bulk': how many values and letters a reading holds, each counted each time it is reached (what is shared counts as often as it is met; a slice's spare places count too). A statement '..UptoSaid' is the law's where the arguments, and the package variables that the reading takes, are together of bulk at most 1048576: NARROWER than '..Said'. Prove '..Said' where nothing that the law and all that it calls make is longer than what came in: it says more and counts as full. Else prove '..UptoSaid'. A law counts once. -/
mutual
def uptoBulk {H : Type} : DataW H → Nat
  | .lit (.string bytes) => bytes.length + 1
  | .lit _ => 1
  | .nil => 1
  | .ptr d => uptoBulk d + 1
  | .slice elems spare => uptoBulkAll elems + uptoBulkAll spare + 1
  | .agg parts => uptoBulkAll parts + 1
  | .iface _ d => uptoBulk d + 1
  | .map entries => uptoBulkEntries entries + 1
  | .held _ => 1
def uptoBulkAll {H : Type} : List (DataW H) → Nat
  | [] => 0
  | d :: r => uptoBulk d + uptoBulkAll r
def uptoBulkEntries {H : Type} : List (Lit × DataW H) → Nat
  | [] => 0
  | x :: r => uptoBulkEntry x + uptoBulkEntries r
def uptoBulkEntry {H : Type} : Lit × DataW H → Nat
  | (.string bytes, d) => bytes.length + uptoBulk d + 1
  | (_, d) => uptoBulk d + 1
 end
def uptoSmall : (H : Type) → List (DataW H) → Bool := fun _ ds => decide (uptoBulkAll ds ≤ 1048576)
def OpenSpec.upto (s : _root_.Go.ChangeSpec) : _root_.Go.OpenSpec := { _root_.Go.OpenSpec.ofChange s with cond := some uptoSmall }

/-- 'laws.FnExactParseBracket', WHERE WHAT IT READS IS OF BULK AT MOST 1048576: true; the input reads as it did. -/
def fnExactParseBracketUptoRow : OpenClaim := { program := "ytmijbppapjcfkaa", sum := "4b78d7ee315c439669668b3b016e2a0528a3a60ce623210ff635ba315b395e6b", func := "loop.example/g01260/laws.FnExactParseBracket", spec := "fnExactParseBracket", inPlace := ["internal/bytealg.IndexByteString", "internal/abi.NoEscape"], recurses := true, apart := false, narrowed := true }
def FnExactParseBracketUptoSaid : Prop := fnExactParseBracketUptoRow.holds Try.pinned (OpenSpec.upto fnExactParseBracketSpec)

/-- 'laws.FnExactJoinPaths', WHERE WHAT IT READS IS OF BULK AT MOST 1048576: true; the input reads as it did. -/
def fnExactJoinPathsUptoRow : OpenClaim := { program := "ytmijbppapjcfkaa", sum := "4b78d7ee315c439669668b3b016e2a0528a3a60ce623210ff635ba315b395e6b", func := "loop.example/g01260/laws.FnExactJoinPaths", spec := "fnExactJoinPaths", unfollowed := true, recurses := true, apart := false, narrowed := true }
def FnExactJoinPathsUptoSaid : Prop := fnExactJoinPathsUptoRow.holds Try.pinned (OpenSpec.upto fnExactJoinPathsSpec)

/-- 'laws.FnLyndons', WHERE WHAT IT READS IS OF BULK AT MOST 1048576: true; the input reads as it did. -/
def fnLyndonsUptoRow : OpenClaim := { program := "ytmijbppapjcfkaa", sum := "4b78d7ee315c439669668b3b016e2a0528a3a60ce623210ff635ba315b395e6b", func := "loop.example/g01260/laws.FnLyndons", spec := "fnLyndons", unfollowed := true, recurses := true, apart := false, narrowed := true }
def FnLyndonsUptoSaid : Prop := fnLyndonsUptoRow.holds Try.pinned (OpenSpec.upto fnLyndonsSpec)

/-- 'laws.FnNecklaces', WHERE WHAT IT READS IS OF BULK AT MOST 1048576: true; the input reads as it did. -/
def fnNecklacesUptoRow : OpenClaim := { program := "ytmijbppapjcfkaa", sum := "4b78d7ee315c439669668b3b016e2a0528a3a60ce623210ff635ba315b395e6b", func := "loop.example/g01260/laws.FnNecklaces", spec := "fnNecklaces", inPlace := ["internal/abi.NoEscape", "internal/bytealg.MakeNoZero", "internal/bytealg.IndexByteString"], recurses := true, apart := false, narrowed := true }
def FnNecklacesUptoSaid : Prop := fnNecklacesUptoRow.holds Try.pinned (OpenSpec.upto fnNecklacesSpec)

/-- 'laws.FnExactReducePath', WHERE WHAT IT READS IS OF BULK AT MOST 1048576: true; the input reads as it did. -/
def fnExactReducePathUptoRow : OpenClaim := { program := "ytmijbppapjcfkaa", sum := "4b78d7ee315c439669668b3b016e2a0528a3a60ce623210ff635ba315b395e6b", func := "loop.example/g01260/laws.FnExactReducePath", spec := "fnExactReducePath", inPlace := ["slices.overlaps[[]int64]"], unfollowed := true, recurses := true, apart := false, narrowed := true }
def FnExactReducePathUptoSaid : Prop := fnExactReducePathUptoRow.holds Try.pinned (OpenSpec.upto fnExactReducePathSpec)

end Rows
end Go.Proofs.Ytmijbppapjcfkaa
