/-
  No cell of these rows narrows 'for every input' (looked for: loops, veiled, ifaces, maps, wideKeys, modest, calm, conditions, laid).
  DERIVED. THE GIVEN ROWS OF THIS SEAT. 6 by the template 'for every input the law returns true; each argument reads behind the call as it read before'; 0 by the template 'total and deterministic' (their statements: YtdpbfjmjbhmobaaTotals.lean).
  GIVEN WITH THE SEED: the statements are not yours to turn. If you find one false, say at which input.
  Laid BY PROGRAM, IN A SANDBOX (cutbox-rows.mjs): the forced cells as the released guide's own fill.sh prints them over the translation 9f6baf5c129da6c1… (all of the seat's roots in one cut). By AI agents, Wed Nov 11 2026. No macro, syntax, notation, axiom, sorry.
-/
import Derived.Test.YtdpbfjmjbhmobaaChecked
import GoSem.Claim
import GoSem.ClaimJoined
import GoSem.ClaimMapViews
import Derived.JoinedTies
import Derived.KernelRfl
namespace Go.Proofs.Ytdpbfjmjbhmobaa
/- THE CELL 'sum', in the pinned program and in every row, IS THE sha256 OF THE DUMP (.gsa) THAT YtdpbfjmjbhmobaaProg.lean LOADS. Nothing in Lean hashes anything: it is a label: what it is worth is what the hold of that sum in a sandbox is worth. -/
noncomputable def Try.pinned : Pinned := { name := "ytdpbfjmjbhmobaa", sum := "9f6baf5c129da6c11f5f2c3e277ea86d42fcc7dc0b4b2e7e8b21af49c91b1f14", checked := Try.checked }
namespace Rows
def none {H : Type} : Left H := { results := [], args := [] }

/-- 'laws.FnExactNecklaceOf': WHATEVER THE INPUT: true; the input reads as it did. -/
def fnExactNecklaceOfSpec : ChangeSpec := { name := "fnExactNecklaceOf", fn := fun _ => fun
  | [d1, d2] => { results := [.lit (.bool true)], args := [d1, d2] }
  | _ => none }
def fnExactNecklaceOfRow : OpenClaim := { program := "ytdpbfjmjbhmobaa", sum := "9f6baf5c129da6c11f5f2c3e277ea86d42fcc7dc0b4b2e7e8b21af49c91b1f14", func := "loop.example/g01260/laws.FnExactNecklaceOf", spec := "fnExactNecklaceOf", apart := false }
def FnExactNecklaceOfSaid : Prop := fnExactNecklaceOfRow.holds Try.pinned (OpenSpec.ofChange fnExactNecklaceOfSpec)

/-- ITS FALSE NEIGHBOUR: 'it returns false'. Refute it at one input. -/
def fnExactNecklaceOfWrong : ChangeSpec := { name := "fnExactNecklaceOf", fn := fun _ => fun
  | [d1, d2] => { results := [.lit (.bool false)], args := [d1, d2] }
  | _ => none }
def FnExactNecklaceOfWrongFalsely : Prop := fnExactNecklaceOfRow.holds Try.pinned (OpenSpec.ofChange fnExactNecklaceOfWrong)

/-- 'laws.FnExactIsLyndon': WHATEVER THE INPUT: true; the input reads as it did. -/
def fnExactIsLyndonSpec : ChangeSpec := { name := "fnExactIsLyndon", fn := fun _ => fun
  | [d1, d2] => { results := [.lit (.bool true)], args := [d1, d2] }
  | _ => none }
def fnExactIsLyndonRow : OpenClaim := { program := "ytdpbfjmjbhmobaa", sum := "9f6baf5c129da6c11f5f2c3e277ea86d42fcc7dc0b4b2e7e8b21af49c91b1f14", func := "loop.example/g01260/laws.FnExactIsLyndon", spec := "fnExactIsLyndon", apart := false }
def FnExactIsLyndonSaid : Prop := fnExactIsLyndonRow.holds Try.pinned (OpenSpec.ofChange fnExactIsLyndonSpec)

/-- ITS FALSE NEIGHBOUR: 'it returns false'. Refute it at one input. -/
def fnExactIsLyndonWrong : ChangeSpec := { name := "fnExactIsLyndon", fn := fun _ => fun
  | [d1, d2] => { results := [.lit (.bool false)], args := [d1, d2] }
  | _ => none }
def FnExactIsLyndonWrongFalsely : Prop := fnExactIsLyndonRow.holds Try.pinned (OpenSpec.ofChange fnExactIsLyndonWrong)

/-- 'laws.FnExactCountLyndon': WHATEVER THE INPUT: true; the input reads as it did. -/
def fnExactCountLyndonSpec : ChangeSpec := { name := "fnExactCountLyndon", fn := fun _ => fun
  | [d1, d2] => { results := [.lit (.bool true)], args := [d1, d2] }
  | _ => none }
def fnExactCountLyndonRow : OpenClaim := { program := "ytdpbfjmjbhmobaa", sum := "9f6baf5c129da6c11f5f2c3e277ea86d42fcc7dc0b4b2e7e8b21af49c91b1f14", func := "loop.example/g01260/laws.FnExactCountLyndon", spec := "fnExactCountLyndon", recurses := true, apart := false }
def FnExactCountLyndonSaid : Prop := fnExactCountLyndonRow.holds Try.pinned (OpenSpec.ofChange fnExactCountLyndonSpec)

/-- ITS FALSE NEIGHBOUR: 'it returns false'. Refute it at one input. -/
def fnExactCountLyndonWrong : ChangeSpec := { name := "fnExactCountLyndon", fn := fun _ => fun
  | [d1, d2] => { results := [.lit (.bool false)], args := [d1, d2] }
  | _ => none }
def FnExactCountLyndonWrongFalsely : Prop := fnExactCountLyndonRow.holds Try.pinned (OpenSpec.ofChange fnExactCountLyndonWrong)

/-- 'laws.FnExactBracketText': WHATEVER THE INPUT: true; the input reads as it did. -/
def fnExactBracketTextSpec : ChangeSpec := { name := "fnExactBracketText", fn := fun _ => fun
  | [d1, d2] => { results := [.lit (.bool true)], args := [d1, d2] }
  | _ => none }
def fnExactBracketTextRow : OpenClaim := { program := "ytdpbfjmjbhmobaa", sum := "9f6baf5c129da6c11f5f2c3e277ea86d42fcc7dc0b4b2e7e8b21af49c91b1f14", func := "loop.example/g01260/laws.FnExactBracketText", spec := "fnExactBracketText", recurses := true, apart := false }
def FnExactBracketTextSaid : Prop := fnExactBracketTextRow.holds Try.pinned (OpenSpec.ofChange fnExactBracketTextSpec)

/-- ITS FALSE NEIGHBOUR: 'it returns false'. Refute it at one input. -/
def fnExactBracketTextWrong : ChangeSpec := { name := "fnExactBracketText", fn := fun _ => fun
  | [d1, d2] => { results := [.lit (.bool false)], args := [d1, d2] }
  | _ => none }
def FnExactBracketTextWrongFalsely : Prop := fnExactBracketTextRow.holds Try.pinned (OpenSpec.ofChange fnExactBracketTextWrong)

/-- 'laws.FnExactIsMap': WHATEVER THE INPUT: true; the input reads as it did. -/
def fnExactIsMapSpec : ChangeSpec := { name := "fnExactIsMap", fn := fun _ => fun
  | [d1, d2, d3] => { results := [.lit (.bool true)], args := [d1, d2, d3] }
  | _ => none }
def fnExactIsMapRow : OpenClaim := { program := "ytdpbfjmjbhmobaa", sum := "9f6baf5c129da6c11f5f2c3e277ea86d42fcc7dc0b4b2e7e8b21af49c91b1f14", func := "loop.example/g01260/laws.FnExactIsMap", spec := "fnExactIsMap", unfollowed := true, recurses := true, apart := false }
def FnExactIsMapSaid : Prop := fnExactIsMapRow.holds Try.pinned (OpenSpec.ofChange fnExactIsMapSpec)

/-- ITS FALSE NEIGHBOUR: 'it returns false'. Refute it at one input. -/
def fnExactIsMapWrong : ChangeSpec := { name := "fnExactIsMap", fn := fun _ => fun
  | [d1, d2, d3] => { results := [.lit (.bool false)], args := [d1, d2, d3] }
  | _ => none }
def FnExactIsMapWrongFalsely : Prop := fnExactIsMapRow.holds Try.pinned (OpenSpec.ofChange fnExactIsMapWrong)

/-- 'laws.FnExactNextLyndon': WHATEVER THE INPUT: true; the input reads as it did. -/
def fnExactNextLyndonSpec : ChangeSpec := { name := "fnExactNextLyndon", fn := fun _ => fun
  | [d1, d2, d3] => { results := [.lit (.bool true)], args := [d1, d2, d3] }
  | _ => none }
def fnExactNextLyndonRow : OpenClaim := { program := "ytdpbfjmjbhmobaa", sum := "9f6baf5c129da6c11f5f2c3e277ea86d42fcc7dc0b4b2e7e8b21af49c91b1f14", func := "loop.example/g01260/laws.FnExactNextLyndon", spec := "fnExactNextLyndon", apart := false }
def FnExactNextLyndonSaid : Prop := fnExactNextLyndonRow.holds Try.pinned (OpenSpec.ofChange fnExactNextLyndonSpec)

/-- ITS FALSE NEIGHBOUR: 'it returns false'. Refute it at one input. -/
def fnExactNextLyndonWrong : ChangeSpec := { name := "fnExactNextLyndon", fn := fun _ => fun
  | [d1, d2, d3] => { results := [.lit (.bool false)], args := [d1, d2, d3] }
  | _ => none }
def FnExactNextLyndonWrongFalsely : Prop := fnExactNextLyndonRow.holds Try.pinned (OpenSpec.ofChange fnExactNextLyndonWrong)

/- THE SECOND FORM. 'bulk': how many values and letters a reading holds, each counted each time it is reached (what is shared counts as often as it is met; a slice's spare places count too). A statement '..UptoSaid' is the law's where the arguments, and the package variables that the reading takes, are together of bulk at most 1048576: NARROWER than '..Said'. Prove '..Said' where nothing that the law and all that it calls make is longer than what came in: it says more and counts as full. Else prove '..UptoSaid'. A law counts once. -/
mutual
def uptoBulk {H : Type} : DataW H → Nat
  | .lit (.string bytes) => bytes.length + 1
  | .lit _ => 1
  | .nil => 1
  | .ptr d => uptoBulk d + 1
  | .slice elems spare => uptoBulkAll elems + uptoBulkAll spare + 1
  | .agg parts => uptoBulkAll parts + 1
  | .iface _ d => uptoBulk d + 1
  | .map entries => uptoBulkEntries entries + 1
  | .held _ => 1
def uptoBulkAll {H : Type} : List (DataW H) → Nat
  | [] => 0
  | d :: r => uptoBulk d + uptoBulkAll r
def uptoBulkEntries {H : Type} : List (Lit × DataW H) → Nat
  | [] => 0
  | x :: r => uptoBulkEntry x + uptoBulkEntries r
def uptoBulkEntry {H : Type} : Lit × DataW H → Nat
  | (.string bytes, d) => bytes.length + uptoBulk d + 1
  | (_, d) => uptoBulk d + 1
 end
def uptoSmall : (H : Type) → List (DataW H) → Bool := fun _ ds => decide (uptoBulkAll ds ≤ 1048576)
def OpenSpec.upto (s : _root_.Go.ChangeSpec) : _root_.Go.OpenSpec := { _root_.Go.OpenSpec.ofChange s with cond := some uptoSmall }

/-- 'laws.FnExactNecklaceOf', WHERE WHAT IT READS IS OF BULK AT MOST 1048576: true; the input reads as it did. -/
def fnExactNecklaceOfUptoRow : OpenClaim := { program := "ytdpbfjmjbhmobaa", sum := "9f6baf5c129da6c11f5f2c3e277ea86d42fcc7dc0b4b2e7e8b21af49c91b1f14", func := "loop.example/g01260/laws.FnExactNecklaceOf", spec := "fnExactNecklaceOf", apart := false, narrowed := true }
def FnExactNecklaceOfUptoSaid : Prop := fnExactNecklaceOfUptoRow.holds Try.pinned (OpenSpec.upto fnExactNecklaceOfSpec)

/-- 'laws.FnExactIsLyndon', WHERE WHAT IT READS IS OF BULK AT MOST 1048576: true; the input reads as it did. -/
def fnExactIsLyndonUptoRow : OpenClaim := { program := "ytdpbfjmjbhmobaa", sum := "9f6baf5c129da6c11f5f2c3e277ea86d42fcc7dc0b4b2e7e8b21af49c91b1f14", func := "loop.example/g01260/laws.FnExactIsLyndon", spec := "fnExactIsLyndon", apart := false, narrowed := true }
def FnExactIsLyndonUptoSaid : Prop := fnExactIsLyndonUptoRow.holds Try.pinned (OpenSpec.upto fnExactIsLyndonSpec)

/-- 'laws.FnExactCountLyndon', WHERE WHAT IT READS IS OF BULK AT MOST 1048576: true; the input reads as it did. -/
def fnExactCountLyndonUptoRow : OpenClaim := { program := "ytdpbfjmjbhmobaa", sum := "9f6baf5c129da6c11f5f2c3e277ea86d42fcc7dc0b4b2e7e8b21af49c91b1f14", func := "loop.example/g01260/laws.FnExactCountLyndon", spec := "fnExactCountLyndon", recurses := true, apart := false, narrowed := true }
def FnExactCountLyndonUptoSaid : Prop := fnExactCountLyndonUptoRow.holds Try.pinned (OpenSpec.upto fnExactCountLyndonSpec)

/-- 'laws.FnExactBracketText', WHERE WHAT IT READS IS OF BULK AT MOST 1048576: true; the input reads as it did. -/
def fnExactBracketTextUptoRow : OpenClaim := { program := "ytdpbfjmjbhmobaa", sum := "9f6baf5c129da6c11f5f2c3e277ea86d42fcc7dc0b4b2e7e8b21af49c91b1f14", func := "loop.example/g01260/laws.FnExactBracketText", spec := "fnExactBracketText", recurses := true, apart := false, narrowed := true }
def FnExactBracketTextUptoSaid : Prop := fnExactBracketTextUptoRow.holds Try.pinned (OpenSpec.upto fnExactBracketTextSpec)

/-- 'laws.FnExactIsMap', WHERE WHAT IT READS IS OF BULK AT MOST 1048576: true; the input reads as it did. -/
def fnExactIsMapUptoRow : OpenClaim := { program := "ytdpbfjmjbhmobaa", sum := "9f6baf5c129da6c11f5f2c3e277ea86d42fcc7dc0b4b2e7e8b21af49c91b1f14", func := "loop.example/g01260/laws.FnExactIsMap", spec := "fnExactIsMap", unfollowed := true, recurses := true, apart := false, narrowed := true }
def FnExactIsMapUptoSaid : Prop := fnExactIsMapUptoRow.holds Try.pinned (OpenSpec.upto fnExactIsMapSpec)

/-- 'laws.FnExactNextLyndon', WHERE WHAT IT READS IS OF BULK AT MOST 1048576: true; the input reads as it did. -/
def fnExactNextLyndonUptoRow : OpenClaim := { program := "ytdpbfjmjbhmobaa", sum := "9f6baf5c129da6c11f5f2c3e277ea86d42fcc7dc0b4b2e7e8b21af49c91b1f14", func := "loop.example/g01260/laws.FnExactNextLyndon", spec := "fnExactNextLyndon", apart := false, narrowed := true }
def FnExactNextLyndonUptoSaid : Prop := fnExactNextLyndonUptoRow.holds Try.pinned (OpenSpec.upto fnExactNextLyndonSpec)

end Rows
end Go.Proofs.Ytdpbfjmjbhmobaa
