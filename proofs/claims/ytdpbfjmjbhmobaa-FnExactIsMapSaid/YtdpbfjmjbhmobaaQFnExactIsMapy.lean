/- The pure statement of FnExactIsMap, and what its arguments are. -/
import Derived.Test.YtdpbfjmjbhmobaaQFnExactIsMapx2
import Derived.Test.YtdpbfjmjbhmobaaO
namespace Go.Proofs.Ytdpbfjmjbhmobaa.PFnExactIsMap
open Go.RowKit Go.Proofs.YtdpbfjmjbhmobaaW.PrintWords Go.Proofs.YtdpbfjmjbhmobaaO
set_option linter.unusedVariables false
def laws_FnExactIsMap.Pure : Prop := ∀ (a0 : Int) (a1 : Int) (l2 : List (List Int)), (Lit.int .i64 a0).wf = true → (Lit.int .i64 a1).wf = true → (l2.length ≤ 9223372036854775807 ∧ ∀ a_ ∈ l2, (a_.length ≤ 9223372036854775807 ∧ ∀ a__ ∈ a_, (Lit.int .i64 a__).wf = true)) → ∃ k, laws_FnExactIsMap.f k a0 a1 l2 = some true
end Go.Proofs.Ytdpbfjmjbhmobaa.PFnExactIsMap
