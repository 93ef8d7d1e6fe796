/- The pure statement of FnExactReversePath, and what its arguments are. -/
import Derived.Test.YtocldhojbnegjaaQFnExactReversePathx3
import Derived.Test.YtocldhojbnegjaaO
namespace Go.Proofs.Ytocldhojbnegjaa.PFnExactReversePath
open Go.RowKit Go.Proofs.YtocldhojbnegjaaW.PrintWords Go.Proofs.YtocldhojbnegjaaO
set_option linter.unusedVariables false
def laws_FnExactReversePath.Pure : Prop := ∀ (a0 : Int) (l1 : List (List Int)), (Lit.int .i64 a0).wf = true → (l1.length ≤ 9223372036854775807 ∧ ∀ a_ ∈ l1, (a_.length ≤ 9223372036854775807 ∧ ∀ a__ ∈ a_, (Lit.int .i64 a__).wf = true)) → ∃ k, laws_FnExactReversePath.f k a0 l1 = some true
end Go.Proofs.Ytocldhojbnegjaa.PFnExactReversePath
