/- The pure statement of FnExactScalePath, and what its arguments are. -/
import Derived.Test.YtocldhojbnegjaaQFnExactScalePathx4
import Derived.Test.YtocldhojbnegjaaO
namespace Go.Proofs.Ytocldhojbnegjaa.PFnExactScalePath
open Go.RowKit Go.Proofs.YtocldhojbnegjaaW.PrintWords Go.Proofs.YtocldhojbnegjaaO
set_option linter.unusedVariables false
def laws_FnExactScalePath.Pure : Prop := ∀ (a0 : Int) (l1 : List (List Int)) (a2 : Int), (Lit.int .i64 a0).wf = true → (l1.length ≤ 9223372036854775807 ∧ ∀ a_ ∈ l1, (a_.length ≤ 9223372036854775807 ∧ ∀ a__ ∈ a_, (Lit.int .i64 a__).wf = true)) → (Lit.int .i64 a2).wf = true → ∃ k, laws_FnExactScalePath.f k a0 l1 a2 = some true
end Go.Proofs.Ytocldhojbnegjaa.PFnExactScalePath
