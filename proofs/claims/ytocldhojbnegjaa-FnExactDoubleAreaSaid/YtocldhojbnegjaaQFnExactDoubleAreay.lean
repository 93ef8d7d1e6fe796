/- The pure statement of FnExactDoubleArea, and what its arguments are. -/
import Derived.Test.YtocldhojbnegjaaQFnExactDoubleAreax4
import Derived.Test.YtocldhojbnegjaaO
namespace Go.Proofs.Ytocldhojbnegjaa.PFnExactDoubleArea
open Go.RowKit Go.Proofs.YtocldhojbnegjaaW.PrintWords Go.Proofs.YtocldhojbnegjaaO
set_option linter.unusedVariables false
def laws_FnExactDoubleArea.Pure : Prop := ∀ (a0 : Int) (l1 : List (List Int)) (a2 : Int) (a3 : Int), (Lit.int .i64 a0).wf = true → (l1.length ≤ 9223372036854775807 ∧ ∀ a_ ∈ l1, (a_.length ≤ 9223372036854775807 ∧ ∀ a__ ∈ a_, (Lit.int .i64 a__).wf = true)) → (Lit.int .i64 a2).wf = true → (Lit.int .i64 a3).wf = true → ∃ k, laws_FnExactDoubleArea.f k a0 l1 a2 a3 = some true
end Go.Proofs.Ytocldhojbnegjaa.PFnExactDoubleArea
