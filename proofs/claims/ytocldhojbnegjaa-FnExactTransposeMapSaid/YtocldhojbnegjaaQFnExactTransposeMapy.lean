/- The pure statement of FnExactTransposeMap, and what its arguments are. -/
import Derived.Test.YtocldhojbnegjaaQFnExactTransposeMapx4
import Derived.Test.YtocldhojbnegjaaO
namespace Go.Proofs.Ytocldhojbnegjaa.PFnExactTransposeMap
open Go.RowKit Go.Proofs.YtocldhojbnegjaaW.PrintWords Go.Proofs.YtocldhojbnegjaaO
set_option linter.unusedVariables false
def laws_FnExactTransposeMap.Pure : Prop := ∀ (a0 : Int) (a1 : Int) (l2 : List (List Int)), (Lit.int .i64 a0).wf = true → (Lit.int .i64 a1).wf = true → (l2.length ≤ 9223372036854775807 ∧ ∀ a_ ∈ l2, (a_.length ≤ 9223372036854775807 ∧ ∀ a__ ∈ a_, (Lit.int .i64 a__).wf = true)) → ∃ k, laws_FnExactTransposeMap.f k a0 a1 l2 = some true
end Go.Proofs.Ytocldhojbnegjaa.PFnExactTransposeMap
