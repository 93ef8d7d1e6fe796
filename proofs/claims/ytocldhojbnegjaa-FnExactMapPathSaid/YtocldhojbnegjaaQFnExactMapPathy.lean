/- The pure statement of FnExactMapPath, and what its arguments are. -/
import Derived.Test.YtocldhojbnegjaaQFnExactMapPathx6
import Derived.Test.YtocldhojbnegjaaO
namespace Go.Proofs.Ytocldhojbnegjaa.PFnExactMapPath
open Go.RowKit Go.Proofs.YtocldhojbnegjaaW.PrintWords Go.Proofs.YtocldhojbnegjaaO
set_option linter.unusedVariables false
def laws_FnExactMapPath.Pure : Prop := ∀ (a0 : Int) (l1 : List (List Int)) (a2 : Int) (l3 : List (List Int)), (Lit.int .i64 a0).wf = true → (l1.length ≤ 9223372036854775807 ∧ ∀ a_ ∈ l1, (a_.length ≤ 9223372036854775807 ∧ ∀ a__ ∈ a_, (Lit.int .i64 a__).wf = true)) → (Lit.int .i64 a2).wf = true → (l3.length ≤ 9223372036854775807 ∧ ∀ a_ ∈ l3, (a_.length ≤ 9223372036854775807 ∧ ∀ a__ ∈ a_, (Lit.int .i64 a__).wf = true)) → ∃ k, laws_FnExactMapPath.f k a0 l1 a2 l3 = some true
end Go.Proofs.Ytocldhojbnegjaa.PFnExactMapPath
