/- The pure statement of FnExactComposeMaps, and what its arguments are. -/
import Derived.Test.YtocldhojbnegjaaQFnExactComposeMapsx5
import Derived.Test.YtocldhojbnegjaaO
namespace Go.Proofs.Ytocldhojbnegjaa.PFnExactComposeMaps
open Go.RowKit Go.Proofs.YtocldhojbnegjaaW.PrintWords Go.Proofs.YtocldhojbnegjaaO
set_option linter.unusedVariables false
def laws_FnExactComposeMaps.Pure : Prop := ∀ (a0 : Int) (a1 : Int) (a2 : Int) (l3 : List (List Int)) (l4 : List (List Int)), (Lit.int .i64 a0).wf = true → (Lit.int .i64 a1).wf = true → (Lit.int .i64 a2).wf = true → (l3.length ≤ 9223372036854775807 ∧ ∀ a_ ∈ l3, (a_.length ≤ 9223372036854775807 ∧ ∀ a__ ∈ a_, (Lit.int .i64 a__).wf = true)) → (l4.length ≤ 9223372036854775807 ∧ ∀ a_ ∈ l4, (a_.length ≤ 9223372036854775807 ∧ ∀ a__ ∈ a_, (Lit.int .i64 a__).wf = true)) → ∃ k, laws_FnExactComposeMaps.f k a0 a1 a2 l3 l4 = some true
end Go.Proofs.Ytocldhojbnegjaa.PFnExactComposeMaps
