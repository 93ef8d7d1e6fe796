/- The pure statement of FnExactJoinPaths, and what its arguments are. -/
import Derived.Test.YtmijbppapjcfkaaQFnExactJoinPathsx4
import Derived.Test.YtmijbppapjcfkaaO
namespace Go.Proofs.Ytmijbppapjcfkaa.PFnExactJoinPaths
open Go.RowKit Go.Proofs.YtmijbppapjcfkaaW.PrintWords Go.Proofs.YtmijbppapjcfkaaO
set_option linter.unusedVariables false
def laws_FnExactJoinPaths.Pure : Prop := ∀ (a0 : Int) (l1 : List (List Int)) (l2 : List (List Int)), (Lit.int .i64 a0).wf = true → (l1.length ≤ 9223372036854775807 ∧ ∀ a_ ∈ l1, (a_.length ≤ 9223372036854775807 ∧ ∀ a__ ∈ a_, (Lit.int .i64 a__).wf = true)) → (l2.length ≤ 9223372036854775807 ∧ ∀ a_ ∈ l2, (a_.length ≤ 9223372036854775807 ∧ ∀ a__ ∈ a_, (Lit.int .i64 a__).wf = true)) → ∃ k, laws_FnExactJoinPaths.f k a0 l1 l2 = some true
end Go.Proofs.Ytmijbppapjcfkaa.PFnExactJoinPaths
