/- Texts that the proof of FnExactMeanSignature needs, part 8. No condition. -/
import Derived.Test.YtaiefdhenikiiaaMFnExactMeanSignature7
import Derived.Lib.Bytealg
namespace Go.Proofs.Ytaiefdhenikiiaa.Base
open Go.RowKit Go.Proofs.YtaiefdhenikiiaaW.PrintWords Go.Proofs.YtaiefdhenikiiaaW.PrintLast Go.Proofs.YtaiefdhenikiiaaW.PrintMore
set_option linter.unusedVariables false
set_option linter.unusedSimpArgs false
theorem within_is (x lo hi:Int):qy1_.f x lo hi=some (decide (lo≤x∧x≤hi)):=by
  unfold qy1_.f
  by_cases h:lo≤x
  · rw [if_pos h];simp [h]
  · rw [if_neg h];simp [h]
end Go.Proofs.Ytaiefdhenikiiaa.Base
namespace Go.Proofs.Ytaiefdhenikiiaa.Base
open Go.RowKit Go.Proofs.YtaiefdhenikiiaaW.PrintWords Go.Proofs.YtaiefdhenikiiaaW.PrintLast Go.Proofs.YtaiefdhenikiiaaW.PrintMore
set_option linter.unusedVariables false
set_option linter.unusedSimpArgs false
/-- Does a word come before another one? -/
def befW (v w:ByteArray):Bool:=if (v.size:Int) ≠ (w.size:Int) then decide ((v.size:Int) < (w.size:Int)) else Op.bytesLess v.toList w.toList
end Go.Proofs.Ytaiefdhenikiiaa.Base
