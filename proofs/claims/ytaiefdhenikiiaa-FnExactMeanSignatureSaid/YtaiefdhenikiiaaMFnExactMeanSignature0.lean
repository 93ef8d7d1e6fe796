/- Texts that the proof of FnExactMeanSignature needs, part 0: what the program's functions and the reference's answer. No condition. -/
import Derived.Test.YtaiefdhenikiiaaProg
import Derived.Test.YtaiefdhenikiiaaRows
import Derived.WalkLawsBesides
namespace Go.Proofs.YtaiefdhenikiiaaZ
theorem bne_nil (l:List UInt8):(l != [])=!l.isEmpty:=by cases l <;> rfl
theorem qu_ (x y:ByteArray):Builtin.min2 (.string x) (.string y)=pure (.string (if (Op.bytesLess x.toList y.toList || x.toList == y.toList) then x else y)):=by
  simp [Builtin.min2,Op.stringOp,asBool]
end Go.Proofs.YtaiefdhenikiiaaZ
