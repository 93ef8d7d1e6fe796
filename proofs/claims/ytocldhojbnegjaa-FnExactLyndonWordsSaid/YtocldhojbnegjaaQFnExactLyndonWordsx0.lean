import Derived.Test.YtocldhojbnegjaaProg
import Derived.Below
import Derived.Deep.Draws
import Derived.Deep.AppendLies
import Derived.Maps.AppendAt
import Derived.OwnWalk
import Derived.Laws.BytesArg
import Derived.Laws.MakeOwn
import Derived.Laws.OwnMore
import Derived.Deep.OwnRows
import Derived.Tactics
import Derived.Lib.ConvBytes
import Derived.Laws.Slices
import Derived.WalkKit
import Derived.KernelRfl
import Derived.RowKit3
import Derived.Deep.LoopGhost
import Derived.Deep.QuietTactic
import Derived.BigQuiet
import Derived.WideLaws
import Derived.Deep.DeepCutAuto
import Derived.Deep.CutBlock
import Derived.Deep.RegionHeld3
import Derived.Laws.Rows
import Derived.Lib.AppendStr
import Derived.ArgAppend
import Derived.Laws.IdiomCopy
import Derived.OrdersHeld
import Derived.Laws.BitsLemmas
import Derived.RowKit
import Derived.Test.YtocldhojbnegjaaZ
import Derived.WalkLawsBesides
import Derived.Test.YtocldhojbnegjaaShelf
import Derived.Test.YtocldhojbnegjaaWWords
import Derived.Test.YtocldhojbnegjaaWLast
import Derived.Test.YtocldhojbnegjaaWTab
import Derived.Test.YtocldhojbnegjaaWFour
import Derived.Test.YtocldhojbnegjaaWQPut
import Derived.Test.YtocldhojbnegjaaWApart
import Derived.Test.YtocldhojbnegjaaWArr
import Derived.Test.YtocldhojbnegjaaWZeros
import Derived.Test.YtocldhojbnegjaaWFoot
import Derived.Test.YtocldhojbnegjaaWKept
import Derived.Test.YtocldhojbnegjaaWShare
import Derived.Test.YtocldhojbnegjaaWN
import Derived.Test.YtocldhojbnegjaaWFootNe
import Derived.Test.YtocldhojbnegjaaWAt
import Derived.Test.YtocldhojbnegjaaWEqStruct
import Derived.Test.YtocldhojbnegjaaWRepsOne
import Derived.Test.YtocldhojbnegjaaWInv
import Derived.Test.YtocldhojbnegjaaWInvWords
import Derived.Test.YtocldhojbnegjaaWGuard
import Derived.Test.YtocldhojbnegjaaWNEv
import Derived.Test.YtocldhojbnegjaaWMore
namespace Go.Proofs.Ytocldhojbnegjaa.PFnExactLyndonWords
open Go.RowKit Go.Proofs.YtocldhojbnegjaaW.PrintWords Go.Proofs.YtocldhojbnegjaaW.PrintLast Go.Proofs.YtocldhojbnegjaaW.PrintMore
attribute [local go_sem] max2_int min2_int max_two min_two max_three min_three max_four min_four Go.Proofs.YtocldhojbnegjaaZ.min2_string   -- for this text's walks alone
set_option linter.unusedVariables false
set_option linter.unusedSimpArgs false



def errW : Option Int → Value
  | none => .nilIface
  | some c => .iface 0 (.int .i64 c)
theorem errW_none : errW none = .nilIface := rfl
theorem errW_some (c : Int) : errW (some c) = .iface 0 (.int .i64 c) := rfl

theorem info5 : (Try.prog.info? 5).map (fun i => (i.zero, i.size, i.bytes)) = some (some (.int .u8 0), 1, 1) := by kernel_rfl
theorem info9 : (Try.prog.info? 9).map (fun i => (i.zero, i.size, i.bytes)) = some (some (.string ⟨#[]⟩), 1, 16) := by kernel_rfl
-- the values' own types

end Go.Proofs.Ytocldhojbnegjaa.PFnExactLyndonWords
