import Derived.Test.YtmijbppapjcfkaaProg
import Derived.Below
import Derived.Deep.Draws
import Derived.Deep.AppendLies
import Derived.Maps.AppendAt
import Derived.OwnWalk
import Derived.Laws.BytesArg
import Derived.Laws.MakeOwn
import Derived.Laws.OwnMore
import Derived.Deep.OwnRows
import Derived.Tactics
import Derived.Lib.ConvBytes
import Derived.Laws.Slices
import Derived.WalkKit
import Derived.KernelRfl
import Derived.RowKit3
import Derived.Deep.LoopGhost
import Derived.Deep.QuietTactic
import Derived.BigQuiet
import Derived.WideLaws
import Derived.Deep.DeepCutAuto
import Derived.Deep.CutBlock
import Derived.Deep.RegionHeld3
import Derived.Laws.Rows
import Derived.Lib.AppendStr
import Derived.ArgAppend
import Derived.Laws.IdiomCopy
import Derived.OrdersHeld
import Derived.Laws.BitsLemmas
import Derived.RowKit
import Derived.Test.YtmijbppapjcfkaaZ
import Derived.WalkLawsBesides
import Derived.Test.YtmijbppapjcfkaaBu
import Derived.Test.YtmijbppapjcfkaaWWords
import Derived.Test.YtmijbppapjcfkaaWLast
import Derived.Test.YtmijbppapjcfkaaWTab
import Derived.Test.YtmijbppapjcfkaaWFour
import Derived.Test.YtmijbppapjcfkaaWQPut
import Derived.Test.YtmijbppapjcfkaaWApart
import Derived.Test.YtmijbppapjcfkaaWArr
import Derived.Test.YtmijbppapjcfkaaWZeros
import Derived.Test.YtmijbppapjcfkaaWFoot
import Derived.Test.YtmijbppapjcfkaaWKept
import Derived.Test.YtmijbppapjcfkaaWShare
import Derived.Test.YtmijbppapjcfkaaWN
import Derived.Test.YtmijbppapjcfkaaWFootNe
import Derived.Test.YtmijbppapjcfkaaWAt
import Derived.Test.YtmijbppapjcfkaaWEqStruct
import Derived.Test.YtmijbppapjcfkaaWRepsOne
import Derived.Test.YtmijbppapjcfkaaWInv
import Derived.Test.YtmijbppapjcfkaaWInvWords
import Derived.Test.YtmijbppapjcfkaaWGuard
import Derived.Test.YtmijbppapjcfkaaWNEv
import Derived.Test.YtmijbppapjcfkaaWMore
namespace Go.Proofs.Ytmijbppapjcfkaa.PFnExactParseBracket
open Go.RowKit Go.Proofs.YtmijbppapjcfkaaW.PrintWords Go.Proofs.YtmijbppapjcfkaaW.PrintLast Go.Proofs.YtmijbppapjcfkaaW.PrintMore
attribute [local go_sem] max2_int min2_int max_two min_two max_three min_three max_four min_four Go.Proofs.YtmijbppapjcfkaaZ.min2_string   -- for this text's walks alone
set_option linter.unusedVariables false
set_option linter.unusedSimpArgs false



def errW : Option Int → Value
  | none => .nilIface
  | some c => .iface 0 (.int .i64 c)
theorem errW_none : errW none = .nilIface := rfl
theorem errW_some (c : Int) : errW (some c) = .iface 0 (.int .i64 c) := rfl

-- the values' own types

end Go.Proofs.Ytmijbppapjcfkaa.PFnExactParseBracket
