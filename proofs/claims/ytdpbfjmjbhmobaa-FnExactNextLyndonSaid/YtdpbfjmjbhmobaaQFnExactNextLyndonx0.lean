import Derived.Test.YtdpbfjmjbhmobaaProg
import Derived.Below
import Derived.Deep.Draws
import Derived.Deep.AppendLies
import Derived.Maps.AppendAt
import Derived.OwnWalk
import Derived.Laws.BytesArg
import Derived.Laws.MakeOwn
import Derived.Laws.OwnMore
import Derived.Deep.OwnRows
import Derived.Tactics
import Derived.Lib.ConvBytes
import Derived.Laws.Slices
import Derived.WalkKit
import Derived.KernelRfl
import Derived.RowKit3
import Derived.Deep.LoopGhost
import Derived.Deep.QuietTactic
import Derived.BigQuiet
import Derived.WideLaws
import Derived.Deep.DeepCutAuto
import Derived.Deep.CutBlock
import Derived.Deep.RegionHeld3
import Derived.Laws.Rows
import Derived.Lib.AppendStr
import Derived.ArgAppend
import Derived.Laws.IdiomCopy
import Derived.OrdersHeld
import Derived.Laws.BitsLemmas
import Derived.RowKit
import Derived.Test.YtdpbfjmjbhmobaaZ
import Derived.WalkLawsBesides
import Derived.Test.YtdpbfjmjbhmobaaWWords
import Derived.Test.YtdpbfjmjbhmobaaWLast
import Derived.Test.YtdpbfjmjbhmobaaWTab
import Derived.Test.YtdpbfjmjbhmobaaWFour
import Derived.Test.YtdpbfjmjbhmobaaWQPut
import Derived.Test.YtdpbfjmjbhmobaaWApart
import Derived.Test.YtdpbfjmjbhmobaaWArr
import Derived.Test.YtdpbfjmjbhmobaaWZeros
import Derived.Test.YtdpbfjmjbhmobaaWFoot
import Derived.Test.YtdpbfjmjbhmobaaWKept
import Derived.Test.YtdpbfjmjbhmobaaWShare
import Derived.Test.YtdpbfjmjbhmobaaWN
import Derived.Test.YtdpbfjmjbhmobaaWFootNe
import Derived.Test.YtdpbfjmjbhmobaaWAt
import Derived.Test.YtdpbfjmjbhmobaaWEqStruct
import Derived.Test.YtdpbfjmjbhmobaaWRepsOne
import Derived.Test.YtdpbfjmjbhmobaaWInv
import Derived.Test.YtdpbfjmjbhmobaaWInvWords
import Derived.Test.YtdpbfjmjbhmobaaWGuard
import Derived.Test.YtdpbfjmjbhmobaaWNEv
import Derived.Test.YtdpbfjmjbhmobaaWMore
namespace Go.Proofs.Ytdpbfjmjbhmobaa.PFnExactNextLyndon
open Go.RowKit Go.Proofs.YtdpbfjmjbhmobaaW.PrintWords Go.Proofs.YtdpbfjmjbhmobaaW.PrintLast Go.Proofs.YtdpbfjmjbhmobaaW.PrintMore
attribute [local go_sem] max2_int min2_int max_two min_two max_three min_three max_four min_four Go.Proofs.YtdpbfjmjbhmobaaZ.min2_string   -- for this text's walks alone
set_option linter.unusedVariables false
set_option linter.unusedSimpArgs false



def errW : Option Int → Value
  | none => .nilIface
  | some c => .iface 0 (.int .i64 c)
theorem errW_none : errW none = .nilIface := rfl
theorem errW_some (c : Int) : errW (some c) = .iface 0 (.int .i64 c) := rfl

theorem info5 : (Try.prog.info? 5).map (fun i => (i.zero, i.size, i.bytes)) = some (some (.int .u8 0), 1, 1) := by kernel_rfl
theorem info9 : (Try.prog.info? 9).map (fun i => (i.zero, i.size, i.bytes)) = some (some (.string ⟨#[]⟩), 1, 16) := by kernel_rfl
-- the values' own types

end Go.Proofs.Ytdpbfjmjbhmobaa.PFnExactNextLyndon
