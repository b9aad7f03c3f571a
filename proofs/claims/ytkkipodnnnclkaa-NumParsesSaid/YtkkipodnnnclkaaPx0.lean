-- Laid by a program of this session (wip/tools/fork_print.py over the kit's print) out of Lean's print of the translation. Lean checks it.
import Derived.Test.YtkkipodnnnclkaaProg
import Derived.Below
import Derived.Deep.Draws
import Derived.Deep.AppendLies
import Derived.Maps.AppendAt
import Derived.OwnWalk
import Derived.Laws.BytesArg
import Derived.Laws.MakeOwn
import Derived.Laws.OwnMore
import Derived.Deep.OwnRows
import Derived.Tactics
import Derived.Lib.ConvBytes
import Derived.Laws.Slices
import Derived.WalkKit
import Derived.KernelRfl
import Derived.RowKit3
import Derived.Deep.LoopGhost
import Derived.Deep.QuietTactic
import Derived.BigQuiet
import Derived.WideLaws
import Derived.Deep.DeepCutAuto
import Derived.Deep.CutBlock
import Derived.Deep.RegionHeld3
import Derived.Laws.Rows
import Derived.Lib.AppendStr
import Derived.ArgAppend
import Derived.Laws.IdiomCopy
import Derived.OrdersHeld
import Derived.Laws.BitsLemmas
import Derived.RowKit
import Derived.Test.YtkkipodnnnclkaaWWords
import Derived.Test.YtkkipodnnnclkaaWLast
import Derived.Test.YtkkipodnnnclkaaWTab
import Derived.Test.YtkkipodnnnclkaaWFour
import Derived.Test.YtkkipodnnnclkaaWQPut
import Derived.Test.YtkkipodnnnclkaaWApart
import Derived.Test.YtkkipodnnnclkaaWArr
import Derived.Test.YtkkipodnnnclkaaWZeros
import Derived.Test.YtkkipodnnnclkaaWFoot
import Derived.Test.YtkkipodnnnclkaaWKept
import Derived.Test.YtkkipodnnnclkaaWShare
import Derived.Test.YtkkipodnnnclkaaWN
import Derived.Test.YtkkipodnnnclkaaWFootNe
import Derived.Test.YtkkipodnnnclkaaWAt
import Derived.Test.YtkkipodnnnclkaaWEqStruct
import Derived.Test.YtkkipodnnnclkaaWRepsOne
import Derived.Test.YtkkipodnnnclkaaWInv
import Derived.Test.YtkkipodnnnclkaaWInvWords
import Derived.Test.YtkkipodnnnclkaaWGuard
import Derived.Test.YtkkipodnnnclkaaWNEv
import Derived.Test.YtkkipodnnnclkaaWMore
namespace Go.Proofs.Ytkkipodnnnclkaa.P
open Go.RowKit Go.Proofs.YtkkipodnnnclkaaW.PrintWords Go.Proofs.YtkkipodnnnclkaaW.PrintLast Go.Proofs.YtkkipodnnnclkaaW.PrintMore
attribute [local go_sem] max2_int min2_int max_two min_two max_three min_three max_four min_four   -- for this text's walks alone
set_option linter.unusedVariables false
set_option linter.unusedSimpArgs false



def errW : Option Int → Value
  | none => .nilIface
  | some c => .iface 0 (.int .i64 c)
theorem errW_none : errW none = .nilIface := rfl
theorem errW_some (c : Int) : errW (some c) = .iface 0 (.int .i64 c) := rfl

theorem info5 : (Try.prog.info? 5).map (fun i => (i.zero, i.size, i.bytes)) = some (some (.int .u8 0), 1, 1) := by kernel_rfl
-- the values' own types

end Go.Proofs.Ytkkipodnnnclkaa.P
