-- Laid by a program of this session (wip/tools/fork_print.py over the kit's print) out of Lean's print of the translation. Lean checks it.
import Derived.Test.YtmbindcgghddjaaProg
import Derived.Below
import Derived.Deep.Draws
import Derived.Deep.AppendLies
import Derived.Maps.AppendAt
import Derived.OwnWalk
import Derived.Laws.BytesArg
import Derived.Laws.MakeOwn
import Derived.Laws.OwnMore
import Derived.Deep.OwnRows
import Derived.Tactics
import Derived.Lib.ConvBytes
import Derived.Laws.Slices
import Derived.WalkKit
import Derived.KernelRfl
import Derived.RowKit3
import Derived.Deep.LoopGhost
import Derived.Deep.QuietTactic
import Derived.BigQuiet
import Derived.WideLaws
import Derived.Deep.DeepCutAuto
import Derived.Deep.CutBlock
import Derived.Deep.RegionHeld3
import Derived.Laws.Rows
import Derived.Lib.AppendStr
import Derived.ArgAppend
import Derived.Laws.IdiomCopy
import Derived.OrdersHeld
import Derived.Laws.BitsLemmas
import Derived.RowKit
import Derived.Test.YtmbindcgghddjaaWWords
import Derived.Test.YtmbindcgghddjaaWLast
import Derived.Test.YtmbindcgghddjaaWTab
import Derived.Test.YtmbindcgghddjaaWFour
import Derived.Test.YtmbindcgghddjaaWQPut
import Derived.Test.YtmbindcgghddjaaWApart
import Derived.Test.YtmbindcgghddjaaWArr
import Derived.Test.YtmbindcgghddjaaWZeros
import Derived.Test.YtmbindcgghddjaaWFoot
import Derived.Test.YtmbindcgghddjaaWKept
import Derived.Test.YtmbindcgghddjaaWShare
import Derived.Test.YtmbindcgghddjaaWN
import Derived.Test.YtmbindcgghddjaaWFootNe
import Derived.Test.YtmbindcgghddjaaWAt
import Derived.Test.YtmbindcgghddjaaWEqStruct
import Derived.Test.YtmbindcgghddjaaWRepsOne
import Derived.Test.YtmbindcgghddjaaWInv
import Derived.Test.YtmbindcgghddjaaWInvWords
import Derived.Test.YtmbindcgghddjaaWGuard
import Derived.Test.YtmbindcgghddjaaWNEv
import Derived.Test.YtmbindcgghddjaaWMore
namespace Go.Proofs.Ytmbindcgghddjaa.P
open Go.RowKit Go.Proofs.YtmbindcgghddjaaW.PrintWords Go.Proofs.YtmbindcgghddjaaW.PrintLast Go.Proofs.YtmbindcgghddjaaW.PrintMore
attribute [local go_sem] max2_int min2_int max_two min_two max_three min_three max_four min_four   -- for this text's walks alone
set_option linter.unusedVariables false
set_option linter.unusedSimpArgs false



def errW : Option Int → Value
  | none => .nilIface
  | some c => .iface 0 (.int .i64 c)
theorem errW_none : errW none = .nilIface := rfl
theorem errW_some (c : Int) : errW (some c) = .iface 0 (.int .i64 c) := rfl

theorem info5 : (Try.prog.info? 5).map (fun i => (i.zero, i.size, i.bytes)) = some (some (.int .u8 0), 1, 1) := by kernel_rfl
-- the values' own types


end Go.Proofs.Ytmbindcgghddjaa.P
