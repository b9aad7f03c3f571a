-- Laid by a program of this session (wip/tools/fork_print.py over the kit's print) out of Lean's print of the translation. Lean checks it.
import Derived.Test.YtpmfmkpcgbiemaaProg
import Derived.Below
import Derived.Deep.Draws
import Derived.Deep.AppendLies
import Derived.Maps.AppendAt
import Derived.OwnWalk
import Derived.Laws.BytesArg
import Derived.Laws.MakeOwn
import Derived.Laws.OwnMore
import Derived.Deep.OwnRows
import Derived.Tactics
import Derived.Lib.ConvBytes
import Derived.Laws.Slices
import Derived.WalkKit
import Derived.KernelRfl
import Derived.RowKit3
import Derived.Deep.LoopGhost
import Derived.Deep.QuietTactic
import Derived.BigQuiet
import Derived.WideLaws
import Derived.Deep.DeepCutAuto
import Derived.Deep.CutBlock
import Derived.Deep.RegionHeld3
import Derived.Laws.Rows
import Derived.Lib.AppendStr
import Derived.ArgAppend
import Derived.Laws.IdiomCopy
import Derived.OrdersHeld
import Derived.Laws.BitsLemmas
import Derived.RowKit
import Derived.Test.YtpmfmkpcgbiemaaWWords
import Derived.Test.YtpmfmkpcgbiemaaWLast
import Derived.Test.YtpmfmkpcgbiemaaWTab
import Derived.Test.YtpmfmkpcgbiemaaWFour
import Derived.Test.YtpmfmkpcgbiemaaWQPut
import Derived.Test.YtpmfmkpcgbiemaaWApart
import Derived.Test.YtpmfmkpcgbiemaaWArr
import Derived.Test.YtpmfmkpcgbiemaaWZeros
import Derived.Test.YtpmfmkpcgbiemaaWFoot
import Derived.Test.YtpmfmkpcgbiemaaWKept
import Derived.Test.YtpmfmkpcgbiemaaWShare
import Derived.Test.YtpmfmkpcgbiemaaWN
import Derived.Test.YtpmfmkpcgbiemaaWFootNe
import Derived.Test.YtpmfmkpcgbiemaaWAt
import Derived.Test.YtpmfmkpcgbiemaaWEqStruct
import Derived.Test.YtpmfmkpcgbiemaaWRepsOne
import Derived.Test.YtpmfmkpcgbiemaaWInv
import Derived.Test.YtpmfmkpcgbiemaaWInvWords
import Derived.Test.YtpmfmkpcgbiemaaWGuard
import Derived.Test.YtpmfmkpcgbiemaaWNEv
import Derived.Test.YtpmfmkpcgbiemaaWMore
namespace Go.Proofs.Ytpmfmkpcgbiemaa.P
open Go.RowKit Go.Proofs.YtpmfmkpcgbiemaaW.PrintWords Go.Proofs.YtpmfmkpcgbiemaaW.PrintLast Go.Proofs.YtpmfmkpcgbiemaaW.PrintMore
attribute [local go_sem] max2_int min2_int max_two min_two max_three min_three max_four min_four   -- for this text's walks alone
set_option linter.unusedVariables false
set_option linter.unusedSimpArgs false



def errW : Option Int → Value
  | none => .nilIface
  | some c => .iface 0 (.int .i64 c)
theorem errW_none : errW none = .nilIface := rfl
theorem errW_some (c : Int) : errW (some c) = .iface 0 (.int .i64 c) := rfl

theorem info5 : (Try.prog.info? 5).map (fun i => (i.zero, i.size, i.bytes)) = some (some (.int .u8 0), 1, 1) := by kernel_rfl
-- the values' own types


end Go.Proofs.Ytpmfmkpcgbiemaa.P
