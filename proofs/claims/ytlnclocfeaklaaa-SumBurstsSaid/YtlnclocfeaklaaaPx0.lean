-- Laid by a program of this session (wip/tools/fork_print.py over the kit's print) out of Lean's print of the translation. Lean checks it.
import Derived.Test.YtlnclocfeaklaaaProg
import Derived.Below
import Derived.Deep.Draws
import Derived.Deep.AppendLies
import Derived.Maps.AppendAt
import Derived.OwnWalk
import Derived.Laws.BytesArg
import Derived.Laws.MakeOwn
import Derived.Laws.OwnMore
import Derived.Deep.OwnRows
import Derived.Tactics
import Derived.Lib.ConvBytes
import Derived.Laws.Slices
import Derived.WalkKit
import Derived.KernelRfl
import Derived.RowKit3
import Derived.Deep.LoopGhost
import Derived.Deep.QuietTactic
import Derived.BigQuiet
import Derived.WideLaws
import Derived.Deep.DeepCutAuto
import Derived.Deep.CutBlock
import Derived.Deep.RegionHeld3
import Derived.Laws.Rows
import Derived.Lib.AppendStr
import Derived.ArgAppend
import Derived.Laws.IdiomCopy
import Derived.OrdersHeld
import Derived.Laws.BitsLemmas
import Derived.RowKit
import Derived.Test.YtlnclocfeaklaaaWWords
import Derived.Test.YtlnclocfeaklaaaWLast
import Derived.Test.YtlnclocfeaklaaaWTab
import Derived.Test.YtlnclocfeaklaaaWFour
import Derived.Test.YtlnclocfeaklaaaWQPut
import Derived.Test.YtlnclocfeaklaaaWApart
import Derived.Test.YtlnclocfeaklaaaWArr
import Derived.Test.YtlnclocfeaklaaaWZeros
import Derived.Test.YtlnclocfeaklaaaWFoot
import Derived.Test.YtlnclocfeaklaaaWKept
import Derived.Test.YtlnclocfeaklaaaWShare
import Derived.Test.YtlnclocfeaklaaaWN
import Derived.Test.YtlnclocfeaklaaaWFootNe
import Derived.Test.YtlnclocfeaklaaaWAt
import Derived.Test.YtlnclocfeaklaaaWEqStruct
import Derived.Test.YtlnclocfeaklaaaWRepsOne
import Derived.Test.YtlnclocfeaklaaaWInv
import Derived.Test.YtlnclocfeaklaaaWInvWords
import Derived.Test.YtlnclocfeaklaaaWGuard
import Derived.Test.YtlnclocfeaklaaaWNEv
import Derived.Test.YtlnclocfeaklaaaWMore
namespace Go.Proofs.Ytlnclocfeaklaaa.P
open Go.RowKit Go.Proofs.YtlnclocfeaklaaaW.PrintWords Go.Proofs.YtlnclocfeaklaaaW.PrintLast Go.Proofs.YtlnclocfeaklaaaW.PrintMore
attribute [local go_sem] max2_int min2_int max_two min_two max_three min_three max_four min_four   -- for this text's walks alone
set_option linter.unusedVariables false
set_option linter.unusedSimpArgs false



def errW : Option Int → Value
  | none => .nilIface
  | some c => .iface 0 (.int .i64 c)
theorem errW_none : errW none = .nilIface := rfl
theorem errW_some (c : Int) : errW (some c) = .iface 0 (.int .i64 c) := rfl

-- the values' own types


end Go.Proofs.Ytlnclocfeaklaaa.P
