-- Laid by a program of this session (wip/tools/fork_print.py over the kit's print) out of Lean's print of the translation. Lean checks it.
import Derived.Test.YtlnclocfeaklaaaPx0
import Derived.Test.YtlnclocfeaklaaaOpen
namespace Go.Proofs.Ytlnclocfeaklaaa.P
open Go.RowKit Go.Proofs.YtlnclocfeaklaaaW.PrintWords Go.Proofs.YtlnclocfeaklaaaW.PrintLast Go.Proofs.YtlnclocfeaklaaaW.PrintMore

end Go.Proofs.Ytlnclocfeaklaaa.P
