-- Laid by a program of this session (wip/tools/fork_print.py over the kit's print) out of Lean's print of the translation. Lean checks it.
import Derived.Test.YtgcilgjkihmclaaPx0
import Derived.Test.YtgcilgjkihmclaaPx5
namespace Go.Proofs.Ytgcilgjkihmclaa.P
open Go.RowKit Go.Proofs.YtgcilgjkihmclaaW.PrintWords Go.Proofs.YtgcilgjkihmclaaW.PrintLast Go.Proofs.YtgcilgjkihmclaaW.PrintMore
attribute [local go_sem] max2_int min2_int max_two min_two max_three min_three max_four min_four   -- for this text's walks alone
set_option linter.unusedVariables false
set_option linter.unusedSimpArgs false

end Go.Proofs.Ytgcilgjkihmclaa.P
