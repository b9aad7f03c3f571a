-- Laid by a program of this session (wip/tools/fork_print.py over the kit's print) out of Lean's print of the translation. Lean checks it.
import Derived.Test.YtgabhndhnjedpaaPx0
import Derived.Test.YtgabhndhnjedpaaOpen
namespace Go.Proofs.Ytgabhndhnjedpaa.P
open Go.RowKit Go.Proofs.YtgabhndhnjedpaaW.PrintWords Go.Proofs.YtgabhndhnjedpaaW.PrintLast Go.Proofs.YtgabhndhnjedpaaW.PrintMore
theorem opens23 : Opens Try.prog 23 k23 B23 := opens_struct (fun x : S23 => (x.f0, x.f1, x.f2, x.f3)) (fun a => (⟨a.1, a.2.1, a.2.2.1, a.2.2.2⟩ : S23)) (fun _ => rfl) Try.underlying23 (by kernel_rfl) (opensF_cons rfl (opens_int .i64 Try.underlying3 (by kernel_rfl)) (opensF_cons rfl (opens_int .i64 Try.underlying3 (by kernel_rfl)) (opensF_cons rfl (opens_int .i64 Try.underlying3 (by kernel_rfl)) (opensF_one rfl (opens_string Try.underlying9 (by kernel_rfl))))))
end Go.Proofs.Ytgabhndhnjedpaa.P
