-- Laid by a program of this session (wip/tools/fork_print.py over the kit's print) out of Lean's print of the translation. Lean checks it.
import Derived.Test.YtmbindcgghddjaaPx0
import Derived.Test.YtmbindcgghddjaaOpen
namespace Go.Proofs.Ytmbindcgghddjaa.P
open Go.RowKit Go.Proofs.YtmbindcgghddjaaW.PrintWords Go.Proofs.YtmbindcgghddjaaW.PrintLast Go.Proofs.YtmbindcgghddjaaW.PrintMore
theorem opens30 : Opens Try.prog 30 k30 B30 := opens_array (fun x : S30 => (x.f0, x.f1)) (fun a => (⟨a.1, a.2⟩ : S30)) (fun _ => rfl) Try.underlying30 (by kernel_rfl) (opensF_cons (by kernel_rfl) (opens_string Try.underlying9 (by kernel_rfl)) (opensF_one (by kernel_rfl) (opens_string Try.underlying9 (by kernel_rfl))))
theorem opens32 : Opens Try.prog 32 k32 B32 := opens_struct (fun x : S32 => (x.f0, x.f1)) (fun a => (⟨a.1, a.2⟩ : S32)) (fun _ => rfl) Try.underlying32 (by kernel_rfl) (opensF_cons rfl (opens_int .i64 Try.underlying3 (by kernel_rfl)) (opensF_one rfl (opens_int .u8 Try.underlying5 (by kernel_rfl))))
end Go.Proofs.Ytmbindcgghddjaa.P
