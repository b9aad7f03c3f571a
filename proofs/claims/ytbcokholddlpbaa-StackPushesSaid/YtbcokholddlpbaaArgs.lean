-- Laid by a program of this session (wip/tools/fork_print.py over the kit's print) out of Lean's print of the translation. Lean checks it.
import Derived.Test.YtbcokholddlpbaaPx0
import Derived.Test.YtbcokholddlpbaaOpen
namespace Go.Proofs.Ytbcokholddlpbaa.P
open Go.RowKit Go.Proofs.YtbcokholddlpbaaW.PrintWords Go.Proofs.YtbcokholddlpbaaW.PrintLast Go.Proofs.YtbcokholddlpbaaW.PrintMore
theorem opens38 : Opens Try.prog 38 k38 B38 := opens_struct (fun x : S38 => (x.f0, x.f1, x.f2)) (fun a => (⟨a.1, a.2.1, a.2.2⟩ : S38)) (fun _ => rfl) Try.underlying38 (by kernel_rfl) (opensF_cons rfl (opens_int .i64 Try.underlying3 (by kernel_rfl)) (opensF_cons rfl (opens_string Try.underlying9 (by kernel_rfl)) (opensF_one rfl (opens_string Try.underlying9 (by kernel_rfl)))))
theorem opens28 : Opens Try.prog 28 k28 B28 := opens_struct (fun x : S28 => x.f0) (fun a => (⟨a⟩ : S28)) (fun _ => rfl) Try.underlying28 (by kernel_rfl) (opensF_one rfl (opens_slice z38 Try.underlying26 (by kernel_rfl) opens38))
end Go.Proofs.Ytbcokholddlpbaa.P
