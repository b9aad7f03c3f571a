-- Laid by a program of this session (wip/tools/fork_print.py over the kit's print) out of Lean's print of the translation. Lean checks it.
import Derived.Test.YtinoidkmobmcpaaPx0
import Derived.Test.YtinoidkmobmcpaaOpen
namespace Go.Proofs.Ytinoidkmobmcpaa.P
open Go.RowKit Go.Proofs.YtinoidkmobmcpaaW.PrintWords Go.Proofs.YtinoidkmobmcpaaW.PrintLast Go.Proofs.YtinoidkmobmcpaaW.PrintMore
theorem opens41 : Opens Try.prog 41 k41 B41 := opens_struct (fun x : S41 => (x.f0, x.f1)) (fun a => (⟨a.1, a.2⟩ : S41)) (fun _ => rfl) Try.underlying41 (by kernel_rfl) (opensF_cons rfl (opens_string Try.underlying9 (by kernel_rfl)) (opensF_one rfl (opens_bool Try.underlying4 (by kernel_rfl))))
theorem opens33 : Opens Try.prog 33 k33 B33 := opens_struct (fun x : S33 => (x.f0, x.f1)) (fun a => (⟨a.1, a.2⟩ : S33)) (fun _ => rfl) Try.underlying33 (by kernel_rfl) (opensF_cons rfl (opens_int .i64 Try.underlying3 (by kernel_rfl)) (opensF_one rfl (opens_int .i64 Try.underlying3 (by kernel_rfl))))
theorem opens44 : Opens Try.prog 44 k44 B44 := opens_struct (fun x : S44 => (x.f0, x.f1, x.f2)) (fun a => (⟨a.1, a.2.1, a.2.2⟩ : S44)) (fun _ => rfl) Try.underlying44 (by kernel_rfl) (opensF_cons rfl (opens_int .i64 Try.underlying3 (by kernel_rfl)) (opensF_cons rfl (opens_int .i64 Try.underlying3 (by kernel_rfl)) (opensF_one rfl (opens_int .u8 Try.underlying5 (by kernel_rfl)))))
end Go.Proofs.Ytinoidkmobmcpaa.P
