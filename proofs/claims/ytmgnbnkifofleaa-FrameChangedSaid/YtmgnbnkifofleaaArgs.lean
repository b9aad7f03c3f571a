-- Laid by a program of this session (wip/tools/fork_print.py over the kit's print) out of Lean's print of the translation. Lean checks it.
import Derived.Test.YtmgnbnkifofleaaPx0
import Derived.Test.YtmgnbnkifofleaaOpen
namespace Go.Proofs.Ytmgnbnkifofleaa.P
open Go.RowKit Go.Proofs.YtmgnbnkifofleaaW.PrintWords Go.Proofs.YtmgnbnkifofleaaW.PrintLast Go.Proofs.YtmgnbnkifofleaaW.PrintMore
theorem opens23 : Opens Try.prog 23 k23 B23 := opens_struct (fun x : S23 => (x.f0, x.f1, x.f2)) (fun a => (⟨a.1, a.2.1, a.2.2⟩ : S23)) (fun _ => rfl) Try.underlying23 (by kernel_rfl) (opensF_cons rfl (opens_int .i64 Try.underlying3 (by kernel_rfl)) (opensF_cons rfl (opens_int .i64 Try.underlying3 (by kernel_rfl)) (opensF_one rfl (opens_string Try.underlying9 (by kernel_rfl)))))
theorem opens35 : Opens Try.prog 35 k35 B35 := opens_struct (fun x : S35 => (x.f0, x.f1)) (fun a => (⟨a.1, a.2⟩ : S35)) (fun _ => rfl) Try.underlying35 (by kernel_rfl) (opensF_cons rfl (opens_int .i64 Try.underlying3 (by kernel_rfl)) (opensF_one rfl (opens_int .u8 Try.underlying5 (by kernel_rfl))))
end Go.Proofs.Ytmgnbnkifofleaa.P
