-- Laid by a program of this session (wip/tools/fork_print.py over the kit's print) out of Lean's print of the translation. Lean checks it.
import Derived.Test.YtdlnbchgimmmoaaPx0
import Derived.Test.YtdlnbchgimmmoaaOpen
namespace Go.Proofs.Ytdlnbchgimmmoaa.P
open Go.RowKit Go.Proofs.YtdlnbchgimmmoaaW.PrintWords Go.Proofs.YtdlnbchgimmmoaaW.PrintLast Go.Proofs.YtdlnbchgimmmoaaW.PrintMore
theorem opens22 : Opens Try.prog 22 k22 B22 := opens_array (fun x : S22 => (x.f0, x.f1)) (fun a => (⟨a.1, a.2⟩ : S22)) (fun _ => rfl) Try.underlying22 (by kernel_rfl) (opensF_cons (by kernel_rfl) (opens_string Try.underlying9 (by kernel_rfl)) (opensF_one (by kernel_rfl) (opens_string Try.underlying9 (by kernel_rfl))))
theorem opens23 : Opens Try.prog 23 k23 B23 := opens_array (fun x : S23 => (x.f0, x.f1)) (fun a => (⟨a.1, a.2⟩ : S23)) (fun _ => rfl) Try.underlying23 (by kernel_rfl) (opensF_cons (by kernel_rfl) (opens_int .i64 Try.underlying3 (by kernel_rfl)) (opensF_one (by kernel_rfl) (opens_int .i64 Try.underlying3 (by kernel_rfl))))
theorem opens40 : Opens Try.prog 40 k40 B40 := opens_struct (fun x : S40 => (x.f0, x.f1, x.f2, x.f3)) (fun a => (⟨a.1, a.2.1, a.2.2.1, a.2.2.2⟩ : S40)) (fun _ => rfl) Try.underlying40 (by kernel_rfl) (opensF_cons rfl (opens_int .i64 Try.underlying3 (by kernel_rfl)) (opensF_cons rfl (opens_int .i64 Try.underlying3 (by kernel_rfl)) (opensF_cons rfl (opens_string Try.underlying9 (by kernel_rfl)) (opensF_one rfl (opens_string Try.underlying9 (by kernel_rfl))))))
end Go.Proofs.Ytdlnbchgimmmoaa.P
