-- Laid by a program of this session (wip/tools/fork_print.py over the kit's print) out of Lean's print of the translation. Lean checks it.
import Derived.Test.YtfimcjbagjjdlaaPx0
import Derived.Test.YtfimcjbagjjdlaaOpen
namespace Go.Proofs.Ytfimcjbagjjdlaa.P
open Go.RowKit Go.Proofs.YtfimcjbagjjdlaaW.PrintWords Go.Proofs.YtfimcjbagjjdlaaW.PrintLast Go.Proofs.YtfimcjbagjjdlaaW.PrintMore
theorem opens26 : Opens Try.prog 26 k26 B26 := opens_struct (fun x : S26 => (x.f0, x.f1, x.f2)) (fun a => (⟨a.1, a.2.1, a.2.2⟩ : S26)) (fun _ => rfl) Try.underlying26 (by kernel_rfl) (opensF_cons rfl (opens_int .i64 Try.underlying3 (by kernel_rfl)) (opensF_cons rfl (opens_string Try.underlying9 (by kernel_rfl)) (opensF_one rfl (opens_string Try.underlying9 (by kernel_rfl)))))
theorem opens24 : Opens Try.prog 24 k24 B24 := opens_struct (fun x : S24 => x.f0) (fun a => (⟨a⟩ : S24)) (fun _ => rfl) Try.underlying24 (by kernel_rfl) (opensF_one rfl (opens_slice z26 Try.underlying22 (by kernel_rfl) opens26))
end Go.Proofs.Ytfimcjbagjjdlaa.P
