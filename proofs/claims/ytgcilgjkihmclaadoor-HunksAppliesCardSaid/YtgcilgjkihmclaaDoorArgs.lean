-- Laid by a program of this session (wip/tools/fork_print.py over the kit's print) out of Lean's print of the translation. Lean checks it.
import Derived.Test.YtgcilgjkihmclaaDoorPx0
import Derived.Test.YtgcilgjkihmclaaDoorOpen
namespace Go.Proofs.YtgcilgjkihmclaaDoor.P
open Go.RowKit Go.Proofs.YtgcilgjkihmclaaDoorW.PrintWords Go.Proofs.YtgcilgjkihmclaaDoorW.PrintLast Go.Proofs.YtgcilgjkihmclaaDoorW.PrintMore
theorem opens28 : Opens Tryd.prog 28 k28 B28 := opens_struct (fun x : S28 => (x.f0, x.f1, x.f2)) (fun a => (⟨a.1, a.2.1, a.2.2⟩ : S28)) (fun _ => rfl) Tryd.underlying28 (by kernel_rfl) (opensF_cons rfl (opens_int .i64 Tryd.underlying3 (by kernel_rfl)) (opensF_cons rfl (opens_int .i64 Tryd.underlying3 (by kernel_rfl)) (opensF_one rfl (opens_slice (⟨#[]⟩ : ByteArray) Tryd.underlying22 (by kernel_rfl) (by kernel_rfl) (opens_string Tryd.underlying9 (by kernel_rfl))))))
end Go.Proofs.YtgcilgjkihmclaaDoor.P
