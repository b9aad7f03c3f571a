import Derived.Test.YtednfgphhelkjaaDoorPx0
import Derived.Test.YtednfgphhelkjaaDoorOpen
namespace Go.Proofs.YtednfgphhelkjaaDoor.P
open Go.RowKit Go.Proofs.YtednfgphhelkjaaDoorW.PrintWords Go.Proofs.YtednfgphhelkjaaDoorW.PrintLast Go.Proofs.YtednfgphhelkjaaDoorW.PrintMore
theorem opens24 : Opens Tryd.prog 24 k24 B24 := opens_struct (fun x : S24 => (x.f0, x.f1, x.f2, x.f3)) (fun a => (⟨a.1, a.2.1, a.2.2.1, a.2.2.2⟩ : S24)) (fun _ => rfl) Tryd.underlying24 (by kernel_rfl) (opensF_cons rfl (opens_int .i64 Tryd.underlying3 (by kernel_rfl)) (opensF_cons rfl (opens_int .i64 Tryd.underlying3 (by kernel_rfl)) (opensF_cons rfl (opens_int .i64 Tryd.underlying3 (by kernel_rfl)) (opensF_one rfl (opens_string Tryd.underlying9 (by kernel_rfl))))))
end Go.Proofs.YtednfgphhelkjaaDoor.P
