import Derived.Test.YtfhafkfcedghkaaPx0
import Derived.Test.YtfhafkfcedghkaaOpenUp
namespace Go.Proofs.Ytfhafkfcedghkaa.P
open Go.RowKit Go.Proofs.YtfhafkfcedghkaaW.PrintWords Go.Proofs.YtfhafkfcedghkaaW.PrintLast Go.Proofs.YtfhafkfcedghkaaW.PrintMore
def U34 (x : S34) : Prop := x.f0.size ≤ 1048576 ∧ ((Lit.int .i64 x.f1).wf = true)
def U36 (x : S36) : Prop := (Lit.int .i64 x.f0).wf = true ∧ (x.f1.size ≤ 1048576 ∧ (x.f2.size ≤ 1048576))
def U38 (x : S38) : Prop := (x.f0.length ≤ 1048576 ∧ ∀ y_xf0 ∈ x.f0, U36 y_xf0)
def U26 (x : S26) : Prop := x.f0.size ≤ 1048576 ∧ ((x.f1.length ≤ 1048576 ∧ ∀ y_xf1 ∈ x.f1, U34 y_xf1) ∧ ((x.f2.length ≤ 1048576 ∧ ∀ y_xf2 ∈ x.f2, U38 y_xf2) ∧ ((x.f3.length ≤ 1048576 ∧ ∀ y_xf3 ∈ x.f3, U38 y_xf3) ∧ (True ∧ ((x.f5.length ≤ 1048576 ∧ ∀ y_xf5 ∈ x.f5, U36 y_xf5))))))
theorem opensU34 : OpensU Try.prog 34 k34 U34 := opensu_struct (fun x : S34 => (x.f0, x.f1)) (fun a => (⟨a.1, a.2⟩ : S34)) (fun _ => rfl) Try.underlying34 (by kernel_rfl) (opensuF_cons rfl (opensu_string Try.underlying9 (by kernel_rfl)) (opensuF_one rfl (opensu_int .i64 Try.underlying3 (by kernel_rfl))))
theorem opensU36 : OpensU Try.prog 36 k36 U36 := opensu_struct (fun x : S36 => (x.f0, x.f1, x.f2)) (fun a => (⟨a.1, a.2.1, a.2.2⟩ : S36)) (fun _ => rfl) Try.underlying36 (by kernel_rfl) (opensuF_cons rfl (opensu_int .i64 Try.underlying3 (by kernel_rfl)) (opensuF_cons rfl (opensu_string Try.underlying9 (by kernel_rfl)) (opensuF_one rfl (opensu_string Try.underlying9 (by kernel_rfl)))))
theorem opensU38 : OpensU Try.prog 38 k38 U38 := opensu_struct (fun x : S38 => x.f0) (fun a => (⟨a⟩ : S38)) (fun _ => rfl) Try.underlying38 (by kernel_rfl) (opensuF_one rfl (opensu_slice z36 Try.underlying24 (by kernel_rfl) (by kernel_rfl) opensU36))
theorem opensU26 : OpensU Try.prog 26 k26 U26 := opensu_struct (fun x : S26 => (x.f0, x.f1, x.f2, x.f3, x.f4, x.f5)) (fun a => (⟨a.1, a.2.1, a.2.2.1, a.2.2.2.1, a.2.2.2.2.1, a.2.2.2.2.2⟩ : S26)) (fun _ => rfl) Try.underlying26 (by kernel_rfl) (opensuF_cons rfl (opensu_string Try.underlying9 (by kernel_rfl)) (opensuF_cons rfl (opensu_slice z34 Try.underlying22 (by kernel_rfl) (by kernel_rfl) opensU34) (opensuF_cons rfl (opensu_slice z38 Try.underlying23 (by kernel_rfl) (by kernel_rfl) opensU38) (opensuF_cons rfl (opensu_slice z38 Try.underlying23 (by kernel_rfl) (by kernel_rfl) opensU38) (opensuF_cons rfl (opensu_bool Try.underlying4 (by kernel_rfl)) (opensuF_one rfl (opensu_slice z36 Try.underlying24 (by kernel_rfl) (by kernel_rfl) opensU36)))))))
end Go.Proofs.Ytfhafkfcedghkaa.P
