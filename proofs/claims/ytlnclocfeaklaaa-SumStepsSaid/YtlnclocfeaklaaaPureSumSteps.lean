/- Any register behind any byte is the one of the page: the program's step and the reference's are both the plain step of CRC-32. -/
import Derived.Test.YtlnclocfeaklaaaPx1
import Derived.Test.YtlnclocfeaklaaaSumEv
namespace Go.Proofs.Ytlnclocfeaklaaa.Pure
open Go.RowKit Go.Proofs.Ytlnclocfeaklaaa.P Go.Proofs.YtlnclocfeaklaaaW.PrintWords Go.Proofs.YtlnclocfeaklaaaW.PrintLast

theorem SumSteps : styluslaw02_SumSteps.Pure := by
  intro r b hr hb
  have h1 := wf_u32 hr
  have h2 := wf_u8 hb
  obtain ⟨v, rfl⟩ := ofB_of r h1.1 h1.2
  obtain ⟨c, rfl⟩ : ∃ c : UInt8, b = (c.toNat : Int) := ⟨UInt8.ofNat b.toNat, by rw [UInt8.toNat_ofNat']; omega⟩
  apply Ev.rounds
  unfold styluslaw02_SumSteps.f
  refine Ev.bind (sum_Step_ev v c) (Ev.bind (ref_Step_ev v c) (Ev.pos rfl (Ev.bind lives02 (Ev.now _))))

end Go.Proofs.Ytlnclocfeaklaaa.Pure
