/- The sum of any text, and of any text behind one of any sum, is the one of the page: both are the plain CRC-32. -/
import Derived.Test.YtlnclocfeaklaaaPx1
import Derived.Test.YtlnclocfeaklaaaSumEv
namespace Go.Proofs.Ytlnclocfeaklaaa.Pure
open Go.RowKit Go.Proofs.Ytlnclocfeaklaaa.P Go.Proofs.YtlnclocfeaklaaaW.PrintWords Go.Proofs.YtlnclocfeaklaaaW.PrintLast

theorem SumOfs : styluslaw02_SumOfs.Pure := by
  intro r s hr hs
  have h1 := wf_u32 hr
  obtain ⟨v, rfl⟩ := ofB_of r h1.1 h1.2
  apply Ev.rounds
  unfold styluslaw02_SumOfs.f
  by_cases h : (s.size : Int) > 1000
  · exact Ev.pos h (Ev.bind lives02 (Ev.now _))
  · exact Ev.neg h (Ev.bind (sum_Of_ev s hs) (Ev.bind (ref_Of_ev s hs) (Ev.pos rfl (Ev.bind (sum_Add_ev v s hs) (Ev.bind (ref_Add_ev v s hs) (Ev.pos rfl (Ev.bind lives02 (Ev.now _))))))))

end Go.Proofs.Ytlnclocfeaklaaa.Pure
