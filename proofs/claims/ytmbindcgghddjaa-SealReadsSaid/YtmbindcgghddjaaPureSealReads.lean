/- What any bytes seal, by which epoch, or why nothing, is told as the page says. -/
import Derived.Test.YtmbindcgghddjaaPx4
import Derived.Test.YtmbindcgghddjaaSealEv
namespace Go.Proofs.Ytmbindcgghddjaa.Pure
open Go.RowKit Go.Proofs.Ytmbindcgghddjaa.P Go.Proofs.YtmbindcgghddjaaW.PrintWords Go.Proofs.YtmbindcgghddjaaW.PrintLast

theorem SealReads : styluslaw29_SealReads.Pure := by
  intro s hs
  apply Ev.rounds
  unfold styluslaw29_SealReads.f
  by_cases h : (s.size : Int) > 1000
  · exact Ev.pos h (Ev.bind lives29 (Ev.now _))
  · exact Ev.neg h (Ev.bind (seal_Read_ev s hs) (Ev.bind (ref_Read29_ev s hs) (Ev.pos rfl (Ev.pos rfl (Ev.pos rfl (Ev.bind lives29 (Ev.now _)))))))

end Go.Proofs.Ytmbindcgghddjaa.Pure
