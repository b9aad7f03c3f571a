/- Any bytes sealed are what the page says, or refused: the program and the reference lay the same. -/
import Derived.Test.YtmbindcgghddjaaPx3
import Derived.Test.YtmbindcgghddjaaSealEv
namespace Go.Proofs.Ytmbindcgghddjaa.Pure
open Go.RowKit Go.Proofs.Ytmbindcgghddjaa.P Go.Proofs.YtmbindcgghddjaaW.PrintWords Go.Proofs.YtmbindcgghddjaaW.PrintLast

theorem SealLays : styluslaw29_SealLays.Pure := by
  intro e s _ hs
  apply Ev.rounds
  unfold styluslaw29_SealLays.f
  by_cases h : (s.size : Int) > 1000
  · exact Ev.pos h (Ev.bind lives29 (Ev.now _))
  · exact Ev.neg h (Ev.bind (seal_Lay_ev e s) (Ev.bind (ref_Lay29_ev e s) (Ev.pos rfl (Ev.pos rfl (Ev.bind lives29 (Ev.now _))))))

end Go.Proofs.Ytmbindcgghddjaa.Pure
