/- What any text says as digits is told as the page says. -/
import Derived.Test.YtkkipodnnnclkaaPx4
import Derived.Test.YtkkipodnnnclkaaNumEv
import Derived.Test.YtkkipodnnnclkaaDigEv
namespace Go.Proofs.Ytkkipodnnnclkaa.Pure
open Go.RowKit Go.Proofs.Ytkkipodnnnclkaa.P Go.Proofs.YtkkipodnnnclkaaW.PrintWords Go.Proofs.YtkkipodnnnclkaaW.PrintLast

theorem NumParses : styluslaw03_NumParses.Pure := by
  intro s hs
  apply Ev.rounds
  unfold styluslaw03_NumParses.f
  by_cases h : (s.size : Int) > 400
  · exact Ev.pos h (Ev.bind lives03 (Ev.now _))
  · exact Ev.neg h (Ev.bind (num_Parse_ev s hs) (Ev.bind (ref_Parse_ev s hs) (Ev.pos rfl (Ev.pos (by simp) (Ev.bind lives03 (Ev.now _))))))

end Go.Proofs.Ytkkipodnnnclkaa.Pure
