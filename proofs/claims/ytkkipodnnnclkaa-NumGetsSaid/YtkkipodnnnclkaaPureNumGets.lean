/- The number that stands at any place of any bytes is the one of the page, or none: both are the number of the bytes there. -/
import Derived.Test.YtkkipodnnnclkaaPx2
import Derived.Test.YtkkipodnnnclkaaNumEv
namespace Go.Proofs.Ytkkipodnnnclkaa.Pure
open Go.RowKit Go.Proofs.Ytkkipodnnnclkaa.P Go.Proofs.YtkkipodnnnclkaaW.PrintWords Go.Proofs.YtkkipodnnnclkaaW.PrintLast

theorem NumGets : styluslaw03_NumGets.Pure := by
  intro s i hs _
  apply Ev.rounds
  unfold styluslaw03_NumGets.f
  by_cases h : (s.size : Int) > 400
  · exact Ev.pos h (Ev.bind lives03 (Ev.now _))
  · refine Ev.neg h (Ev.bind (num_Get16_ev s i hs) (Ev.bind (ref_Get16_ev s i hs) (Ev.bind (num_Get32_ev s i hs) (Ev.bind (ref_Get32_ev s i hs) ?_))))
    exact Ev.pos rfl (Ev.pos (by simp) (Ev.pos rfl (Ev.pos (by simp) (Ev.bind lives03 (Ev.now _)))))

end Go.Proofs.Ytkkipodnnnclkaa.Pure
