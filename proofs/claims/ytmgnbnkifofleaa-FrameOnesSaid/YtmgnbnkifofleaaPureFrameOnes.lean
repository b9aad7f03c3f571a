/- The frame that bytes begin with, or why there is none: the program and the reference tell the same. -/
import Derived.Test.YtmgnbnkifofleaaPx4
import Derived.Test.YtmgnbnkifofleaaPx6
import Derived.Test.YtmgnbnkifofleaaFrameEv
namespace Go.Proofs.Ytmgnbnkifofleaa.Pure
open Go.RowKit Go.Proofs.Ytmgnbnkifofleaa.P Go.Proofs.YtmgnbnkifofleaaW.PrintWords Go.Proofs.YtmgnbnkifofleaaW.PrintLast

theorem FrameOnes : styluslaw12_FrameOnes.Pure := by
  intro s hs
  apply Ev.rounds
  have l : Ev (fun k => (styluslaw12_lives.f k).bind fun t => some t) true := Ev.bind lives12 (Ev.now _)
  unfold styluslaw12_FrameOnes.f
  by_cases h0 : (s.size : Int) > 1200
  · exact Ev.pos h0 l
  exact Ev.neg h0 (Ev.bind (frame_One_ev s hs) (Ev.bind (ref_One_ev s hs) (Ev.pos (by simp) (Ev.pos rfl (Ev.pos rfl l)))))

end Go.Proofs.Ytmgnbnkifofleaa.Pure
