/- The frames that any bytes begin with, where these end, and what stands there: the program and the reference tell the same. -/
import Derived.Test.YtinoidkmobmcpaaPx4
import Derived.Test.YtinoidkmobmcpaaPx5
import Derived.Test.YtinoidkmobmcpaaPx7
import Derived.Test.YtinoidkmobmcpaaScanEv
namespace Go.Proofs.Ytinoidkmobmcpaa.Pure
open Go.RowKit Go.Proofs.Ytinoidkmobmcpaa.P Go.Proofs.YtinoidkmobmcpaaW.PrintWords Go.Proofs.YtinoidkmobmcpaaW.PrintLast

theorem ScanRuns : styluslaw13_ScanRuns.Pure := by
  intro s ep sq hs _ _
  apply Ev.rounds
  have l : Ev (fun k => (styluslaw13_lives.f k).bind fun t => some t) true := Ev.bind lives13 (Ev.now _)
  unfold styluslaw13_ScanRuns.f
  by_cases h0 : (s.size : Int) > 1200
  · exact Ev.pos h0 l
  have hz : s.size ≤ 900000 := by omega
  have hl := scL_len s ep (s.size + 1) 0 sq
  have ho := scan_outs_le (scL (s.size + 1) s ep sq 0)
  refine Ev.neg h0 (Ev.bind (scan_Run_ev s hz ep sq) (Ev.bind (ref_Run13 s hz ep sq) (Ev.bind (ref_Same13_ev _ ?_) (Ev.pos rfl (Ev.pos rfl (Ev.bind (scan_Why_ev s hz ep sq) (Ev.bind (ref_Why13_ev s hz ep sq) (Ev.pos rfl (Ev.bind (scan_Blank_ev s hs) (Ev.bind (ref_Blank13_ev s hs) (Ev.pos (beq_self_eq_true _) l)))))))))))
  show (scan_outs (scL (s.size + 1) s ep sq 0)).length ≤ 4000000
  omega

end Go.Proofs.Ytinoidkmobmcpaa.Pure
