/- All frames that stand anywhere in any bytes: the program and the reference tell the same. -/
import Derived.Test.YtinoidkmobmcpaaPx5
import Derived.Test.YtinoidkmobmcpaaPx10
import Derived.Test.YtinoidkmobmcpaaScanMo
namespace Go.Proofs.Ytinoidkmobmcpaa.Pure
open Go.RowKit Go.Proofs.Ytinoidkmobmcpaa.P Go.Proofs.YtinoidkmobmcpaaW.PrintWords Go.Proofs.YtinoidkmobmcpaaW.PrintLast

theorem ScanAnys : styluslaw13_ScanAnys.Pure := by
  intro s _
  apply Ev.rounds
  have l : Ev (fun k => (styluslaw13_lives.f k).bind fun t => some t) true := Ev.bind lives13 (Ev.now _)
  unfold styluslaw13_ScanAnys.f
  by_cases h0 : (s.size : Int) > 600
  · exact Ev.pos h0 l
  have hl := anyL_len s (s.size + 1) 0
  exact Ev.neg h0 (Ev.bind (scan_Any_ev s (by omega)) (Ev.bind (ref_Any_ev s (by omega)) (Ev.bind (ref_Same13_ev _ (by omega)) (Ev.pos rfl l))))

end Go.Proofs.Ytinoidkmobmcpaa.Pure
