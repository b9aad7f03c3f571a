/- What fills any many bytes up: the program and the reference tell the same, and it is blank. -/
import Derived.Test.YtinoidkmobmcpaaPx5
import Derived.Test.YtinoidkmobmcpaaPx9
import Derived.Test.YtinoidkmobmcpaaScanMo
namespace Go.Proofs.Ytinoidkmobmcpaa.Pure
open Go.RowKit Go.Proofs.Ytinoidkmobmcpaa.P Go.Proofs.YtinoidkmobmcpaaW.PrintWords Go.Proofs.YtinoidkmobmcpaaW.PrintLast

theorem ScanFills : styluslaw13_ScanFills.Pure := by
  intro n _
  apply Ev.rounds
  have l : Ev (fun k => (styluslaw13_lives.f k).bind fun t => some t) true := Ev.bind lives13 (Ev.now _)
  unfold styluslaw13_ScanFills.f
  refine Ev.bind (scan_Fill_ev n) (Ev.bind (ref_Fill_ev n) (Ev.pos rfl (Ev.bind (scan_Fill_ev n) (Ev.bind (scan_Blank_ev _ ?_) (Ev.pos (decide_eq_true (fillN_blank _)) l)))))
  rw [fillN_size]
  unfold fillC
  omega

end Go.Proofs.Ytinoidkmobmcpaa.Pure
