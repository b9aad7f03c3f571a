/- The operation of any bytes is the one of the page, or why there is none. -/
import Derived.Test.YtgabhndhnjedpaaPx8
import Derived.Test.YtgabhndhnjedpaaOpTh
namespace Go.Proofs.Ytgabhndhnjedpaa.Pure
open Go.RowKit Go.Proofs.Ytgabhndhnjedpaa.P Go.Proofs.YtgabhndhnjedpaaW.PrintWords Go.Proofs.YtgabhndhnjedpaaW.PrintLast

theorem OpcodeReads : styluslaw14_OpcodeReads.Pure := by
  intro s hs
  apply Ev.rounds
  unfold styluslaw14_OpcodeReads.f
  by_cases h : (s.size : Int) > 700
  · exact Ev.pos h (Ev.bind lives14 (Ev.now _))
  · refine Ev.neg h (Ev.bind (opcode_Read_ev s hs) (Ev.bind (ref_Read14_ev s hs) (Ev.pos (by simp) (Ev.pos rfl (Ev.bind lives14 (Ev.now _))))))

end Go.Proofs.Ytgabhndhnjedpaa.Pure
