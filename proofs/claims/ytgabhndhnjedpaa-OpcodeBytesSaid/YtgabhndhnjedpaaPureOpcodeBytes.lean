/- Any operation's bytes are what the page says, or refused. -/
import Derived.Test.YtgabhndhnjedpaaPx7
import Derived.Test.YtgabhndhnjedpaaOpTh
namespace Go.Proofs.Ytgabhndhnjedpaa.Pure
open Go.RowKit Go.Proofs.Ytgabhndhnjedpaa.P Go.Proofs.YtgabhndhnjedpaaW.PrintWords Go.Proofs.YtgabhndhnjedpaaW.PrintLast

theorem OpcodeBytes : styluslaw14_OpcodeBytes.Pure := by
  intro x _
  apply Ev.rounds
  obtain ⟨x0, x1, x2, x3⟩ := x
  unfold styluslaw14_OpcodeBytes.f
  by_cases h : (x3.size : Int) > 600
  · exact Ev.pos h (Ev.bind lives14 (Ev.now _))
  · exact Ev.neg h (Ev.bind (opcode_Bytes_ev x0 x1 x2 x3 (by omega)) (Ev.bind (ref_Bytes14_ev x0 x1 x2 x3 (by omega)) (Ev.pos rfl (Ev.pos rfl (Ev.bind lives14 (Ev.now _))))))

end Go.Proofs.Ytgabhndhnjedpaa.Pure
