/- Which operations may be, and which names of marks, is told as the page says; and the words of any. -/
import Derived.Test.YtgabhndhnjedpaaPx5
import Derived.Test.YtgabhndhnjedpaaPx9
import Derived.Test.YtgabhndhnjedpaaOpTx
namespace Go.Proofs.Ytgabhndhnjedpaa.Pure
open Go.RowKit Go.Proofs.Ytgabhndhnjedpaa.P Go.Proofs.YtgabhndhnjedpaaW.PrintWords Go.Proofs.YtgabhndhnjedpaaW.PrintLast

theorem OpcodeRights : styluslaw14_OpcodeRights.Pure := by
  intro x s _ hs
  apply Ev.rounds
  obtain ⟨x0, x1, x2, x3⟩ := x
  have l : Ev (fun k => (styluslaw14_lives.f k).bind fun t => some t) true := Ev.bind lives14 (Ev.now _)
  have no : Ev (fun k => styluslaw14_OpcodeRights.j0 k s true x0 x1 x2 x3) true := Ev.step (fun k => by rw [styluslaw14_OpcodeRights.j0, if_pos (rfl : true = true)]) l
  unfold styluslaw14_OpcodeRights.f
  by_cases h0 : (x3.size : Int) > 600
  · exact Ev.pos h0 no
  refine Ev.neg h0 ?_
  by_cases h1 : (s.size : Int) > 400
  · rw [decide_eq_true h1]; exact no
  rw [decide_eq_false h1]
  refine Ev.step (fun k => by rw [styluslaw14_OpcodeRights.j0, if_neg Bool.false_ne_true]) ?_
  refine Ev.bind (opcode_Right_ev x0 x1 x2 x3 (by omega)) (Ev.bind (ref_Right14_ev x0 x1 x2 x3 (by omega)) (Ev.pos (beq_self_eq_true _) ?_))
  exact Ev.bind (opcode_Text_ev x0 x1 x2 x3 (by omega)) (Ev.bind (ref_Text14_ev x0 x1 x2 x3 (by omega)) (Ev.pos rfl (Ev.bind (opcode_MayMark_ev s hs) (Ev.bind (ref_MayMark_ev s hs) (Ev.pos (beq_self_eq_true _) l)))))

end Go.Proofs.Ytgabhndhnjedpaa.Pure
