/- Whether any steps can be taken back from any text, and done again: the program and the reference tell the same. -/
import Derived.Test.YtbcokholddlpbaaPx7
import Derived.Test.YtbcokholddlpbaaPx10
import Derived.Test.YtbcokholddlpbaaStackEv
namespace Go.Proofs.Ytbcokholddlpbaa.Pure
open Go.RowKit Go.Proofs.Ytbcokholddlpbaa.P Go.Proofs.YtbcokholddlpbaaW.PrintWords Go.Proofs.YtbcokholddlpbaaW.PrintLast

theorem StackGoes : styluslaw24_StackGoes.Pure := by
  intro t l _ _
  apply Ev.rounds
  have lv : Ev (fun k => (styluslaw24_lives.f k).bind fun t => some t) true := Ev.bind lives24 (Ev.now _)
  have no : Ev (fun k => styluslaw24_StackGoes.j0 k t l true) true := Ev.step (fun k => by rw [styluslaw24_StackGoes.j0, if_pos (rfl : true = true)]) lv
  unfold styluslaw24_StackGoes.f
  by_cases h0 : (t.size : Int) > 600
  · exact Ev.pos h0 no
  refine Ev.neg h0 ?_
  obtain ⟨b, hb, hs⟩ := few24_ev l
  refine Ev.bind hb ?_
  cases b with
  | false => exact no
  | true =>
    obtain ⟨hl, ok⟩ := hs rfl
    refine Ev.step (fun k => by show styluslaw24_StackGoes.j0 (k + 1) t l false = _; rw [styluslaw24_StackGoes.j0, if_neg Bool.false_ne_true]) ?_
    exact Ev.bind (stack_Undoes_ev l t ok (by omega)) (Ev.bind (ref_Undoes_ev l (by omega) t ok (by omega)) (Ev.pos (beq_self_eq_true _) (Ev.bind (stack_Redoes_ev l t ok (by omega)) (Ev.bind (ref_Redoes_ev l (by omega) t ok (by omega)) (Ev.pos (beq_self_eq_true _) lv)))))

end Go.Proofs.Ytbcokholddlpbaa.Pure
