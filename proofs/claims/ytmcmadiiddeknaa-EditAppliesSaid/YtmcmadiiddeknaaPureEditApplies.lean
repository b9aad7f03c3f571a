/- What an edit makes of a text, or why it can't be: the program and the reference tell the same. -/
import Derived.Test.YtmcmadiiddeknaaPx0
import Derived.Test.YtmcmadiiddeknaaPx4
import Derived.Test.YtmcmadiiddeknaaPx9
import Derived.Test.YtmcmadiiddeknaaPx11
import Derived.Test.YtmcmadiiddeknaaEditEv
namespace Go.Proofs.Ytmcmadiiddeknaa.Pure
open Go.RowKit Go.Proofs.Ytmcmadiiddeknaa.P Go.Proofs.YtmcmadiiddeknaaW.PrintWords Go.Proofs.YtmcmadiiddeknaaW.PrintLast

theorem EditApplies : styluslaw21_EditApplies.Pure := by
  intro t x ht hB
  apply Ev.rounds
  obtain ⟨p, o, n⟩ := x
  have l : Ev (fun k => (styluslaw21_lives.f k).bind fun t => some t) true := Ev.bind lives21 (Ev.now _)
  have no : Ev (fun k => styluslaw21_EditApplies.j0 k t true p o n) true := Ev.step (fun k => by rw [styluslaw21_EditApplies.j0, if_pos (rfl : true = true)]) l
  unfold styluslaw21_EditApplies.f
  by_cases h3 : (t.size : Int) > 5000
  · exact Ev.pos h3 no
  refine Ev.neg h3 ?_
  by_cases h4 : (o.size : Int) > 1000
  · exact Ev.pos h4 no
  refine Ev.neg h4 ?_
  by_cases h5 : (n.size : Int) > 1000
  · rw [decide_eq_true (show ((⟨p, o, n⟩ : S23).f2.size : Int) > 1000 from h5)]; exact no
  rw [decide_eq_false (show ¬ ((⟨p, o, n⟩ : S23).f2.size : Int) > 1000 from h5)]
  refine Ev.step (fun k => by rw [styluslaw21_EditApplies.j0, if_neg Bool.false_ne_true]) ?_
  refine Ev.bind (edit_Apply_ev t p o n (by omega) (by omega) (by omega)) ?_
  refine Ev.bind (ref_Apply_ev t p o n (by omega) (by omega) (by omega)) ?_
  refine Ev.pos rfl (Ev.pos rfl ?_)
  have hr : Ev (fun k => edit_Right.f k t p o n) ((applyOf t p o n).2 == 0) := by
    unfold edit_Right.f
    refine Ev.bind (edit_Apply_ev t p o n (by omega) (by omega) (by omega)) ?_
    by_cases z : (applyOf t p o n).2 = 0
    · refine Ev.pos z ?_
      rw [z]
      exact Ev.call rfl (Ev.call rfl (Ev.end fun _ => by simp))
    · refine Ev.neg z ?_
      rw [beq_eq_false_iff_ne.2 z]
      exact Ev.now _
  refine Ev.bind hr (Ev.pos (by simp) ?_)
  exact Ev.call rfl (Ev.call rfl (Ev.pos (by simp) l))

end Go.Proofs.Ytmcmadiiddeknaa.Pure
