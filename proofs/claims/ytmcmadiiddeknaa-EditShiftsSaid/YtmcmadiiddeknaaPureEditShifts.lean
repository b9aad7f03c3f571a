/- Where a mark comes to stand by an edit: the program and the reference tell the same place. -/
import Derived.Test.YtmcmadiiddeknaaPx0
import Derived.Test.YtmcmadiiddeknaaPx4
import Derived.Test.YtmcmadiiddeknaaPx5
import Derived.Test.YtmcmadiiddeknaaEditEv
namespace Go.Proofs.Ytmcmadiiddeknaa.Pure
open Go.RowKit Go.Proofs.Ytmcmadiiddeknaa.P Go.Proofs.YtmcmadiiddeknaaW.PrintWords Go.Proofs.YtmcmadiiddeknaaW.PrintLast

theorem EditShifts : styluslaw21_EditShifts.Pure := by
  intro x a hB ha
  apply Ev.rounds
  obtain ⟨p, o, n⟩ := x
  have l : Ev (fun k => (styluslaw21_lives.f k).bind fun t => some t) true := Ev.bind lives21 (Ev.now _)
  have no : Ev (fun k => styluslaw21_EditShifts.j0 k a true p o n) true := Ev.step (fun k => by rw [styluslaw21_EditShifts.j0, if_pos (rfl : true = true)]) l
  unfold styluslaw21_EditShifts.f
  by_cases h0 : p < 0
  · exact Ev.pos h0 no
  refine Ev.neg h0 ?_
  by_cases h1 : p > 10000
  · exact Ev.pos h1 no
  refine Ev.neg h1 ?_
  by_cases h2 : a < 0
  · exact Ev.pos h2 no
  refine Ev.neg h2 ?_
  by_cases h3 : a > 10000
  · exact Ev.pos h3 no
  refine Ev.neg h3 ?_
  by_cases h4 : (o.size : Int) > 1000
  · exact Ev.pos h4 no
  refine Ev.neg h4 ?_
  by_cases h5 : (n.size : Int) > 1000
  · rw [decide_eq_true (show ((⟨p, o, n⟩ : S23).f2.size : Int) > 1000 from h5)]; exact no
  rw [decide_eq_false (show ¬ ((⟨p, o, n⟩ : S23).f2.size : Int) > 1000 from h5)]
  refine Ev.step (fun k => by rw [styluslaw21_EditShifts.j0, if_neg Bool.false_ne_true]) ?_
  exact Ev.call (edit_Shift_is p o n a (by omega) (by omega) (by omega) (by omega) (by omega) (by omega)) (Ev.call (ref_Shift_is p o n a (by omega) (by omega) (by omega) (by omega) (by omega) (by omega)) (Ev.pos rfl l))

end Go.Proofs.Ytmcmadiiddeknaa.Pure
