/- Any step with an edit more, and where any place comes to be by any step: the program and the reference tell the same; the step itself stays as it is. -/
import Derived.Test.YtfimcjbagjjdlaaPx2
import Derived.Test.YtfimcjbagjjdlaaPx3
import Derived.Test.YtfimcjbagjjdlaaPx4
import Derived.Test.YtfimcjbagjjdlaaStepEv
namespace Go.Proofs.Ytfimcjbagjjdlaa.Pure
open Go.RowKit Go.Proofs.Ytfimcjbagjjdlaa.P Go.Proofs.YtfimcjbagjjdlaaW.PrintWords Go.Proofs.YtfimcjbagjjdlaaW.PrintLast

theorem StepAdds : styluslaw23_StepAdds.Pure := by
  intro x e a _ _ ha
  apply Ev.rounds
  obtain ⟨E⟩ := x
  obtain ⟨p, o, n⟩ := e
  have l : Ev (fun k => (styluslaw23_lives.f k).bind fun t => some t) true := Ev.bind lives23 (Ev.now _)
  have no : Ev (fun k => styluslaw23_StepAdds.j0 k a true E p o n) true := Ev.step (fun k => by rw [styluslaw23_StepAdds.j0, if_pos (rfl : true = true)]) l
  unfold styluslaw23_StepAdds.f
  obtain ⟨b, hb, hs⟩ := few_ev E
  refine Ev.bind hb ?_
  cases b with
  | false => exact Ev.neg Bool.false_ne_true no
  | true =>
    obtain ⟨hE, hm⟩ := hs rfl
    refine Ev.pos rfl ?_
    by_cases h0 : a < 0
    · exact Ev.pos h0 no
    refine Ev.neg h0 ?_
    by_cases h1 : a > 10000
    · rw [decide_eq_true h1]; exact no
    rw [decide_eq_false h1]
    refine Ev.step (fun k => by rw [styluslaw23_StepAdds.j0, if_neg Bool.false_ne_true]) ?_
    refine Ev.call rfl (Ev.pos (by simp only [List.length_nil]; omega) (Ev.call rfl ?_))
    rw [List.nil_append]
    by_cases h2 : (E.length : Int) ≥ 32
    · have ad : ∀ x y z, step_Add.f E x y z = some ([], 9) := fun x y z => by unfold step_Add.f; rw [if_pos h2]
      refine Ev.call (ad _ _ _) (Ev.call (ad _ _ _) (Ev.pos h2 ?_))
      exact Ev.pos rfl (Ev.pos rfl (Ev.pos rfl l))
    · have ad : ∀ x y z, step_Add.f E x y z = some (E ++ [⟨x, y, z⟩], 0) := fun x y z => by unfold step_Add.f; rw [if_neg h2]
      refine Ev.call (ad _ _ _) (Ev.call (ad _ _ _) (Ev.neg h2 ?_))
      refine Ev.pos rfl (Ev.pos rfl (Ev.pos ?_ (Ev.call rfl (Ev.pos (by simp only [List.length_nil]; omega) (Ev.call rfl ?_)))))
      · rw [w64 (x := (E.length : Int) + 1) (by omega) (by omega)]
        show ((E ++ [(⟨0, ⟨#[]⟩, ⟨#[]⟩⟩ : Ed)]).length : Int) = _
        simp
      rw [List.nil_append]
      refine Ev.call rfl (Ev.pos (by simp only [List.length_cons, List.length_nil]; omega) (Ev.bind (ref_Same_ev (E ++ [⟨p, o, n⟩]) (by simp only [List.length_append, List.length_cons, List.length_nil]; omega)) (Ev.pos rfl (Ev.bind (ref_Same_ev E (by omega)) ?_))))
      refine Ev.step (fun k => by show styluslaw23_StepAdds.j1 (k + 1) a false E = _; rw [styluslaw23_StepAdds.j1, if_neg Bool.false_ne_true]) ?_
      exact Ev.bind (step_Shift_ev E (by omega) hm a (by omega) (by omega)) (Ev.bind (ref_Shifts_ev E (by omega) hm a (by omega) (by omega)) (Ev.pos rfl l))

end Go.Proofs.Ytfimcjbagjjdlaa.Pure
