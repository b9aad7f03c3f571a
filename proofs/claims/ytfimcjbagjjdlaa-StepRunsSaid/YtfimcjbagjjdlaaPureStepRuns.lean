/- What a step makes of a text, or why it can't be, and it taken back: the program and the reference tell the same. -/
import Derived.Test.YtfimcjbagjjdlaaPx2
import Derived.Test.YtfimcjbagjjdlaaPx9
import Derived.Test.YtfimcjbagjjdlaaPx10
import Derived.Test.YtfimcjbagjjdlaaStepEv
namespace Go.Proofs.Ytfimcjbagjjdlaa.Pure
open Go.RowKit Go.Proofs.Ytfimcjbagjjdlaa.P Go.Proofs.YtfimcjbagjjdlaaW.PrintWords Go.Proofs.YtfimcjbagjjdlaaW.PrintLast

theorem StepRuns : styluslaw23_StepRuns.Pure := by
  intro t x ht hB
  apply Ev.rounds
  obtain ⟨E⟩ := x
  have l : Ev (fun k => (styluslaw23_lives.f k).bind fun t => some t) true := Ev.bind lives23 (Ev.now _)
  have no : Ev (fun k => styluslaw23_StepRuns.j0 k t true E) true := Ev.step (fun k => by rw [styluslaw23_StepRuns.j0, if_pos (rfl : true = true)]) l
  unfold styluslaw23_StepRuns.f
  by_cases h3 : (t.size : Int) > 1000
  · exact Ev.pos h3 no
  refine Ev.neg h3 ?_
  obtain ⟨b, hb, hs⟩ := few_ev E
  refine Ev.bind hb ?_
  cases b with
  | false => exact no
  | true =>
    obtain ⟨hE, hm⟩ := hs rfl
    refine Ev.step (fun k => by show styluslaw23_StepRuns.j0 (k + 1) _ false _ = _; rw [styluslaw23_StepRuns.j0, if_neg Bool.false_ne_true]) ?_
    refine Ev.bind (step_Run_ev E (by omega) hm t (by omega)) (Ev.bind (ref_Run_ev E (by omega) hm t (by omega)) (Ev.pos rfl (Ev.pos rfl ?_)))
    have r0 : Ev (fun k => step_Right.f k t E) (decide ((E.length : Int) ≥ 1 ∧ (E.length : Int) ≤ 32 ∧ (runOf E t).2 = 0)) := by
      unfold step_Right.f
      by_cases c0 : (E.length : Int) = 0
      · rw [decide_eq_false (by omega)]; exact Ev.pos c0 (Ev.now _)
      refine Ev.neg c0 ?_
      by_cases c1 : (E.length : Int) > 32
      · rw [decide_eq_false (by omega)]; exact Ev.pos c1 (Ev.now _)
      refine Ev.neg c1 (Ev.bind (step_Run_ev E (by omega) hm t (by omega)) ?_)
      by_cases c2 : (runOf E t).2 = 0
      · rw [decide_eq_true ⟨by omega, by omega, c2⟩, c2]; exact Ev.now _
      · rw [decide_eq_false (fun z => c2 z.2.2), beq_eq_false_iff_ne.2 c2]; exact Ev.now _
    have r1 : Ev (fun k => stylusref23_Right.f k t E) (decide ((E.length : Int) ≥ 1 ∧ (E.length : Int) ≤ 32 ∧ (runOf E t).2 = 0)) := by
      unfold stylusref23_Right.f
      refine Ev.bind (ref_Run_ev E (by omega) hm t (by omega)) ?_
      by_cases c0 : (E.length : Int) ≥ 1
      · refine Ev.pos c0 ?_
        by_cases c1 : (E.length : Int) ≤ 32
        · refine Ev.pos c1 ?_
          by_cases c2 : (runOf E t).2 = 0
          · rw [decide_eq_true ⟨by omega, by omega, c2⟩, c2]; exact Ev.now _
          · rw [decide_eq_false (fun z => c2 z.2.2), beq_eq_false_iff_ne.2 c2]; exact Ev.now _
        · rw [decide_eq_false (by omega)]; exact Ev.neg c1 (Ev.now _)
      · rw [decide_eq_false (by omega)]; exact Ev.neg c0 (Ev.now _)
    refine Ev.bind r0 (Ev.bind r1 (Ev.pos (by simp) ?_))
    refine Ev.bind (step_Inverse_ev E (by omega)) (Ev.bind (ref_Inverse_ev E (by omega)) (Ev.bind (ref_Same_ev (backOf E) (by unfold backOf; rw [List.length_reverse, List.length_map]; omega)) (Ev.pos rfl l)))

end Go.Proofs.Ytfimcjbagjjdlaa.Pure
