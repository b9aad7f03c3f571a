/- Which epochs and parts any names tell of, which are old, which were being written: the program and the reference tell the same. -/
import Derived.Test.YtpdgmcmebpfbaaaPx3
import Derived.Test.YtpdgmcmebpfbaaaPx7
import Derived.Test.YtpdgmcmebpfbaaaPx8
import Derived.Test.YtpdgmcmebpfbaaaRosterEv
namespace Go.Proofs.Ytpdgmcmebpfbaaa.Pure
open Go.RowKit Go.Proofs.Ytpdgmcmebpfbaaa.P Go.Proofs.YtpdgmcmebpfbaaaW.PrintWords Go.Proofs.YtpdgmcmebpfbaaaW.PrintLast

theorem RosterSorts : styluslaw31_RosterSorts.Pure := by
  intro l a hl ha
  apply Ev.rounds
  have lv : Ev (fun k => (styluslaw31_lives.f k).bind fun t => some t) true := Ev.bind lives31 (Ev.now _)
  unfold styluslaw31_RosterSorts.f
  by_cases h0 : (l.length : Int) > 60
  · exact Ev.pos h0 lv
  refine Ev.neg h0 ?_
  have h1 : Fit l := hl.2
  have h2 : l.length ≤ 1000 := by omega
  have h3 : l.length ≤ 1000000 := by omega
  have e1 := len_epochs l
  have e2 := len_parts a l
  have e3 := len_outs (oldT a) l
  have e4 := len_outs tempT l
  refine Ev.bind (Epochs_ev l h1 h3) (Ev.bind (refEpochs_ev l h1 h2) (Ev.bind (Ints_ev _ _ (by omega)) (Ev.pos (decide_eq_true rfl) ?_)))
  refine Ev.bind (Parts_ev l a h1 h3) (Ev.bind (refParts_ev l a h1 h2) (Ev.bind (Ints_ev _ _ (by omega)) (Ev.pos (decide_eq_true rfl) ?_)))
  refine Ev.bind (Old_ev l a h1 h3) (Ev.bind (refOld_ev l a h1 h2) (Ev.bind (Texts_ev _ _ (by omega)) (Ev.pos (decide_eq_true rfl) ?_)))
  refine Ev.bind (Temps_ev l h1 h3) (Ev.bind (refTemps_ev l h1 h2) (Ev.bind (Texts_ev _ _ (by omega)) (Ev.pos (decide_eq_true rfl) ?_)))
  exact Ev.bind (Ours_ev l h1 h3) (Ev.bind (refOurs_ev l h1 h2) (Ev.pos (beq_self_eq_true _) lv))

end Go.Proofs.Ytpdgmcmebpfbaaa.Pure
