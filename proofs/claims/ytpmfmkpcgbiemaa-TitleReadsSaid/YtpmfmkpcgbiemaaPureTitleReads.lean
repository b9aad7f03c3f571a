/- What a text is as a name, and whether it may be one: the program and the reference tell the same. -/
import Derived.Test.YtpmfmkpcgbiemaaPx4
import Derived.Test.YtpmfmkpcgbiemaaPx6
import Derived.Test.YtpmfmkpcgbiemaaTitleRf
namespace Go.Proofs.Ytpmfmkpcgbiemaa.Pure
open Go.RowKit Go.Proofs.Ytpmfmkpcgbiemaa.P Go.Proofs.YtpmfmkpcgbiemaaW.PrintWords Go.Proofs.YtpmfmkpcgbiemaaW.PrintLast

theorem TitleReads : styluslaw08_TitleReads.Pure := by
  intro s hs
  apply Ev.rounds
  have l : Ev (fun k => (styluslaw08_lives.f k).bind fun t => some t) true := Ev.bind lives08 (Ev.now _)
  unfold styluslaw08_TitleReads.f
  by_cases h0 : (s.size : Int) > 400
  · exact Ev.pos h0 l
  refine Ev.neg h0 ?_
  refine Ev.bind (title_Read_ev s hs) (Ev.bind (ref_Read_ev s hs) ?_)
  have hk : ∀ (a b c : Int) (d : ByteArray), styluslaw08_like.f a b c d a b c d = some true := by
    intro a b c d
    unfold styluslaw08_like.f
    rw [if_pos rfl, if_pos rfl, if_pos rfl, beq_self_eq_true]
  refine Ev.call (hk _ _ _ _) (Ev.pos rfl ?_)
  exact Ev.bind (title_May_ev s hs) (Ev.bind (ref_May_ev s hs) (Ev.pos (beq_self_eq_true _) (Ev.bind (title_User_ev s hs) (Ev.bind (ref_User_ev s hs) (Ev.pos (beq_self_eq_true _) l)))))

end Go.Proofs.Ytpmfmkpcgbiemaa.Pure
