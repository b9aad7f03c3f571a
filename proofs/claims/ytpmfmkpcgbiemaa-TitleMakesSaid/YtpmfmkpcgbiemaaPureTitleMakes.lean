/- The names of a checkpoint, a part and a saved file: the program and the reference make the same. -/
import Derived.Test.YtpmfmkpcgbiemaaPx4
import Derived.Test.YtpmfmkpcgbiemaaPx7
import Derived.Test.YtpmfmkpcgbiemaaTitleEv
namespace Go.Proofs.Ytpmfmkpcgbiemaa.Pure
open Go.RowKit Go.Proofs.Ytpmfmkpcgbiemaa.P Go.Proofs.YtpmfmkpcgbiemaaW.PrintWords Go.Proofs.YtpmfmkpcgbiemaaW.PrintLast

theorem TitleMakes : styluslaw08_TitleMakes.Pure := by
  intro e p s he hp hs
  apply Ev.rounds
  have he' := wf_i64 he
  have hp' := wf_i64 hp
  have l : Ev (fun k => (styluslaw08_lives.f k).bind fun t => some t) true := Ev.bind lives08 (Ev.now _)
  unfold styluslaw08_TitleMakes.f
  by_cases h0 : (s.size : Int) > 400
  · exact Ev.pos h0 l
  refine Ev.neg h0 ?_
  refine Ev.bind (title_OfCheck_ev e he') (Ev.bind (ref_OfCheck_ev e he') (Ev.pos rfl ?_))
  refine Ev.bind (title_OfLog_ev e p he' hp') (Ev.bind (ref_OfLog_ev e p he' hp') (Ev.pos rfl ?_))
  refine Ev.bind (title_OfExport_ev s hs) (Ev.bind (ref_OfExport_ev s hs) (Ev.pos rfl ?_))
  exact Ev.call (rfl : title_TempCheck.f = some ((⟨#[116, 109, 112, 45]⟩ : ByteArray) ++ (⟨#[99, 104, 101, 99, 107]⟩ : ByteArray))) (Ev.pos (by decide +kernel) (Ev.call (rfl : title_TempSave.f = some ((⟨#[116, 109, 112, 45]⟩ : ByteArray) ++ (⟨#[115, 97, 118, 101]⟩ : ByteArray))) (Ev.pos (by decide +kernel) l)))

end Go.Proofs.Ytpmfmkpcgbiemaa.Pure
