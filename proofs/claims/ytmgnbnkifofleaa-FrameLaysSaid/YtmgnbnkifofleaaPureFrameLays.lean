/- A frame's bytes, and how long a frame is: the program and the reference tell the same. -/
import Derived.Test.YtmgnbnkifofleaaPx4
import Derived.Test.YtmgnbnkifofleaaPx5
import Derived.Test.YtmgnbnkifofleaaFrameEv
namespace Go.Proofs.Ytmgnbnkifofleaa.Pure
open Go.RowKit Go.Proofs.Ytmgnbnkifofleaa.P Go.Proofs.YtmgnbnkifofleaaW.PrintWords Go.Proofs.YtmgnbnkifofleaaW.PrintLast

theorem FrameLays : styluslaw12_FrameLays.Pure := by
  intro x n hB hn
  apply Ev.rounds
  obtain ⟨e, q, d⟩ := x
  have hw := wf_i64 hn
  have l : Ev (fun k => (styluslaw12_lives.f k).bind fun t => some t) true := Ev.bind lives12 (Ev.now _)
  have no : Ev (fun k => styluslaw12_FrameLays.j0 k n true e q d) true := Ev.step (fun k => by rw [styluslaw12_FrameLays.j0, if_pos (rfl : true = true)]) l
  unfold styluslaw12_FrameLays.f
  by_cases h0 : (d.size : Int) > 1100
  · exact Ev.pos h0 no
  refine Ev.neg h0 ?_
  by_cases h1 : n > 1099511627776
  · rw [decide_eq_true h1]; exact no
  rw [decide_eq_false h1]
  refine Ev.step (fun k => by rw [styluslaw12_FrameLays.j0, if_neg Bool.false_ne_true]) ?_
  refine Ev.bind (frame_Lay_ev e q d) (Ev.bind (ref_Lay12_ev e q d) (Ev.pos rfl (Ev.pos rfl ?_)))
  refine Ev.call (frame_Size_is n (by omega) hw.1) ?_
  have hs : stylusref12_Size.f n = some (if n < 0 then 16 else 16 + n) := by
    unfold stylusref12_Size.f
    congr 1
    by_cases c : n < 0
    · rw [if_pos c, show mx n 0 = 0 by unfold mx; omega, w64 (by decide) (by decide)]; rfl
    · rw [if_neg c, show mx n 0 = n by unfold mx; omega, w64 (by omega) (by omega)]
  exact Ev.call hs (Ev.pos rfl l)

end Go.Proofs.Ytmgnbnkifofleaa.Pure
