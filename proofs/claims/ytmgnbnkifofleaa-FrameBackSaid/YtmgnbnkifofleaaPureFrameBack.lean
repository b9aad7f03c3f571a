/- A frame that is laid is read again, whatever stands behind; bytes that are a frame are just those that are laid of it. -/
import Derived.Test.YtmgnbnkifofleaaPx4
import Derived.Test.YtmgnbnkifofleaaPx7
import Derived.Test.YtmgnbnkifofleaaFrameTh
namespace Go.Proofs.Ytmgnbnkifofleaa.Pure
open Go.RowKit Go.Proofs.Ytmgnbnkifofleaa.P Go.Proofs.YtmgnbnkifofleaaW.PrintWords Go.Proofs.YtmgnbnkifofleaaW.PrintLast

theorem FrameBack : styluslaw12_FrameBack.Pure := by
  intro x y s hB hy hs
  apply Ev.rounds
  obtain ⟨e, q, d⟩ := x
  have l : Ev (fun k => (styluslaw12_lives.f k).bind fun t => some t) true := Ev.bind lives12 (Ev.now _)
  have no : Ev (fun k => styluslaw12_FrameBack.j0 k y s true e q d) true := Ev.step (fun k => by rw [styluslaw12_FrameBack.j0, if_pos (rfl : true = true)]) l
  have j1 : Ev (fun k => styluslaw12_FrameBack.j1 k s) true := by
    refine Ev.step (fun k => by rw [styluslaw12_FrameBack.j1]) (Ev.bind (frame_One_ev s hs) ?_)
    obtain ⟨e1, q1, d1, n1, c1, ho⟩ : ∃ e1 q1 d1 n1 c1, frOne s = (e1, q1, d1, n1, c1) := ⟨_, _, _, _, _, rfl⟩
    rw [ho]
    rcases frOne_only ho with ⟨hc, rfl, rfl, rfl, rfl⟩ | ⟨hc, hn, hz, hl⟩
    · exact Ev.neg hc (Ev.pos rfl (Ev.pos (show ((0 : Int) == 0 && ((0 : Int) == 0 && ((⟨#[]⟩ : ByteArray).toList == ([] : List UInt8)))) = true by decide +kernel) l))
    · refine Ev.pos hc (Ev.bind (frame_Lay_ev e1 q1 d1) ?_)
      rw [hl]
      refine Ev.pos rfl (Ev.pos (by show n1 ≤ _; omega) (Ev.pos (by show 0 ≤ n1; omega) (Ev.pos ?_ l)))
      show (s.extract 0 (16 + d1.size)).toList = (s.extract 0 n1.toNat).toList
      rw [show n1.toNat = 16 + d1.size by omega]
  unfold styluslaw12_FrameBack.f
  by_cases h0 : (d.size : Int) > 1100
  · exact Ev.pos h0 no
  refine Ev.neg h0 ?_
  by_cases h1 : (y.size : Int) > 100
  · exact Ev.pos h1 no
  refine Ev.neg h1 ?_
  by_cases h2 : (s.size : Int) > 1200
  · rw [decide_eq_true h2]; exact no
  rw [decide_eq_false h2]
  refine Ev.step (fun k => by rw [styluslaw12_FrameBack.j0, if_neg Bool.false_ne_true]) ?_
  refine Ev.bind (frame_Lay_ev e q d) ?_
  by_cases g0 : 0 ≤ e ∧ e ≤ 999999 ∧ 0 ≤ q ∧ q ≤ 2147483647
  · by_cases g1 : 1024 < d.size
    · have hf : frLay e q d = (⟨#[]⟩, 6) := by unfold frLay; rw [if_neg (not_not_intro g0), if_pos g1]
      rw [hf]
      exact Ev.neg (by decide) j1
    · have hf : frLay e q d = (laidOf e q d, 0) := by unfold frLay; rw [if_neg (not_not_intro g0), if_neg g1]
      rw [hf]
      have hl := laidOf_size e q d
      refine Ev.pos rfl (Ev.pos (by show (laidOf e q d).size + _ ≤ _; omega) (Ev.bind (frame_One_ev _ (by rw [ByteArray.size_append]; show (laidOf e q d).size + _ ≤ _; omega)) ?_))
      rw [show frOne ((laidOf e q d, (0 : Int)).1 ++ y) = (e, q, d, 16 + (d.size : Int), 0) from frOne_laid e q d y g0 (by omega)]
      refine Ev.neg (by simp) (Ev.pos (by show 16 + (d.size : Int) = ((laidOf e q d).size : Int); omega) ?_)
      refine Ev.call (frame_Size_is (d.size : Int) (by omega) (by omega)) ?_
      rw [if_neg (show ¬ (d.size : Int) < 0 by omega)]
      exact Ev.pos rfl (Ev.pos rfl j1)
  · have hf : frLay e q d = (⟨#[]⟩, 3) := by unfold frLay; rw [if_pos g0]
    rw [hf]
    exact Ev.neg (by decide) j1

end Go.Proofs.Ytmgnbnkifofleaa.Pure
