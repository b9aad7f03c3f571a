/- Whether any state of small bulk is right, how it shows and how large it is: the program tells what the reference tells. -/
import Derived.Test.YtfhafkfcedghkaaPx9
import Derived.Test.YtfhafkfcedghkaaPx20
import Derived.Test.YtfhafkfcedghkaaShowEv
namespace Go.Proofs.Ytfhafkfcedghkaa.Pure
open Go.RowKit Go.Proofs.Ytfhafkfcedghkaa.P Go.Proofs.YtfhafkfcedghkaaW.PrintWords Go.Proofs.YtfhafkfcedghkaaW.PrintLast
theorem StateRightsUp (x : S26) (hu : ∀ s ∈ x.f2, s.f0.length ≤ 140737488351232) (hr : ∀ s ∈ x.f3, s.f0.length ≤ 140737488351232) (hm : ∀ m ∈ x.f1, okM m) : ∃ k, styluslaw25_StateRights.f k x.f0 x.f1 x.f2 x.f3 x.f4 x.f5 = some true := by
 apply Ev.rounds
 have lv : Ev (fun k => (styluslaw25_lives.f k).bind fun t => some t) true := Ev.bind lives25 (Ev.now _)
 unfold styluslaw25_StateRights.f
 obtain ⟨b, hb, hs⟩ := few25_ev x.f0 x.f1 x.f2 x.f3 x.f4 x.f5 hu hr
 refine Ev.bind hb ?_
 cases b with
 | false => exact Ev.neg Bool.false_ne_true lv
 | true =>
  have F := hs rfl
  have hm2 : ∀ s ∈ x.f1, s.f0.size ≤ 140737488351232 := fun s h => by have := (hm s h).1; omega
  exact Ev.pos rfl (Ev.bind (state_Right_ev _ _ _ _ x.f4 _ F hm2) (Ev.bind (ref25_Right_ev _ _ _ _ x.f4 _ F hm2) (Ev.pos (beq_self_eq_true _) (Ev.bind (state_Show_ev _ _ _ _ x.f4 _ F hm) (Ev.bind (ref_Show_ev _ _ _ _ x.f4 _ F hm) (Ev.pos rfl (Ev.bind (state_Size_ev _ _ _ _ x.f4 _ F) (Ev.bind (ref_Size_ev25 _ _ _ _ x.f4 _ F) (Ev.pos rfl lv)))))))))
end Go.Proofs.Ytfhafkfcedghkaa.Pure
