/- Any state's bytes: the program lays what the reference lays, or refuses alike. -/
import Derived.Test.YtnndanfghlnpfaaPx12
import Derived.Test.YtnndanfghlnpfaaPx21
import Derived.Test.YtnndanfghlnpfaaPackTh
import Derived.Test.YtnndanfghlnpfaaPackLv
namespace Go.Proofs.Ytnndanfghlnpfaa.Pure
open Go.RowKit Go.Proofs.Ytnndanfghlnpfaa.P Go.Proofs.YtnndanfghlnpfaaW.PrintWords Go.Proofs.YtnndanfghlnpfaaW.PrintLast
theorem PackLays : sl28PackLays.Pure := by
 intro x hx
 obtain ⟨_, ⟨_, hm⟩, ⟨_, hu⟩, ⟨_, hr⟩, _⟩ := hx
 apply Ev.rounds
 have lv : Ev (fun k => (sl28lives.f k).bind fun t => some t) true := Ev.bind lives28 (Ev.now _)
 unfold sl28PackLays.f
 obtain ⟨b, hb, hs⟩ := few25_ev x.f0 x.f1 x.f2 x.f3 x.f4 x.f5 (fun s h => (hu s h).1) (fun s h => (hr s h).1)
 refine Ev.bind hb ?_
 cases b with
 | false => exact Ev.neg Bool.false_ne_true lv
 | true =>
  have F := hs rfl
  have hb2 : ∀ s ∈ x.f1, s.f0.size ≤ 140737488351232 := fun s h => (hm s h).1
  exact Ev.pos rfl (Ev.bind (pack_Lay_ev _ _ _ _ x.f4 _ F hb2 (layOk_of F)) (Ev.bind (ref_Lay_ev _ _ _ _ x.f4 _ F hb2 (layOk_of F)) (Ev.pos rfl (Ev.pos rfl lv))))
end Go.Proofs.Ytnndanfghlnpfaa.Pure
