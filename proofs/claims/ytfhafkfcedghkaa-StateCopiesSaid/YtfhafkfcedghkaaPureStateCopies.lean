/- A copy of any state is the same; what is done to it is not seen in the state, nor in another copy. -/
import Derived.Test.YtfhafkfcedghkaaPx23
import Derived.Test.YtfhafkfcedghkaaStateEv
namespace Go.Proofs.Ytfhafkfcedghkaa.Pure
open Go.RowKit Go.Proofs.Ytfhafkfcedghkaa.P Go.Proofs.YtfhafkfcedghkaaW.PrintWords Go.Proofs.YtfhafkfcedghkaaW.PrintLast

theorem StateCopies : styluslaw25_StateCopies.Pure := by
 intro x hx
 obtain ⟨_, _, ⟨_, hu⟩, ⟨_, hr⟩, _⟩ := hx
 apply Ev.rounds
 unfold styluslaw25_StateCopies.f
 obtain ⟨b, hb, hs⟩ := few25_ev x.f0 x.f1 x.f2 x.f3 x.f4 x.f5 (fun s h => (hu s h).1) (fun s h => (hr s h).1)
 refine Ev.bind hb ?_
 cases b with
 | false => exact Ev.neg Bool.false_ne_true lives25
 | true =>
  have F := hs rfl
  have h := ref25_Same_ev x.f0 x.f1 x.f2 x.f3 x.f4 x.f5 x.f0 x.f1 x.f2 x.f3 x.f4 x.f5 F
  rw [same_State_refl] at h
  exact Ev.pos rfl (Ev.pos ⟨by have := F.marks; omega, ⟨by have := F.undo; omega, fun p h => by have := F.us p h; omega⟩, ⟨by have := F.redo; omega, fun p h => by have := F.rs p h; omega⟩, by have := F.group; omega⟩ (Ev.bind h (Ev.pos rfl lives25)))

end Go.Proofs.Ytfhafkfcedghkaa.Pure
