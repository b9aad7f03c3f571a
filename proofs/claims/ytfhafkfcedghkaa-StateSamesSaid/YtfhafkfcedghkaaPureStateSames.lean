/- Whether any two states are the same: the program and the reference tell the same; each state is the same as itself. -/
import Derived.Test.YtfhafkfcedghkaaPx9
import Derived.Test.YtfhafkfcedghkaaPx25
import Derived.Test.YtfhafkfcedghkaaStateEv
namespace Go.Proofs.Ytfhafkfcedghkaa.Pure
open Go.RowKit Go.Proofs.Ytfhafkfcedghkaa.P Go.Proofs.YtfhafkfcedghkaaW.PrintWords Go.Proofs.YtfhafkfcedghkaaW.PrintLast

theorem StateSames : styluslaw25_StateSames.Pure := by
 intro x y hx hy
 obtain ⟨_, _, ⟨_, hu⟩, ⟨_, hr⟩, _⟩ := hx
 obtain ⟨_, _, ⟨_, hu'⟩, ⟨_, hr'⟩, _⟩ := hy
 apply Ev.rounds
 have lv : Ev (fun k => (styluslaw25_lives.f k).bind fun t => some t) true := Ev.bind lives25 (Ev.now _)
 have no : Ev (fun k => styluslaw25_StateSames.j0 k true x.f0 x.f1 x.f2 x.f3 x.f4 x.f5 y.f0 y.f1 y.f2 y.f3 y.f4 y.f5) true := Ev.step (fun k => by rw [styluslaw25_StateSames.j0, if_pos (rfl : true = true)]) lv
 unfold styluslaw25_StateSames.f
 obtain ⟨b, hb, hs⟩ := few25_ev x.f0 x.f1 x.f2 x.f3 x.f4 x.f5 (fun s h => (hu s h).1) (fun s h => (hr s h).1)
 obtain ⟨c, hc, hs'⟩ := few25_ev y.f0 y.f1 y.f2 y.f3 y.f4 y.f5 (fun s h => (hu' s h).1) (fun s h => (hr' s h).1)
 refine Ev.bind hb ?_
 cases b with
 | false => exact Ev.neg Bool.false_ne_true no
 | true =>
  refine Ev.pos rfl (Ev.bind hc ?_)
  cases c with
  | false => exact no
  | true =>
   refine Ev.step (fun k => by show styluslaw25_StateSames.j0 (k + 1) false x.f0 x.f1 x.f2 x.f3 x.f4 x.f5 y.f0 y.f1 y.f2 y.f3 y.f4 y.f5 = _; rw [styluslaw25_StateSames.j0, if_neg Bool.false_ne_true]) ?_
   have F := hs rfl
   refine Ev.bind (state_Same_ev _ _ _ _ _ _ y.f0 y.f1 y.f2 y.f3 y.f4 y.f5 F) (Ev.bind (ref25_Same_ev _ _ _ _ _ _ y.f0 y.f1 y.f2 y.f3 y.f4 y.f5 F) (Ev.pos (beq_self_eq_true _) ?_))
   have h := state_Same_ev x.f0 x.f1 x.f2 x.f3 x.f4 x.f5 x.f0 x.f1 x.f2 x.f3 x.f4 x.f5 F
   rw [same_State_refl] at h
   exact Ev.bind h (Ev.pos rfl lv)

end Go.Proofs.Ytfhafkfcedghkaa.Pure
