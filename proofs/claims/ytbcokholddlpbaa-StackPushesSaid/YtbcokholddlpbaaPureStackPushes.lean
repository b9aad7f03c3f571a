/- Any stack with a step more, and without its last one, is what the page says; the stack itself stays as it is. -/
import Derived.Test.YtbcokholddlpbaaPx2
import Derived.Test.YtbcokholddlpbaaPx9
import Derived.Test.YtbcokholddlpbaaStackPu
namespace Go.Proofs.Ytbcokholddlpbaa.Pure
open Go.RowKit Go.Proofs.Ytbcokholddlpbaa.P Go.Proofs.YtbcokholddlpbaaW.PrintWords Go.Proofs.YtbcokholddlpbaaW.PrintLast

theorem StackPushes : styluslaw24_StackPushes.Pure := by
  intro l x _ _
  apply Ev.rounds
  obtain ⟨E⟩ := x
  unfold styluslaw24_StackPushes.f
  obtain ⟨b, hb, hs⟩ := few24_ev l
  refine Ev.bind hb ?_
  by_cases G : b = false ∨ (E.length : Int) > 40
  · exact Ev.pos G lives24
  have hb1 : b = true := by
    cases b with
    | true => rfl
    | false => exact absurd (.inl rfl) G
  obtain ⟨hl, ok⟩ := hs hb1
  have hE : E.length ≤ 40 := by
    rcases Nat.lt_or_ge 40 E.length with z | z
    · exact absurd (.inr (by omega)) G
    · exact z
  have ok1 : ∀ s ∈ l, s.f0.length ≤ 1000 := fun s hs => by have := (ok s hs).1; omega
  have ok2 : ∀ s ∈ stack_top (l ++ [(⟨E⟩ : Stp)]), s.f0.length ≤ 1000 := fun s hs => by
    rcases List.mem_append.1 (top_mem hs) with h | h
    · exact ok1 s h
    · rw [List.mem_singleton.1 h]
      show E.length ≤ 1000
      omega
  have hz : (l ++ [(⟨E⟩ : Stp)]).length = l.length + 1 := by simp
  refine Ev.neg G (Ev.pos (by omega) (Ev.call (ref_Push_is l E (by omega)) (Ev.bind (ref_Steps_ev _ (Nat.le_trans (top_len (l ++ [(⟨E⟩ : Stp)])) (by rw [hz]; omega)) ok2) (Ev.bind (stack_Depth_ev l (by omega)) (Ev.bind (ref_Depth_ev l (by omega)) (Ev.pos ⟨rfl, rfl⟩ ?_))))))
  unfold styluslaw24_StackPushes.rest
  by_cases c : l.length = 0
  · exact Ev.pos c lives24
  have hi : l.length - 1 < l.length := by omega
  refine Ev.neg c (Ev.bind (ref_Steps_ev _ (by rw [List.length_take]; omega) (fun s hs => ok1 s (List.mem_of_mem_take hs))) (Ev.bind (ref_Same_ev _ ?_) (Ev.bind (ref_Steps_ev l (by omega) ok1) (Ev.pos ⟨rfl, rfl, rfl⟩ lives24))))
  rw [rd_st l _ hi]
  exact ok1 _ (List.getElem_mem hi)

end Go.Proofs.Ytbcokholddlpbaa.Pure
