/- Any hunks put into any text, their size, any text cut into lines: the program tells what the reference tells. -/
import Derived.Test.YtgcilgjkihmclaaDoorPx3
import Derived.Test.YtgcilgjkihmclaaDoorPx6
import Derived.Test.YtgcilgjkihmclaaDoorHunkEv
import Derived.Test.YtgcilgjkihmclaaDoorApEv
import Derived.Test.YtgcilgjkihmclaaDoorCutEv
namespace Go.Proofs.YtgcilgjkihmclaaDoor.Pure
open Go.RowKit Go.Proofs.YtgcilgjkihmclaaDoor.P Go.Proofs.YtgcilgjkihmclaaDoorW.PrintWords Go.Proofs.YtgcilgjkihmclaaDoorW.PrintLast

theorem applies_l (a : List ByteArray) (ha : a.length ≤ 60) (L : List S28) (hL : L.length ≤ 20) (s : ByteArray) (hs : s.size ≤ 1000) : ∀ (d n : Nat), n + d = L.length → (∀ x ∈ L.take n, x.f2.length ≤ 60) → Ev (fun k => styluslaw51_HunksApplies.l0 k a L s ((L.take n).map hk_) (n : Int)) true
  | 0, n, hd, hf => by
    rw [List.take_of_length_le (by omega)] at hf ⊢
    obtain ⟨r, e0, e1, e2⟩ := Apply_both a (by omega) L (by omega) (fun x hx => by have := hf x hx; omega)
    obtain ⟨z, e3, e4⟩ := Size_both L (by omega)
    have t1 := Texts_ev r.1 r.1 e0
    rw [decide_eq_true rfl] at t1
    have hl := lines_take s.data.toList []
    have t2 := Texts_ev ((lines [] s.data.toList).map bal) ((lines [] s.data.toList).map bal) (by rw [List.length_map]; rw [data_length] at hl; omega)
    rw [decide_eq_true rfl] at t2
    refine Ev.step (fun k => by rw [styluslaw51_HunksApplies.l0, if_neg (by omega)]) ?_
    exact Ev.bind e1 (Ev.bind e2 (Ev.bind e3 (Ev.bind e4 (Ev.bind t1 (Ev.pos rfl (Ev.pos rfl (Ev.pos rfl (Ev.pos rfl (Ev.bind (hunks_Cut_ev s (by omega)) (Ev.bind (ref_Cut_ev s (by omega)) (Ev.bind t2 (Ev.pos rfl (Ev.call (show styluslaw51_lives.f = some true from rfl) (Ev.now _))))))))))))))
  | d + 1, n, hd, hf => by
    have hn : n < L.length := by omega
    have lv : Ev (fun _ => (styluslaw51_lives.f).bind fun t => some t) true := Ev.call (show styluslaw51_lives.f = some true from rfl) (Ev.now _)
    obtain ⟨b, hb, hq⟩ := few51_ev L[n].f2
    refine Ev.step (fun k => by rw [styluslaw51_HunksApplies.l0, if_pos (by omega), if_pos (by omega), rd_a L n hn]) (Ev.bind hb ?_)
    cases b with
    | false => exact Ev.neg Bool.false_ne_true lv
    | true =>
      refine Ev.pos rfl ?_
      by_cases c1 : L[n].f1 > 1099511627776
      · exact Ev.pos c1 lv
      refine Ev.neg c1 ?_
      by_cases c2 : L[n].f1 < (-1099511627776)
      · exact Ev.pos c2 lv
      refine Ev.neg c2 (Ev.pos (by rw [List.length_map, List.length_take]; omega) ?_)
      rw [w64 (x := (n : Int) + 1) (by omega) (by omega)]
      have h := applies_l a ha L hL s hs d (n + 1) (by omega) (fun x hx => by
        rw [List.take_succ_eq_append_getElem hn] at hx
        rcases List.mem_append.1 hx with hx | hx
        · exact hf x hx
        · rw [List.mem_singleton] at hx
          subst hx
          exact hq rfl)
      rw [List.take_succ_eq_append_getElem hn, List.map_append] at h
      exact h
theorem HunksApplies : styluslaw51_HunksApplies.Pure := by
  intro a L s _ _ _
  apply Ev.rounds
  have no : Ev (fun k => styluslaw51_HunksApplies.j0 k a L s true) true := Ev.step (fun k => by rw [styluslaw51_HunksApplies.j0, if_pos (rfl : true = true)]) (Ev.call (show styluslaw51_lives.f = some true from rfl) (Ev.now _))
  unfold styluslaw51_HunksApplies.f
  obtain ⟨p, hp, hq⟩ := few51_ev a
  refine Ev.bind hp ?_
  cases p with
  | false => exact Ev.neg Bool.false_ne_true no
  | true =>
    refine Ev.pos rfl ?_
    by_cases c1 : (L.length : Int) > 20
    · exact Ev.pos c1 no
    refine Ev.neg c1 ?_
    by_cases c2 : (s.size : Int) > 1000
    · rw [decide_eq_true c2]; exact no
    rw [decide_eq_false c2]
    exact Ev.step (fun k => by rw [styluslaw51_HunksApplies.j0, if_neg Bool.false_ne_true]; rfl) (applies_l a (hq rfl) L (by omega) s (by omega) L.length 0 (by omega) (fun x hx => by simp at hx))

end Go.Proofs.YtgcilgjkihmclaaDoor.Pure
