/- Stacks of steps: whether all can be taken back, and done again. -/
import Derived.Test.YtbcokholddlpbaaPx2
import Derived.Test.YtbcokholddlpbaaPx7
import Derived.Test.YtbcokholddlpbaaStepEv
namespace Go.Proofs.Ytbcokholddlpbaa.P
open Go.RowKit Go.Proofs.YtbcokholddlpbaaW.PrintWords Go.Proofs.YtbcokholddlpbaaW.PrintLast

abbrev Stp := S28
theorem rd_st (l : List Stp) (i : Nat) (h : i < l.length) : rd_T28 l (i : Int) = l[i] := by
  unfold rd_T28
  rw [Int.toNat_natCast, List.getD_eq_getElem?_getD, List.getElem?_eq_getElem h]
  rfl
def okS (l : List Stp) : Prop := ∀ s ∈ l, s.f0.length ≤ 40 ∧ ∀ e ∈ s.f0, sized e
theorem few24_l1 (l : List Stp) (i : Nat) (hi : i < l.length) (h40 : l[i].f0.length ≤ 40) (next : Bool) (hnext : Ev (fun k => styluslaw24_few.l0 k l (wrap64 ((i : Int) + 1))) next) :
    ∀ (d j : Nat), j + d = l[i].f0.length → ∃ b, Ev (fun k => styluslaw24_few.l1 k l (i : Int) (j : Int)) b ∧ (b = true → next = true ∧ ∀ q, j ≤ q → ∀ h : q < l[i].f0.length, sized (l[i].f0[q]))
  | 0, j, hd => ⟨next, Ev.step (fun k => by rw [styluslaw24_few.l1, if_pos (by omega), if_pos (by omega), rd_st l i hi, if_neg (by omega)]) hnext, fun z => ⟨z, fun q h0 h1 => by omega⟩⟩
  | d + 1, j, hd => by
    have hj : j < l[i].f0.length := by omega
    obtain ⟨b, hb, hs⟩ := few24_l1 l i hi h40 next hnext d (j + 1) (by omega)
    have st : ∀ (c : Bool), Ev (fun k => if ((l[i].f0[j].f1).size : Int) > 300 then some false else if ((l[i].f0[j].f2).size : Int) > 300 then some false else styluslaw24_few.l1 k l (i : Int) (wrap64 ((j : Int) + 1))) c → Ev (fun k => styluslaw24_few.l1 k l (i : Int) (j : Int)) c := fun c hc =>
      Ev.step (fun k => by rw [styluslaw24_few.l1, if_pos (by omega), if_pos (by omega), rd_st l i hi, if_pos (by omega), if_pos (by omega), rd_ed _ j hj]) hc
    rw [w64 (x := (j : Int) + 1) (by omega) (by omega)] at st
    by_cases c0 : (l[i].f0[j].f1.size : Int) > 300
    · exact ⟨false, st false (Ev.pos c0 (Ev.now _)), fun z => by cases z⟩
    by_cases c1 : (l[i].f0[j].f2.size : Int) > 300
    · exact ⟨false, st false (Ev.neg c0 (Ev.pos c1 (Ev.now _))), fun z => by cases z⟩
    refine ⟨b, st b (Ev.neg c0 (Ev.neg c1 hb)), fun z => ⟨(hs z).1, fun q h0 h1 => ?_⟩⟩
    by_cases hq : q = j
    · subst hq; exact ⟨by omega, by omega⟩
    · exact (hs z).2 q (by omega) h1
theorem few24_l0 (l : List Stp) (hl : l.length ≤ 20) : ∀ (d i : Nat), i + d = l.length → ∃ b, Ev (fun k => styluslaw24_few.l0 k l (i : Int)) b ∧ (b = true → ∀ q, i ≤ q → ∀ h : q < l.length, l[q].f0.length ≤ 40 ∧ ∀ e ∈ l[q].f0, sized e)
  | 0, i, hd => ⟨true, Ev.step (f := fun _ => some true) (fun k => by rw [styluslaw24_few.l0, if_neg (by omega)]) (Ev.now _), fun _ q h0 h1 => by omega⟩
  | d + 1, i, hd => by
    have hi : i < l.length := by omega
    obtain ⟨nx, hnx, hsx⟩ := few24_l0 l hl d (i + 1) (by omega)
    by_cases c : (l[i].f0.length : Int) > 40
    · exact ⟨false, Ev.step (f := fun _ => some false) (fun k => by rw [styluslaw24_few.l0, if_pos (by omega), if_pos (by omega), rd_st l i hi, if_pos c]) (Ev.now _), fun z => by cases z⟩
    obtain ⟨b, hb, hs⟩ := few24_l1 l i hi (by omega) nx (by rw [w64 (x := (i : Int) + 1) (by omega) (by omega)]; exact hnx) l[i].f0.length 0 (by omega)
    refine ⟨b, Ev.step (fun k => by rw [styluslaw24_few.l0, if_pos (by omega), if_pos (by omega), rd_st l i hi, if_neg c]; rfl) hb, fun z q h0 h1 => ?_⟩
    by_cases hq : q = i
    · subst hq
      refine ⟨by omega, fun e he => ?_⟩
      obtain ⟨j, hj, rfl⟩ := List.getElem_of_mem he
      exact (hs z).2 j (by omega) hj
    · exact hsx (hs z).1 q (by omega) h1
theorem few24_ev (l : List Stp) : ∃ b, Ev (fun k => styluslaw24_few.f k l) b ∧ (b = true → l.length ≤ 20 ∧ okS l) := by
  unfold styluslaw24_few.f
  by_cases h : (l.length : Int) > 20
  · exact ⟨false, Ev.pos h (Ev.now _), fun z => by cases z⟩
  · obtain ⟨b, hb, hs⟩ := few24_l0 l (by omega) l.length 0 (by omega)
    refine ⟨b, Ev.neg h hb, fun z => ⟨by omega, fun s hs' => ?_⟩⟩
    obtain ⟨j, hj, rfl⟩ := List.getElem_of_mem hs'
    exact hs z j (by omega) hj
theorem lives24 : Ev (fun k => styluslaw24_lives.f k) true := Ev.of (fun k => styluslaw24_lives.mono k) (k := 40) (by decide +kernel)
end Go.Proofs.Ytbcokholddlpbaa.P
