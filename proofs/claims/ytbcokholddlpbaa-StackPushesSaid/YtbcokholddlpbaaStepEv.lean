/- Edits that go together: what a row of them makes of a text, it taken back, and where marks come to stand. -/
import Derived.Test.YtbcokholddlpbaaPx3
import Derived.Test.YtbcokholddlpbaaPx7
import Derived.Test.YtbcokholddlpbaaEditEv
namespace Go.Proofs.Ytbcokholddlpbaa.P
open Go.RowKit Go.Proofs.YtbcokholddlpbaaW.PrintWords Go.Proofs.YtbcokholddlpbaaW.PrintLast

abbrev Ed := S38
theorem rd_ed (E : List Ed) (i : Nat) (h : i < E.length) : rd_T38 E (i : Int) = E[i] := by
  unfold rd_T38
  rw [show ((i : Int)).toNat = i from rfl, List.getD_eq_getElem?_getD, List.getElem?_eq_getElem h]
  rfl
/-- Is an edit small? -/
def small (e : Ed) : Prop := (e.f1.size : Int) ≤ 600 ∧ (e.f2.size : Int) ≤ 600 ∧ e.f0 ≤ 10000 ∧ -10000 ≤ e.f0
/-- Are an edit's texts short? -/
def sized (e : Ed) : Prop := (e.f1.size : Int) ≤ 600 ∧ (e.f2.size : Int) ≤ 600
/-! It taken back. -/
def backEd (e : Ed) : Ed := ⟨e.f0, e.f2, e.f1⟩
def backOf (E : List Ed) : List Ed := (E.map backEd).reverse
theorem step_Inverse_l0 (E : List Ed) (hE : E.length ≤ 1000) : ∀ (d i : Nat), i + d = E.length → Ev (fun k => step_Inverse.l0 k (E.length : Int) (E.length : Int) (i : Int) E ((E.reverse.take i).map backEd)) (backOf E)
  | 0, i, hd => by
    have e : (E.reverse.take i).map backEd = backOf E := by
      rw [List.take_of_length_le (by rw [List.length_reverse]; omega)]
      unfold backOf
      rw [List.map_reverse]
    rw [e]
    exact Ev.step (f := fun _ => some (backOf E)) (fun k => by rw [step_Inverse.l0, if_neg (by omega)]) (Ev.now _)
  | d + 1, i, hd => by
    have hj : E.length - 1 - i < E.length := by omega
    have hz : ((E.reverse.take i).map backEd).length < 3518437208883 := by rw [List.length_map, List.length_take]; omega
    have hw : wrap64 (wrap64 ((E.length : Int) - 1) - (i : Int)) = ((E.length - 1 - i : Nat) : Int) := by
      rw [w64 (x := (E.length : Int) - 1) (by omega) (by omega), w64 (by omega) (by omega)]; omega
    have hn : (E.reverse.take i).map backEd ++ [backEd E[E.length - 1 - i]] = (E.reverse.take (i + 1)).map backEd := by
      rw [List.take_add_one, List.getElem?_reverse (by omega), List.getElem?_eq_getElem hj, List.map_append]
      rfl
    refine Ev.step (fun k => by rw [step_Inverse.l0, if_pos (show (i : Int) < (E.length : Int) by omega), hw, if_pos (show (0 : Int) ≤ ((E.length - 1 - i : Nat) : Int) by omega), if_pos (show ((E.length - 1 - i : Nat) : Int) < (E.length : Int) by omega), rd_ed E _ hj]) ?_
    refine Ev.call rfl (Ev.pos hz ?_)
    rw [w64 (x := (i : Int) + 1) (by omega) (by omega)]
    have := step_Inverse_l0 E hE d (i + 1) (by omega)
    rw [← hn] at this
    exact this
theorem step_Inverse_ev (E : List Ed) (hE : E.length ≤ 1000) : Ev (fun k => step_Inverse.f k E) (backOf E) := step_Inverse_l0 E hE E.length 0 (by omega)
/-! Are two the same? -/
theorem ref_Same_l0 (E : List Ed) (hE : E.length ≤ 1000) : ∀ (d i : Nat), i + d = E.length → Ev (fun k => stylusref23_Same.l0 k (i : Int) E E) true
  | 0, i, hd => Ev.step (f := fun _ => some true) (fun k => by rw [stylusref23_Same.l0, if_neg (by omega)]) (Ev.now _)
  | d + 1, i, hd => by
    refine Ev.step (fun k => by rw [stylusref23_Same.l0, if_pos (show (i : Int) < (E.length : Int) by omega), if_pos (show (0 : Int) ≤ (i : Int) by omega), if_pos (show (i : Int) < (E.length : Int) by omega)]) ?_
    refine Ev.neg (by simp) ?_
    rw [w64 (x := (i : Int) + 1) (by omega) (by omega)]
    exact ref_Same_l0 E hE d (i + 1) (by omega)
theorem ref_Same_ev (E : List Ed) (hE : E.length ≤ 1000) : Ev (fun k => stylusref23_Same.f k E E) true := by
  unfold stylusref23_Same.f
  exact Ev.pos rfl (ref_Same_l0 E hE E.length 0 (by omega))
/-! Where a mark comes to stand. -/
end Go.Proofs.Ytbcokholddlpbaa.P
