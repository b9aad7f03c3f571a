/- A stack with a step more; lists of steps that are the same; how many edits there are. -/
import Derived.Test.YtbcokholddlpbaaPx2
import Derived.Test.YtbcokholddlpbaaPx7
import Derived.Test.YtbcokholddlpbaaPx8
import Derived.Test.YtbcokholddlpbaaPx9
import Derived.Test.YtbcokholddlpbaaStackEv
namespace Go.Proofs.Ytbcokholddlpbaa.P
open Go.RowKit Go.Proofs.YtbcokholddlpbaaW.PrintWords Go.Proofs.YtbcokholddlpbaaW.PrintLast

theorem ref_Steps_l0 (l : List Stp) (hl : l.length ≤ 100000) (ok : ∀ s ∈ l, s.f0.length ≤ 1000) : ∀ (d i : Nat), i + d = l.length → Ev (fun k => stylusref23_Steps.l0 k l l (i : Int)) true
  | 0, i, hd => Ev.step (f := fun _ => some true) (fun k => by rw [stylusref23_Steps.l0, if_neg (by omega)]) (Ev.now _)
  | d + 1, i, hd => by
    have hi : i < l.length := by omega
    refine Ev.step (fun k => by rw [stylusref23_Steps.l0, if_pos (by omega), if_pos (by omega), if_pos (by omega), rd_st l i hi]) ?_
    refine Ev.bind (ref_Same_ev _ (ok _ (List.getElem_mem hi))) (Ev.pos rfl ?_)
    rw [w64 (x := (i : Int) + 1) (by omega) (by omega)]
    exact ref_Steps_l0 l hl ok d (i + 1) (by omega)
theorem ref_Steps_ev (l : List Stp) (hl : l.length ≤ 100000) (ok : ∀ s ∈ l, s.f0.length ≤ 1000) : Ev (fun k => stylusref23_Steps.f k l l) true := by
  unfold stylusref23_Steps.f
  exact Ev.pos rfl (ref_Steps_l0 l hl ok l.length 0 (by omega))
def depthW : List Stp → Int → Int
  | [], a => a
  | s :: l, a => depthW l (wrap64 (a + (s.f0.length : Int)))
theorem stack_Depth_l0 (l : List Stp) (hl : l.length ≤ 100000) : ∀ (d i : Nat) (a : Int), i + d = l.length → Ev (fun k => stack_Depth.l0 k a l (l.length : Int) (i : Int)) (depthW (l.drop i) a)
  | 0, i, a, hd => by
    rw [List.drop_eq_nil_of_le (by omega)]
    exact Ev.step (f := fun _ => some a) (fun k => by rw [stack_Depth.l0, if_neg (by omega)]) (Ev.now _)
  | d + 1, i, a, hd => by
    have hi : i < l.length := by omega
    rw [List.drop_eq_getElem_cons hi]
    refine Ev.step (fun k => by rw [stack_Depth.l0, if_pos (by omega), if_pos (by omega), if_pos (by omega), rd_st l i hi, w64 (x := (i : Int) + 1) (by omega) (by omega)]) ?_
    exact stack_Depth_l0 l hl d (i + 1) _ (by omega)
theorem stack_Depth_ev (l : List Stp) (hl : l.length ≤ 100000) : Ev (fun k => stack_Depth.f k l) (depthW l 0) := stack_Depth_l0 l hl l.length 0 0 (by omega)
theorem ref_Depth_l0 (l : List Stp) (hl : l.length ≤ 100000) : ∀ (d i : Nat) (a : Int), i + d = l.length → Ev (fun k => stylusref24_Depth.l0 k l a (i : Int)) (depthW (l.drop i) a)
  | 0, i, a, hd => by
    rw [List.drop_eq_nil_of_le (by omega)]
    exact Ev.step (f := fun _ => some a) (fun k => by rw [stylusref24_Depth.l0, if_neg (by omega)]) (Ev.now _)
  | d + 1, i, a, hd => by
    have hi : i < l.length := by omega
    rw [List.drop_eq_getElem_cons hi]
    refine Ev.step (fun k => by rw [stylusref24_Depth.l0, if_pos (by omega), if_pos (by omega), rd_st l i hi, w64 (x := (i : Int) + 1) (by omega) (by omega)]) ?_
    exact ref_Depth_l0 l hl d (i + 1) _ (by omega)
theorem ref_Depth_ev (l : List Stp) (hl : l.length ≤ 100000) : Ev (fun k => stylusref24_Depth.f k l) (depthW l 0) := ref_Depth_l0 l hl l.length 0 0 (by omega)
theorem ref_Push_is (l : List Stp) (x : List Ed) (hl : l.length ≤ 100000) : stylusref24_Push.f l x = some (stack_top (l ++ [(⟨x⟩ : Stp)])) := by
  have hz : (l ++ [(⟨x⟩ : Stp)]).length = l.length + 1 := by simp
  unfold stylusref24_Push.f stack_top
  simp only [Option.bind_some, List.nil_append]
  rw [if_pos (by simp only [List.length_nil]; omega), if_pos (by simp only [List.length_cons, List.length_nil]; omega), hz]
  by_cases c : (16 : Nat) < l.length + 1
  · have hw : wrap64 (((l.length + 1 : Nat) : Int) - 16) = ((l.length + 1 - 16 : Nat) : Int) := by rw [w64 (by omega) (by omega)]; omega
    rw [if_pos (by omega), hw, if_pos (by omega), if_pos (by omega), if_pos c, Int.toNat_natCast]
  · rw [if_neg (by omega), if_neg c]
theorem top_mem {l : List Stp} {s : Stp} (h : s ∈ stack_top l) : s ∈ l := by
  unfold stack_top at h
  split at h
  · exact List.mem_of_mem_drop h
  · exact h
theorem top_len (l : List Stp) : (stack_top l).length ≤ l.length := by
  unfold stack_top
  split
  · rw [List.length_drop]; omega
  · exact Nat.le_refl _
end Go.Proofs.Ytbcokholddlpbaa.P
