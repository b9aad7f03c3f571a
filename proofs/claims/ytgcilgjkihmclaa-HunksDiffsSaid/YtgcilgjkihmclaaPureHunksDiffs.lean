/- What matches and what lies between: the program tells what the reference tells, of any two texts. -/
import Derived.Test.YtgcilgjkihmclaaPx2
import Derived.Test.YtgcilgjkihmclaaPx3
import Derived.Test.YtgcilgjkihmclaaPx7
import Derived.Test.YtgcilgjkihmclaaHunkEv
namespace Go.Proofs.Ytgcilgjkihmclaa.Pure
open Go.RowKit Go.Proofs.Ytgcilgjkihmclaa.P Go.Proofs.YtgcilgjkihmclaaW.PrintWords Go.Proofs.YtgcilgjkihmclaaW.PrintLast

theorem diffs_l (m : List Int) (hl : m.length ≤ 1000) : ∀ (d i : Nat), i + d = m.length → Ev (fun k => styluslaw51_HunksDiffs.l0 k m m (i : Int)) true
 | 0, i, hd => Ev.step (fun k => by rw [styluslaw51_HunksDiffs.l0, if_neg (by omega)]) (Ev.call (show styluslaw51_lives.f = some true from rfl) (Ev.now _))
 | d + 1, i, hd => Ev.step (fun k => by rw [styluslaw51_HunksDiffs.l0, if_pos (by omega), if_pos (by omega), if_pos (by omega), if_pos rfl, w64 (x := (i : Int) + 1) (by omega) (by omega)]; rfl) (diffs_l m hl d (i + 1) (by omega))
theorem HunksDiffs : styluslaw51_HunksDiffs.Pure := by
 intro a b _ _
 apply Ev.rounds
 have no : Ev (fun k => styluslaw51_HunksDiffs.j0 k a b true) true := Ev.step (fun k => by rw [styluslaw51_HunksDiffs.j0, if_pos (rfl : true = true)]) (Ev.call (show styluslaw51_lives.f = some true from rfl) (Ev.now _))
 unfold styluslaw51_HunksDiffs.f
 obtain ⟨p, hp, hs⟩ := few51_ev a
 obtain ⟨q, hq, hs'⟩ := few51_ev b
 refine Ev.bind hp ?_
 cases p with
 | false => exact Ev.neg Bool.false_ne_true no
 | true =>
  refine Ev.pos rfl (Ev.bind hq ?_)
  cases q with
  | false => exact no
  | true =>
   have ha := hs rfl
   have hb := hs' rfl
   refine Ev.step (fun k => by show styluslaw51_HunksDiffs.j0 (k + 1) a b false = _; rw [styluslaw51_HunksDiffs.j0, if_neg Bool.false_ne_true]) ?_
   have hl := diffL_len a b
   refine Ev.call (show hunks_Match.f a b = some (mt a b 0) from if_pos ⟨by omega, by omega⟩) (Ev.bind (ref_Match_ev a b (by omega) (by omega)) (Ev.pos rfl (Ev.call (show hunks_Diff.f a b = some (diffL a b) from if_pos ⟨by omega, by omega⟩) (Ev.bind (ref_Diff_ev a b (by omega) (by omega)) (Ev.bind (law_same_ev (diffL a b) (by omega) (fun x hx => by have := dfL_add b _ _ _ _ x hx; omega)) ?_)))))
   refine Ev.step (fun k => by show styluslaw51_HunksDiffs.j1 (k + 1) (mt a b 0) (mt a b 0) false = _; rw [styluslaw51_HunksDiffs.j1, if_neg Bool.false_ne_true]) ?_
   exact diffs_l (mt a b 0) (by rw [mt_length]; omega) _ 0 (Nat.zero_add _)

end Go.Proofs.Ytgcilgjkihmclaa.Pure
