/- What any three texts come to, and how much of it is torn: the program tells what the reference tells. -/
import Derived.Test.YtkbhnkagiaghnaaDoorPx6
import Derived.Test.YtkbhnkagiaghnaaDoorPx12
import Derived.Test.YtkbhnkagiaghnaaDoorPx13
import Derived.Test.YtkbhnkagiaghnaaDoorMergeTe
namespace Go.Proofs.YtkbhnkagiaghnaaDoor.Pure
open Go.RowKit Go.Proofs.YtkbhnkagiaghnaaDoor.P Go.Proofs.YtkbhnkagiaghnaaDoorW.PrintWords Go.Proofs.YtkbhnkagiaghnaaDoorW.PrintLast
theorem MergeTells : styluslaw52_MergeTells.Pure := by
 intro a b c _ _ _
 apply Ev.rounds
 have lv : Ev (fun _ => (styluslaw52_lives.f).bind fun t => some t) true := Ev.call (show styluslaw52_lives.f = some true from rfl) (Ev.now _)
 have no : Ev (fun k => styluslaw52_MergeTells.j0 k a b c true) true := Ev.step (fun k => by rw [styluslaw52_MergeTells.j0, if_pos (rfl : true = true)]) lv
 unfold styluslaw52_MergeTells.f
 by_cases ca : (a.size : Int) > 400
 ·exact Ev.pos ca no
 refine Ev.neg ca ?_
 by_cases cb : (b.size : Int) > 400
 ·exact Ev.pos cb no
 refine Ev.neg cb ?_
 by_cases cc : (c.size : Int) > 400
 ·rw [decide_eq_true cc]; exact no
 rw [decide_eq_false cc]
 have fin : ∀ r : ByteArray × Int, Ev (fun k => merge_Merge.f k a b c) r → Ev (fun k => stylusref52_Merge.f k a b c) r → Ev (fun k => styluslaw52_MergeTells.j0 k a b c false) true := fun r e1 e2 =>
  Ev.step (fun k => by rw [styluslaw52_MergeTells.j0, if_neg Bool.false_ne_true]) (Ev.bind e1 (Ev.bind e2 (Ev.pos rfl (Ev.pos rfl lv))))
 by_cases h : (linesB a).length ≤ 200 ∧ (linesB b).length ≤ 200 ∧ (linesB c).length ≤ 200
 ·exact fin _ (Merge_ev a b c (by omega) (by omega) (by omega) h.1 h.2.1 h.2.2) (refMerge_ev a b c (by omega) (by omega) (by omega) h.1 h.2.1 h.2.2)
 ·exact fin _ (Merge_many a b c (by omega) (by omega) (by omega) h) (refMerge_many a b c (by omega) (by omega) (by omega) h)
end Go.Proofs.YtkbhnkagiaghnaaDoor.Pure
