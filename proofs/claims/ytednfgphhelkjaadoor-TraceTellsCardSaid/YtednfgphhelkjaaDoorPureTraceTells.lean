/- Any call's text, and any answer's: the program tells what the reference tells. -/
import Derived.Test.YtednfgphhelkjaaDoorPx4
import Derived.Test.YtednfgphhelkjaaDoorPx11
import Derived.Test.YtednfgphhelkjaaDoorPx12
import Derived.Test.YtednfgphhelkjaaDoorTraceTx
namespace Go.Proofs.YtednfgphhelkjaaDoor.Pure
open Go.RowKit Go.Proofs.YtednfgphhelkjaaDoor.P Go.Proofs.YtednfgphhelkjaaDoorW.PrintWords Go.Proofs.YtednfgphhelkjaaDoorW.PrintLast
theorem txt_ite {c : Prop} [Decidable c] {x y : Option ByteArray} (hx : ∃ t, x = some (tby t) ∧ t.length ≤ 10) (hy : ∃ t, y = some (tby t) ∧ t.length ≤ 10) : ∃ t, (if c then x else y) = some (tby t) ∧ t.length ≤ 10 := by
 by_cases h : c
 ·rw [if_pos h]; exact hx
 ·rw [if_neg h]; exact hy
theorem txt_one (t : List UInt8) (h : t.length ≤ 10) : ∃ u, (some (⟨t.toArray⟩ : ByteArray) : Option ByteArray) = some (tby u) ∧ u.length ≤ 10 := ⟨t, rfl, h⟩
theorem Text_is (e : Int) : ∃ t, api_Text.f e = some (tby t) ∧ t.length ≤ 10 := by
 unfold api_Text.f
 repeat (refine txt_ite (txt_one _ (by decide)) ?_)
 exact txt_one _ (by decide)
theorem Answer_both (e n m : Int) (s : ByteArray) (hn : -9223372036854775808 ≤ n ∧ n ≤ 9223372036854775807) (hm : -9223372036854775808 ≤ m ∧ m ≤ 9223372036854775807) (hs : s.size ≤ 600) :
  ∃ t, Ev (fun k => trace_Answer.f k e n m s) t ∧ Ev (fun k => stylusref45_Answer.f k e n m s) t := by
 obtain ⟨w, hw, hl⟩ := Text_is e
 have h1 := dec_len n hn
 have h2 := dec_len m hm
 have h3 : (hexL s.data.toList).length ≤ 2000 := by unfold hexL; rw [List.length_cons, hx_len, data_length]; omega
 have sz : ∀ x y : ByteArray, (x ++ y).size = x.size + y.size := fun x y => ByteArray.size_append
 have s32 : (⟨#[32]⟩ : ByteArray).size = 1 := rfl
 refine ⟨tby (four w (dec n) (dec m) (hexL s.data.toList)), ?_, ?_⟩
 ·unfold trace_Answer.f
  refine Ev.call hw (Ev.bind (decimal_ev n hn) (Ev.bind (decimal_ev m hm) (Ev.call (hex_is s (by omega)) (Ev.call (Join_is _ _ _ _ (by omega)) (Ev.now _)))))
 ·unfold stylusref45_Answer.f
  refine Ev.call hw ?_
  refine Ev.pos (by rw [tby_size]; omega) (Ev.bind (Plain_ev n hn) ?_)
  refine Ev.pos (by simp only [sz, s32, tby_size]; omega) (Ev.pos (by simp only [sz, s32, tby_size]; omega) (Ev.bind (Plain_ev m hm) ?_))
  refine Ev.pos (by simp only [sz, s32, tby_size]; omega) (Ev.pos (by simp only [sz, s32, tby_size]; omega) (Ev.bind (ref_hex_ev s (by omega)) ?_))
  refine Ev.pos (by simp only [sz, s32, tby_size]; omega) ?_
  rw [cat_is]
  exact Ev.now _
theorem TraceTells : styluslaw45_TraceTells.Pure := by
 intro c a hc ha
 apply Ev.rounds
 have no : Ev (fun k => styluslaw45_TraceTells.j0 k true c.f0 c.f1 c.f2 c.f3 a.f0 a.f1 a.f2 a.f3) true := Ev.step (fun k => by rw [styluslaw45_TraceTells.j0, if_pos (rfl : true = true)]) (Ev.call (show styluslaw45_lives.f = some true from rfl) (Ev.now _))
 unfold styluslaw45_TraceTells.f
 by_cases c1 : (c.f3.size : Int) > 600
 ·exact Ev.pos c1 no
 refine Ev.neg c1 ?_
 by_cases c2 : (a.f3.size : Int) > 600
 ·rw [show decide ((a.f3.size : Int) > 600) = true from decide_eq_true c2]
  exact no
 rw [show decide ((a.f3.size : Int) > 600) = false from decide_eq_false c2]
 obtain ⟨t, e1, e2⟩ := Answer_both a.f0 a.f1 a.f2 a.f3 (wf_i64 ha.2.1) (wf_i64 ha.2.2.1) (by omega)
 refine Ev.step (fun k => by rw [styluslaw45_TraceTells.j0, if_neg Bool.false_ne_true]) ?_
 exact Ev.bind (Call_ev c.f0 c.f1 c.f2 c.f3) (Ev.bind (ref_Call_ev c.f0 c.f1 c.f2 c.f3) (Ev.pos rfl (Ev.bind e1 (Ev.bind e2 (Ev.pos rfl (Ev.call (show styluslaw45_lives.f = some true from rfl) (Ev.now _)))))))
end Go.Proofs.YtednfgphhelkjaaDoor.Pure
