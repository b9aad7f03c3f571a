/- The call that any text tells, and all calls of its lines: the program tells what the reference tells. -/
import Derived.Test.YtednfgphhelkjaaDoorPx2
import Derived.Test.YtednfgphhelkjaaDoorPx4
import Derived.Test.YtednfgphhelkjaaDoorPx8
import Derived.Test.YtednfgphhelkjaaDoorTraceAr
namespace Go.Proofs.YtednfgphhelkjaaDoor.Pure
open Go.RowKit Go.Proofs.YtednfgphhelkjaaDoor.P Go.Proofs.YtednfgphhelkjaaDoorW.PrintWords Go.Proofs.YtednfgphhelkjaaDoorW.PrintLast
theorem parses_l0 (L : List S24) (hL : L.length ≤ 1000000) : ∀ (d i : Nat), i + d = L.length → Ev (fun k => styluslaw45_TraceParses.l0 k L L (i : Int)) true
 | 0, i, h => Ev.step (fun k => by rw [styluslaw45_TraceParses.l0, if_neg (by omega)]) (Ev.call (show styluslaw45_lives.f = some true from rfl) (Ev.now _))
 | d + 1, i, h => by
  have e := parses_l0 L hL d (i + 1) (by omega)
  refine Ev.step (fun k => ?_) e
  rw [styluslaw45_TraceParses.l0, if_pos (by omega), if_pos (by omega), if_pos (by omega), if_neg (by simp), w64 (by omega) (by omega)]
  rfl
theorem allL_len : ∀ (xs : List (List UInt8)) (out : List S24), (allL xs out).1.length ≤ out.length + xs.length
 | [], out => by simp [allL]
 | x :: xs, out => by
  rw [allL]
  have h1 := allL_len xs out
  have h2 := allL_len xs (out ++ [recL x])
  simp only [List.length_cons, List.length_append, List.length_nil] at h1 h2 ⊢
  split
  ·omega
  ·split
   ·omega
   ·simp
theorem TraceParses : styluslaw45_TraceParses.Pure := by
 intro s _
 apply Ev.rounds
 unfold styluslaw45_TraceParses.f
 by_cases c : (s.size : Int) > 1000
 ·exact Ev.pos c (Ev.call (show styluslaw45_lives.f = some true from rfl) (Ev.now _))
 refine Ev.neg c ?_
 have hz := data_length s
 have e1 := Parse_ev s.data.toList (by omega)
 have e2 := ref_Parse_ev s.data.toList (by omega)
 have e3 := All_ev s.data.toList (by omega)
 have e4 := ref_All_ev s.data.toList (by omega)
 rw [tby_self] at e1 e2 e3 e4
 refine Ev.bind e1 (Ev.bind e2 (Ev.bind e3 (Ev.bind e4 (Ev.neg (by simp) (Ev.pos rfl (Ev.pos rfl ?_))))))
 have h1 := allL_len (spl 10 [] s.data.toList) []
 have h2 := sq_len 10 s.data.toList []
 simp only [List.length_nil] at h1
 refine Ev.step (fun k => by rw [styluslaw45_TraceParses.j0, if_neg (by simp)]) ?_
 exact parses_l0 (allL (spl 10 [] s.data.toList) []).1 (by omega) (allL (spl 10 [] s.data.toList) []).1.length 0 (by omega)
end Go.Proofs.YtednfgphhelkjaaDoor.Pure
