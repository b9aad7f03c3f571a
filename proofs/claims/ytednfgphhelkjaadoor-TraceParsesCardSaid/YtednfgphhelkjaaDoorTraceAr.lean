/- All calls of lines: the reference's come to the program's. -/
import Derived.Test.YtednfgphhelkjaaDoorPx2
import Derived.Test.YtednfgphhelkjaaDoorPx8
import Derived.Test.YtednfgphhelkjaaDoorTraceAl
import Derived.Test.YtednfgphhelkjaaDoorTraceRf
namespace Go.Proofs.YtednfgphhelkjaaDoor.P
open Go.RowKit Go.Proofs.YtednfgphhelkjaaDoorW.PrintWords Go.Proofs.YtednfgphhelkjaaDoorW.PrintLast
theorem ref_fin (s : ByteArray) (cur : List UInt8) (hc : cur.length ≤ 1100) (out : List S24) (ho : out.length ≤ 1000000) (i : Int) (K : List S24 → List S24 × Int)
  (h : ∀ o : List S24, o.length ≤ out.length + 1 → Ev (fun k => stylusref45_All.l0 k s o (tby []) (wrap64 (i + 1))) (K o)) :
  Ev (fun k => stylusref45_All.j1 k s out (tby cur) i false) (if cur = [] then K out else if (prs cur).2.2.2.2 = 0 then K (out ++ [recL cur]) else ([], (prs cur).2.2.2.2)) := by
 refine Ev.step (fun k => by rw [stylusref45_All.j1, if_neg Bool.false_ne_true, toL]) ?_
 by_cases c : cur = []
 ·rw [if_pos c]
  exact Ev.pos c (h out (by omega))
 ·rw [if_neg c]
  refine Ev.neg c (Ev.bind (ref_Parse_ev cur hc) ?_)
  by_cases q : (prs cur).2.2.2.2 = 0
  ·rw [if_pos q]
   exact Ev.pos q (Ev.pos (by omega) (h (out ++ [recL cur]) (by rw [List.length_append]; simp)))
  ·rw [if_neg q]
   exact Ev.neg q (Ev.now _)
theorem ref_All_l0 (s : ByteArray) (hs : s.size ≤ 1000) : ∀ (d i : Nat) (cur : List UInt8) (out : List S24), i + d = s.data.toList.length → cur.length ≤ i → out.length ≤ i →
  Ev (fun k => stylusref45_All.l0 k s out (tby cur) (i : Int)) (allL (spl 10 cur (s.data.toList.drop i)) out)
 | 0, i, cur, out, h, hc, ho => by
  have hz := data_length s
  rw [List.drop_of_length_le (by omega), spl, allL]
  refine Ev.step (fun k => by rw [stylusref45_All.l0, if_pos (by omega), if_neg (by omega)]) ?_
  refine ref_fin s cur (by omega) out (by omega) (i : Int) (fun o => allL [] o) (fun o _ => ?_)
  refine Ev.step (f := fun _ => some (o, 0)) (fun k => ?_) (Ev.now _)
  rw [stylusref45_All.l0, w64 (by omega) (by omega), if_neg (by omega)]
 | d + 1, i, cur, out, h, hc, ho => by
  have hz := data_length s
  have hi : i < s.data.toList.length := by omega
  have hb := tbt s i hi
  have hw : wrap64 ((i : Int) + 1) = ((i + 1 : Nat) : Int) := w64 (by omega) (by omega)
  rw [List.drop_eq_getElem_cons hi, spl]
  refine Ev.step (fun k => by rw [stylusref45_All.l0, if_pos (by omega), if_pos (by omega), if_pos (by omega), hb]) ?_
  by_cases c : s.data.toList[i] = 10
  ·rw [if_pos c, show (((s.data.toList[i]).toNat : Int) != 10) = false from by rw [c]; rfl, allL]
   refine ref_fin s cur (by omega) out (by omega) (i : Int) (fun o => allL (spl 10 [] (s.data.toList.drop (i + 1))) o) (fun o hl => ?_)
   rw [hw]
   exact ref_All_l0 s hs d (i + 1) [] o (by omega) (by simp) (by omega)
  ·rw [if_neg c, show (((s.data.toList[i]).toNat : Int) != 10) = true from by
    rw [bne_iff_ne]
    intro z
    exact c (UInt8.toNat_inj.1 (show (s.data.toList[i]).toNat = (10 : UInt8).toNat from by rw [show (10 : UInt8).toNat = 10 from rfl]; omega))]
   have e := ref_All_l0 s hs d (i + 1) (cur ++ [s.data.toList[i]]) out (by omega) (by rw [List.length_append]; simp; omega) (by omega)
   refine Ev.step (fun k => ?_) e
   rw [stylusref45_All.j1, if_pos (rfl : true = true), if_pos (by omega), hw, if_pos (by omega), if_pos (by omega), Int.toNat_natCast, Int.toNat_natCast, ex_one s i hi, tby_append, if_pos (by rw [tby_size, tby_size, List.length_singleton]; omega)]
theorem ref_All_ev (l : List UInt8) (hl : l.length ≤ 1000) : Ev (fun k => stylusref45_All.f k (tby l)) (allL (spl 10 [] l) []) := by
 have e := ref_All_l0 (tby l) (by rw [tby_size]; omega) l.length 0 [] [] (by rw [tby_data]; omega) (by simp) (by simp)
 exact e
end Go.Proofs.YtednfgphhelkjaaDoor.P
