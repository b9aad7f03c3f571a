/- All calls of lines: what the program's come to. -/
import Derived.Test.YtednfgphhelkjaaDoorPx2
import Derived.Test.YtednfgphhelkjaaDoorPx8
import Derived.Test.YtednfgphhelkjaaDoorTracePa
namespace Go.Proofs.YtednfgphhelkjaaDoor.P
open Go.RowKit Go.Proofs.YtednfgphhelkjaaDoorW.PrintWords Go.Proofs.YtednfgphhelkjaaDoorW.PrintLast
def recL (x : List UInt8) : S24 := ⟨(prs x).1, (prs x).2.1, (prs x).2.2.1, (prs x).2.2.2.1⟩
def allL : List (List UInt8) → List S24 → List S24 × Int
 | [], out => (out, 0)
 | x :: xs, out => if x = [] then allL xs out else if (prs x).2.2.2.2 = 0 then allL xs (out ++ [recL x]) else ([], (prs x).2.2.2.2)
theorem toL (x : List UInt8) : (tby x).toList = x := by rw [ByteArray.toList_eq, tby_data]
theorem All_l0 (L : List (List UInt8)) (hL : L.length ≤ 1000000) (hs : ∀ x ∈ L, x.length ≤ 100000) : ∀ (d i : Nat) (out : List S24), i + d = L.length → out.length ≤ i →
  Ev (fun k => trace_All.l0 k out (L.map tby) (L.length : Int) (i : Int)) (allL (L.drop i) out)
 | 0, i, out, h, ho => by
  rw [List.drop_of_length_le (by omega), allL]
  refine Ev.step (f := fun _ => some (out, 0)) (fun k => ?_) (Ev.now _)
  rw [trace_All.l0, if_neg (by omega)]
 | d + 1, i, out, h, ho => by
  have hi : i < L.length := by omega
  have hr : rdOf ByteArray.empty (L.map tby) (i : Int) = tby L[i] := by
   unfold rdOf
   rw [Int.toNat_natCast, List.getD_eq_getElem?_getD, List.getElem?_map, List.getElem?_eq_getElem hi]
   rfl
  have hw : wrap64 ((i : Int) + 1) = ((i + 1 : Nat) : Int) := w64 (by omega) (by omega)
  rw [List.drop_eq_getElem_cons hi, allL]
  refine Ev.step (fun k => by rw [trace_All.l0, if_pos (by omega), if_pos (by omega), if_pos (by rw [List.length_map]; omega), hr, hw, toL]) ?_
  by_cases c : L[i] = []
  ·rw [if_pos c]
   exact Ev.pos c (All_l0 L hL hs d (i + 1) out (by omega) (by omega))
  ·rw [if_neg c]
   refine Ev.neg c (Ev.bind (Parse_ev L[i] (hs _ (List.getElem_mem hi))) ?_)
   by_cases q : (prs L[i]).2.2.2.2 = 0
   ·rw [if_pos q]
    exact Ev.pos q (Ev.pos (by omega) (All_l0 L hL hs d (i + 1) (out ++ [recL L[i]]) (by omega) (by rw [List.length_append]; simp; omega)))
   ·rw [if_neg q]
    exact Ev.neg q (Ev.now _)
theorem All_ev (l : List UInt8) (hl : l.length ≤ 100000) : Ev (fun k => trace_All.f k (tby l)) (allL (spl 10 [] l) []) := by
 have e0 : strings_Split.f (tby l) (⟨#[10]⟩ : ByteArray) = some ((spl 10 [] l).map tby) := by
  unfold strings_Split.f
  rw [if_pos (by rw [tby_size]; omega)]
  rfl
 have hn := sq_len 10 l []
 unfold trace_All.f
 refine Ev.call e0 ?_
 have e := All_l0 (spl 10 [] l) (by omega) (fun x hx => by have := sq_mem 10 l [] x hx; simp only [List.length_nil] at this; omega) (spl 10 [] l).length 0 [] (by omega) (by simp)
 rw [List.length_map]
 exact e
end Go.Proofs.YtednfgphhelkjaaDoor.P
