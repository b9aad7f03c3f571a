/- What an edit makes of a text, by the program and by the reference: one plain function. -/
import Derived.Test.YtfimcjbagjjdlaaPx3
import Derived.Test.YtfimcjbagjjdlaaEvKit
namespace Go.Proofs.Ytfimcjbagjjdlaa.P
open Go.RowKit Go.Proofs.YtfimcjbagjjdlaaW.PrintWords Go.Proofs.YtfimcjbagjjdlaaW.PrintLast

/-! Marks. -/
def shiftOf (p : Int) (o n : ByteArray) (a : Int) : Int := if a ≤ p then a else if a - p < o.size then p else a - o.size + n.size
theorem edit_Shift_is (p : Int) (o n : ByteArray) (a : Int) (hp0 : -1000000 ≤ p) (hp : p ≤ 1000000) (ha0 : -1000000 ≤ a) (ha : a ≤ 1000000) (ho : o.size ≤ 100000) (hn : n.size ≤ 100000) :
    edit_Shift.f p o n a = some (shiftOf p o n a) := by
  unfold edit_Shift.f shiftOf
  by_cases h0 : a ≤ p
  · rw [if_pos h0, if_pos h0]
  · rw [if_neg h0, if_neg h0, w64 (x := a - p) (by omega) (by omega)]
    by_cases h1 : a - p < o.size
    · rw [if_pos h1, if_pos h1]
    · rw [if_neg h1, if_neg h1, w64 (x := p + (a - p)) (by omega) (by omega), w64 (x := p + (a - p) - (o.size : Int)) (by omega) (by omega), w64 (by omega) (by omega)]
      congr 1
      omega
theorem ref_Shift_is (p : Int) (o n : ByteArray) (a : Int) (hp0 : -1000000 ≤ p) (hp : p ≤ 1000000) (ha0 : -1000000 ≤ a) (ha : a ≤ 1000000) (ho : o.size ≤ 100000) (hn : n.size ≤ 100000) :
    stylusref21_Shift.f p o n a = some (shiftOf p o n a) := by
  unfold stylusref21_Shift.f shiftOf
  by_cases h0 : a ≤ p
  · rw [if_pos h0, if_pos h0]
  · rw [if_neg h0, if_neg h0, w64 (x := a - p) (by omega) (by omega)]
    by_cases h1 : a - p < o.size
    · rw [if_neg (by omega), if_pos h1]
    · rw [if_pos (by omega), if_neg h1, w64 (x := a - (o.size : Int)) (by omega) (by omega), w64 (by omega) (by omega)]
end Go.Proofs.Ytfimcjbagjjdlaa.P
