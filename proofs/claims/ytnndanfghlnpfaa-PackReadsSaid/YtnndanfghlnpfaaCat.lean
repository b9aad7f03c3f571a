/- Bytes of texts put together, and of pieces; numbers read and laid again. -/
import Derived.Test.YtnndanfghlnpfaaPx0
import Derived.Test.YtnndanfghlnpfaaNumEv
namespace Go.Proofs.Ytnndanfghlnpfaa.P
open Go.RowKit Go.Proofs.YtnndanfghlnpfaaW.PrintWords Go.Proofs.YtnndanfghlnpfaaW.PrintLast
theorem cat_bt (s : ByteArray) (n : Nat) (h : n < s.size) : bt s (n : Int) = ((s[n]'h).toNat : Int) := by
 unfold bt
 rw [dif_pos (show ((n : Int)).toNat < s.size from h)]
 rfl
theorem cat_piece (s : ByteArray) (i j m : Nat) (h : i + m < j) (hj : j ≤ s.size) : bt (s.extract i j) (m : Int) = bt s ((i + m : Nat) : Int) := by
 have hz : (s.extract i j).size = j - i := by rw [ByteArray.size_extract]; omega
 rw [cat_bt _ _ (by omega), cat_bt _ _ (by omega), ByteArray.getElem_extract]
end Go.Proofs.Ytnndanfghlnpfaa.P
