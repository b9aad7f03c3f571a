/- Bytes of texts put together, and of pieces; numbers read and laid again. -/
import Derived.Test.YtpdgmcmebpfbaaaPx0
import Derived.Test.YtpdgmcmebpfbaaaNumEv
namespace Go.Proofs.Ytpdgmcmebpfbaaa.P
open Go.RowKit Go.Proofs.YtpdgmcmebpfbaaaW.PrintWords Go.Proofs.YtpdgmcmebpfbaaaW.PrintLast
theorem cat_bt (s : ByteArray) (n : Nat) (h : n < s.size) : bt s (n : Int) = ((s[n]'h).toNat : Int) := by
 unfold bt
 rw [dif_pos (show ((n : Int)).toNat < s.size from h)]
 rfl
theorem cat_left (a b : ByteArray) (i : Nat) (h : i < a.size) : bt (a ++ b) (i : Int) = bt a (i : Int) := by
 rw [cat_bt _ _ (by rw [ByteArray.size_append]; omega), cat_bt _ _ h, ByteArray.getElem_append_left]
theorem cat_right (a b : ByteArray) (i : Nat) : bt (a ++ b) ((a.size + i : Nat) : Int) = bt b (i : Int) := by
 by_cases h : i < b.size
 ·rw [cat_bt _ _ (by rw [ByteArray.size_append]; omega), cat_bt _ _ h, ByteArray.getElem_append_right (by omega)]
  congr 2
  congr 1
  omega
 ·unfold bt
  rw [dif_neg (by rw [ByteArray.size_append]; omega), dif_neg (by omega)]
theorem cat_piece (s : ByteArray) (i j m : Nat) (h : i + m < j) (hj : j ≤ s.size) : bt (s.extract i j) (m : Int) = bt s ((i + m : Nat) : Int) := by
 have hz : (s.extract i j).size = j - i := by rw [ByteArray.size_extract]; omega
 rw [cat_bt _ _ (by omega), cat_bt _ _ (by omega), ByteArray.getElem_extract]
theorem cat_list {a b : ByteArray} : a.toList = b.toList ↔ a = b := by
 constructor
 ·intro h
  rw [ByteArray.toList_eq, ByteArray.toList_eq] at h
  exact ByteArray.ext (Array.ext' h)
 ·rintro rfl; rfl
theorem cat_ext {a b : ByteArray} (hz : a.size = b.size) (h : ∀ i : Nat, i < a.size → bt a (i : Int) = bt b (i : Int)) : a = b := by
 apply ByteArray.ext_getElem hz
 intro i h1 h2
 have := h i h1
 rw [cat_bt _ _ h1, cat_bt _ _ h2] at this
 exact UInt8.toNat_inj.1 (by omega)
theorem cut_join (s : ByteArray) (a b c : Nat) (h1 : a ≤ b) (h2 : b ≤ c) (_h3 : c ≤ s.size) : s.extract a b ++ s.extract b c = s.extract a c := by
 rw [ByteArray.extract_append_extract, Nat.min_eq_left h1, Nat.max_eq_right h2]
end Go.Proofs.Ytpdgmcmebpfbaaa.P
