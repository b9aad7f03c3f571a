/- Bytes of texts put together, and of pieces; numbers read and laid again. -/
import Derived.Test.YtnndanfghlnpfaaPx0
import Derived.Test.YtnndanfghlnpfaaNumEv
namespace Go.Proofs.Ytnndanfghlnpfaa.P
open Go.RowKit Go.Proofs.YtnndanfghlnpfaaW.PrintWords Go.Proofs.YtnndanfghlnpfaaW.PrintLast
theorem cat_bt (s : ByteArray) (n : Nat) (h : n < s.size) : bt s (n : Int) = ((s[n]'h).toNat : Int) := by
 unfold bt
 rw [dif_pos (show ((n : Int)).toNat < s.size from h)]
 rfl
theorem cat_left (a b : ByteArray) (i : Nat) (h : i < a.size) : bt (a ++ b) (i : Int) = bt a (i : Int) := by
 rw [cat_bt _ _ (by rw [ByteArray.size_append]; omega), cat_bt _ _ h, ByteArray.getElem_append_left]
theorem cat_right (a b : ByteArray) (i : Nat) : bt (a ++ b) ((a.size + i : Nat) : Int) = bt b (i : Int) := by
 by_cases h : i < b.size
 ·rw [cat_bt _ _ (by rw [ByteArray.size_append]; omega), cat_bt _ _ h, ByteArray.getElem_append_right (by omega)]
  congr 2
  congr 1
  omega
 ·unfold bt
  rw [dif_neg (by rw [ByteArray.size_append]; omega), dif_neg (by omega)]
theorem cat_piece (s : ByteArray) (i j m : Nat) (h : i + m < j) (hj : j ≤ s.size) : bt (s.extract i j) (m : Int) = bt s ((i + m : Nat) : Int) := by
 have hz : (s.extract i j).size = j - i := by rw [ByteArray.size_extract]; omega
 rw [cat_bt _ _ (by omega), cat_bt _ _ (by omega), ByteArray.getElem_extract]
theorem cat_ext {a b : ByteArray} (hz : a.size = b.size) (h : ∀ i : Nat, i < a.size → bt a (i : Int) = bt b (i : Int)) : a = b := by
 apply ByteArray.ext_getElem hz
 intro i h1 h2
 have := h i h1
 rw [cat_bt _ _ h1, cat_bt _ _ h2] at this
 exact UInt8.toNat_inj.1 (by omega)
theorem getN_val (s : ByteArray) (a m : Nat) (h : a + m ≤ s.size) : (getN s (a : Int) m).1 = le (bytesAt s (a : Int) m) := by
 unfold getN
 rw [if_pos (by omega)]
theorem putN_le : ∀ (xs : List Int), Bytes xs → putN (le xs) xs.length = xs
 | [], _ => rfl
 | x :: xs, h => by
  have h1 := h x (by simp)
  have ih := putN_le xs (fun y hy => h y (by simp [hy]))
  show (x + 256 * le xs) % 256 :: putN ((x + 256 * le xs) / 256) xs.length = x :: xs
  rw [show (x + 256 * le xs) % 256 = x by omega, show (x + 256 * le xs) / 256 = le xs by omega, ih]
theorem strOfNums_bytesAt (s : ByteArray) (a m : Nat) (h : a + m ≤ s.size) : strOfNums (bytesAt s (a : Int) m) = s.extract a (a + m) := by
 have hz : (s.extract a (a + m)).size = m := by rw [ByteArray.size_extract]; omega
 apply cat_ext
 ·rw [strOfNums_size, bytesAt_length, hz]
 ·intro i hi
  rw [strOfNums_size, bytesAt_length] at hi
  rw [bt_nums _ (bytesAt_bytes s a m) i (by rw [bytesAt_length]; exact hi), bytesAt_get, cat_piece _ _ _ _ (by omega) h]
  rfl
/-- A number that was read, laid again, is the bytes. -/
theorem put_get (s : ByteArray) (a m : Nat) (h : a + m ≤ s.size) : strOfNums (putN (getN s (a : Int) m).1 m) = s.extract a (a + m) := by
 rw [getN_val s a m h]
 have := putN_le (bytesAt s (a : Int) m) (bytesAt_bytes s a m)
 rw [bytesAt_length] at this
 rw [this, strOfNums_bytesAt s a m h]
theorem put16_get (s : ByteArray) (a : Nat) (h : a + 2 ≤ s.size) : put16 (getN s (a : Int) 2).1 = s.extract a (a + 2) := put_get s a 2 h
theorem put32_get (s : ByteArray) (a : Nat) (h : a + 4 ≤ s.size) : put32 (getN s (a : Int) 4).1 = s.extract a (a + 4) := put_get s a 4 h
theorem piece_of (s x : ByteArray) (a : Nat) (h : a + x.size ≤ s.size) (hb : ∀ i : Nat, i < x.size → bt s ((a + i : Nat) : Int) = bt x (i : Int)) : s.extract a (a + x.size) = x := by
 have hz : (s.extract a (a + x.size)).size = x.size := by rw [ByteArray.size_extract]; omega
 apply cat_ext hz
 intro i hi
 rw [hz] at hi
 rw [cat_piece _ _ _ _ (by omega) h]
 exact hb i hi
end Go.Proofs.Ytnndanfghlnpfaa.P
