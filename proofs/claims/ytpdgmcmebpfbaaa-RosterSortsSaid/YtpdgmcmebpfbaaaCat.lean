/- Bytes of texts put together, and of pieces; numbers read and laid again. -/
import Derived.Test.YtpdgmcmebpfbaaaPx0
import Derived.Test.YtpdgmcmebpfbaaaNumEv
namespace Go.Proofs.Ytpdgmcmebpfbaaa.P
open Go.RowKit Go.Proofs.YtpdgmcmebpfbaaaW.PrintWords Go.Proofs.YtpdgmcmebpfbaaaW.PrintLast

theorem cat_bt (s : ByteArray) (n : Nat) (h : n < s.size) : bt s (n : Int) = ((s[n]'h).toNat : Int) := by
  unfold bt
  rw [dif_pos (show ((n : Int)).toNat < s.size from h)]
  rfl
theorem cat_left (a b : ByteArray) (i : Nat) (h : i < a.size) : bt (a ++ b) (i : Int) = bt a (i : Int) := by
  rw [cat_bt _ _ (by rw [ByteArray.size_append]; omega), cat_bt _ _ h, ByteArray.getElem_append_left]
theorem cat_right (a b : ByteArray) (i : Nat) : bt (a ++ b) ((a.size + i : Nat) : Int) = bt b (i : Int) := by
  by_cases h : i < b.size
  · rw [cat_bt _ _ (by rw [ByteArray.size_append]; omega), cat_bt _ _ h, ByteArray.getElem_append_right (by omega)]
    congr 2
    congr 1
    omega
  · unfold bt
    rw [dif_neg (by rw [ByteArray.size_append]; omega), dif_neg (by omega)]
theorem cat_piece (s : ByteArray) (i j m : Nat) (h : i + m < j) (hj : j ≤ s.size) : bt (s.extract i j) (m : Int) = bt s ((i + m : Nat) : Int) := by
  have hz : (s.extract i j).size = j - i := by rw [ByteArray.size_extract]; omega
  rw [cat_bt _ _ (by omega), cat_bt _ _ (by omega), ByteArray.getElem_extract]
theorem cat_list {a b : ByteArray} : a.toList = b.toList ↔ a = b := by
  constructor
  · intro h
    rw [ByteArray.toList_eq, ByteArray.toList_eq] at h
    exact ByteArray.ext (Array.ext' h)
  · rintro rfl; rfl
theorem cat_ext {a b : ByteArray} (hz : a.size = b.size) (h : ∀ i : Nat, i < a.size → bt a (i : Int) = bt b (i : Int)) : a = b := by
  apply ByteArray.ext_getElem hz
  intro i h1 h2
  have := h i h1
  rw [cat_bt _ _ h1, cat_bt _ _ h2] at this
  exact UInt8.toNat_inj.1 (by omega)
theorem getN_range (s : ByteArray) (a : Int) (m : Nat) : 0 ≤ (getN s a m).1 ∧ (getN s a m).1 < ((256 ^ m : Nat) : Int) := by
  unfold getN
  split
  · have := le_range (bytesAt s a m) (bytesAt_bytes s a m)
    rwa [bytesAt_length] at this
  · exact ⟨Int.le_refl 0, by have := Nat.pow_pos (n := m) (show 0 < 256 by decide); show (0 : Int) < _; omega⟩
theorem getN_val (s : ByteArray) (a m : Nat) (h : a + m ≤ s.size) : (getN s (a : Int) m).1 = le (bytesAt s (a : Int) m) := by
  unfold getN
  rw [if_pos (by omega)]
theorem putN_le : ∀ (xs : List Int), Bytes xs → putN (le xs) xs.length = xs
  | [], _ => rfl
  | x :: xs, h => by
    have h1 := h x (by simp)
    have ih := putN_le xs (fun y hy => h y (by simp [hy]))
    show (x + 256 * le xs) % 256 :: putN ((x + 256 * le xs) / 256) xs.length = x :: xs
    rw [show (x + 256 * le xs) % 256 = x by omega, show (x + 256 * le xs) / 256 = le xs by omega, ih]
theorem strOfNums_bytesAt (s : ByteArray) (a m : Nat) (h : a + m ≤ s.size) : strOfNums (bytesAt s (a : Int) m) = s.extract a (a + m) := by
  have hz : (s.extract a (a + m)).size = m := by rw [ByteArray.size_extract]; omega
  apply cat_ext
  · rw [strOfNums_size, bytesAt_length, hz]
  · intro i hi
    rw [strOfNums_size, bytesAt_length] at hi
    rw [bt_nums _ (bytesAt_bytes s a m) i (by rw [bytesAt_length]; exact hi), bytesAt_get, cat_piece _ _ _ _ (by omega) h]
    rfl
/-- A number that was read, laid again, is the bytes. -/
theorem put_get (s : ByteArray) (a m : Nat) (h : a + m ≤ s.size) : strOfNums (putN (getN s (a : Int) m).1 m) = s.extract a (a + m) := by
  rw [getN_val s a m h]
  have := putN_le (bytesAt s (a : Int) m) (bytesAt_bytes s a m)
  rw [bytesAt_length] at this
  rw [this, strOfNums_bytesAt s a m h]
theorem put16_get (s : ByteArray) (a : Nat) (h : a + 2 ≤ s.size) : put16 (getN s (a : Int) 2).1 = s.extract a (a + 2) := put_get s a 2 h
theorem put32_get (s : ByteArray) (a : Nat) (h : a + 4 ≤ s.size) : put32 (getN s (a : Int) 4).1 = s.extract a (a + 4) := put_get s a 4 h
/-- The number of a piece's bytes in what it stands in. -/
theorem getN_of (s x : ByteArray) (a m : Nat) (hx : x.size = m) (h : a + m ≤ s.size) (hb : ∀ i : Nat, i < m → bt s ((a + i : Nat) : Int) = bt x (i : Int)) : getN s (a : Int) m = getN x 0 m := by
  unfold getN
  rw [if_pos (by omega), if_pos (by omega)]
  congr 2
  apply List.ext_getElem
  · rw [bytesAt_length, bytesAt_length]
  · intro i h1 h2
    rw [bytesAt_length] at h1
    rw [bytesAt_get, bytesAt_get, Int.zero_add]
    exact hb i h1
theorem piece_of (s x : ByteArray) (a : Nat) (h : a + x.size ≤ s.size) (hb : ∀ i : Nat, i < x.size → bt s ((a + i : Nat) : Int) = bt x (i : Int)) : s.extract a (a + x.size) = x := by
  have hz : (s.extract a (a + x.size)).size = x.size := by rw [ByteArray.size_extract]; omega
  apply cat_ext hz
  intro i hi
  rw [hz] at hi
  rw [cat_piece _ _ _ _ (by omega) h]
  exact hb i hi
theorem cut_join (s : ByteArray) (a b c : Nat) (h1 : a ≤ b) (h2 : b ≤ c) (_h3 : c ≤ s.size) : s.extract a b ++ s.extract b c = s.extract a c := by
  rw [ByteArray.extract_append_extract, Nat.min_eq_left h1, Nat.max_eq_right h2]
end Go.Proofs.Ytpdgmcmebpfbaaa.P
