/- What the program's and the reference's numbers as bytes come to: one plain function of the bytes, for both. -/
import Derived.Test.YtpdgmcmebpfbaaaPx0
import Derived.Test.YtpdgmcmebpfbaaaEvKit
import Derived.Laws.BitsLemmas
import Derived.Lib.Strings
namespace Go.Proofs.Ytpdgmcmebpfbaaa.P
open Go.RowKit Go.Proofs.YtpdgmcmebpfbaaaW.PrintWords Go.Proofs.YtpdgmcmebpfbaaaW.PrintLast

/-- The number of bytes, the lowest first. -/
def le : List Int → Int
  | [] => 0
  | x :: xs => x + 256 * le xs
def Bytes (xs : List Int) : Prop := ∀ x ∈ xs, 0 ≤ x ∧ x < 256
theorem le_range : ∀ (xs : List Int), Bytes xs → 0 ≤ le xs ∧ le xs < ((256 ^ xs.length : Nat) : Int)
  | [], _ => by simp [le]
  | x :: xs, h => by
    have h1 := h x (by simp)
    have h2 := le_range xs (fun y hy => h y (by simp [hy]))
    simp only [le, List.length_cons, Nat.pow_succ]
    omega
theorem le_small (xs : List Int) (h : Bytes xs) (hl : xs.length ≤ 6) : 0 ≤ le xs ∧ le xs < 281474976710656 := by
  have h1 := le_range xs h
  have h2 : 256 ^ xs.length ≤ 256 ^ 6 := Nat.pow_le_pow_right (by decide) hl
  have h3 : (256 ^ 6 : Nat) = 281474976710656 := by decide
  omega
theorem Bytes.drop {xs : List Int} (h : Bytes xs) (i : Nat) : Bytes (xs.drop i) := fun x hx => h x (List.mem_of_mem_drop hx)
theorem rd_get (xs : List Int) (i : Nat) (h : i < xs.length) : rd xs (i : Int) = xs[i] := by
  unfold rd; simp [List.getD_eq_getElem?_getD, h]
theorem or_join (x y : Int) (h0 : 0 ≤ x) (h1 : x < 281474976710656) (g0 : 0 ≤ y) (g1 : y < 256) : Go.bits .or .i64 (x * 256) y = y + 256 * x := by
  rw [Go.bits_join .i64 63 (by decide) (fun n h0 h1 => by rw [Go.IntKind.wrap_i64]; omega) 8 (x * 256) y (by omega) (by omega) (by omega) g0 (by omega) (by omega)]
  omega
/-- The bytes at a place. -/
def bytesAt (s : ByteArray) (at_ : Int) (many : Nat) : List Int := (List.range many).map fun j : Nat => bt s (at_ + (j : Int))
theorem bytesAt_length (s : ByteArray) (at_ : Int) (many : Nat) : (bytesAt s at_ many).length = many := by simp [bytesAt]
theorem bytesAt_bytes (s : ByteArray) (at_ : Int) (many : Nat) : Bytes (bytesAt s at_ many) := by
  intro x hx
  simp only [bytesAt, List.mem_map] at hx
  obtain ⟨j, _, rfl⟩ := hx
  have := bt_range s (at_ + (j : Int))
  omega
theorem bytesAt_get (s : ByteArray) (at_ : Int) (many i : Nat) (h : i < (bytesAt s at_ many).length) : (bytesAt s at_ many)[i] = bt s (at_ + (i : Int)) := by simp [bytesAt]
/-- The number of so many bytes at a place; false: there are none. -/
def getN (s : ByteArray) (at_ : Int) (many : Nat) : Int × Bool := if 0 ≤ at_ ∧ at_ + (many : Int) ≤ s.size then (le (bytesAt s at_ many), true) else (0, false)
theorem drop_cons_i {α : Type} (l : List α) (i : Nat) (h : i < l.length) : l.drop i = l[i] :: l.drop (i + 1) := List.drop_eq_getElem_cons h


/-- A number in so many bytes. -/
def putN (n : Int) : Nat → List Int
  | 0 => []
  | m + 1 => n % 256 :: putN (n / 256) m
theorem putN_length (m : Nat) : ∀ n, (putN n m).length = m := by
  induction m with
  | zero => intro n; rfl
  | succ m ih => intro n; simp [putN, ih]
theorem putN_bytes (m : Nat) : ∀ n, Bytes (putN n m) := by
  induction m with
  | zero => intro n x hx; simp [putN] at hx
  | succ m ih =>
    intro n x hx
    simp only [putN, List.mem_cons] at hx
    rcases hx with rfl | hx
    · omega
    · exact ih _ x hx
def put16 (n : Int) : ByteArray := strOfNums (putN n 2)
def put32 (n : Int) : ByteArray := strOfNums (putN n 4)
theorem put16_size (n : Int) : (put16 n).size = 2 := by unfold put16; rw [strOfNums_size, putN_length]
theorem put32_size (n : Int) : (put32 n).size = 4 := by unfold put32; rw [strOfNums_size, putN_length]
/-! bytes of a text made of numbers -/
theorem bt_nums (xs : List Int) (hb : Bytes xs) (i : Nat) (h : i < xs.length) : bt (strOfNums xs) (i : Int) = xs[i] := by
  have hs : i < (strOfNums xs).size := by rw [strOfNums_size]; exact h
  have hx := hb xs[i] (List.getElem_mem h)
  unfold bt
  rw [dif_pos (by simpa using hs)]
  have e : (strOfNums xs)[((i : Int)).toNat] = UInt8.ofNat (xs[i]).toNat := by
    show (strOfNums xs).data[i]'_ = _
    simp [strOfNums]
  rw [e, UInt8.toNat_ofNat']
  omega
theorem bytesAt_nums (xs : List Int) (hb : Bytes xs) : bytesAt (strOfNums xs) 0 xs.length = xs := by
  apply List.ext_getElem
  · rw [bytesAt_length]
  · intro i h1 h2
    rw [bytesAt_get, Int.zero_add, bt_nums xs hb i h2]
theorem le_putN2 (n : Int) : le (putN n 2) = n % 65536 := by
  simp only [putN, le]
  omega
theorem le_putN4 (n : Int) : le (putN n 4) = n % 4294967296 := by
  simp only [putN, le]
  omega
theorem getN_put16 (n : Int) : getN (put16 n) 0 2 = (n % 65536, true) := by
  unfold getN
  rw [if_pos (by rw [put16_size]; omega)]
  have e := bytesAt_nums (putN n 2) (putN_bytes 2 n)
  rw [putN_length] at e
  unfold put16
  rw [e, le_putN2]
theorem getN_put32 (n : Int) : getN (put32 n) 0 4 = (n % 4294967296, true) := by
  unfold getN
  rw [if_pos (by rw [put32_size]; omega)]
  have e := bytesAt_nums (putN n 4) (putN_bytes 4 n)
  rw [putN_length] at e
  unfold put32
  rw [e, le_putN4]
end Go.Proofs.Ytpdgmcmebpfbaaa.P
