/- What the program's and the reference's numbers as bytes come to: one plain function of the bytes, for both. -/
import Derived.Test.YtnndanfghlnpfaaPx8
import Derived.Test.YtnndanfghlnpfaaPx9
import Derived.Test.YtnndanfghlnpfaaPx10
import Derived.Test.YtnndanfghlnpfaaPx0
import Derived.Test.YtnndanfghlnpfaaPx21
import Derived.Test.YtnndanfghlnpfaaEvKit
import Derived.Laws.BitsLemmas
import Derived.Lib.Strings
namespace Go.Proofs.Ytnndanfghlnpfaa.P
open Go.RowKit Go.Proofs.YtnndanfghlnpfaaW.PrintWords Go.Proofs.YtnndanfghlnpfaaW.PrintLast
/-- The number of bytes, the lowest first. -/
def le : List Int → Int
 | [] => 0
 | x :: xs => x + 256 * le xs
def Bytes (xs : List Int) : Prop := ∀ x ∈ xs, 0 ≤ x ∧ x < 256
theorem le_range : ∀ (xs : List Int), Bytes xs → 0 ≤ le xs ∧ le xs < ((256 ^ xs.length : Nat) : Int)
 | [], _ => by simp [le]
 | x :: xs, h => by
  have h1 := h x (by simp)
  have h2 := le_range xs (fun y hy => h y (by simp [hy]))
  simp only [le, List.length_cons, Nat.pow_succ]
  omega
theorem le_small (xs : List Int) (h : Bytes xs) (hl : xs.length ≤ 6) : 0 ≤ le xs ∧ le xs < 281474976710656 := by
 have h1 := le_range xs h
 have h2 : 256 ^ xs.length ≤ 256 ^ 6 := Nat.pow_le_pow_right (by decide) hl
 have h3 : (256 ^ 6 : Nat) = 281474976710656 := by decide
 omega
theorem Bytes.drop {xs : List Int} (h : Bytes xs) (i : Nat) : Bytes (xs.drop i) := fun x hx => h x (List.mem_of_mem_drop hx)
theorem rd_get (xs : List Int) (i : Nat) (h : i < xs.length) : rd xs (i : Int) = xs[i] := by
 unfold rd; simp [List.getD_eq_getElem?_getD, h]
theorem or_join (x y : Int) (h0 : 0 ≤ x) (h1 : x < 281474976710656) (g0 : 0 ≤ y) (g1 : y < 256) : Go.bits .or .i64 (x * 256) y = y + 256 * x := by
 rw [Go.bits_join .i64 63 (by decide) (fun n h0 h1 => by rw [Go.IntKind.wrap_i64]; omega) 8 (x * 256) y (by omega) (by omega) (by omega) g0 (by omega) (by omega)]
 omega
/-- The bytes at a place. -/
def bytesAt (s : ByteArray) (at_ : Int) (many : Nat) : List Int := (List.range many).map fun j : Nat => bt s (at_ + (j : Int))
theorem bytesAt_length (s : ByteArray) (at_ : Int) (many : Nat) : (bytesAt s at_ many).length = many := by simp [bytesAt]
theorem bytesAt_bytes (s : ByteArray) (at_ : Int) (many : Nat) : Bytes (bytesAt s at_ many) := by
 intro x hx
 simp only [bytesAt, List.mem_map] at hx
 obtain ⟨j, _, rfl⟩ := hx
 have := bt_range s (at_ + (j : Int))
 omega
theorem bytesAt_get (s : ByteArray) (at_ : Int) (many i : Nat) (h : i < (bytesAt s at_ many).length) : (bytesAt s at_ many)[i] = bt s (at_ + (i : Int)) := by simp [bytesAt]
/-- The number of so many bytes at a place; false: there are none. -/
def getN (s : ByteArray) (at_ : Int) (many : Nat) : Int × Bool := if 0 ≤ at_ ∧ at_ + (many : Int) ≤ s.size then (le (bytesAt s at_ many), true) else (0, false)
theorem drop_cons_i {α : Type} (l : List α) (i : Nat) (h : i < l.length) : l.drop i = l[i] :: l.drop (i + 1) := List.drop_eq_getElem_cons h
theorem num_number_l0 (xs : List Int) (hb : Bytes xs) (hl : xs.length ≤ 6) : ∀ (i : Nat), i ≤ xs.length → Ev (fun k => num_number.l0 k xs (le (xs.drop i)) (i : Int)) (le xs)
 | 0, _ => by
  refine Ev.step (f := fun _ => some (le xs)) (fun k => ?_) (Ev.now _)
  simp only [num_number.l0]
  rw [if_neg (by omega)]
  rfl
 | i + 1, h => by
  have hi : i < xs.length := by omega
  have hs := le_small (xs.drop (i + 1)) (hb.drop _) (by simp; omega)
  have hx := hb xs[i] (List.getElem_mem hi)
  refine Ev.step (f := fun k => num_number.l0 k xs (le (xs.drop i)) (i : Int)) (fun k => ?_) (num_number_l0 xs hb hl i (by omega))
  simp only [num_number.l0]
  rw [if_pos (by omega), w64 (x := ((i + 1 : Nat) : Int) - 1) (by omega) (by omega), if_pos (by omega), if_pos (by omega), show ((i + 1 : Nat) : Int) - 1 = (i : Int) from by omega, rd_get xs i hi, w64 (x := xs[i]) (by omega) (by omega), w64 (x := le (xs.drop (i + 1)) * 256) (by omega) (by omega), or_join _ _ hs.1 hs.2 hx.1 hx.2, drop_cons_i xs i hi]
  rfl
theorem num_number_ev (xs : List Int) (hb : Bytes xs) (hl : xs.length ≤ 6) : Ev (fun k => num_number.f k xs) (le xs) := by
 have h := num_number_l0 xs hb hl xs.length (Nat.le_refl _)
 rw [List.drop_length] at h
 exact h
theorem num_there_is (s : ByteArray) (at_ many : Int) (hs : s.size ≤ 140737488351232) (h : 0 ≤ many) (h' : many ≤ 100) : num_there.f s at_ many = some (decide (0 ≤ at_ ∧ at_ + many ≤ s.size)) := by
 unfold num_there.f
 rw [w64 (x := (s.size : Int) - many) (by omega) (by omega)]
 by_cases c : at_ ≥ 0
 ·rw [if_pos c]; congr 1; rw [decide_eq_decide]; omega
 ·rw [if_neg c]; congr 1; rw [eq_comm, decide_eq_false_iff_not]; omega
theorem num_Get16_ev (s : ByteArray) (at_ : Int) (hs : s.size ≤ 140737488351232) : Ev (fun k => num_Get16.f k s at_) (getN s at_ 2) := by
 unfold num_Get16.f getN
 refine Ev.call (num_there_is s at_ 2 hs (by omega) (by omega)) ?_
 by_cases h : 0 ≤ at_ ∧ at_ + 2 ≤ (s.size : Int)
 ·refine Ev.pos (by simpa using h) (Ev.pos (by omega) (Ev.pos (by omega) ?_))
  rw [w64 (x := at_ + 1) (by omega) (by omega), if_pos (by simpa using h)]
  refine Ev.pos (by omega) (Ev.pos (by omega) (Ev.bind (a := le (bytesAt s at_ 2)) ?_ (Ev.now _)))
  have e : bytesAt s at_ 2 = [bt s at_, bt s (at_ + 1)] := by simp [bytesAt, List.range_succ]
  rw [e]
  exact num_number_ev _ (e ▸ bytesAt_bytes s at_ 2) (by simp)
 ·refine Ev.neg (by simpa using h) ?_
  rw [if_neg (by simpa using h)]; exact Ev.now _
theorem num_Get32_ev (s : ByteArray) (at_ : Int) (hs : s.size ≤ 140737488351232) : Ev (fun k => num_Get32.f k s at_) (getN s at_ 4) := by
 unfold num_Get32.f getN
 refine Ev.call (num_there_is s at_ 4 hs (by omega) (by omega)) ?_
 by_cases h : 0 ≤ at_ ∧ at_ + 4 ≤ (s.size : Int)
 ·refine Ev.pos (by simpa using h) (Ev.pos (by omega) (Ev.pos (by omega) ?_))
  rw [w64 (x := at_ + 1) (by omega) (by omega), w64 (x := at_ + 2) (by omega) (by omega), w64 (x := at_ + 3) (by omega) (by omega), if_pos (by simpa using h)]
  refine Ev.pos (by omega) (Ev.pos (by omega) (Ev.pos (by omega) (Ev.pos (by omega) (Ev.pos (by omega) (Ev.pos (by omega) (Ev.bind (a := le (bytesAt s at_ 4)) ?_ (Ev.now _)))))))
  have e : bytesAt s at_ 4 = [bt s at_, bt s (at_ + 1), bt s (at_ + 2), bt s (at_ + 3)] := by simp [bytesAt, List.range_succ]
  rw [e]
  exact num_number_ev _ (e ▸ bytesAt_bytes s at_ 4) (by simp)
 ·refine Ev.neg (by simpa using h) ?_
  rw [if_neg (by simpa using h)]; exact Ev.now _
theorem ref_get_l0 (s : ByteArray) (at_ : Int) (many : Nat) (hs : s.size ≤ 140737488351232) (hm : many ≤ 6) (h0 : 0 ≤ at_) (h1 : at_ + (many : Int) ≤ s.size) : ∀ (i : Nat), i ≤ many →
  Ev (fun k => sr03get.l0 k s at_ (le ((bytesAt s at_ many).drop i)) ((i : Int) - 1)) (le (bytesAt s at_ many), true)
 | 0, _ => by
  refine Ev.step (f := fun _ => some (le (bytesAt s at_ many), true)) (fun k => ?_) (Ev.now _)
  simp only [sr03get.l0]
  rw [if_neg (by omega)]
  rfl
 | i + 1, h => by
  have hl := bytesAt_length s at_ many
  have hi : i < (bytesAt s at_ many).length := by omega
  have hb := bytesAt_bytes s at_ many
  have hs2 := le_small ((bytesAt s at_ many).drop (i + 1)) (hb.drop _) (by simp; omega)
  have hx := bt_range s (at_ + (i : Int))
  refine Ev.step (f := fun k => sr03get.l0 k s at_ (le ((bytesAt s at_ many).drop i)) ((i : Int) - 1)) (fun k => ?_) (ref_get_l0 s at_ many hs hm h0 h1 i (by omega))
  simp only [sr03get.l0]
  rw [show ((i + 1 : Nat) : Int) - 1 = (i : Int) from by omega, if_pos (by omega), w64 (x := at_ + (i : Int)) (by omega) (by omega), if_pos (by omega), if_pos (by omega), w64 (x := bt s (at_ + (i : Int))) (by omega) (by omega), w64 (x := 256 * le ((bytesAt s at_ many).drop (i + 1))) (by omega) (by omega), w64 (x := 256 * le ((bytesAt s at_ many).drop (i + 1)) + bt s (at_ + (i : Int))) (by omega) (by omega), w64 (x := (i : Int) - 1) (by omega) (by omega), drop_cons_i _ i hi, bytesAt_get s at_ many i hi]
  simp only [le]
  rw [Int.add_comm]
theorem ref_get_ev (s : ByteArray) (at_ : Int) (many : Nat) (hs : s.size ≤ 140737488351232) (hm : many ≤ 6) : Ev (fun k => sr03get.f k s at_ (many : Int)) (getN s at_ many) := by
 unfold sr03get.f getN
 have no : Ev (fun k => sr03get.j0 k s at_ (many : Int) true) (0, false) := by
  refine Ev.step (f := fun _ => some (0, false)) (fun k => by rw [sr03get.j0, if_pos rfl]) (Ev.now _)
 by_cases c : at_ < 0
 ·refine Ev.pos c ?_
  rw [if_neg (by omega)]; exact no
 ·refine Ev.neg c ?_
  rw [w64 (x := (s.size : Int) - (many : Int)) (by omega) (by omega)]
  by_cases h : at_ + (many : Int) ≤ s.size
  ·rw [if_pos ⟨by omega, h⟩, decide_eq_false (by omega)]
   have e := ref_get_l0 s at_ many hs hm (by omega) h many (Nat.le_refl _)
   rw [List.drop_of_length_le (by rw [bytesAt_length]; omega)] at e
   refine Ev.step (fun k => by rw [sr03get.j0, if_neg (by decide), w64 (x := (many : Int) - 1) (by omega) (by omega)]; rfl) e
  ·rw [if_neg (by omega), decide_eq_true (by omega)]; exact no
theorem ref_Get16_ev (s : ByteArray) (at_ : Int) (hs : s.size ≤ 140737488351232) : Ev (fun k => sr03Get16.f k s at_) (getN s at_ 2) :=
 Ev.bind (ref_get_ev s at_ 2 hs (by omega)) (Ev.now _)
theorem ref_Get32_ev (s : ByteArray) (at_ : Int) (hs : s.size ≤ 140737488351232) : Ev (fun k => sr03Get32.f k s at_) (getN s at_ 4) :=
 Ev.bind (ref_get_ev s at_ 4 hs (by omega)) (Ev.now _)
/-- A number in so many bytes. -/
def putN (n : Int) : Nat → List Int
 | 0 => []
 | m + 1 => n % 256 :: putN (n / 256) m
def put16 (n : Int) : ByteArray := strOfNums (putN n 2)
def put32 (n : Int) : ByteArray := strOfNums (putN n 4)
end Go.Proofs.Ytnndanfghlnpfaa.P
