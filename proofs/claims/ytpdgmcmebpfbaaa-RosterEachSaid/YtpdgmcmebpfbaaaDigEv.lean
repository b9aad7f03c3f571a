/- Digits: what the program's and the reference's come to. -/
import Derived.Test.YtpdgmcmebpfbaaaPx1
import Derived.Test.YtpdgmcmebpfbaaaPx4
import Derived.Test.YtpdgmcmebpfbaaaNumEv
namespace Go.Proofs.Ytpdgmcmebpfbaaa.P
open Go.RowKit Go.Proofs.YtpdgmcmebpfbaaaW.PrintWords Go.Proofs.YtpdgmcmebpfbaaaW.PrintLast
/-- The last digits of a number, and what is left of it ahead of them. -/
def digs : Nat → Int → List Int
 | 0, _ => []
 | j + 1, n => digs j (n / 10) ++ [48 + n % 10]
def cut10 : Nat → Int → Int
 | 0, n => n
 | j + 1, n => cut10 j (n / 10)
theorem digs_length (j : Nat) : ∀ n, (digs j n).length = j := by
 induction j with
 | zero => intro n; rfl
 | succ j ih => intro n; simp [digs, ih]
theorem cut10_succ (j : Nat) : ∀ n, cut10 (j + 1) n = cut10 j n / 10 := by
 induction j with
 | zero => intro n; rfl
 | succ j ih => intro n; rw [cut10, ih, cut10]
theorem cut10_range (j : Nat) : ∀ n, 0 ≤ n → n ≤ 9223372036854775807 → 0 ≤ cut10 j n ∧ cut10 j n ≤ 9223372036854775807 := by
 induction j with
 | zero => intro n h0 h1; exact ⟨h0, h1⟩
 | succ j ih => intro n h0 h1; exact ih (n / 10) (by omega) (by omega)
theorem digs_succ (j : Nat) : ∀ n, digs (j + 1) n = (48 + cut10 j n % 10) :: digs j n := by
 induction j with
 | zero => intro n; rfl
 | succ j ih => intro n; rw [digs, ih, digs, cut10]; rfl
/-- A number in so many digits; nothing, if that can't be. -/
def digitsOf (n w : Int) : ByteArray := if 0 ≤ n ∧ 1 ≤ w ∧ w ≤ 9 ∧ cut10 w.toNat n = 0 then strOfNums (digs w.toNat n) else ⟨#[]⟩
theorem digit_w (x : Int) (h0 : 0 ≤ x) (h1 : x ≤ 9223372036854775807) : wrap64 (48 + Int.tmod x 10) % 256 = 48 + x % 10 ∧ wrap64 (Int.tdiv x 10) = x / 10 := by
 rw [Int.tmod_eq_emod_of_nonneg h0, Int.tdiv_eq_ediv_of_nonneg h0, w64 (x := 48 + x % 10) (by omega) (by omega), w64 (x := x / 10) (by omega) (by omega)]
 omega
theorem ref_Digits_l0 (n : Int) (w : Nat) (h0 : 0 ≤ n) (h1 : n ≤ 9223372036854775807) (hw : w ≤ 9) : ∀ (i j : Nat), i + j = w →
  Ev (fun k => stylusref03_Digits.l0 k (cut10 j n) (w : Int) (strOfNums (digs j n)) (j : Int)) (if cut10 w n = 0 then strOfNums (digs w n) else ⟨#[]⟩)
 | 0, j, h => by
  obtain rfl : j = w := by omega
  have hr := cut10_range j n h0 h1
  refine Ev.step (f := fun _ => some (if cut10 j n = 0 then strOfNums (digs j n) else ⟨#[]⟩)) (fun k => ?_) (Ev.now _)
  simp only [stylusref03_Digits.l0]
  rw [if_neg (by omega)]
  by_cases c : cut10 j n = 0
  ·rw [if_neg (by omega), if_pos c]
  ·rw [if_pos (by omega), if_neg c]
 | i + 1, j, h => by
  have hr := cut10_range j n h0 h1
  obtain ⟨d1, d2⟩ := digit_w (cut10 j n) hr.1 hr.2
  refine Ev.step (fun k => ?_) (ref_Digits_l0 n w h0 h1 hw i (j + 1) (by omega))
  simp only [stylusref03_Digits.l0]
  rw [if_pos (by omega), d1, d2, w64 (x := (j : Int) + 1) (by omega) (by omega), cut10_succ, digs_succ]
  simp only [Option.bind_some]
  rw [if_pos (by rw [strOfNums_size, strOfNums_size, digs_length]; simp; omega)]
  congr 1
theorem ref_Digits_ev (n w : Int) (hn : -9223372036854775808 ≤ n ∧ n ≤ 9223372036854775807) (hw : -9223372036854775808 ≤ w ∧ w ≤ 9223372036854775807) : Ev (fun k => stylusref03_Digits.f k n w) (digitsOf n w) := by
 unfold stylusref03_Digits.f digitsOf
 have no : Ev (fun k => stylusref03_Digits.j0 k n w true) (⟨#[]⟩ : ByteArray) := Ev.step (f := fun _ => some _) (fun k => by rw [stylusref03_Digits.j0, if_pos rfl]) (Ev.now _)
 by_cases h : 0 ≤ n ∧ 1 ≤ w ∧ w ≤ 9
 ·refine Ev.neg (by omega) (Ev.neg (by omega) ?_)
  rw [decide_eq_false (by omega)]
  obtain ⟨m, rfl⟩ : ∃ m : Nat, w = (m : Int) := ⟨w.toNat, by omega⟩
  have e := ref_Digits_l0 n m h.1 hn.2 (by omega) m 0 (by omega)
  rw [show (if 0 ≤ n ∧ 1 ≤ (m : Int) ∧ (m : Int) ≤ 9 ∧ cut10 ((m : Int)).toNat n = 0 then strOfNums (digs ((m : Int)).toNat n) else (⟨#[]⟩ : ByteArray)) = if cut10 m n = 0 then strOfNums (digs m n) else ⟨#[]⟩ from by
   rw [Int.toNat_natCast]
   by_cases c : cut10 m n = 0
   ·rw [if_pos c, if_pos ⟨h.1, h.2.1, h.2.2, c⟩]
   ·rw [if_neg c, if_neg (fun z => c z.2.2.2)]]
  refine Ev.step (fun k => ?_) e
  rw [stylusref03_Digits.j0, if_neg (by decide)]
  rfl
 ·rw [if_neg (fun z => h ⟨z.1, z.2.1, z.2.2.1⟩)]
  by_cases c0 : w < 1
  ·exact Ev.pos c0 no
  ·refine Ev.neg c0 ?_
   by_cases c1 : w > 9
   ·exact Ev.pos c1 no
   ·rw [decide_eq_true (by omega)]
    exact Ev.neg c1 no
/-- What digits say, going on from a number. -/
def parseL : List UInt8 → Int → Option Int
 | [], n => some n
 | c :: l, n => if 48 ≤ c.toNat ∧ c.toNat ≤ 57 then parseL l (10 * n + (c.toNat - 48 : Int)) else none
def parseOf (s : ByteArray) : Int × Bool := if s.size = 0 ∨ 9 < s.size then (0, false) else match parseL s.data.toList 0 with | some n => (n, true) | none => (0, false)
def told (o : Option Int) : Int × Bool := match o with | some n => (n, true) | none => (0, false)
theorem bt_list (s : ByteArray) (i : Nat) (h : i < s.data.toList.length) : bt s (i : Int) = ((s.data.toList[i]).toNat : Int) := by
 have h' : i < s.size := by rw [data_length] at h; exact h
 unfold bt
 rw [dif_pos (by simpa using h')]
 simp
 rfl
theorem toList_nil (s : ByteArray) : s.toList = [] ↔ s.size = 0 := by
 rw [ByteArray.toList_eq, ← data_length]
 exact ⟨fun h => by rw [h]; rfl, fun h => List.eq_nil_of_length_eq_zero h⟩
theorem num_digit_is (c : Int) : num_digit.f c = some (decide (48 ≤ c ∧ c ≤ 57)) := by
 unfold num_digit.f
 by_cases h : c ≥ 48
 ·rw [if_pos h]; congr 1; rw [decide_eq_decide]; omega
 ·rw [if_neg h]; congr 1; rw [eq_comm, decide_eq_false_iff_not]; omega
theorem num_Parse_l0 (s : ByteArray) (hs : s.size ≤ 9) : ∀ (d i : Nat) (n : Int), i + d = s.data.toList.length → 0 ≤ n → n < ((10 ^ i : Nat) : Int) →
  Ev (fun k => num_Parse.l0 k s n (s.size : Int) (i : Int)) (told (parseL (s.data.toList.drop i) n))
 | 0, i, n, h, _, _ => by
  have hz := data_length s
  rw [List.drop_of_length_le (by omega)]
  refine Ev.step (f := fun _ => some (n, true)) (fun k => ?_) (Ev.now _)
  simp only [num_Parse.l0]
  rw [if_neg (by omega)]
 | d + 1, i, n, h, h0, h1 => by
  have hz := data_length s
  have hi : i < s.data.toList.length := by omega
  have hp : 10 ^ i ≤ 10 ^ 8 := Nat.pow_le_pow_right (by decide) (by omega)
  have hq : (10 ^ 8 : Nat) = 100000000 := by decide
  have hb := bt_range s (i : Int)
  have hbl := bt_list s i hi
  rw [drop_cons_i _ i hi]
  by_cases c : 48 ≤ bt s (i : Int) ∧ bt s (i : Int) ≤ 57
  ·have e := num_Parse_l0 s hs d (i + 1) (10 * n + (s.data.toList[i].toNat - 48 : Int)) (by omega) (by omega) (by rw [Nat.pow_succ]; omega)
   simp only [parseL]
   rw [if_pos (by omega)]
   refine Ev.step (fun k => ?_) e
   simp only [num_Parse.l0]
   rw [if_pos (by omega), if_pos (by omega), if_pos (by omega), num_digit_is, decide_eq_true c]
   simp only [Option.bind_some]
   rw [if_pos trivial, w64 (x := (i : Int) + 1) (by omega) (by omega), w64 (x := n * 10) (by omega) (by omega), w64 (by omega) (by omega)]
   congr 1
   omega
  ·simp only [parseL]
   rw [if_neg (by omega)]
   refine Ev.step (f := fun _ => some (0, false)) (fun k => ?_) (Ev.now _)
   simp only [num_Parse.l0]
   rw [if_pos (by omega), if_pos (by omega), if_pos (by omega), num_digit_is, decide_eq_false c]
   rfl
theorem num_Parse_ev (s : ByteArray) (hs : s.size ≤ 140737488351232) : Ev (fun k => num_Parse.f k s) (parseOf s) := by
 unfold num_Parse.f parseOf
 have no : Ev (fun k => num_Parse.j0 k s true) (0, false) := Ev.step (f := fun _ => some _) (fun k => by rw [num_Parse.j0, if_pos rfl]) (Ev.now _)
 by_cases h : s.size = 0 ∨ 9 < s.size
 ·rw [if_pos h]
  by_cases c : s.toList = []
  ·exact Ev.pos c no
  ·have h9 : 9 < s.size := h.resolve_left (fun z => c ((toList_nil s).mpr z))
   rw [show decide ((s.size : Int) > 9) = true from decide_eq_true (by omega)]
   exact Ev.neg c no
 ·rw [if_neg h]
  refine Ev.neg (fun z => h (.inl ((toList_nil s).mp z))) ?_
  rw [decide_eq_false (by omega)]
  have e := num_Parse_l0 s (by omega) s.data.toList.length 0 0 (by omega) (by omega) (by decide)
  rw [List.drop_zero] at e
  refine Ev.step (fun k => ?_) e
  rw [num_Parse.j0, if_neg (by decide)]
  rfl
theorem ref_Parse_l0 (s : ByteArray) (hs : s.size ≤ 9) : ∀ (d i : Nat) (n : Int), i + d = s.data.toList.length → 0 ≤ n → n < ((10 ^ i : Nat) : Int) →
  Ev (fun k => stylusref03_Parse.l0 k s n (i : Int)) (told (parseL (s.data.toList.drop i) n))
 | 0, i, n, h, _, _ => by
  have hz := data_length s
  rw [List.drop_of_length_le (by omega)]
  refine Ev.step (f := fun _ => some (n, true)) (fun k => ?_) (Ev.now _)
  simp only [stylusref03_Parse.l0]
  rw [if_neg (by omega)]
 | d + 1, i, n, h, h0, h1 => by
  have hz := data_length s
  have hi : i < s.data.toList.length := by omega
  have hp : 10 ^ i ≤ 10 ^ 8 := Nat.pow_le_pow_right (by decide) (by omega)
  have hq : (10 ^ 8 : Nat) = 100000000 := by decide
  have hb := bt_range s (i : Int)
  have hbl := bt_list s i hi
  rw [drop_cons_i _ i hi]
  by_cases c : 48 ≤ bt s (i : Int) ∧ bt s (i : Int) ≤ 57
  ·have e := ref_Parse_l0 s hs d (i + 1) (10 * n + (s.data.toList[i].toNat - 48 : Int)) (by omega) (by omega) (by rw [Nat.pow_succ]; omega)
   simp only [parseL]
   rw [if_pos (by omega)]
   refine Ev.step (fun k => ?_) e
   simp only [stylusref03_Parse.l0]
   rw [if_pos (by omega), if_pos (by omega), if_neg (by omega), if_neg (by omega), w64 (x := (i : Int) + 1) (by omega) (by omega), w64 (x := 10 * n) (by omega) (by omega), w64 (by omega) (by omega)]
   congr 1
   omega
  ·simp only [parseL]
   rw [if_neg (by omega)]
   refine Ev.step (f := fun _ => some (0, false)) (fun k => ?_) (Ev.now _)
   simp only [stylusref03_Parse.l0]
   rw [if_pos (by omega), if_pos (by omega)]
   by_cases c2 : bt s (i : Int) < 48
   ·rw [if_pos c2]
   ·rw [if_neg c2, if_pos (by omega)]
theorem ref_Parse_ev (s : ByteArray) (hs : s.size ≤ 140737488351232) : Ev (fun k => stylusref03_Parse.f k s) (parseOf s) := by
 unfold stylusref03_Parse.f parseOf
 have no : Ev (fun k => stylusref03_Parse.j0 k s true) (0, false) := Ev.step (f := fun _ => some _) (fun k => by rw [stylusref03_Parse.j0, if_pos rfl]) (Ev.now _)
 by_cases h : s.size = 0 ∨ 9 < s.size
 ·rw [if_pos h]
  by_cases c : (s.size : Int) < 1
  ·exact Ev.pos c no
  ·rw [decide_eq_true (by omega)]
   exact Ev.neg c no
 ·rw [if_neg h]
  refine Ev.neg (by omega) ?_
  rw [decide_eq_false (by omega)]
  have e := ref_Parse_l0 s (by omega) s.data.toList.length 0 0 (by omega) (by omega) (by decide)
  rw [List.drop_zero] at e
  refine Ev.step (fun k => ?_) e
  rw [stylusref03_Parse.j0, if_neg (by decide)]
  rfl
theorem parseL_append (l m : List UInt8) : ∀ n, parseL (l ++ m) n = (parseL l n).bind (parseL m) := by
 induction l with
 | nil => intro n; rfl
 | cons c l ih =>
  intro n
  simp only [List.cons_append, parseL]
  split
  ·exact ih _
  ·rfl
end Go.Proofs.Ytpdgmcmebpfbaaa.P
