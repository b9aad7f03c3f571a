/- Calls and answers as text: what the program's and the reference's come to. -/
import Derived.Test.YtednfgphhelkjaaDoorPx2
import Derived.Test.YtednfgphhelkjaaDoorPx3
import Derived.Test.YtednfgphhelkjaaDoorPx4
import Derived.Test.YtednfgphhelkjaaDoorPx5
import Derived.Test.YtednfgphhelkjaaDoorEvKit
namespace Go.Proofs.YtednfgphhelkjaaDoor.P
open Go.RowKit Go.Proofs.YtednfgphhelkjaaDoorW.PrintWords Go.Proofs.YtednfgphhelkjaaDoorW.PrintLast
def tby (l : List UInt8) : ByteArray := ⟨l.toArray⟩
theorem tby_data (l : List UInt8) : (tby l).data.toList = l := rfl
theorem tby_size (l : List UInt8) : (tby l).size = l.length := rfl
theorem tby_self (s : ByteArray) : tby s.data.toList = s := ByteArray.ext (by simp [tby])
theorem tby_append (a b : List UInt8) : tby a ++ tby b = tby (a ++ b) := by
 apply ByteArray.ext
 apply Array.ext'
 simp [tby]
theorem tby_nums (l : List Int) : strOfNums l = tby (l.map fun n => UInt8.ofNat n.toNat) := rfl
/-- A number's digits. -/
def dg (n : Nat) : List UInt8 := if n < 10 then [UInt8.ofNat (48 + n % 10)] else dg (n / 10) ++ [UInt8.ofNat (48 + n % 10)]
termination_by n
decreasing_by omega
theorem dg_len (j : Nat) : ∀ n, n < 10 ^ (j + 1) → 1 ≤ (dg n).length ∧ (dg n).length ≤ j + 1 := by
 induction j with
 | zero => intro n h; rw [dg, if_pos (by simpa using h)]; simp
 | succ j ih =>
  intro n h
  rw [dg]
  by_cases c : n < 10
  ·rw [if_pos c]; simp
  ·rw [if_neg c, List.length_append]
   have h1 := ih (n / 10) (by rw [Nat.pow_succ] at h; omega)
   simp
   omega
theorem dg_size (n : Nat) (h : n ≤ 18446744073709551615) : 1 ≤ (dg n).length ∧ (dg n).length ≤ 20 := dg_len 19 n (by omega)
theorem u64_w (x : Int) (h0 : 0 ≤ x) (h1 : x ≤ 18446744073709551615) : IntKind.u64.wrap x = x := by
 simp only [IntKind.wrap, IntKind.bits, IntKind.signed]
 simp
 omega
theorem u64_n (x : Int) (h0 : -9223372036854775808 ≤ x) (h1 : x < 0) : IntKind.u64.wrap (-(IntKind.u64.wrap x)) = -x := by
 simp only [IntKind.wrap, IntKind.bits, IntKind.signed]
 simp
 omega
theorem plain_ev : ∀ n : Nat, n ≤ 18446744073709551615 → Ev (fun k => stylusref03_plain.f k (n : Int)) (tby (dg n)) := by
 intro n
 induction n using Nat.strongRecOn with
 | ind n ih =>
  intro h
  have e1 : (IntKind.u64.wrap (48 + (Int.tmod (n : Int) 10))) % 256 = ((48 + n % 10 : Nat) : Int) := by
   rw [Int.tmod_eq_emod_of_nonneg (by omega), u64_w _ (by omega) (by omega)]
   omega
  have e2 : IntKind.u64.wrap (Int.tdiv (n : Int) 10) = ((n / 10 : Nat) : Int) := by
   rw [Int.tdiv_eq_ediv_of_nonneg (by omega), u64_w _ (by omega) (by omega)]
   omega
  refine Ev.step (fun k => by rw [stylusref03_plain.f, e1, e2, Option.bind_some, tby_nums, List.map_cons, List.map_nil, Int.toNat_natCast]) ?_
  rw [dg]
  by_cases c : n < 10
  ·rw [if_pos c]
   exact Ev.pos (by omega) (Ev.now _)
  ·rw [if_neg c]
   have hl := dg_size (n / 10) (by omega)
   refine Ev.neg (by omega) (Ev.bind (ih (n / 10) (by omega) (by omega)) (Ev.pos (by rw [tby_size, tby_size, List.length_singleton]; omega) ?_))
   rw [tby_append]
   exact Ev.now _
/-- A number's text, with a sign if it is below 0. -/
def dec (n : Int) : List UInt8 := if n < 0 then 45 :: dg (-n).toNat else dg n.toNat
theorem dec_len (n : Int) (h : -9223372036854775808 ≤ n ∧ n ≤ 9223372036854775807) : 1 ≤ (dec n).length ∧ (dec n).length ≤ 21 := by
 unfold dec
 by_cases c : n < 0
 ·rw [if_pos c]
  have := dg_size (-n).toNat (by omega)
  simp
  omega
 ·rw [if_neg c]
  have := dg_size n.toNat (by omega)
  omega
theorem Plain_ev (n : Int) (h : -9223372036854775808 ≤ n ∧ n ≤ 9223372036854775807) : Ev (fun k => stylusref03_Plain.f k n) (tby (dec n)) := by
 unfold stylusref03_Plain.f dec
 by_cases c : n < 0
 ·rw [if_pos c]
  refine Ev.pos c ?_
  rw [u64_n n h.1 c, show (-n) = (((-n).toNat : Nat) : Int) from by omega, Int.toNat_natCast]
  have hl := dg_size (-n).toNat (by omega)
  refine Ev.bind (plain_ev _ (by omega)) (Ev.pos (by rw [tby_size]; omega) ?_)
  exact Ev.end fun _ => congrArg some (tby_append [45] _)
 ·rw [if_neg c]
  refine Ev.neg c ?_
  rw [u64_w n (by omega) (by omega)]
  have hn := plain_ev n.toNat (by omega)
  rw [show ((n.toNat : Nat) : Int) = n from by omega] at hn
  exact Ev.bind hn (Ev.now _)
/-- One digit of base 16. -/
def hd (d : Nat) : Nat := if d < 10 then 48 + d else 87 + d
def hx (l : List UInt8) : List UInt8 := l.flatMap fun b => [UInt8.ofNat (hd (b.toNat / 16)), UInt8.ofNat (hd (b.toNat % 16))]
def hexL (l : List UInt8) : List UInt8 := 120 :: hx l
theorem hx_cons (b : UInt8) (l : List UInt8) : hx (b :: l) = UInt8.ofNat (hd (b.toNat / 16)) :: UInt8.ofNat (hd (b.toNat % 16)) :: hx l := by simp [hx]
theorem hx_len (l : List UInt8) : (hx l).length = 2 * l.length := by
 induction l with
 | nil => rfl
 | cons b l ih => rw [hx_cons]; simp [ih]; omega
theorem hd_lt (d : Nat) (h : d < 16) : hd d < 128 := by unfold hd; split <;> omega
theorem ref_digit_is (d : Nat) (h : d < 16) : stylusref45_digit.f (d : Int) = some (hd d : Int) := by
 unfold stylusref45_digit.f hd
 by_cases c : d < 10
 ·rw [if_pos (by omega), if_pos c, w64 (by omega) (by omega)]; congr 1; omega
 ·rw [if_neg (by omega), if_neg c, w64 (x := 97 + (d : Int)) (by omega) (by omega), w64 (by omega) (by omega)]; congr 1; omega
def hxn (l : List UInt8) : List Nat := l.flatMap fun b => [hd (b.toNat / 16), hd (b.toNat % 16)]
theorem hxn_cons (b : UInt8) (l : List UInt8) : hxn (b :: l) = hd (b.toNat / 16) :: hd (b.toNat % 16) :: hxn l := by simp [hxn]
theorem hxn_map (l : List UInt8) : (hxn l).map UInt8.ofNat = hx l := by
 induction l with
 | nil => rfl
 | cons b l ih => rw [hxn_cons, hx_cons, ← ih]; rfl
theorem hxn_lt (l : List UInt8) : ∀ x ∈ hxn l, x < 128 := by
 induction l with
 | nil => intro x hx; simp [hxn] at hx
 | cons b l ih =>
  intro x hx
  have hb : b.toNat < 256 := b.toNat_lt
  rw [hxn_cons] at hx
  rcases List.mem_cons.1 hx with rfl | hx
  ·exact hd_lt _ (by omega)
  ·rcases List.mem_cons.1 hx with rfl | hx
   ·exact hd_lt _ (by omega)
   ·exact ih x hx
theorem tbt (s : ByteArray) (i : Nat) (h : i < s.data.toList.length) : bt s (i : Int) = ((s.data.toList[i]).toNat : Int) := by
 have h' : i < s.size := by rw [data_length] at h; exact h
 unfold bt
 rw [dif_pos (by simpa using h')]
 simp
 rfl
theorem ref_hex_l0 (s : ByteArray) (hs : s.size ≤ 100000) : ∀ (d i : Nat) (o : List Int), i + d = s.data.toList.length → o.length ≤ 2 * i + 1 →
  Ev (fun k => stylusref45_hex.l0 k s o (i : Int)) (strOfNums (o ++ (hxn (s.data.toList.drop i)).map fun x : Nat => (x : Int)))
 | 0, i, o, h, ho => by
  have hz := data_length s
  rw [List.drop_of_length_le (by omega), show (hxn []).map (fun x : Nat => (x : Int)) = [] from rfl, List.append_nil]
  refine Ev.step (f := fun _ => some (strOfNums o)) (fun k => ?_) (Ev.now _)
  rw [stylusref45_hex.l0, if_neg (by omega)]
 | d + 1, i, o, h, ho => by
  have hz := data_length s
  have hi : i < s.data.toList.length := by omega
  have hb : (s.data.toList[i]).toNat < 256 := (s.data.toList[i]).toNat_lt
  have e := ref_hex_l0 s hs d (i + 1) (o ++ [((hd ((s.data.toList[i]).toNat / 16) : Nat) : Int), ((hd ((s.data.toList[i]).toNat % 16) : Nat) : Int)]) (by omega) (by rw [List.length_append]; simp; omega)
  have e1 : wrap64 (Int.tdiv (wrap64 (bt s (i : Int))) 16) = (((s.data.toList[i]).toNat / 16 : Nat) : Int) := by
   rw [tbt s i hi, w64 (x := ((s.data.toList[i]).toNat : Int)) (by omega) (by omega), Int.tdiv_eq_ediv_of_nonneg (by omega), w64 (by omega) (by omega)]
   omega
  have e2 : Int.tmod (wrap64 (bt s (i : Int))) 16 = (((s.data.toList[i]).toNat % 16 : Nat) : Int) := by
   rw [tbt s i hi, w64 (x := ((s.data.toList[i]).toNat : Int)) (by omega) (by omega), Int.tmod_eq_emod_of_nonneg (by omega)]
   omega
  rw [List.drop_eq_getElem_cons hi, hxn_cons]
  rw [List.append_assoc] at e
  refine Ev.step (fun k => ?_) e
  rw [stylusref45_hex.l0, if_pos (by omega), if_pos (by omega), e1, e2, ref_digit_is _ (by omega), ref_digit_is _ (by omega)]
  simp only [Option.bind_some]
  rw [if_pos (by simp; omega), w64 (x := (i : Int) + 1) (by omega) (by omega)]
  rfl
theorem ref_hex_ev (s : ByteArray) (hs : s.size ≤ 100000) : Ev (fun k => stylusref45_hex.f k s) (tby (hexL s.data.toList)) := by
 have e := ref_hex_l0 s hs s.data.toList.length 0 [120] (by omega) (by simp)
 unfold stylusref45_hex.f
 refine Ev.to e ?_
 rw [List.drop_zero, tby_nums, List.map_append, List.map_map]
 unfold hexL
 rw [← hxn_map]
 rfl
/-- Four texts, with a blank between. -/
def four (x y z u : List UInt8) : List UInt8 := x ++ (32 :: (y ++ (32 :: (z ++ (32 :: u)))))
theorem cat_is (x y z u : List UInt8) : (((((tby x ++ (⟨#[32]⟩ : ByteArray)) ++ tby y) ++ (⟨#[32]⟩ : ByteArray)) ++ tby z) ++ (⟨#[32]⟩ : ByteArray)) ++ tby u = tby (four x y z u) := by
 rw [show (⟨#[32]⟩ : ByteArray) = tby [32] from rfl]
 simp only [tby_append]
 unfold four
 congr 1
 simp
def rightB (k a n : Int) (s : ByteArray) : Bool := decide (1 ≤ k ∧ k ≤ 18 ∧ 0 ≤ a ∧ a ≤ 2147483647 ∧ 0 ≤ n ∧ n ≤ 2147483647 ∧ s.size ≤ 512)
theorem within_is (a : Int) : call_within.f a = some (decide (0 ≤ a ∧ a ≤ 2147483647)) := by
 unfold call_within.f
 by_cases c : a ≥ 0
 ·rw [if_pos c]; congr 1; rw [decide_eq_decide]; omega
 ·rw [if_neg c]; congr 1; rw [eq_comm, decide_eq_false_iff_not]; omega
theorem Right_is (k a n : Int) (s : ByteArray) : call_Right.f k a n s = some (rightB k a n s) := by
 unfold call_Right.f rightB
 have hf : ∀ p : Prop, [Decidable p] → ¬ p → (some false : Option Bool) = some (decide p) := fun p _ h => by rw [decide_eq_false h]
 by_cases c1 : k ≥ 1
 ·rw [if_pos c1]
  by_cases c2 : k ≤ 18
  ·rw [if_pos c2, within_is, Option.bind_some]
   by_cases c3 : 0 ≤ a ∧ a ≤ 2147483647
   ·rw [decide_eq_true c3, if_pos (rfl : true = true), within_is, Option.bind_some]
    by_cases c4 : 0 ≤ n ∧ n ≤ 2147483647
    ·rw [decide_eq_true c4, if_pos (rfl : true = true)]
     congr 1; rw [decide_eq_decide]; omega
    ·rw [decide_eq_false c4, if_neg Bool.false_ne_true]
     exact hf _ (by omega)
   ·rw [decide_eq_false c3, if_neg Bool.false_ne_true]
    exact hf _ (by omega)
  ·rw [if_neg c2]; exact hf _ (by omega)
 ·rw [if_neg c1]; exact hf _ (by omega)
theorem ref_Right_is (k a n : Int) (s : ByteArray) : stylusref42_Right.f k a n s = some (rightB k a n s) := by
 unfold stylusref42_Right.f rightB
 have hf : ∀ p : Prop, [Decidable p] → ¬ p → (some false : Option Bool) = some (decide p) := fun p _ h => by rw [decide_eq_false h]
 by_cases c1 : k ≥ 1
 ·rw [if_pos c1]
  by_cases c2 : k ≤ 18
  ·rw [if_pos c2]
   by_cases c3 : a ≥ 0
   ·rw [if_pos c3]
    by_cases c4 : a ≤ 2147483647
    ·rw [if_pos c4]
     by_cases c5 : n ≥ 0
     ·rw [if_pos c5]
      by_cases c6 : n ≤ 2147483647
      ·rw [if_pos c6]
       congr 1; rw [decide_eq_decide]; omega
      ·rw [if_neg c6]; exact hf _ (by omega)
     ·rw [if_neg c5]; exact hf _ (by omega)
    ·rw [if_neg c4]; exact hf _ (by omega)
   ·rw [if_neg c3]; exact hf _ (by omega)
  ·rw [if_neg c2]; exact hf _ (by omega)
 ·rw [if_neg c1]; exact hf _ (by omega)
def wordK (k : Int) : List UInt8 := (wordsL.getD (k - 1).toNat ByteArray.empty).data.toList
theorem words_small : ∀ x ∈ wordsL, x.size ≤ 10 := by decide +kernel
theorem wordK_len (k : Int) : (wordK k).length ≤ 10 := by
 unfold wordK
 rw [data_length, List.getD_eq_getElem?_getD]
 cases h : wordsL[(k - 1).toNat]? with
 | none => decide
 | some x => exact words_small x (List.mem_of_getElem? h)
theorem word_is (k : Int) (h0 : 1 ≤ k) (h1 : k ≤ 18) : stylusref45_word.f k = some (tby (wordK k)) := by
 have e : stylusref45_word.f k = (if 0 ≤ wrap64 (k - 1) then (if wrap64 (k - 1) < (wordsL.length : Int) then some (rdOf ByteArray.empty wordsL (wrap64 (k - 1))) else none) else none) := rfl
 rw [e, w64 (x := k - 1) (by omega) (by omega), if_pos (by omega), if_pos (by rw [show wordsL.length = 18 from rfl]; omega)]
 unfold wordK rdOf
 rw [tby_self]
def callT (k a n : Int) (s : ByteArray) : List UInt8 := four (wordK k) (dec a) (dec n) (hexL s.data.toList)
def callE (k a n : Int) (s : ByteArray) : List UInt8 := if rightB k a n s = true then callT k a n s else []
theorem ref_Call_ev (k a n : Int) (s : ByteArray) : Ev (fun r => stylusref45_Call.f r k a n s) (tby (callE k a n s)) := by
 unfold stylusref45_Call.f callE
 refine Ev.call (ref_Right_is k a n s) ?_
 by_cases c : rightB k a n s = true
 ·have h := of_decide_eq_true c
  have h1 := dec_len a (by omega)
  have h2 := dec_len n (by omega)
  have h3 := wordK_len k
  have hl : (hexL s.data.toList).length ≤ 2000 := by unfold hexL; rw [List.length_cons, hx_len, data_length]; omega
  have sz : ∀ x y : ByteArray, (x ++ y).size = x.size + y.size := fun x y => ByteArray.size_append
  have s32 : (⟨#[32]⟩ : ByteArray).size = 1 := rfl
  rw [if_pos c]
  refine Ev.pos c (Ev.call (word_is k (by omega) (by omega)) ?_)
  refine Ev.pos (by rw [tby_size]; omega) (Ev.bind (Plain_ev a (by omega)) ?_)
  refine Ev.pos (by simp only [sz, s32, tby_size]; omega) (Ev.pos (by simp only [sz, s32, tby_size]; omega) (Ev.bind (Plain_ev n (by omega)) ?_))
  refine Ev.pos (by simp only [sz, s32, tby_size]; omega) (Ev.pos (by simp only [sz, s32, tby_size]; omega) (Ev.bind (ref_hex_ev s (by omega)) ?_))
  refine Ev.pos (by simp only [sz, s32, tby_size]; omega) ?_
  rw [cat_is]
  exact Ev.now _
 ·rw [if_neg c]
  exact Ev.neg c (Ev.now _)
end Go.Proofs.YtednfgphhelkjaaDoor.P
