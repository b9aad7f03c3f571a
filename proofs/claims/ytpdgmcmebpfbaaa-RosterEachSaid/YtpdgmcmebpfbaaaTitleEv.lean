/- Names of files: what the program's and the reference's makings and readings come to. -/
import Derived.Test.YtpdgmcmebpfbaaaPx1
import Derived.Test.YtpdgmcmebpfbaaaPx2
import Derived.Test.YtpdgmcmebpfbaaaPx4
import Derived.Test.YtpdgmcmebpfbaaaPx5
import Derived.Lib.IndexLaws
import Derived.Test.YtpdgmcmebpfbaaaDigEv
import Derived.Test.YtpdgmcmebpfbaaaCat
namespace Go.Proofs.Ytpdgmcmebpfbaaa.P
open Go.RowKit Go.Proofs.YtpdgmcmebpfbaaaW.PrintWords Go.Proofs.YtpdgmcmebpfbaaaW.PrintLast
def plainB (b : Int) : Bool := decide ((97 ≤ b ∧ b ≤ 122) ∨ (48 ≤ b ∧ b ≤ 57))
def mayB (b : Int) : Bool := plainB b || (decide (b = 45) || decide (b = 46))
def allFrom (p : Int → Bool) (s : ByteArray) : Nat → Nat → Bool
 | 0, _ => true
 | d + 1, i => p (bt s (i : Int)) && allFrom p s d (i + 1)
def mayOf (s : ByteArray) : Bool := decide (1 ≤ s.size ∧ s.size ≤ 24) && allFrom mayB s s.size 0
def userOf (s : ByteArray) : Bool := decide (1 ≤ s.size ∧ s.size ≤ 16) && allFrom plainB s s.size 0
theorem plain_is (b : Int) : title_plain.f b = some (plainB b) := by
 unfold title_plain.f plainB
 by_cases h0 : 97 ≤ b
 ·rw [if_pos h0]
  by_cases h1 : b ≤ 122
  ·rw [if_pos h1, decide_eq_true (by omega)]
  ·rw [if_neg h1, if_pos (show 48 ≤ b by omega)]
   by_cases h2 : b ≤ 57
   ·omega
   ·rw [decide_eq_false h2, decide_eq_false (by omega)]
 ·rw [if_neg h0]
  by_cases h1 : 48 ≤ b
  ·rw [if_pos h1]
   by_cases h2 : b ≤ 57
   ·rw [decide_eq_true h2, decide_eq_true (by omega)]
   ·rw [decide_eq_false h2, decide_eq_false (by omega)]
  ·rw [if_neg h1, decide_eq_false (by omega)]
theorem small_is (b : Int) : stylusref08_small.f b = some (plainB b) := plain_is b
theorem title_May_l0 (s : ByteArray) (hs : s.size ≤ 140737488351232) : ∀ (d i : Nat), i + d = s.size → Ev (fun k => title_May.l0 k s (s.size : Int) (i : Int)) (allFrom mayB s d i)
 | 0, i, hd => Ev.step (f := fun _ => some true) (fun k => by rw [title_May.l0, if_neg (by omega)]) (Ev.now _)
 | d + 1, i, hd => by
  have e := title_May_l0 s hs d (i + 1) (by omega)
  refine Ev.step (fun k => by rw [title_May.l0, if_pos (show (i : Int) < (s.size : Int) by omega), if_pos (show (0 : Int) ≤ (i : Int) by omega), if_pos (show (i : Int) < (s.size : Int) by omega), w64 (x := (i : Int) + 1) (by omega) (by omega)]) ?_
  unfold allFrom mayB
  by_cases c0 : bt s (i : Int) = 45
  ·refine Ev.pos c0 ?_
   rw [decide_eq_true c0, Bool.true_or, Bool.or_true, Bool.true_and]; exact e
  refine Ev.neg c0 ?_
  by_cases c1 : bt s (i : Int) = 46
  ·refine Ev.pos c1 ?_
   rw [decide_eq_true c1, Bool.or_true, Bool.or_true, Bool.true_and]; exact e
  refine Ev.neg c1 (Ev.call (plain_is _) ?_)
  rw [decide_eq_false c0, decide_eq_false c1, Bool.or_false, Bool.or_false]
  cases hp : plainB (bt s (i : Int)) with
  | true => exact Ev.pos rfl e
  | false => exact Ev.neg Bool.false_ne_true (Ev.now _)
theorem title_May_ev (s : ByteArray) (hs : s.size ≤ 140737488351232) : Ev (fun k => title_May.f k s) (mayOf s) := by
 unfold title_May.f mayOf
 by_cases h0 : s.toList = []
 ·have hz := (toList_nil s).1 h0
  rw [decide_eq_false (show ¬ (1 ≤ s.size ∧ s.size ≤ 24) by omega), Bool.false_and]
  exact Ev.pos h0 (Ev.step (f := fun _ => some false) (fun k => by rw [title_May.j0, if_pos (rfl : true = true)]) (Ev.now _))
 ·have hz : s.size ≠ 0 := fun z => h0 ((toList_nil s).2 z)
  refine Ev.neg h0 ?_
  by_cases h1 : (s.size : Int) > 24
  ·rw [decide_eq_true h1, decide_eq_false (show ¬ (1 ≤ s.size ∧ s.size ≤ 24) by omega), Bool.false_and]
   exact Ev.step (f := fun _ => some false) (fun k => by rw [title_May.j0, if_pos (rfl : true = true)]) (Ev.now _)
  ·rw [decide_eq_false h1, decide_eq_true (show 1 ≤ s.size ∧ s.size ≤ 24 by omega), Bool.true_and]
   exact Ev.step (fun k => by rw [title_May.j0, if_neg Bool.false_ne_true]; rfl) (title_May_l0 s hs s.size 0 (by omega))
theorem title_User_l0 (s : ByteArray) (hs : s.size ≤ 140737488351232) : ∀ (d i : Nat), i + d = s.size → Ev (fun k => title_User.l0 k s (s.size : Int) (i : Int)) (allFrom plainB s d i)
 | 0, i, hd => Ev.step (f := fun _ => some true) (fun k => by rw [title_User.l0, if_neg (by omega)]) (Ev.now _)
 | d + 1, i, hd => by
  have e := title_User_l0 s hs d (i + 1) (by omega)
  refine Ev.step (fun k => by rw [title_User.l0, if_pos (show (i : Int) < (s.size : Int) by omega), if_pos (show (0 : Int) ≤ (i : Int) by omega), if_pos (show (i : Int) < (s.size : Int) by omega), w64 (x := (i : Int) + 1) (by omega) (by omega)]) ?_
  unfold allFrom
  refine Ev.call (plain_is _) ?_
  cases hp : plainB (bt s (i : Int)) with
  | true => exact Ev.pos rfl e
  | false => exact Ev.neg Bool.false_ne_true (Ev.now _)
theorem title_User_ev (s : ByteArray) (hs : s.size ≤ 140737488351232) : Ev (fun k => title_User.f k s) (userOf s) := by
 unfold title_User.f userOf
 by_cases h0 : s.toList = []
 ·have hz := (toList_nil s).1 h0
  rw [decide_eq_false (show ¬ (1 ≤ s.size ∧ s.size ≤ 16) by omega), Bool.false_and]
  exact Ev.pos h0 (Ev.step (f := fun _ => some false) (fun k => by rw [title_User.j0, if_pos (rfl : true = true)]) (Ev.now _))
 ·have hz : s.size ≠ 0 := fun z => h0 ((toList_nil s).2 z)
  refine Ev.neg h0 ?_
  by_cases h1 : (s.size : Int) > 16
  ·rw [decide_eq_true h1, decide_eq_false (show ¬ (1 ≤ s.size ∧ s.size ≤ 16) by omega), Bool.false_and]
   exact Ev.step (f := fun _ => some false) (fun k => by rw [title_User.j0, if_pos (rfl : true = true)]) (Ev.now _)
  ·rw [decide_eq_false h1, decide_eq_true (show 1 ≤ s.size ∧ s.size ≤ 16 by omega), Bool.true_and]
   exact Ev.step (fun k => by rw [title_User.j0, if_neg Bool.false_ne_true]; rfl) (title_User_l0 s hs s.size 0 (by omega))
theorem ref_May_l0 (s : ByteArray) (hs : s.size ≤ 140737488351232) : ∀ (d i : Nat), i + d = s.size → Ev (fun k => stylusref08_May.l0 k s (i : Int)) (decide (1 ≤ s.size ∧ s.size ≤ 24) && allFrom mayB s d i)
 | 0, i, hd => by
  refine Ev.step (fun k => by rw [stylusref08_May.l0, if_neg (by omega)]) ?_
  unfold allFrom
  rw [Bool.and_true]
  by_cases c : (s.size : Int) ≥ 1
  ·refine Ev.pos c (Ev.to (Ev.now _) ?_)
   rw [decide_eq_decide]; omega
  ·rw [decide_eq_false (show ¬ (1 ≤ s.size ∧ s.size ≤ 24) by omega)]; exact Ev.neg c (Ev.now _)
 | d + 1, i, hd => by
  have e := ref_May_l0 s hs d (i + 1) (by omega)
  refine Ev.step (fun k => by rw [stylusref08_May.l0, if_pos (show (i : Int) < (s.size : Int) by omega), if_pos (show (0 : Int) ≤ (i : Int) by omega), w64 (x := (i : Int) + 1) (by omega) (by omega)]) ?_
  unfold allFrom mayB
  refine Ev.call (small_is _) ?_
  cases hp : plainB (bt s (i : Int)) with
  | true => rw [Bool.true_or, Bool.true_and]; exact Ev.pos rfl e
  | false =>
   refine Ev.neg Bool.false_ne_true ?_
   rw [Bool.false_or]
   by_cases c0 : bt s (i : Int) = 45
   ·refine Ev.pos c0 ?_; rw [decide_eq_true c0, Bool.true_or, Bool.true_and]; exact e
   refine Ev.neg c0 ?_
   by_cases c1 : bt s (i : Int) = 46
   ·refine Ev.pos c1 ?_; rw [decide_eq_true c1, Bool.or_true, Bool.true_and]; exact e
   ·refine Ev.neg c1 ?_; rw [decide_eq_false c0, decide_eq_false c1, Bool.or_false, Bool.false_and, Bool.and_false]; exact Ev.now _
theorem ref_May_ev (s : ByteArray) (hs : s.size ≤ 140737488351232) : Ev (fun k => stylusref08_May.f k s) (mayOf s) := ref_May_l0 s hs s.size 0 (by omega)
theorem ref_User_l0 (s : ByteArray) (hs : s.size ≤ 140737488351232) : ∀ (d i : Nat), i + d = s.size → Ev (fun k => stylusref08_User.l0 k s (i : Int)) (decide (1 ≤ s.size ∧ s.size ≤ 16) && allFrom plainB s d i)
 | 0, i, hd => by
  refine Ev.step (fun k => by rw [stylusref08_User.l0, if_neg (by omega)]) ?_
  unfold allFrom
  rw [Bool.and_true]
  by_cases c : (s.size : Int) ≥ 1
  ·refine Ev.pos c (Ev.to (Ev.now _) ?_)
   rw [decide_eq_decide]; omega
  ·rw [decide_eq_false (show ¬ (1 ≤ s.size ∧ s.size ≤ 16) by omega)]; exact Ev.neg c (Ev.now _)
 | d + 1, i, hd => by
  have e := ref_User_l0 s hs d (i + 1) (by omega)
  refine Ev.step (fun k => by rw [stylusref08_User.l0, if_pos (show (i : Int) < (s.size : Int) by omega), if_pos (show (0 : Int) ≤ (i : Int) by omega), w64 (x := (i : Int) + 1) (by omega) (by omega)]) ?_
  unfold allFrom
  refine Ev.call (small_is _) ?_
  cases hp : plainB (bt s (i : Int)) with
  | true => rw [Bool.true_and]; exact Ev.pos rfl e
  | false => rw [Bool.false_and, Bool.and_false]; exact Ev.neg Bool.false_ne_true (Ev.now _)
theorem ref_User_ev (s : ByteArray) (hs : s.size ≤ 140737488351232) : Ev (fun k => stylusref08_User.f k s) (userOf s) := ref_User_l0 s hs s.size 0 (by omega)
/-! Names that are made. -/
def ckp : ByteArray := ⟨#[99, 104, 101, 99, 107, 45]⟩
def lgp : ByteArray := ⟨#[108, 111, 103, 45]⟩
def tmpp : ByteArray := ⟨#[116, 109, 112, 45]⟩
def xp : ByteArray := ⟨#[120, 45]⟩
def dash : ByteArray := ⟨#[45]⟩
def ofCheck (e : Int) : ByteArray := if (digitsOf e 6).size = 0 then ⟨#[]⟩ else ckp ++ digitsOf e 6
def ofLog (e p : Int) : ByteArray := if (digitsOf e 6).size = 0 ∨ (digitsOf p 4).size = 0 then ⟨#[]⟩ else ((lgp ++ digitsOf e 6) ++ dash) ++ digitsOf p 4
def ofExport (s : ByteArray) : ByteArray := if userOf s = true then xp ++ s else ⟨#[]⟩
theorem digits_small (n w : Int) : (digitsOf n w).size ≤ 9 := by
 unfold digitsOf
 split
 ·rename_i h; rw [strOfNums_size, digs_length]; omega
 ·decide
theorem ref_OfCheck_ev (e : Int) (he : -9223372036854775808 ≤ e ∧ e ≤ 9223372036854775807) : Ev (fun k => stylusref08_OfCheck.f k e) (ofCheck e) := by
 unfold stylusref08_OfCheck.f ofCheck
 refine Ev.bind (ref_Digits_ev e 6 he (by decide)) ?_
 have hd := digits_small e 6
 by_cases h : (digitsOf e 6).toList = []
 ·refine Ev.pos h ?_; rw [if_pos ((toList_nil _).1 h)]; exact Ev.now _
 ·refine Ev.neg h ?_
  rw [if_neg (fun z => h ((toList_nil _).2 z))]
  exact Ev.pos (by omega) (Ev.now _)
theorem ref_OfLog_ev (e p : Int) (he : -9223372036854775808 ≤ e ∧ e ≤ 9223372036854775807) (hp : -9223372036854775808 ≤ p ∧ p ≤ 9223372036854775807) : Ev (fun k => stylusref08_OfLog.f k e p) (ofLog e p) := by
 unfold stylusref08_OfLog.f ofLog
 refine Ev.bind (ref_Digits_ev e 6 he (by decide)) (Ev.bind (ref_Digits_ev p 4 hp (by decide)) ?_)
 have hd := digits_small e 6
 have hd2 := digits_small p 4
 by_cases h : (digitsOf e 6).toList = []
 ·refine Ev.pos h ?_; rw [if_pos (Or.inl ((toList_nil _).1 h))]; exact Ev.now _
 ·refine Ev.neg h ?_
  have h' : (digitsOf e 6).size ≠ 0 := fun z => h ((toList_nil _).2 z)
  by_cases g : (digitsOf p 4).toList = []
  ·refine Ev.pos g ?_; rw [if_pos (Or.inr ((toList_nil _).1 g))]; exact Ev.now _
  ·have g' : (digitsOf p 4).size ≠ 0 := fun z => g ((toList_nil _).2 z)
   refine Ev.neg g ?_
   rw [if_neg (show ¬ ((digitsOf e 6).size = 0 ∨ (digitsOf p 4).size = 0) by omega)]
   refine Ev.pos (by omega) (Ev.pos ?_ (Ev.pos ?_ (Ev.now _)))
   ·rw [ByteArray.size_append]; show 4 + _ + _ ≤ _; omega
   ·rw [ByteArray.size_append, ByteArray.size_append]; show 4 + _ + 1 + _ ≤ _; omega
theorem ref_OfExport_ev (s : ByteArray) (hs : s.size ≤ 140737488351232) : Ev (fun k => stylusref08_OfExport.f k s) (ofExport s) := by
 unfold stylusref08_OfExport.f ofExport
 refine Ev.bind (ref_User_ev s hs) ?_
 by_cases h : userOf s = true
 ·refine Ev.pos h ?_
  rw [if_pos h]
  exact Ev.pos (by omega) (Ev.now _)
 ·refine Ev.neg h ?_; rw [if_neg h]; exact Ev.now _
end Go.Proofs.Ytpdgmcmebpfbaaa.P
