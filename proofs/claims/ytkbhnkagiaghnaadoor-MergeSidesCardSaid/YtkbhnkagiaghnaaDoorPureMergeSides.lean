/- What one side alone changed is taken, and what both changed alike, and nothing is torn then; both sides turned round are torn as much. -/
import Derived.Test.YtkbhnkagiaghnaaDoorPx2
import Derived.Test.YtkbhnkagiaghnaaDoorPx6
import Derived.Test.YtkbhnkagiaghnaaDoorPx13
import Derived.Test.YtkbhnkagiaghnaaDoorMergeTe
namespace Go.Proofs.YtkbhnkagiaghnaaDoor.Pure
open Go.RowKit Go.Proofs.YtkbhnkagiaghnaaDoor.P Go.Proofs.YtkbhnkagiaghnaaDoorW.PrintWords Go.Proofs.YtkbhnkagiaghnaaDoorW.PrintLast
/-- A text's lines match themselves. -/
def idL : Nat → Nat → List Int
 | 0, _ => []
 | n + 1, j => (j : Int) :: idL n (j + 1)
theorem mt_id : ∀ (a : List ByteArray) (j : Nat), mt a a (j : Int) = idL a.length j
 | [], _ => rfl
 | x :: a, j => by
  rw [mt_cons, if_pos rfl, List.length_cons, idL, ← mt_id a (j + 1)]
  rfl
theorem outL_app (x y : List PT) : outL (x ++ y) = outL x ++ outL y := by simp [outL]
theorem tornN_app : ∀ x y : List PT, tornN (x ++ y) = tornN x + tornN y
 | [], y => by rw [List.nil_append, tornN, Int.zero_add]
 | p :: x, y => by rw [List.cons_append, tornN, tornN, tornN_app x y]; omega
theorem vd_line (a : List ByteArray) (n : Nat) : vd (lineP a n) = (catL ((a.take (n + 1)).drop n), false) := if_pos (.inl rfl)
theorem line_cat (a : List ByteArray) (n : Nat) (h : n < a.length) : (a.take (n + 1)).drop n = [a[n]] := by
 rw [List.take_succ_eq_append_getElem h, List.drop_append_of_le_length (by rw [List.length_take]; omega), List.drop_eq_nil_of_le (by rw [List.length_take]; omega)]
 rfl
theorem drop_cut (c : List ByteArray) (j y : Nat) (h1 : j ≤ y) (h2 : y < c.length) : catL (c.drop j) = catL ((c.take y).drop j) ++ (c[y].data.toList ++ catL (c.drop (y + 1))) := by
 rw [← catL_cons, ← List.drop_eq_getElem_cons h2, ← catL_app]
 congr 1
 have := List.take_append_drop y c
 conv => lhs; rw [← this]
 rw [List.drop_append_of_le_length (by rw [List.length_take]; omega)]
/-- The second text is the base: the third is taken. -/
theorem one_B (a c : List ByteArray) (k j n y : Nat) : outL (oneP a a c k k j n n y) = catL ((c.take y).drop j) ∧ tornN (oneP a a c k k j n n y) = 0 := by
 unfold oneP
 split
 ·rename_i h
  rw [show (c.take y).drop j = [] from List.drop_eq_nil_of_le (by rw [List.length_take]; omega)]
  exact ⟨rfl, rfl⟩
 ·have e : vd ((a.take n).drop k, (a.take n).drop k, (c.take y).drop j, false) = (catL ((c.take y).drop j), false) := by
   unfold vd
   split
   ·rename_i h
    rcases h with h | h | h
    ·cases h
    ·dsimp only at h ⊢; rw [h]
    ·dsimp only at h ⊢; rw [h]
   ·rw [if_pos rfl]
  rw [outL_cons, tornN, e]
  exact ⟨List.append_nil _, rfl⟩
theorem side_B (a c : List ByteArray) : ∀ (ys : List Int) (m n k j : Nat), n + m = a.length → k ≤ n → Fits a c ys n j → outL (pcP a a c (idL m n) ys n k k j) = catL (c.drop j) ∧ tornN (pcP a a c (idL m n) ys n k k j) = 0
 | [], m, n, k, j, hm, hk, hf => by
  obtain ⟨h1, h2⟩ := hf
  obtain rfl : m = 0 := by omega
  rw [idL, pcP, show c.drop j = (c.take c.length).drop j by rw [List.take_length]]
  exact one_B a c k j a.length c.length
 | y :: ys, m, n, k, j, hm, hk, hf => by
  rw [Fits] at hf
  obtain ⟨q, rfl⟩ : ∃ q, m = q + 1 := by
   rcases m with _ | q
   ·split at hf
    ·have := hf.2.2.1; omega
    ·have := hf.1; omega
   ·exact ⟨q, rfl⟩
  rw [idL, pcP]
  by_cases c2 : 0 ≤ y
  ·rw [if_pos c2] at hf
   obtain ⟨f1, f2, f3, f4, f5⟩ := hf
   rw [if_pos ⟨Int.natCast_nonneg _, c2⟩, Int.toNat_natCast]
   obtain ⟨o1, o2⟩ := one_B a c k j n y.toNat
   obtain ⟨i1, i2⟩ := side_B a c ys q (n + 1) (n + 1) (y.toNat + 1) (by omega) (Nat.le_refl _) f5
   rw [List.getElem?_eq_getElem f3, List.getElem?_eq_getElem f2] at f4
   have f6 := Option.some.inj f4
   constructor
   ·rw [outL_app, outL_cons, o1, i1, vd_line, line_cat a n f3, drop_cut c j y.toNat f1 f2, f6, catL_cons]
    simp [catL]
   ·rw [tornN_app, tornN, o2, i2, vd_line]; rfl
  ·rw [if_neg c2] at hf
   rw [if_neg (fun z => c2 z.2)]
   exact side_B a c ys q (n + 1) k j (by omega) (by omega) hf.2
/-- The third text is the base: the second is taken. -/
theorem one_A (a b : List ByteArray) (k i n x : Nat) : outL (oneP a b a k i k n x n) = catL ((b.take x).drop i) ∧ tornN (oneP a b a k i k n x n) = 0 := by
 unfold oneP
 split
 ·rename_i h
  rw [show (b.take x).drop i = [] from List.drop_eq_nil_of_le (by rw [List.length_take]; omega)]
  exact ⟨rfl, rfl⟩
 ·have e : vd ((a.take n).drop k, (b.take x).drop i, (a.take n).drop k, false) = (catL ((b.take x).drop i), false) := if_pos (.inr (.inr rfl))
  rw [outL_cons, tornN, e]
  exact ⟨List.append_nil _, rfl⟩
theorem side_A (a b : List ByteArray) : ∀ (xs : List Int) (m n k i : Nat), n + m = a.length → k ≤ n → Fits a b xs n i → outL (pcP a b a xs (idL m n) n k i k) = catL (b.drop i) ∧ tornN (pcP a b a xs (idL m n) n k i k) = 0
 | [], m, n, k, i, hm, hk, hf => by
  obtain ⟨h1, h2⟩ := hf
  obtain rfl : m = 0 := by omega
  rw [pcP, show b.drop i = (b.take b.length).drop i by rw [List.take_length]]
  exact one_A a b k i a.length b.length
 | x :: xs, m, n, k, i, hm, hk, hf => by
  rw [Fits] at hf
  obtain ⟨q, rfl⟩ : ∃ q, m = q + 1 := by
   rcases m with _ | q
   ·split at hf
    ·have := hf.2.2.1; omega
    ·have := hf.1; omega
   ·exact ⟨q, rfl⟩
  rw [idL, pcP]
  by_cases c2 : 0 ≤ x
  ·rw [if_pos c2] at hf
   obtain ⟨f1, f2, f3, f4, f5⟩ := hf
   rw [if_pos ⟨c2, Int.natCast_nonneg _⟩, Int.toNat_natCast]
   obtain ⟨o1, o2⟩ := one_A a b k i n x.toNat
   obtain ⟨i1, i2⟩ := side_A a b xs q (n + 1) (n + 1) (x.toNat + 1) (by omega) (Nat.le_refl _) f5
   rw [List.getElem?_eq_getElem f3, List.getElem?_eq_getElem f2] at f4
   have f6 := Option.some.inj f4
   constructor
   ·rw [outL_app, outL_cons, o1, i1, vd_line, line_cat a n f3, drop_cut b i x.toNat f1 f2, f6, catL_cons]
    simp [catL]
   ·rw [tornN_app, tornN, o2, i2, vd_line]; rfl
  ·rw [if_neg c2] at hf
   rw [if_neg (fun z => c2 z.1)]
   exact side_A a b xs q (n + 1) k i (by omega) (by omega) hf.2
/-- Both are the same. -/
theorem one_S (a b : List ByteArray) (k i n x : Nat) : outL (oneP a b b k i i n x x) = catL ((b.take x).drop i) ∧ tornN (oneP a b b k i i n x x) = 0 := by
 unfold oneP
 split
 ·rename_i h
  rw [show (b.take x).drop i = [] from List.drop_eq_nil_of_le (by rw [List.length_take]; omega)]
  exact ⟨rfl, rfl⟩
 ·have e : vd ((a.take n).drop k, (b.take x).drop i, (b.take x).drop i, false) = (catL ((b.take x).drop i), false) := if_pos (.inr (.inl rfl))
  rw [outL_cons, tornN, e]
  exact ⟨List.append_nil _, rfl⟩
theorem side_S (a b : List ByteArray) : ∀ (xs : List Int) (n k i : Nat), k ≤ n → Fits a b xs n i → outL (pcP a b b xs xs n k i i) = catL (b.drop i) ∧ tornN (pcP a b b xs xs n k i i) = 0
 | [], n, k, i, hk, hf => by
  rw [pcP, show b.drop i = (b.take b.length).drop i by rw [List.take_length]]
  exact one_S a b k i a.length b.length
 | x :: xs, n, k, i, hk, hf => by
  rw [Fits] at hf
  rw [pcP]
  by_cases c2 : 0 ≤ x
  ·rw [if_pos c2] at hf
   obtain ⟨f1, f2, f3, f4, f5⟩ := hf
   rw [if_pos ⟨c2, c2⟩]
   obtain ⟨o1, o2⟩ := one_S a b k i n x.toNat
   obtain ⟨i1, i2⟩ := side_S a b xs (n + 1) (n + 1) (x.toNat + 1) (Nat.le_refl _) f5
   rw [List.getElem?_eq_getElem f3, List.getElem?_eq_getElem f2] at f4
   have f6 := Option.some.inj f4
   constructor
   ·rw [outL_app, outL_cons, o1, i1, vd_line, line_cat a n f3, drop_cut b i x.toNat f1 f2, f6, catL_cons]
    simp [catL]
   ·rw [tornN_app, tornN, o2, i2, vd_line]; rfl
  ·rw [if_neg c2] at hf
   rw [if_neg (fun z => c2 z.1)]
   exact side_S a b xs (n + 1) k i (by omega) hf.2
/-- Turned round, a piece is torn as it was. -/
theorem vd_torn (x y z : List ByteArray) (b : Bool) : (vd (x, y, z, b)).2 = (vd (x, z, y, b)).2 := by
 unfold vd
 dsimp only
 by_cases h0 : b = true
 ·rw [if_pos (.inl h0), if_pos (.inl h0)]
 by_cases h1 : y = z
 ·rw [if_pos (.inr (.inl h1)), if_pos (.inr (.inl h1.symm))]
 by_cases h2 : z = x
 ·by_cases h3 : y = x
  ·exact absurd (h3.trans h2.symm) h1
  ·rw [if_pos (.inr (.inr h2)), if_neg (fun q => by rcases q with q | q | q; exact h0 q; exact h1 q.symm; exact h3 q), if_pos h2]
 ·by_cases h3 : y = x
  ·rw [if_neg (by simp [h0, h1, h2]), if_pos h3, if_pos (.inr (.inr h3))]
  ·rw [if_neg (by simp [h0, h1, h2]), if_neg h3, if_neg (fun q => by rcases q with q | q | q; exact h0 q; exact h1 q.symm; exact h3 q), if_neg h2]
theorem one_torn (a b c : List ByteArray) (k i j n x y : Nat) : tornN (oneP a b c k i j n x y) = tornN (oneP a c b k j i n y x) := by
 unfold oneP
 by_cases h : (n - k) + (x - i) + (y - j) = 0
 ·rw [if_pos h, if_pos (by omega)]
 ·rw [if_neg h, if_neg (by omega), tornN, tornN, tornN, vd_torn]
  rfl
theorem torn_turn (a b c : List ByteArray) : ∀ (xs ys : List Int) (n k i j : Nat), xs.length = ys.length → tornN (pcP a b c xs ys n k i j) = tornN (pcP a c b ys xs n k j i)
 | [], [], n, k, i, j, _ => by rw [pcP, pcP]; exact one_torn ..
 | x :: xs, y :: ys, n, k, i, j, h => by
  rw [pcP, pcP]
  have h' : xs.length = ys.length := by simpa using h
  by_cases cz : 0 ≤ x ∧ 0 ≤ y
  ·rw [if_pos cz, if_pos ⟨cz.2, cz.1⟩, tornN_app, tornN_app, tornN, tornN, one_torn, torn_turn a b c xs ys _ _ _ _ h']
  ·rw [if_neg cz, if_neg (fun z => cz ⟨z.2, z.1⟩), torn_turn a b c xs ys _ _ _ _ h']
 | [], _ :: _, _, _, _, _, h => by simp at h
 | _ :: _, [], _, _, _, _, h => by simp at h
theorem MergeSides : styluslaw52_MergeSides.Pure := by
 intro x y z _ _ _
 apply Ev.rounds
 have lv : Ev (fun _ => (styluslaw52_lives.f).bind fun t => some t) true := Ev.call (show styluslaw52_lives.f = some true from rfl) (Ev.now _)
 have no : Ev (fun k => styluslaw52_MergeSides.j0 k x y z true) true := Ev.step (fun k => by rw [styluslaw52_MergeSides.j0, if_pos (rfl : true = true)]) lv
 unfold styluslaw52_MergeSides.f
 by_cases ca : (x.size : Int) > 200
 ·exact Ev.pos ca no
 refine Ev.neg ca ?_
 by_cases cb : (y.size : Int) > 200
 ·exact Ev.pos cb no
 refine Ev.neg cb ?_
 by_cases cc : (z.size : Int) > 200
 ·rw [decide_eq_true cc]; exact no
 rw [decide_eq_false cc]
 have lx := linesB_len x
 have ly := linesB_len y
 have lz := linesB_len z
 obtain ⟨b1, b2⟩ := side_B (linesB x) (linesB y) (mt (linesB x) (linesB y) 0) (linesB x).length 0 0 0 (Nat.zero_add _) (Nat.le_refl _) (fits0 _ _)
 obtain ⟨a1, a2⟩ := side_A (linesB x) (linesB y) (mt (linesB x) (linesB y) 0) (linesB x).length 0 0 0 (Nat.zero_add _) (Nat.le_refl _) (fits0 _ _)
 obtain ⟨s1, s2⟩ := side_S (linesB x) (linesB y) (mt (linesB x) (linesB y) 0) 0 0 0 (Nat.le_refl _) (fits0 _ _)
 have t1 := torn_turn (linesB x) (linesB y) (linesB z) (mt (linesB x) (linesB y) 0) (mt (linesB x) (linesB z) 0) 0 0 0 0 (by rw [mt_length, mt_length])
 have id0 : mt (linesB x) (linesB x) 0 = idL (linesB x).length 0 := mt_id (linesB x) 0
 rw [← id0] at b1 b2 a1 a2
 rw [List.drop_zero, linesB_cat] at b1 a1 s1
 have e1 := Merge_ev x x y (by omega) (by omega) (by omega) (by omega) (by omega) (by omega)
 have e2 := Merge_ev x y x (by omega) (by omega) (by omega) (by omega) (by omega) (by omega)
 have e3 := Merge_ev x y y (by omega) (by omega) (by omega) (by omega) (by omega) (by omega)
 have e4 := Merge_ev x y z (by omega) (by omega) (by omega) (by omega) (by omega) (by omega)
 have e5 := Merge_ev x z y (by omega) (by omega) (by omega) (by omega) (by omega) (by omega)
 unfold pieces at e1 e2 e3 e4 e5
 rw [b1, b2, bal_data] at e1
 rw [a1, a2, bal_data] at e2
 rw [s1, s2, bal_data] at e3
 exact Ev.step (fun k => by rw [styluslaw52_MergeSides.j0, if_neg Bool.false_ne_true]) (Ev.bind e1 (Ev.bind e2 (Ev.bind e3 (Ev.bind e4 (Ev.bind e5 (Ev.pos rfl (Ev.pos rfl (Ev.pos rfl (Ev.pos (show wrap64 (wrap64 ((0 : Int) + 0) + 0) = 0 by unfold wrap64; omega) (Ev.pos t1 lv))))))))))
end Go.Proofs.YtkbhnkagiaghnaaDoor.Pure
