/- Three texts put together: their pieces, what is said of each, and what that makes: the program's and the reference's. -/
import Derived.Test.YtkbhnkagiaghnaaDoorPx2
import Derived.Test.YtkbhnkagiaghnaaDoorPx3
import Derived.Test.YtkbhnkagiaghnaaDoorPx4
import Derived.Test.YtkbhnkagiaghnaaDoorPx9
import Derived.Test.YtkbhnkagiaghnaaDoorMatchEv
import Derived.Test.YtkbhnkagiaghnaaDoorCutEv
namespace Go.Proofs.YtkbhnkagiaghnaaDoor.P
open Go.RowKit Go.Proofs.YtkbhnkagiaghnaaDoorW.PrintWords Go.Proofs.YtkbhnkagiaghnaaDoorW.PrintLast
/-- The places of all lines that match in both. -/
def sureL : List Int → List Int → Nat → List S38
 | x :: xs, y :: ys, n => if 0 ≤ x ∧ 0 ≤ y then ⟨(n : Int), x, y⟩ :: sureL xs ys (n + 1) else sureL xs ys (n + 1)
 | [], _, _ => []
 | _ :: _, [], _ => []
theorem sureL_len : ∀ (xs ys : List Int) (n : Nat), (sureL xs ys n).length ≤ xs.length
 | x :: xs, y :: ys, n => by
  have := sureL_len xs ys (n + 1)
  rw [sureL]
  split
  ·rw [List.length_cons, List.length_cons]; omega
  ·rw [List.length_cons]; omega
 | [], _, _ => Nat.zero_le _
 | _ :: _, [], _ => Nat.zero_le _
theorem sure_l (N : Nat) (hN : N ≤ 200) (X Y : List Int) (hX : X.length = N) (hY : Y.length = N) : ∀ (d i : Nat) (out : List S38), i + d = N → out.length ≤ i → Ev (fun k => merge_sure.l0 k X Y out (N : Int) (i : Int)) (out ++ sureL (X.drop i) (Y.drop i) i)
 | 0, i, out, hd, ho => by
  rw [List.drop_eq_nil_of_le (by omega), sureL, List.append_nil]
  exact Ev.step (f := fun _ => some out) (fun k => by rw [merge_sure.l0, if_neg (by omega)]) (Ev.now _)
 | d + 1, i, out, hd, ho => by
  have h1 : i < X.length := by omega
  have h2 : i < Y.length := by omega
  rw [List.drop_eq_getElem_cons h1, List.drop_eq_getElem_cons h2, sureL]
  by_cases c1 : 0 ≤ X[i]
  ·by_cases c2 : 0 ≤ Y[i]
   ·rw [if_pos ⟨c1, c2⟩]
    have h := sure_l N hN X Y hX hY d (i + 1) (out ++ [⟨(i : Int), X[i], Y[i]⟩]) (by omega) (by rw [List.length_append]; simp; omega)
    rw [List.append_assoc] at h
    refine Ev.step (fun k => ?_) h
    rw [merge_sure.l0, if_pos (by omega), if_pos (by omega), if_pos (by omega), rdI X i h1, if_pos (by omega), if_pos (by omega), rdI Y i h2, if_pos (by omega), if_pos (by omega), w64 (x := (i : Int) + 1) (by omega) (by omega)]
    rfl
   ·rw [if_neg (by omega)]
    have h := sure_l N hN X Y hX hY d (i + 1) out (by omega) (by omega)
    refine Ev.step (fun k => ?_) h
    rw [merge_sure.l0, if_pos (by omega), if_pos (by omega), if_pos (by omega), rdI X i h1, if_pos (by omega), if_pos (by omega), rdI Y i h2, if_neg (by omega), w64 (x := (i : Int) + 1) (by omega) (by omega)]
    rfl
  ·rw [if_neg (by omega)]
   have h := sure_l N hN X Y hX hY d (i + 1) out (by omega) (by omega)
   refine Ev.step (fun k => ?_) h
   rw [merge_sure.l0, if_pos (by omega), if_pos (by omega), if_pos (by omega), rdI X i h1, if_neg (by omega), w64 (x := (i : Int) + 1) (by omega) (by omega)]
   rfl
theorem sure_ev (a b c : List ByteArray) (ha : a.length ≤ 200) (hb : b.length ≤ 200) (hc : c.length ≤ 200) : Ev (fun k => merge_sure.f k a b c) (sureL (mt a b 0) (mt a c 0) 0) := by
 have h := sure_l a.length ha (mt a b 0) (mt a c 0) (mt_length ..) (mt_length ..) a.length 0 [] (by omega) (Nat.zero_le _)
 unfold merge_sure.f
 exact Ev.call (show hunks_Match.f a b = some (mt a b 0) from if_pos ⟨ha, hb⟩) (Ev.call (show hunks_Match.f a c = some (mt a c 0) from if_pos ⟨ha, hc⟩) (by simpa using h))
/-- A piece: its lines in each of the three, and whether these are the same. -/
abbrev PT := List ByteArray × List ByteArray × List ByteArray × Bool
def pA (p : PT) : S30 := ⟨p.1, p.2.1, p.2.2.1, p.2.2.2⟩
def pB (p : PT) : S31 := ⟨p.1, p.2.1, p.2.2.1, p.2.2.2⟩
def oneP (a b c : List ByteArray) (k i j n x y : Nat) : List PT := if (n - k) + (x - i) + (y - j) = 0 then [] else [((a.take n).drop k, (b.take x).drop i, (c.take y).drop j, false)]
def lineP (a : List ByteArray) (n : Nat) : PT := ((a.take (n + 1)).drop n, (a.take (n + 1)).drop n, (a.take (n + 1)).drop n, true)
def pcP (a b c : List ByteArray) : List Int → List Int → Nat → Nat → Nat → Nat → List PT
 | x :: xs, y :: ys, n, k, i, j => if 0 ≤ x ∧ 0 ≤ y then oneP a b c k i j n x.toNat y.toNat ++ lineP a n :: pcP a b c xs ys (n + 1) (n + 1) (x.toNat + 1) (y.toNat + 1) else pcP a b c xs ys (n + 1) k i j
 | [], _, _, k, i, j => oneP a b c k i j a.length b.length c.length
 | _ :: _, [], _, k, i, j => oneP a b c k i j a.length b.length c.length
theorem oneP_A (a b c : List ByteArray) (k i j n x y : Nat) : pcOne a b c k i j n x y = (oneP a b c k i j n x y).map pA := by
 unfold pcOne oneP
 split <;> rfl
theorem oneP_len (a b c : List ByteArray) (k i j n x y : Nat) : (oneP a b c k i j n x y).length ≤ 1 := by unfold oneP; split <;> simp
theorem pcP_len (a b c : List ByteArray) : ∀ (xs ys : List Int) (n k i j : Nat), (pcP a b c xs ys n k i j).length ≤ 2 * xs.length + 1
 | x :: xs, y :: ys, n, k, i, j => by
  rw [pcP]
  split
  ·have h1 := pcP_len a b c xs ys (n + 1) (n + 1) (x.toNat + 1) (y.toNat + 1)
   have h2 := oneP_len a b c k i j n x.toNat y.toNat
   rw [List.length_append, List.length_cons, List.length_cons]; omega
  ·have h1 := pcP_len a b c xs ys (n + 1) k i j
   rw [List.length_cons]; omega
 | [], _, _, k, i, j => by
  have h2 := oneP_len a b c k i j a.length b.length c.length
  rw [pcP]; simp; omega
 | _ :: _, [], _, k, i, j => by
  have h2 := oneP_len a b c k i j a.length b.length c.length
  rw [pcP]; omega
theorem pc_prog (a b c : List ByteArray) : ∀ (xs ys : List Int) (n k i j : Nat), Fits a b xs n i → Fits a c ys n j → k ≤ n → n ≤ a.length → pcGo a b c (sureL xs ys n) k i j = some ((pcP a b c xs ys n k i j).map pA)
 | [], [], n, k, i, j, hx, hy, hk, hn => by
  obtain ⟨h1, h2⟩ := hx
  obtain ⟨_, h3⟩ := hy
  rw [sureL, pcP, pcGo, if_pos ⟨by omega, h2, h3⟩, oneP_A]
 | [], y :: ys, n, k, i, j, hx, hy, hk, hn => by
  exfalso
  obtain ⟨h1, _⟩ := hx
  rw [Fits] at hy
  split at hy
  ·have := hy.2.2.1; omega
  ·have := hy.1; omega
 | x :: xs, [], n, k, i, j, hx, hy, hk, hn => by
  exfalso
  obtain ⟨h1, _⟩ := hy
  rw [Fits] at hx
  split at hx
  ·have := hx.2.2.1; omega
  ·have := hx.1; omega
 | x :: xs, y :: ys, n, k, i, j, hx, hy, hk, hn => by
  rw [sureL, pcP]
  rw [Fits] at hx hy
  by_cases c1 : 0 ≤ x
  ·rw [if_pos c1] at hx
   by_cases c2 : 0 ≤ y
   ·rw [if_pos c2] at hy
    rw [if_pos ⟨c1, c2⟩, if_pos ⟨c1, c2⟩]
    obtain ⟨x1, x2, x3, _, x5⟩ := hx
    obtain ⟨y1, y2, _, _, y5⟩ := hy
    have h := pc_prog a b c xs ys (n + 1) (n + 1) (x.toNat + 1) (y.toNat + 1) x5 y5 (Nat.le_refl _) (by omega)
    rw [pcGo, if_pos ⟨⟨by dsimp only; omega, by dsimp only; omega⟩, ⟨by dsimp only; omega, by dsimp only; omega⟩, ⟨by dsimp only; omega, by dsimp only; omega⟩⟩]
    dsimp only
    rw [Int.toNat_natCast, h, Option.map_some, oneP_A, List.map_append, List.map_cons]
    rfl
   ·rw [if_neg c2] at hy
    rw [if_neg (fun z => c2 z.2), if_neg (fun z => c2 z.2)]
    obtain ⟨x1, x2, x3, _, x5⟩ := hx
    exact pc_prog a b c xs ys (n + 1) k i j (Fits.lower (by omega) x5) hy.2 (by omega) (by omega)
  ·rw [if_neg c1] at hx
   rw [if_neg (fun z => c1 z.1), if_neg (fun z => c1 z.1)]
   by_cases c2 : 0 ≤ y
   ·rw [if_pos c2] at hy
    obtain ⟨y1, y2, _, _, y5⟩ := hy
    exact pc_prog a b c xs ys (n + 1) k i j hx.2 (Fits.lower (by omega) y5) (by omega) (by have := hx.1; omega)
   ·rw [if_neg c2] at hy
    exact pc_prog a b c xs ys (n + 1) k i j hx.2 hy.2 (by omega) (by have := hx.1; omega)
def pieces (a b c : List ByteArray) : List PT := pcP a b c (mt a b 0) (mt a c 0) 0 0 0 0
theorem fits0 (a b : List ByteArray) : Fits a b (mt a b 0) 0 0 := by
 have h := mt_fits a b _ 0 0 rfl (Nat.zero_le _) (Nat.zero_le _)
 simpa using h
theorem Pieces_ev (a b c : List ByteArray) (ha : a.length ≤ 200) (hb : b.length ≤ 200) (hc : c.length ≤ 200) : Ev (fun k => merge_Pieces.f k a b c) ((pieces a b c).map pA) := by
 unfold merge_Pieces.f
 refine Ev.pos ⟨ha, hb, hc⟩ (Ev.bind (sure_ev a b c ha hb hc) (Ev.pos ?_ ?_))
 ·have h1 := sureL_len (mt a b 0) (mt a c 0) 0
  rw [mt_length] at h1
  omega
 ·rw [pc_prog a b c (mt a b 0) (mt a c 0) 0 0 0 0 (fits0 a b) (fits0 a c) (Nat.le_refl _) (Nat.zero_le _)]
  exact Ev.now _
theorem Pieces_many (a b c : List ByteArray) (h : ¬ (a.length ≤ 200 ∧ b.length ≤ 200 ∧ c.length ≤ 200)) (k : Nat) : merge_Pieces.f k a b c = some [] := if_neg h
/-- What the reference does at a place that matches in both (or behind the last lines). -/
theorem ref_step (a b c : List ByteArray) (ha : a.length ≤ 200) (hb : b.length ≤ 200) (hc : c.length ≤ 200) (X Y : List Int) (n k i j x y : Nat) (out : List S31) (hX : n < X.length) (hY : n < Y.length) (hx : X[n] = (x : Int)) (hy : Y[n] = (y : Int)) (hn : n ≤ a.length) (hk : k ≤ n) (hi : i ≤ x) (hj : j ≤ y) (hxb : x ≤ b.length) (hyc : y ≤ c.length) (ho : out.length ≤ 1000000) (r : List S31)
  (e : Ev (fun q => stylusref52_Pieces.l0 q a b c X Y (out ++ (oneP a b c k i j n x y).map pB ++ (if n < a.length then [pB (lineP a n)] else [])) ((n + 1 : Nat) : Int) ((x + 1 : Nat) : Int) ((y + 1 : Nat) : Int) ((n + 1 : Nat) : Int)) r) :
  Ev (fun q => stylusref52_Pieces.l0 q a b c X Y out (k : Int) (i : Int) (j : Int) (n : Int)) r := by
 have w1 : wrap64 ((n : Int) + 1) = ((n + 1 : Nat) : Int) := w64 (by omega) (by omega)
 have w2 : wrap64 ((x : Int) + 1) = ((x + 1 : Nat) : Int) := w64 (by omega) (by omega)
 have w3 : wrap64 ((y : Int) + 1) = ((y + 1 : Nat) : Int) := w64 (by omega) (by omega)
 have r1 : rd X (n : Int) = (x : Int) := by rw [rdI X n hX, hx]
 have r2 : rd Y (n : Int) = (y : Int) := by rw [rdI Y n hY, hy]
 have R1 := Aside0.mk r1
 have R2 := Aside0.mk r2
 have W1 := Aside0.mk w1
 have W2 := Aside0.mk w2
 have W3 := Aside0.mk w3
 clear r1 r2 w1 w2 w3 hx hy
 refine Ev.step (fun q => by rw [stylusref52_Pieces.l0, if_pos (by omega), if_pos (by omega), if_pos (by omega), R1.out, if_neg (by omega), if_pos (by omega), R2.out, decide_eq_false (show ¬ ((y : Int) < 0) by omega)]) ?_
 refine Ev.step (fun q => by rw [stylusref52_Pieces.j2, if_neg Bool.false_ne_true]) ?_
 by_cases cz : (n - k) + (x - i) + (y - j) = 0
 ·rw [oneP, if_pos cz, List.map_nil, List.append_nil] at e
  refine Ev.neg (by omega) (Ev.pos (by omega) (Ev.pos (by omega) (Ev.neg (by rw [R1.out]; omega) (Ev.pos (by omega) ?_))))
  rw [R2.out, decide_eq_false (show ¬ ((y : Int) > (j : Int)) by omega)]
  by_cases cn : n < a.length
  ·rw [if_pos cn] at e
   refine Ev.step (fun q => ?_) e
   rw [stylusref52_Pieces.j3, if_neg Bool.false_ne_true, if_pos (by omega), if_pos (by omega), W1.out, if_pos (by omega), if_pos (by omega), Option.bind_some, if_pos (by omega), if_pos (by omega), if_pos (by omega), R1.out, R2.out, W2.out, W3.out, Int.toNat_natCast, Int.toNat_natCast]
   rfl
  ·rw [if_neg cn, List.append_nil] at e
   refine Ev.step (fun q => ?_) e
   rw [stylusref52_Pieces.j3, if_neg Bool.false_ne_true, if_neg (by omega), if_pos (by omega), if_pos (by omega), if_pos (by omega), R1.out, R2.out, W1.out, W2.out, W3.out]
 ·have J : Ev (fun q => stylusref52_Pieces.j3 q a b c X Y out (k : Int) (i : Int) (j : Int) (n : Int) true) r := by
   rw [oneP, if_neg cz, List.map_cons, List.map_nil] at e
   have hl : (out ++ [pB ((a.take n).drop k, (b.take x).drop i, (c.take y).drop j, false)]).length < 1759218604441 := by rw [List.length_append]; simp; omega
   by_cases cn : n < a.length
   ·rw [if_pos cn] at e
    refine Ev.step (fun q => ?_) e
    rw [stylusref52_Pieces.j3, if_pos (rfl : true = true), if_pos (by omega), if_pos (by omega), if_pos (by omega), if_pos (by omega), if_pos (by omega), R1.out, R2.out, if_pos (by omega), if_pos (by omega), if_pos (by omega), if_pos (by omega), if_pos (by omega), if_pos (by omega), if_pos (by omega), if_pos (by omega), Option.bind_some, if_pos (by omega), W1.out, if_pos (by omega), if_pos (by omega), Option.bind_some, Int.toNat_natCast, Int.toNat_natCast, Int.toNat_natCast, Int.toNat_natCast, Int.toNat_natCast, Int.toNat_natCast, Int.toNat_natCast, if_pos (show (out ++ [(⟨(a.take n).drop k, (b.take x).drop i, (c.take y).drop j, false⟩ : S31)]).length < 1759218604441 from hl), W2.out, W3.out]
    rfl
   ·rw [if_neg cn, List.append_nil] at e
    refine Ev.step (fun q => ?_) e
    rw [stylusref52_Pieces.j3, if_pos (rfl : true = true), if_pos (by omega), if_pos (by omega), if_pos (by omega), if_pos (by omega), if_pos (by omega), R1.out, R2.out, if_pos (by omega), if_pos (by omega), if_pos (by omega), if_pos (by omega), if_pos (by omega), if_pos (by omega), if_pos (by omega), if_pos (by omega), Option.bind_some, if_neg (by omega), W1.out, W2.out, W3.out, Int.toNat_natCast, Int.toNat_natCast, Int.toNat_natCast, Int.toNat_natCast, Int.toNat_natCast, Int.toNat_natCast]
    rfl
  by_cases d1 : n > k
  ·exact Ev.pos (by omega) J
  ·refine Ev.neg (by omega) (Ev.pos (by omega) (Ev.pos (by omega) ?_))
   by_cases d2 : x > i
   ·exact Ev.pos (by rw [R1.out]; omega) J
   ·refine Ev.neg (by rw [R1.out]; omega) (Ev.pos (by omega) ?_)
    rw [R2.out, decide_eq_true (show (y : Int) > (j : Int) by omega)]
    exact J
/-- .. and at one that does not. -/
theorem ref_skip (a b c : List ByteArray) (ha : a.length ≤ 200) (X Y : List Int) (n : Nat) (k i j : Int) (out : List S31) (hX : n < X.length) (hY : n < Y.length) (hn : n ≤ a.length) (hz : X[n] < 0 ∨ Y[n] < 0) (r : List S31)
  (e : Ev (fun q => stylusref52_Pieces.l0 q a b c X Y out k i j ((n + 1 : Nat) : Int)) r) : Ev (fun q => stylusref52_Pieces.l0 q a b c X Y out k i j (n : Int)) r := by
 have w1 : wrap64 ((n : Int) + 1) = ((n + 1 : Nat) : Int) := w64 (by omega) (by omega)
 have J : Ev (fun q => stylusref52_Pieces.j2 q a b c X Y out k i j (n : Int) true) r := Ev.step (fun q => by rw [stylusref52_Pieces.j2, if_pos (rfl : true = true), w1]) e
 by_cases c1 : X[n] < 0
 ·exact Ev.step (fun q => by rw [stylusref52_Pieces.l0, if_pos (by omega), if_pos (by omega), if_pos (by omega), rdI X n hX, if_pos c1]) J
 ·have c2 : Y[n] < 0 := by omega
  exact Ev.step (fun q => by rw [stylusref52_Pieces.l0, if_pos (by omega), if_pos (by omega), if_pos (by omega), rdI X n hX, if_neg c1, if_pos (by omega), rdI Y n hY, decide_eq_true c2]) J
theorem ref_l (a b c : List ByteArray) (ha : a.length ≤ 200) (hb : b.length ≤ 200) (hc : c.length ≤ 200) (XS YS : List Int) (hX : XS.length = a.length) (hY : YS.length = a.length) : ∀ (d n k i j : Nat) (out : List S31), n + d = a.length → k ≤ n → Fits a b (XS.drop n) n i → Fits a c (YS.drop n) n j → out.length ≤ 2 * n →
  Ev (fun q => stylusref52_Pieces.l0 q a b c (XS ++ [(b.length : Int)]) (YS ++ [(c.length : Int)]) out (k : Int) (i : Int) (j : Int) (n : Int)) (out ++ (pcP a b c (XS.drop n) (YS.drop n) n k i j).map pB)
 | 0, n, k, i, j, out, hd, hk, hx, hy, ho => by
  have e1 : XS.drop n = [] := List.drop_eq_nil_of_le (by omega)
  have e2 : YS.drop n = [] := List.drop_eq_nil_of_le (by omega)
  rw [e1] at hx ⊢
  rw [e2] at hy ⊢
  obtain rfl : n = a.length := by omega
  rw [pcP]
  refine ref_step a b c ha hb hc _ _ a.length k i j b.length c.length out (by simp; omega) (by simp; omega) (by simp [hX]) (by simp [hY]) (Nat.le_refl _) hk hx.2 hy.2 (Nat.le_refl _) (Nat.le_refl _) (by omega) _ ?_
  rw [if_neg (Nat.lt_irrefl _), List.append_nil]
  exact Ev.step (f := fun _ => some _) (fun q => by rw [stylusref52_Pieces.l0, if_neg (by omega)]) (Ev.now _)
 | d + 1, n, k, i, j, out, hd, hk, hx, hy, ho => by
  have h1 : n < XS.length := by omega
  have h2 : n < YS.length := by omega
  have g1 : n < (XS ++ [(b.length : Int)]).length := by simp; omega
  have g2 : n < (YS ++ [(c.length : Int)]).length := by simp; omega
  have v1 : (XS ++ [(b.length : Int)])[n] = XS[n] := List.getElem_append_left h1
  have v2 : (YS ++ [(c.length : Int)])[n] = YS[n] := List.getElem_append_left h2
  rw [List.drop_eq_getElem_cons h1, Fits] at hx
  rw [List.drop_eq_getElem_cons h2, Fits] at hy
  rw [List.drop_eq_getElem_cons h1, List.drop_eq_getElem_cons h2, pcP]
  by_cases c1 : 0 ≤ XS[n]
  ·rw [if_pos c1] at hx
   obtain ⟨x1, x2, x3, _, x5⟩ := hx
   by_cases c2 : 0 ≤ YS[n]
   ·rw [if_pos c2] at hy
    obtain ⟨y1, y2, _, _, y5⟩ := hy
    rw [if_pos ⟨c1, c2⟩]
    have hl := oneP_len a b c k i j n XS[n].toNat YS[n].toNat
    have h := ref_l a b c ha hb hc XS YS hX hY d (n + 1) (n + 1) (XS[n].toNat + 1) (YS[n].toNat + 1) (out ++ (oneP a b c k i j n XS[n].toNat YS[n].toNat).map pB ++ [pB (lineP a n)]) (by omega) (Nat.le_refl _) x5 y5 (by rw [List.length_append, List.length_append, List.length_map]; simp; omega)
    refine ref_step a b c ha hb hc _ _ n k i j XS[n].toNat YS[n].toNat out g1 g2 (by rw [v1]; omega) (by rw [v2]; omega) (by omega) hk x1 y1 (by omega) (by omega) (by omega) _ ?_
    rw [if_pos (by omega), List.map_append, List.map_cons]
    simp only [List.append_assoc, List.cons_append, List.nil_append] at h ⊢
    exact h
   ·rw [if_neg c2] at hy
    rw [if_neg (fun z => c2 z.2)]
    exact ref_skip a b c ha _ _ n _ _ _ out g1 g2 (by omega) (by rw [v2]; omega) _ (ref_l a b c ha hb hc XS YS hX hY d (n + 1) k i j out (by omega) (by omega) (Fits.lower (by omega) x5) hy.2 (by omega))
  ·rw [if_neg c1] at hx
   rw [if_neg (fun z => c1 z.1)]
   have hf : Fits a c (YS.drop (n + 1)) (n + 1) j := by
    by_cases c2 : 0 ≤ YS[n]
    ·rw [if_pos c2] at hy
     exact Fits.lower (by omega) hy.2.2.2.2
    ·rw [if_neg c2] at hy
     exact hy.2
   exact ref_skip a b c ha _ _ n _ _ _ out g1 g2 (by omega) (by rw [v1]; omega) _ (ref_l a b c ha hb hc XS YS hX hY d (n + 1) k i j out (by omega) (by omega) hx.2 hf (by omega))
theorem refPieces_ev (a b c : List ByteArray) (ha : a.length ≤ 200) (hb : b.length ≤ 200) (hc : c.length ≤ 200) : Ev (fun k => stylusref52_Pieces.f k a b c) ((pieces a b c).map pB) := by
 unfold stylusref52_Pieces.f
 refine Ev.neg (by omega) (Ev.neg (by omega) ?_)
 rw [decide_eq_false (show ¬ ((c.length : Int) > 200) by omega)]
 refine Ev.step (fun k => by rw [stylusref52_Pieces.j0, if_neg Bool.false_ne_true]) (Ev.bind (ref_Match_ev a b ha hb) (Ev.pos (show (mt a b 0).length < 17592186044416 by rw [mt_length]; omega) (Ev.bind (ref_Match_ev a c ha hc) (Ev.pos (show (mt a c 0).length < 17592186044416 by rw [mt_length]; omega) ?_))))
 have h := ref_l a b c ha hb hc (mt a b 0) (mt a c 0) (mt_length ..) (mt_length ..) a.length 0 0 0 0 [] (by omega) (Nat.le_refl _) (by simpa using fits0 a b) (by simpa using fits0 a c) (Nat.zero_le _)
 simpa [pieces] using h
theorem refPieces_many (a b c : List ByteArray) (h : ¬ (a.length ≤ 200 ∧ b.length ≤ 200 ∧ c.length ≤ 200)) : Ev (fun k => stylusref52_Pieces.f k a b c) [] := by
 have J : Ev (fun k => stylusref52_Pieces.j0 k a b c true) ([] : List S31) := Ev.step (f := fun _ => some []) (fun k => by rw [stylusref52_Pieces.j0, if_pos (rfl : true = true)]) (Ev.now _)
 unfold stylusref52_Pieces.f
 by_cases c1 : a.length > 200
 ·exact Ev.pos (by omega) J
 refine Ev.neg (by omega) ?_
 by_cases c2 : b.length > 200
 ·exact Ev.pos (by omega) J
 refine Ev.neg (by omega) ?_
 rw [decide_eq_true (show (c.length : Int) > 200 by omega)]
 exact J
end Go.Proofs.YtkbhnkagiaghnaaDoor.P
