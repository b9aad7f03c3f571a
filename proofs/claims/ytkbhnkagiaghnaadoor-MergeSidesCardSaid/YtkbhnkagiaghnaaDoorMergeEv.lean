/- Three texts put together: their pieces, what is said of each, and what that makes: the program's and the reference's. -/
import Derived.Test.YtkbhnkagiaghnaaDoorPx2
import Derived.Test.YtkbhnkagiaghnaaDoorPx3
import Derived.Test.YtkbhnkagiaghnaaDoorPx4
import Derived.Test.YtkbhnkagiaghnaaDoorPx0
import Derived.Test.YtkbhnkagiaghnaaDoorPx7
import Derived.Test.YtkbhnkagiaghnaaDoorMatchEv
import Derived.Test.YtkbhnkagiaghnaaDoorCutEv
namespace Go.Proofs.YtkbhnkagiaghnaaDoor.P
open Go.RowKit Go.Proofs.YtkbhnkagiaghnaaDoorW.PrintWords Go.Proofs.YtkbhnkagiaghnaaDoorW.PrintLast
/-- The places of all lines that match in both. -/
def sureL : List Int → List Int → Nat → List S38
 | x :: xs, y :: ys, n => if 0 ≤ x ∧ 0 ≤ y then ⟨(n : Int), x, y⟩ :: sureL xs ys (n + 1) else sureL xs ys (n + 1)
 | [], _, _ => []
 | _ :: _, [], _ => []
theorem sureL_len : ∀ (xs ys : List Int) (n : Nat), (sureL xs ys n).length ≤ xs.length
 | x :: xs, y :: ys, n => by
  have := sureL_len xs ys (n + 1)
  rw [sureL]
  split
  ·rw [List.length_cons, List.length_cons]; omega
  ·rw [List.length_cons]; omega
 | [], _, _ => Nat.zero_le _
 | _ :: _, [], _ => Nat.zero_le _
theorem sure_l (N : Nat) (hN : N ≤ 200) (X Y : List Int) (hX : X.length = N) (hY : Y.length = N) : ∀ (d i : Nat) (out : List S38), i + d = N → out.length ≤ i → Ev (fun k => merge_sure.l0 k X Y out (N : Int) (i : Int)) (out ++ sureL (X.drop i) (Y.drop i) i)
 | 0, i, out, hd, ho => by
  rw [List.drop_eq_nil_of_le (by omega), sureL, List.append_nil]
  exact Ev.step (f := fun _ => some out) (fun k => by rw [merge_sure.l0, if_neg (by omega)]) (Ev.now _)
 | d + 1, i, out, hd, ho => by
  have h1 : i < X.length := by omega
  have h2 : i < Y.length := by omega
  rw [List.drop_eq_getElem_cons h1, List.drop_eq_getElem_cons h2, sureL]
  by_cases c1 : 0 ≤ X[i]
  ·by_cases c2 : 0 ≤ Y[i]
   ·rw [if_pos ⟨c1, c2⟩]
    have h := sure_l N hN X Y hX hY d (i + 1) (out ++ [⟨(i : Int), X[i], Y[i]⟩]) (by omega) (by rw [List.length_append]; simp; omega)
    rw [List.append_assoc] at h
    refine Ev.step (fun k => ?_) h
    rw [merge_sure.l0, if_pos (by omega), if_pos (by omega), if_pos (by omega), rdI X i h1, if_pos (by omega), if_pos (by omega), rdI Y i h2, if_pos (by omega), if_pos (by omega), w64 (x := (i : Int) + 1) (by omega) (by omega)]
    rfl
   ·rw [if_neg (by omega)]
    have h := sure_l N hN X Y hX hY d (i + 1) out (by omega) (by omega)
    refine Ev.step (fun k => ?_) h
    rw [merge_sure.l0, if_pos (by omega), if_pos (by omega), if_pos (by omega), rdI X i h1, if_pos (by omega), if_pos (by omega), rdI Y i h2, if_neg (by omega), w64 (x := (i : Int) + 1) (by omega) (by omega)]
    rfl
  ·rw [if_neg (by omega)]
   have h := sure_l N hN X Y hX hY d (i + 1) out (by omega) (by omega)
   refine Ev.step (fun k => ?_) h
   rw [merge_sure.l0, if_pos (by omega), if_pos (by omega), if_pos (by omega), rdI X i h1, if_neg (by omega), w64 (x := (i : Int) + 1) (by omega) (by omega)]
   rfl
theorem sure_ev (a b c : List ByteArray) (ha : a.length ≤ 200) (hb : b.length ≤ 200) (hc : c.length ≤ 200) : Ev (fun k => merge_sure.f k a b c) (sureL (mt a b 0) (mt a c 0) 0) := by
 have h := sure_l a.length ha (mt a b 0) (mt a c 0) (mt_length ..) (mt_length ..) a.length 0 [] (by omega) (Nat.zero_le _)
 unfold merge_sure.f
 exact Ev.call (show hunks_Match.f a b = some (mt a b 0) from if_pos ⟨ha, hb⟩) (Ev.call (show hunks_Match.f a c = some (mt a c 0) from if_pos ⟨ha, hc⟩) (by simpa using h))
/-- A piece: its lines in each of the three, and whether these are the same. -/
abbrev PT := List ByteArray × List ByteArray × List ByteArray × Bool
def pA (p : PT) : S30 := ⟨p.1, p.2.1, p.2.2.1, p.2.2.2⟩
def oneP (a b c : List ByteArray) (k i j n x y : Nat) : List PT := if (n - k) + (x - i) + (y - j) = 0 then [] else [((a.take n).drop k, (b.take x).drop i, (c.take y).drop j, false)]
def lineP (a : List ByteArray) (n : Nat) : PT := ((a.take (n + 1)).drop n, (a.take (n + 1)).drop n, (a.take (n + 1)).drop n, true)
def pcP (a b c : List ByteArray) : List Int → List Int → Nat → Nat → Nat → Nat → List PT
 | x :: xs, y :: ys, n, k, i, j => if 0 ≤ x ∧ 0 ≤ y then oneP a b c k i j n x.toNat y.toNat ++ lineP a n :: pcP a b c xs ys (n + 1) (n + 1) (x.toNat + 1) (y.toNat + 1) else pcP a b c xs ys (n + 1) k i j
 | [], _, _, k, i, j => oneP a b c k i j a.length b.length c.length
 | _ :: _, [], _, k, i, j => oneP a b c k i j a.length b.length c.length
theorem oneP_A (a b c : List ByteArray) (k i j n x y : Nat) : pcOne a b c k i j n x y = (oneP a b c k i j n x y).map pA := by
 unfold pcOne oneP
 split <;> rfl
theorem oneP_len (a b c : List ByteArray) (k i j n x y : Nat) : (oneP a b c k i j n x y).length ≤ 1 := by unfold oneP; split <;> simp
theorem pcP_len (a b c : List ByteArray) : ∀ (xs ys : List Int) (n k i j : Nat), (pcP a b c xs ys n k i j).length ≤ 2 * xs.length + 1
 | x :: xs, y :: ys, n, k, i, j => by
  rw [pcP]
  split
  ·have h1 := pcP_len a b c xs ys (n + 1) (n + 1) (x.toNat + 1) (y.toNat + 1)
   have h2 := oneP_len a b c k i j n x.toNat y.toNat
   rw [List.length_append, List.length_cons, List.length_cons]; omega
  ·have h1 := pcP_len a b c xs ys (n + 1) k i j
   rw [List.length_cons]; omega
 | [], _, _, k, i, j => by
  have h2 := oneP_len a b c k i j a.length b.length c.length
  rw [pcP]; simp; omega
 | _ :: _, [], _, k, i, j => by
  have h2 := oneP_len a b c k i j a.length b.length c.length
  rw [pcP]; omega
theorem pc_prog (a b c : List ByteArray) : ∀ (xs ys : List Int) (n k i j : Nat), Fits a b xs n i → Fits a c ys n j → k ≤ n → n ≤ a.length → pcGo a b c (sureL xs ys n) k i j = some ((pcP a b c xs ys n k i j).map pA)
 | [], [], n, k, i, j, hx, hy, hk, hn => by
  obtain ⟨h1, h2⟩ := hx
  obtain ⟨_, h3⟩ := hy
  rw [sureL, pcP, pcGo, if_pos ⟨by omega, h2, h3⟩, oneP_A]
 | [], y :: ys, n, k, i, j, hx, hy, hk, hn => by
  exfalso
  obtain ⟨h1, _⟩ := hx
  rw [Fits] at hy
  split at hy
  ·have := hy.2.2.1; omega
  ·have := hy.1; omega
 | x :: xs, [], n, k, i, j, hx, hy, hk, hn => by
  exfalso
  obtain ⟨h1, _⟩ := hy
  rw [Fits] at hx
  split at hx
  ·have := hx.2.2.1; omega
  ·have := hx.1; omega
 | x :: xs, y :: ys, n, k, i, j, hx, hy, hk, hn => by
  rw [sureL, pcP]
  rw [Fits] at hx hy
  by_cases c1 : 0 ≤ x
  ·rw [if_pos c1] at hx
   by_cases c2 : 0 ≤ y
   ·rw [if_pos c2] at hy
    rw [if_pos ⟨c1, c2⟩, if_pos ⟨c1, c2⟩]
    obtain ⟨x1, x2, x3, _, x5⟩ := hx
    obtain ⟨y1, y2, _, _, y5⟩ := hy
    have h := pc_prog a b c xs ys (n + 1) (n + 1) (x.toNat + 1) (y.toNat + 1) x5 y5 (Nat.le_refl _) (by omega)
    rw [pcGo, if_pos ⟨⟨by dsimp only; omega, by dsimp only; omega⟩, ⟨by dsimp only; omega, by dsimp only; omega⟩, ⟨by dsimp only; omega, by dsimp only; omega⟩⟩]
    dsimp only
    rw [Int.toNat_natCast, h, Option.map_some, oneP_A, List.map_append, List.map_cons]
    rfl
   ·rw [if_neg c2] at hy
    rw [if_neg (fun z => c2 z.2), if_neg (fun z => c2 z.2)]
    obtain ⟨x1, x2, x3, _, x5⟩ := hx
    exact pc_prog a b c xs ys (n + 1) k i j (Fits.lower (by omega) x5) hy.2 (by omega) (by omega)
  ·rw [if_neg c1] at hx
   rw [if_neg (fun z => c1 z.1), if_neg (fun z => c1 z.1)]
   by_cases c2 : 0 ≤ y
   ·rw [if_pos c2] at hy
    obtain ⟨y1, y2, _, _, y5⟩ := hy
    exact pc_prog a b c xs ys (n + 1) k i j hx.2 (Fits.lower (by omega) y5) (by omega) (by have := hx.1; omega)
   ·rw [if_neg c2] at hy
    exact pc_prog a b c xs ys (n + 1) k i j hx.2 hy.2 (by omega) (by have := hx.1; omega)
def pieces (a b c : List ByteArray) : List PT := pcP a b c (mt a b 0) (mt a c 0) 0 0 0 0
theorem fits0 (a b : List ByteArray) : Fits a b (mt a b 0) 0 0 := by
 have h := mt_fits a b _ 0 0 rfl (Nat.zero_le _) (Nat.zero_le _)
 simpa using h
theorem Pieces_ev (a b c : List ByteArray) (ha : a.length ≤ 200) (hb : b.length ≤ 200) (hc : c.length ≤ 200) : Ev (fun k => merge_Pieces.f k a b c) ((pieces a b c).map pA) := by
 unfold merge_Pieces.f
 refine Ev.pos ⟨ha, hb, hc⟩ (Ev.bind (sure_ev a b c ha hb hc) (Ev.pos ?_ ?_))
 ·have h1 := sureL_len (mt a b 0) (mt a c 0) 0
  rw [mt_length] at h1
  omega
 ·rw [pc_prog a b c (mt a b 0) (mt a c 0) 0 0 0 0 (fits0 a b) (fits0 a c) (Nat.le_refl _) (Nat.zero_le _)]
  exact Ev.now _
end Go.Proofs.YtkbhnkagiaghnaaDoor.P
