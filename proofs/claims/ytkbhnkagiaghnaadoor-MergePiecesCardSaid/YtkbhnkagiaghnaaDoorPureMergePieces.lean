/- The pieces of any three texts: the program tells those of the reference. -/
import Derived.Test.YtkbhnkagiaghnaaDoorPx1
import Derived.Test.YtkbhnkagiaghnaaDoorPx2
import Derived.Test.YtkbhnkagiaghnaaDoorPx6
import Derived.Test.YtkbhnkagiaghnaaDoorPx11
import Derived.Test.YtkbhnkagiaghnaaDoorMergeEv
namespace Go.Proofs.YtkbhnkagiaghnaaDoor.Pure
open Go.RowKit Go.Proofs.YtkbhnkagiaghnaaDoor.P Go.Proofs.YtkbhnkagiaghnaaDoorW.PrintWords Go.Proofs.YtkbhnkagiaghnaaDoorW.PrintLast
theorem few52_l (l : List ByteArray) (hl : l.length ≤ 60) : ∀ (d i : Nat), i + d = l.length → ∃ b, Ev (fun k => styluslaw52_few.l0 k l (i : Int)) b
 | 0, i, hd => ⟨true, Ev.step (f := fun _ => some true) (fun k => by rw [styluslaw52_few.l0, if_neg (by omega)]) (Ev.now _)⟩
 | d + 1, i, hd => by
  by_cases c : ((rdOf ByteArray.empty l (i : Int)).size : Int) > 100
  ·exact ⟨false, Ev.step (f := fun _ => some false) (fun k => by rw [styluslaw52_few.l0, if_pos (by omega), if_pos (by omega), if_pos c]) (Ev.now _)⟩
  obtain ⟨b, e⟩ := few52_l l hl d (i + 1) (by omega)
  exact ⟨b, Ev.step (fun k => by rw [styluslaw52_few.l0, if_pos (by omega), if_pos (by omega), if_neg c, w64 (x := (i : Int) + 1) (by omega) (by omega)]; rfl) e⟩
theorem few52_ev (l : List ByteArray) : ∃ b, Ev (fun k => styluslaw52_few.f k l) b ∧ (b = true → l.length ≤ 60) := by
 unfold styluslaw52_few.f
 by_cases h : (l.length : Int) > 60
 ·exact ⟨false, Ev.pos h (Ev.now _), fun z => by cases z⟩
 ·obtain ⟨b, e⟩ := few52_l l (by omega) l.length 0 (by omega)
  exact ⟨b, Ev.neg h e, fun _ => by omega⟩
theorem rdA (l : List PT) (i : Nat) (h : i < l.length) : rd_T30 (l.map pA) (i : Int) = pA l[i] := by simp [rd_T30, List.getD_eq_getElem?_getD, List.getElem?_eq_getElem h]
theorem rdB (l : List PT) (i : Nat) (h : i < l.length) : rd_T31 (l.map pB) (i : Int) = pB l[i] := by simp [rd_T31, List.getD_eq_getElem?_getD, List.getElem?_eq_getElem h]
theorem oneP_rows (a b c : List ByteArray) (k i j n x y : Nat) : ∀ p ∈ oneP a b c k i j n x y, p.1.length ≤ a.length ∧ p.2.1.length ≤ b.length ∧ p.2.2.1.length ≤ c.length := by
 intro p hp
 unfold oneP at hp
 split at hp
 ·cases hp
 ·rw [List.mem_singleton] at hp
  subst hp
  simp only [List.length_drop, List.length_take]
  omega
theorem pcP_rows (a b c : List ByteArray) (N : Nat) (ha : a.length ≤ N) (hb : b.length ≤ N) (hc : c.length ≤ N) : ∀ (xs ys : List Int) (n k i j : Nat), ∀ p ∈ pcP a b c xs ys n k i j, p.1.length ≤ N ∧ p.2.1.length ≤ N ∧ p.2.2.1.length ≤ N
 | x :: xs, y :: ys, n, k, i, j, p, hp => by
  rw [pcP] at hp
  split at hp
  ·rcases List.mem_append.1 hp with h | h
   ·have := oneP_rows a b c k i j n x.toNat y.toNat p h; omega
   ·rcases List.mem_cons.1 h with rfl | h
    ·simp only [lineP, List.length_drop, List.length_take]; omega
    ·exact pcP_rows a b c N ha hb hc xs ys _ _ _ _ p h
  ·exact pcP_rows a b c N ha hb hc xs ys _ _ _ _ p hp
 | [], _, n, k, i, j, p, hp => by
  rw [pcP] at hp
  have := oneP_rows a b c k i j _ _ _ p hp; omega
 | _ :: _, [], n, k, i, j, p, hp => by
  rw [pcP] at hp
  have := oneP_rows a b c k i j _ _ _ p hp; omega
theorem pieces_l (L : List PT) (hL : L.length ≤ 1000) (hr : ∀ p ∈ L, p.1.length ≤ 1000000 ∧ p.2.1.length ≤ 1000000 ∧ p.2.2.1.length ≤ 1000000) : ∀ (d i : Nat), i + d = L.length → Ev (fun k => styluslaw52_MergePieces.l0 k (L.map pA) (L.map pB) (i : Int)) true
 | 0, i, hd => by
  have hm : (L.map pA).length = L.length := List.length_map ..
  exact Ev.step (fun k => by rw [styluslaw52_MergePieces.l0, if_neg (by omega)]) (Ev.call (show styluslaw52_lives.f = some true from rfl) (Ev.now _))
 | d + 1, i, hd => by
  have hm : (L.map pA).length = L.length := List.length_map ..
  have hm2 : (L.map pB).length = L.length := List.length_map ..
  have hi : i < L.length := by omega
  have h := pieces_l L hL hr d (i + 1) (by omega)
  obtain ⟨h1, h2, h3⟩ := hr _ (List.getElem_mem hi)
  have t1 := Texts_ev L[i].1 L[i].1 h1
  have t2 := Texts_ev L[i].2.1 L[i].2.1 h2
  have t3 := Texts_ev L[i].2.2.1 L[i].2.2.1 h3
  rw [decide_eq_true rfl] at t1 t2 t3
  refine Ev.step (fun k => by rw [styluslaw52_MergePieces.l0, if_pos (by omega), if_pos (by omega), if_pos (by omega), rdA L i hi, rdB L i hi, if_neg (show ¬ (((pA L[i]).f3 != (pB L[i]).f3) = true) by simp [pA, pB])]) ?_
  refine Ev.bind t1 (Ev.pos rfl (Ev.bind t2 (Ev.pos rfl (Ev.bind t3 (Ev.pos rfl ?_)))))
  rw [w64 (x := (i : Int) + 1) (by omega) (by omega)]
  exact h
theorem MergePieces : styluslaw52_MergePieces.Pure := by
 intro a b c _ _ _
 apply Ev.rounds
 have no : Ev (fun k => styluslaw52_MergePieces.j0 k a b c true) true := Ev.step (fun k => by rw [styluslaw52_MergePieces.j0, if_pos (rfl : true = true)]) (Ev.call (show styluslaw52_lives.f = some true from rfl) (Ev.now _))
 unfold styluslaw52_MergePieces.f
 obtain ⟨p, hp, ha⟩ := few52_ev a
 obtain ⟨q, hq, hb⟩ := few52_ev b
 obtain ⟨s, hs, hc⟩ := few52_ev c
 refine Ev.bind hp ?_
 cases p with
 | false => exact Ev.neg Bool.false_ne_true no
 | true =>
  refine Ev.pos rfl (Ev.bind hq ?_)
  cases q with
  | false => exact Ev.neg Bool.false_ne_true no
  | true =>
   refine Ev.pos rfl (Ev.bind hs ?_)
   cases s with
   | false => exact no
   | true =>
    have ha := ha rfl
    have hb := hb rfl
    have hc := hc rfl
    have hl := pcP_len a b c (mt a b 0) (mt a c 0) 0 0 0 0
    rw [mt_length] at hl
    refine Ev.step (fun k => by rw [show (!true) = false from rfl, styluslaw52_MergePieces.j0, if_neg Bool.false_ne_true]) (Ev.bind (Pieces_ev a b c (by omega) (by omega) (by omega)) (Ev.bind (refPieces_ev a b c (by omega) (by omega) (by omega)) (Ev.pos (show (((pieces a b c).map pA).length : Int) = (((pieces a b c).map pB).length : Int) by rw [List.length_map, List.length_map]) ?_)))
    exact pieces_l (pieces a b c) (by unfold pieces; omega) (fun p hp => by have := pcP_rows a b c 60 ha hb hc _ _ _ _ _ _ p hp; omega) _ 0 (Nat.zero_add _)
end Go.Proofs.YtkbhnkagiaghnaaDoor.Pure
