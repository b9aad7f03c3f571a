/- States: whether there is not too much of them, whether they are the same; the page's example. -/
import Derived.Test.YtnndanfghlnpfaaPx3
import Derived.Test.YtnndanfghlnpfaaPx0
import Derived.Test.YtnndanfghlnpfaaPx1
import Derived.Test.YtnndanfghlnpfaaPx2
import Derived.Test.YtnndanfghlnpfaaEvKit
namespace Go.Proofs.Ytnndanfghlnpfaa.P
open Go.RowKit Go.Proofs.YtnndanfghlnpfaaW.PrintWords Go.Proofs.YtnndanfghlnpfaaW.PrintLast
theorem rd25_st (l : List S38) (i : Nat) (h : i < l.length) : rd_T38 l (i : Int) = l[i] := by
 unfold rd_T38
 rw [Int.toNat_natCast, List.getD_eq_getElem?_getD, List.getElem?_eq_getElem h]
 rfl
theorem few25_l1 (a : ByteArray) (m : List S49) (u l : List S38) (o : Bool) (g : List S88) (hl : l.length ≤ 20) (hb : ∀ s ∈ l, s.f0.length ≤ 140737488351232) : ∀ (d i : Nat) (n : Int), i + d = l.length → 0 ≤ n → n ≤ 200 →
  ∃ b, Ev (fun k => sr25Few.l1 k n (i : Int) a m u l o g) b ∧ (b = true → ∀ q, i ≤ q → ∀ h : q < l.length, l[q].f0.length ≤ 200)
 | 0, i, n, hd, _, _ => ⟨true, Ev.step (f := fun _ => some true) (fun k => by rw [sr25Few.l1, if_neg (by omega)]) (Ev.now _), fun _ q h0 h1 => by omega⟩
 | d + 1, i, n, hd, h0, h1 => by
  have hi : i < l.length := by omega
  have hbi := hb _ (List.getElem_mem hi)
  have hw : wrap64 (n + (l[i].f0.length : Int)) = n + (l[i].f0.length : Int) := w64 (by omega) (by omega)
  by_cases c : n + (l[i].f0.length : Int) > 200
  ·exact ⟨false, Ev.step (f := fun _ => some false) (fun k => by rw [sr25Few.l1, if_pos (by omega), if_pos (by omega), rd25_st l i hi, hw, if_pos c]) (Ev.now _), fun z => by cases z⟩
  obtain ⟨b, e, hs⟩ := few25_l1 a m u l o g hl hb d (i + 1) (n + (l[i].f0.length : Int)) (by omega) (by omega) (by omega)
  refine ⟨b, Ev.step (fun k => by rw [sr25Few.l1, if_pos (by omega), if_pos (by omega), rd25_st l i hi, hw, if_neg c, w64 (x := (i : Int) + 1) (by omega) (by omega)]; rfl) e, fun z q q0 q1 => ?_⟩
  by_cases hq : q = i
  ·subst hq; omega
  ·exact hs z q (by omega) q1
theorem few25_l0 (a : ByteArray) (m : List S49) (l r : List S38) (o : Bool) (g : List S88) (hl : l.length ≤ 20) (hb : ∀ s ∈ l, s.f0.length ≤ 140737488351232) (hr : r.length ≤ 20) (hc : ∀ s ∈ r, s.f0.length ≤ 140737488351232) : ∀ (d i : Nat) (n : Int), i + d = l.length → 0 ≤ n → n ≤ 200 →
  ∃ b, Ev (fun k => sr25Few.l0 k n (i : Int) a m l r o g) b ∧ (b = true → (∀ q, i ≤ q → ∀ h : q < l.length, l[q].f0.length ≤ 200) ∧ ∀ q, 0 ≤ q → ∀ h : q < r.length, r[q].f0.length ≤ 200)
 | 0, i, n, hd, h0, h1 => by
  obtain ⟨b, e, hs⟩ := few25_l1 a m l r o g hr hc r.length 0 n (by omega) h0 h1
  exact ⟨b, Ev.step (fun k => by rw [sr25Few.l0, if_neg (by omega)]; rfl) e, fun z => ⟨fun q h0 h1 => by omega, hs z⟩⟩
 | d + 1, i, n, hd, h0, h1 => by
  have hi : i < l.length := by omega
  have hbi := hb _ (List.getElem_mem hi)
  have hw : wrap64 (n + (l[i].f0.length : Int)) = n + (l[i].f0.length : Int) := w64 (by omega) (by omega)
  by_cases c : n + (l[i].f0.length : Int) > 200
  ·exact ⟨false, Ev.step (f := fun _ => some false) (fun k => by rw [sr25Few.l0, if_pos (by omega), if_pos (by omega), rd25_st l i hi, hw, if_pos c]) (Ev.now _), fun z => by cases z⟩
  obtain ⟨b, e, hs⟩ := few25_l0 a m l r o g hl hb hr hc d (i + 1) (n + (l[i].f0.length : Int)) (by omega) (by omega) (by omega)
  refine ⟨b, Ev.step (fun k => by rw [sr25Few.l0, if_pos (by omega), if_pos (by omega), rd25_st l i hi, hw, if_neg c, w64 (x := (i : Int) + 1) (by omega) (by omega)]; rfl) e, fun z => ⟨fun q q0 q1 => ?_, (hs z).2⟩⟩
  by_cases hq : q = i
  ·subst hq; omega
  ·exact (hs z).1 q (by omega) q1
/-- What Few says of a state, and more: the numbers are wider than Few's (a state that was read needs them so). -/
structure Few25 (a : ByteArray) (m : List S49) (u r : List S38) (g : List S88) : Prop where
 text : a.size ≤ 5000
 marks : m.length ≤ 100000
 undo : u.length ≤ 100000
 redo : r.length ≤ 100000
 group : g.length ≤ 400
 us : ∀ s ∈ u, s.f0.length ≤ 400
 rs : ∀ s ∈ r, s.f0.length ≤ 400
theorem few25_ev (a : ByteArray) (m : List S49) (u r : List S38) (o : Bool) (g : List S88) (hb : ∀ s ∈ u, s.f0.length ≤ 140737488351232) (hc : ∀ s ∈ r, s.f0.length ≤ 140737488351232) :
  ∃ b, Ev (fun k => sr25Few.f k a m u r o g) b ∧ (b = true → Few25 a m u r g) := by
 have no : Ev (fun k => sr25Few.j0 k true a m u r o g) false := Ev.step (f := fun _ => some false) (fun k => by rw [sr25Few.j0, if_pos rfl]) (Ev.now _)
 unfold sr25Few.f
 by_cases h0 : (a.size : Int) > 5000
 ·exact ⟨false, Ev.pos h0 no, fun z => by cases z⟩
 by_cases h1 : (m.length : Int) > 20
 ·exact ⟨false, Ev.neg h0 (Ev.pos h1 no), fun z => by cases z⟩
 by_cases h2 : (u.length : Int) > 20
 ·exact ⟨false, Ev.neg h0 (Ev.neg h1 (Ev.pos h2 no)), fun z => by cases z⟩
 by_cases h3 : (r.length : Int) > 20
 ·exact ⟨false, Ev.neg h0 (Ev.neg h1 (Ev.neg h2 (Ev.pos h3 no))), fun z => by cases z⟩
 by_cases h4 : (g.length : Int) > 40
 ·rw [decide_eq_true h4]
  exact ⟨false, Ev.neg h0 (Ev.neg h1 (Ev.neg h2 (Ev.neg h3 no))), fun z => by cases z⟩
 rw [decide_eq_false h4]
 obtain ⟨b, e, hs⟩ := few25_l0 a m u r o g (by omega) hb (by omega) hc u.length 0 0 (by omega) (by omega) (by omega)
 refine ⟨b, Ev.neg h0 (Ev.neg h1 (Ev.neg h2 (Ev.neg h3 (Ev.step (fun k => by rw [sr25Few.j0, if_neg Bool.false_ne_true]; rfl) e)))), fun z => ⟨by omega, by omega, by omega, by omega, by omega, fun s h => ?_, fun s h => ?_⟩⟩
 ·obtain ⟨j, hj, rfl⟩ := List.getElem_of_mem h
  have := (hs z).1 j (by omega) hj
  omega
 ·obtain ⟨j, hj, rfl⟩ := List.getElem_of_mem h
  have := (hs z).2 j (by omega) hj
  omega
end Go.Proofs.Ytnndanfghlnpfaa.P
