/- Edits that go together: what a row of them makes of a text, it taken back, and where marks come to stand. -/
import Derived.Test.YtnndanfghlnpfaaPx4
import Derived.Test.YtnndanfghlnpfaaPx6
import Derived.Test.YtnndanfghlnpfaaPx15
import Derived.Test.YtnndanfghlnpfaaPx16
import Derived.Test.YtnndanfghlnpfaaPx24
import Derived.Test.YtnndanfghlnpfaaEditEv
namespace Go.Proofs.Ytnndanfghlnpfaa.P
open Go.RowKit Go.Proofs.YtnndanfghlnpfaaW.PrintWords Go.Proofs.YtnndanfghlnpfaaW.PrintLast
abbrev Ed := S88
theorem rd_ed (E : List Ed) (i : Nat) (h : i < E.length) : rd_T88 E (i : Int) = E[i] := by
 unfold rd_T88
 rw [show ((i : Int)).toNat = i from rfl, List.getD_eq_getElem?_getD, List.getElem?_eq_getElem h]
 rfl
/-- Are an edit's texts short? -/
def sized (e : Ed) : Prop := (e.f1.size : Int) ≤ 600 ∧ (e.f2.size : Int) ≤ 600
/-- A text behind a row of edits. -/
def runOf : List Ed → ByteArray → ByteArray × Int
 | [], t => (t, 0)
 | e :: E, t => if (applyOf t e.f0 e.f1 e.f2).2 = 0 then runOf E (applyOf t e.f0 e.f1 e.f2).1 else ((⟨#[]⟩ : ByteArray), (applyOf t e.f0 e.f1 e.f2).2)
theorem applyOf_size (t : ByteArray) (p : Int) (o n : ByteArray) : (applyOf t p o n).1.size ≤ 4096 := by
 by_cases h : (applyOf t p o n).2 = 0
 ·obtain ⟨h0, h1, h2, h3, h4, h5, h6, he⟩ := applied h
  have hs : ¬ (t.size : Int) - o.size + n.size > 4096 := by
   intro hc
   unfold applyOf at h
   rw [if_neg (by omega), if_neg (not_not_intro ⟨h1, h2⟩), if_neg (not_not_intro ⟨h3, h4⟩), if_neg (not_not_intro ⟨h5, h6⟩), if_pos hc] at h
   exact absurd h (by decide)
  rw [he]
  show (cutIn t p o n).size ≤ 4096
  unfold cutIn
  rw [ByteArray.size_append, ByteArray.size_append, ByteArray.size_extract, ByteArray.size_extract]
  omega
 ·have := unapplied h
  have z : (applyOf t p o n).1 = (⟨#[]⟩ : ByteArray) := tl.1 (by rw [this]; decide +kernel)
  rw [z]
  decide
theorem step_Run_l0 (E : List Ed) (hE : E.length ≤ 1000) (hs : ∀ e ∈ E, sized e) : ∀ (d i : Nat) (t : ByteArray), i + d = E.length → t.size ≤ 5000 →
  Ev (fun k => step_Run.l0 k t E (E.length : Int) (i : Int)) (runOf (E.drop i) t)
 | 0, i, t, hd, _ => by
  rw [List.drop_eq_nil_of_le (by omega)]
  exact Ev.step (f := fun _ => some (t, 0)) (fun k => by rw [step_Run.l0, if_neg (by omega)]) (Ev.now _)
 | d + 1, i, t, hd, ht => by
  have hi : i < E.length := by omega
  have hm := hs E[i] (List.getElem_mem hi)
  rw [List.drop_eq_getElem_cons hi]
  refine Ev.step (fun k => by rw [step_Run.l0, if_pos (show (i : Int) < (E.length : Int) by omega), if_pos (show (0 : Int) ≤ (i : Int) by omega), if_pos (show (i : Int) < (E.length : Int) by omega), rd_ed E i hi]) ?_
  refine Ev.bind (edit_Apply_ev t E[i].f0 E[i].f1 E[i].f2 (by omega) (by have := hm.1; omega) (by have := hm.2; omega)) ?_
  unfold runOf
  by_cases hz : (applyOf t E[i].f0 E[i].f1 E[i].f2).2 = 0
  ·refine Ev.pos hz ?_
   rw [if_pos hz, w64 (x := (i : Int) + 1) (by omega) (by omega)]
   exact step_Run_l0 E hE hs d (i + 1) _ (by omega) (by have := applyOf_size t E[i].f0 E[i].f1 E[i].f2; omega)
  ·refine Ev.neg hz ?_
   rw [if_neg hz]
   exact Ev.now _
theorem step_Run_ev' (E : List Ed) (hE : E.length ≤ 1000) (hs : ∀ e ∈ E, sized e) (t : ByteArray) (ht : t.size ≤ 5000) : Ev (fun k => step_Run.f k t E) (runOf E t) :=
 step_Run_l0 E hE hs E.length 0 t (by omega) ht
theorem ref_Run_l0 (E : List Ed) (hE : E.length ≤ 1000) (hs : ∀ e ∈ E, sized e) : ∀ (d i : Nat) (t : ByteArray), i + d = E.length → t.size ≤ 5000 →
  Ev (fun k => sr23Run.l0 k t (i : Int) E) (runOf (E.drop i) t)
 | 0, i, t, hd, _ => by
  rw [List.drop_eq_nil_of_le (by omega)]
  exact Ev.step (f := fun _ => some (t, 0)) (fun k => by rw [sr23Run.l0, if_neg (by omega)]) (Ev.now _)
 | d + 1, i, t, hd, ht => by
  have hi : i < E.length := by omega
  have hm := hs E[i] (List.getElem_mem hi)
  rw [List.drop_eq_getElem_cons hi]
  refine Ev.step (fun k => by rw [sr23Run.l0, if_pos (show (i : Int) < (E.length : Int) by omega), if_pos (show (0 : Int) ≤ (i : Int) by omega), rd_ed E i hi]) ?_
  refine Ev.bind (ref_Apply_ev t E[i].f0 E[i].f1 E[i].f2 (by omega) (by have := hm.1; omega) (by have := hm.2; omega)) ?_
  unfold runOf
  by_cases hz : (applyOf t E[i].f0 E[i].f1 E[i].f2).2 = 0
  ·refine Ev.pos hz ?_
   rw [if_pos hz, w64 (x := (i : Int) + 1) (by omega) (by omega)]
   exact ref_Run_l0 E hE hs d (i + 1) _ (by omega) (by have := applyOf_size t E[i].f0 E[i].f1 E[i].f2; omega)
  ·refine Ev.neg hz ?_
   rw [if_neg hz]
   exact Ev.now _
theorem ref_Run_ev' (E : List Ed) (hE : E.length ≤ 1000) (hs : ∀ e ∈ E, sized e) (t : ByteArray) (ht : t.size ≤ 5000) : Ev (fun k => sr23Run.f k t E) (runOf E t) :=
 ref_Run_l0 E hE hs E.length 0 t (by omega) ht
/-! It taken back. -/
def backEd (e : Ed) : Ed := ⟨e.f0, e.f2, e.f1⟩
def backOf (E : List Ed) : List Ed := (E.map backEd).reverse
theorem step_Inverse_l0 (E : List Ed) (hE : E.length ≤ 1000) : ∀ (d i : Nat), i + d = E.length → Ev (fun k => step_Inverse.l0 k (E.length : Int) (E.length : Int) (i : Int) E ((E.reverse.take i).map backEd)) (backOf E)
 | 0, i, hd => by
  have e : (E.reverse.take i).map backEd = backOf E := by
   rw [List.take_of_length_le (by rw [List.length_reverse]; omega)]
   unfold backOf
   rw [List.map_reverse]
  rw [e]
  exact Ev.step (f := fun _ => some (backOf E)) (fun k => by rw [step_Inverse.l0, if_neg (by omega)]) (Ev.now _)
 | d + 1, i, hd => by
  have hj : E.length - 1 - i < E.length := by omega
  have hz : ((E.reverse.take i).map backEd).length < 3518437208883 := by rw [List.length_map, List.length_take]; omega
  have hw : wrap64 (wrap64 ((E.length : Int) - 1) - (i : Int)) = ((E.length - 1 - i : Nat) : Int) := by
   rw [w64 (x := (E.length : Int) - 1) (by omega) (by omega), w64 (by omega) (by omega)]; omega
  have hn : (E.reverse.take i).map backEd ++ [backEd E[E.length - 1 - i]] = (E.reverse.take (i + 1)).map backEd := by
   rw [List.take_add_one, List.getElem?_reverse (by omega), List.getElem?_eq_getElem hj, List.map_append]
   rfl
  refine Ev.step (fun k => by rw [step_Inverse.l0, if_pos (show (i : Int) < (E.length : Int) by omega), hw, if_pos (show (0 : Int) ≤ ((E.length - 1 - i : Nat) : Int) by omega), if_pos (show ((E.length - 1 - i : Nat) : Int) < (E.length : Int) by omega), rd_ed E _ hj]) ?_
  refine Ev.call rfl (Ev.pos hz ?_)
  rw [w64 (x := (i : Int) + 1) (by omega) (by omega)]
  have := step_Inverse_l0 E hE d (i + 1) (by omega)
  rw [← hn] at this
  exact this
theorem step_Inverse_ev (E : List Ed) (hE : E.length ≤ 1000) : Ev (fun k => step_Inverse.f k E) (backOf E) := step_Inverse_l0 E hE E.length 0 (by omega)
theorem ref_Inverse_l0 (E : List Ed) (hE : E.length ≤ 1000) : ∀ (d i : Nat), i + d = E.length → Ev (fun k => sr23Inverse.l0 k ((E.length : Int) - 1 - (i : Int)) E ((E.reverse.take i).map backEd)) (backOf E)
 | 0, i, hd => by
  have e : (E.reverse.take i).map backEd = backOf E := by
   rw [List.take_of_length_le (by rw [List.length_reverse]; omega)]
   unfold backOf
   rw [List.map_reverse]
  rw [e]
  exact Ev.step (f := fun _ => some (backOf E)) (fun k => by rw [sr23Inverse.l0, if_neg (by omega)]) (Ev.now _)
 | d + 1, i, hd => by
  have hj : E.length - 1 - i < E.length := by omega
  have hz : ((E.reverse.take i).map backEd).length < 3518437208883 := by rw [List.length_map, List.length_take]; omega
  have hw : (E.length : Int) - 1 - (i : Int) = ((E.length - 1 - i : Nat) : Int) := by omega
  have hn : (E.reverse.take i).map backEd ++ [backEd E[E.length - 1 - i]] = (E.reverse.take (i + 1)).map backEd := by
   rw [List.take_add_one, List.getElem?_reverse (by omega), List.getElem?_eq_getElem hj, List.map_append]
   rfl
  refine Ev.step (fun k => by rw [sr23Inverse.l0, hw, if_pos (show ((E.length - 1 - i : Nat) : Int) ≥ 0 by omega), if_pos (show (0 : Int) ≤ ((E.length - 1 - i : Nat) : Int) by omega), if_pos (show ((E.length - 1 - i : Nat) : Int) < (E.length : Int) by omega), rd_ed E _ hj]) ?_
  refine Ev.call rfl (Ev.pos hz ?_)
  rw [w64 (x := ((E.length - 1 - i : Nat) : Int) - 1) (by omega) (by omega)]
  have := ref_Inverse_l0 E hE d (i + 1) (by omega)
  rw [← hn, show (E.length : Int) - 1 - ((i + 1 : Nat) : Int) = ((E.length - 1 - i : Nat) : Int) - 1 by omega] at this
  exact this
theorem ref_Inverse_ev (E : List Ed) (hE : E.length ≤ 1000) : Ev (fun k => sr23Inverse.f k E) (backOf E) := by
 have := ref_Inverse_l0 E hE E.length 0 (by omega)
 unfold sr23Inverse.f
 rw [w64 (x := (E.length : Int) - 1) (by omega) (by omega)]
 rwa [show (E.length : Int) - 1 - ((0 : Nat) : Int) = (E.length : Int) - 1 by omega] at this
/-! Where a mark comes to stand. -/
end Go.Proofs.Ytnndanfghlnpfaa.P
