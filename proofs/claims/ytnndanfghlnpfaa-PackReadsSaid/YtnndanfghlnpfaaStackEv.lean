/- Stacks of steps: whether all can be taken back, and done again. -/
import Derived.Test.YtnndanfghlnpfaaPx6
import Derived.Test.YtnndanfghlnpfaaPx7
import Derived.Test.YtnndanfghlnpfaaPx17
import Derived.Test.YtnndanfghlnpfaaStepEv
namespace Go.Proofs.Ytnndanfghlnpfaa.P
open Go.RowKit Go.Proofs.YtnndanfghlnpfaaW.PrintWords Go.Proofs.YtnndanfghlnpfaaW.PrintLast
abbrev Stp := S38
theorem rd_st (l : List Stp) (i : Nat) (h : i < l.length) : rd_T38 l (i : Int) = l[i] := by
 unfold rd_T38
 rw [Int.toNat_natCast, List.getD_eq_getElem?_getD, List.getElem?_eq_getElem h]
 rfl
def okS (l : List Stp) : Prop := ∀ s ∈ l, s.f0.length ≤ 400 ∧ ∀ e ∈ s.f0, sized e
def rightOf (E : List Ed) (t : ByteArray) : Bool := decide ((E.length : Int) ≥ 1 ∧ (E.length : Int) ≤ 32 ∧ (runOf E t).2 = 0)
theorem step_Right_ev (E : List Ed) (hE : E.length ≤ 1000) (hs : ∀ e ∈ E, sized e) (t : ByteArray) (ht : t.size ≤ 5000) : Ev (fun k => step_Right.f k t E) (rightOf E t) := by
 unfold step_Right.f rightOf
 by_cases c0 : (E.length : Int) = 0
 ·rw [decide_eq_false (by omega)]; exact Ev.pos c0 (Ev.now _)
 refine Ev.neg c0 ?_
 by_cases c1 : (E.length : Int) > 32
 ·rw [decide_eq_false (by omega)]; exact Ev.pos c1 (Ev.now _)
 refine Ev.neg c1 (Ev.bind (step_Run_ev' E hE hs t ht) ?_)
 by_cases c2 : (runOf E t).2 = 0
 ·rw [decide_eq_true ⟨by omega, by omega, c2⟩, c2]; exact Ev.now _
 ·rw [decide_eq_false (fun z => c2 z.2.2), beq_eq_false_iff_ne.2 c2]; exact Ev.now _
theorem ref_Right_ev (E : List Ed) (hE : E.length ≤ 1000) (hs : ∀ e ∈ E, sized e) (t : ByteArray) (ht : t.size ≤ 5000) : Ev (fun k => sr23Right.f k t E) (rightOf E t) := by
 unfold sr23Right.f rightOf
 refine Ev.bind (ref_Run_ev' E hE hs t ht) ?_
 by_cases c0 : (E.length : Int) ≥ 1
 ·refine Ev.pos c0 ?_
  by_cases c1 : (E.length : Int) ≤ 32
  ·refine Ev.pos c1 ?_
   by_cases c2 : (runOf E t).2 = 0
   ·rw [decide_eq_true ⟨by omega, by omega, c2⟩, c2]; exact Ev.now _
   ·rw [decide_eq_false (fun z => c2 z.2.2), beq_eq_false_iff_ne.2 c2]; exact Ev.now _
  ·rw [decide_eq_false (by omega)]; exact Ev.neg c1 (Ev.now _)
 ·rw [decide_eq_false (by omega)]; exact Ev.neg c0 (Ev.now _)
theorem runOf_size : ∀ (E : List Ed) (t : ByteArray), t.size ≤ 5000 → (runOf E t).1.size ≤ 5000
 | [], _, h => h
 | e :: E, t, h => by
  unfold runOf
  split
  ·exact runOf_size E _ (by have := applyOf_size t e.f0 e.f1 e.f2; omega)
  ·show (⟨#[]⟩ : ByteArray).size ≤ 5000
   decide
/-- Can all be done, one behind the other, each as it is told? -/
def goesR (f : List Ed → List Ed) : ByteArray → List Stp → Bool
 | _, [] => true
 | t, s :: l => if rightOf (f s.f0) t = true then goesR f (runOf (f s.f0) t).1 l else false
theorem okS_take {l : List Stp} (h : okS l) (n : Nat) : okS (l.take n) := fun s hs => h s (List.mem_of_mem_take hs)
theorem rev_take (l : List Stp) (n : Nat) (h : n < l.length) : (l.take (n + 1)).reverse = l[n] :: (l.take n).reverse := by
 rw [List.take_add_one, List.getElem?_eq_getElem h, List.reverse_append]
 rfl
theorem back_sized {E : List Ed} (h : ∀ e ∈ E, sized e) : ∀ e ∈ backOf E, sized e := by
 intro e he
 unfold backOf at he
 rw [List.mem_reverse] at he
 obtain ⟨x, hx, rfl⟩ := List.mem_map.1 he
 exact ⟨(h x hx).2, (h x hx).1⟩
theorem back_len (E : List Ed) : (backOf E).length = E.length := by unfold backOf; rw [List.length_reverse, List.length_map]
theorem goes_ev (way : Nat → List Ed → Option (List Ed)) (f : List Ed → List Ed) (hw : ∀ E : List Ed, E.length ≤ 400 → (∀ e ∈ E, sized e) → Ev (fun k => way k E) (f E) ∧ (f E).length ≤ 400 ∧ ∀ e ∈ f E, sized e) :
  ∀ (n : Nat) (l : List Stp) (t : ByteArray), l.length = n → okS l → t.size ≤ 5000 → Ev (fun k => stack_goes.l way k t l) (goesR f t l.reverse)
 | 0, l, t, hn, _, _ => by
  obtain rfl := List.eq_nil_of_length_eq_zero hn
  exact Ev.step (f := fun _ => some true) (fun k => by rw [stack_goes.l, if_pos (show ([] : List Stp).length = 0 from rfl)]) (Ev.now _)
 | n + 1, l, t, hn, ok, ht => by
  have hi : n < l.length := by omega
  have hm := ok l[n] (List.getElem_mem hi)
  obtain ⟨h1, h2, h3⟩ := hw l[n].f0 hm.1 hm.2
  have hr : l.reverse = l[n] :: (l.take n).reverse := by
   have := rev_take l n hi
   rwa [List.take_of_length_le (by omega)] at this
  rw [hr]
  have e1 : l.length - 1 = n := by omega
  refine Ev.step (fun k => by rw [stack_goes.l, if_neg (by omega), e1, rd_st l n hi]) ?_
  refine Ev.bind h1 (Ev.bind (step_Right_ev _ (by omega) h3 t ht) ?_)
  unfold goesR
  by_cases c : rightOf (f l[n].f0) t = true
  ·rw [if_pos c]
   refine Ev.pos c (Ev.bind (step_Run_ev' _ (by omega) h3 t ht) ?_)
   exact goes_ev way f hw n (l.take n) _ (by rw [List.length_take]; omega) (okS_take ok n) (runOf_size _ _ ht)
  ·rw [if_neg c]
   exact Ev.neg c (Ev.now _)
theorem goes_all (way : Nat → List Ed → Option (List Ed)) (f : List Ed → List Ed) (hw : ∀ E : List Ed, E.length ≤ 400 → (∀ e ∈ E, sized e) → Ev (fun k => way k E) (f E) ∧ (f E).length ≤ 400 ∧ ∀ e ∈ f E, sized e)
  (l : List Stp) (t : ByteArray) (ok : okS l) (ht : t.size ≤ 5000) : Ev (fun k => stack_goes.f way k t l) (decide (l.length ≤ 16) && goesR f t l.reverse) := by
 unfold stack_goes.f
 by_cases c : l.length > 16
 ·rw [decide_eq_false (by omega)]
  exact Ev.pos c (Ev.now _)
 ·rw [decide_eq_true (by omega), Bool.true_and]
  exact Ev.neg c (goes_ev way f hw l.length l t rfl ok ht)
def undoB (l : List Stp) (t : ByteArray) : Bool := decide (l.length ≤ 16) && goesR backOf t l.reverse
def redoB (l : List Stp) (t : ByteArray) : Bool := decide (l.length ≤ 16) && goesR (fun E => E) t l.reverse
theorem stack_Undoes_ev (l : List Stp) (t : ByteArray) (ok : okS l) (ht : t.size ≤ 5000) : Ev (fun k => stack_Undoes.f k t l) (undoB l t) :=
 goes_all _ backOf (fun E hE hs => ⟨step_Inverse_ev E (by omega), by rw [back_len]; exact hE, back_sized hs⟩) l t ok ht
theorem stack_Redoes_ev (l : List Stp) (t : ByteArray) (ok : okS l) (ht : t.size ≤ 5000) : Ev (fun k => stack_Redoes.f k t l) (redoB l t) :=
 goes_all _ (fun E => E) (fun _ hE hs => ⟨Ev.now _, hE, hs⟩) l t ok ht
theorem ref_Undoes_l0 (l : List Stp) (hl : l.length ≤ 100000) (ok : okS l) : ∀ (n : Nat) (t : ByteArray), n ≤ l.length → t.size ≤ 5000 → Ev (fun k => sr24Undoes.l0 k t l ((n : Int) - 1)) (decide (l.length ≤ 16) && goesR backOf t (l.take n).reverse)
 | 0, t, _, _ => by
  refine Ev.step (f := fun _ => some (decide ((l.length : Int) ≤ 16))) (fun k => by rw [sr24Undoes.l0, if_neg (by omega)]) ?_
  rw [List.take_zero]
  show Ev _ (decide (l.length ≤ 16) && true)
  rw [Bool.and_true, show decide ((l.length : Int) ≤ 16) = decide (l.length ≤ 16) from decide_eq_decide.2 (by omega)]
  exact Ev.now _
 | n + 1, t, hn, ht => by
  have hi : n < l.length := by omega
  have hm := ok l[n] (List.getElem_mem hi)
  have h3 := back_sized hm.2
  have e1 : ((n + 1 : Nat) : Int) - 1 = (n : Int) := by omega
  rw [rev_take l n hi, e1]
  refine Ev.step (fun k => by rw [sr24Undoes.l0, if_pos (by omega), if_pos (by omega), if_pos (by omega), rd_st l n hi, w64 (x := (n : Int) - 1) (by omega) (by omega)]) ?_
  refine Ev.bind (ref_Inverse_ev l[n].f0 (by omega)) (Ev.bind (ref_Right_ev _ (by rw [back_len]; omega) h3 t ht) ?_)
  unfold goesR
  by_cases c : rightOf (backOf l[n].f0) t = true
  ·rw [if_pos c]
   refine Ev.pos c (Ev.bind (ref_Run_ev' _ (by rw [back_len]; omega) h3 t ht) ?_)
   exact ref_Undoes_l0 l hl ok n _ (by omega) (runOf_size _ _ ht)
  ·rw [if_neg c, Bool.and_false]
   exact Ev.neg c (Ev.now _)
theorem ref_Undoes_ev (l : List Stp) (hl : l.length ≤ 100000) (t : ByteArray) (ok : okS l) (ht : t.size ≤ 5000) : Ev (fun k => sr24Undoes.f k t l) (undoB l t) := by
 have := ref_Undoes_l0 l hl ok l.length t (Nat.le_refl _) ht
 rw [List.take_length] at this
 unfold sr24Undoes.f
 rw [w64 (x := (l.length : Int) - 1) (by omega) (by omega)]
 exact this
theorem ref_Redoes_l0 (l : List Stp) (hl : l.length ≤ 100000) (ok : okS l) : ∀ (n : Nat) (t : ByteArray), n ≤ l.length → t.size ≤ 5000 → Ev (fun k => sr24Redoes.l0 k t l ((n : Int) - 1)) (decide (l.length ≤ 16) && goesR (fun E => E) t (l.take n).reverse)
 | 0, t, _, _ => by
  refine Ev.step (f := fun _ => some (decide ((l.length : Int) ≤ 16))) (fun k => by rw [sr24Redoes.l0, if_neg (by omega)]) ?_
  rw [List.take_zero]
  show Ev _ (decide (l.length ≤ 16) && true)
  rw [Bool.and_true, show decide ((l.length : Int) ≤ 16) = decide (l.length ≤ 16) from decide_eq_decide.2 (by omega)]
  exact Ev.now _
 | n + 1, t, hn, ht => by
  have hi : n < l.length := by omega
  have hm := ok l[n] (List.getElem_mem hi)
  have e1 : ((n + 1 : Nat) : Int) - 1 = (n : Int) := by omega
  rw [rev_take l n hi, e1]
  refine Ev.step (fun k => by rw [sr24Redoes.l0, if_pos (by omega), if_pos (by omega), if_pos (by omega), rd_st l n hi, w64 (x := (n : Int) - 1) (by omega) (by omega)]) ?_
  refine Ev.bind (ref_Right_ev _ (by omega) hm.2 t ht) ?_
  unfold goesR
  by_cases c : rightOf l[n].f0 t = true
  ·rw [if_pos c]
   refine Ev.pos c (Ev.bind (ref_Run_ev' _ (by omega) hm.2 t ht) ?_)
   exact ref_Redoes_l0 l hl ok n _ (by omega) (runOf_size _ _ ht)
  ·rw [if_neg c, Bool.and_false]
   exact Ev.neg c (Ev.now _)
theorem ref_Redoes_ev (l : List Stp) (hl : l.length ≤ 100000) (t : ByteArray) (ok : okS l) (ht : t.size ≤ 5000) : Ev (fun k => sr24Redoes.f k t l) (redoB l t) := by
 have := ref_Redoes_l0 l hl ok l.length t (Nat.le_refl _) ht
 rw [List.take_length] at this
 unfold sr24Redoes.f
 rw [w64 (x := (l.length : Int) - 1) (by omega) (by omega)]
 exact this
end Go.Proofs.Ytnndanfghlnpfaa.P
