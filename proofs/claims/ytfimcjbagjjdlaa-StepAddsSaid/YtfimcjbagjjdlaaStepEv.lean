/- Edits that go together: what a row of them makes of a text, it taken back, and where marks come to stand. -/
import Derived.Test.YtfimcjbagjjdlaaPx2
import Derived.Test.YtfimcjbagjjdlaaPx3
import Derived.Test.YtfimcjbagjjdlaaEditEv
namespace Go.Proofs.Ytfimcjbagjjdlaa.P
open Go.RowKit Go.Proofs.YtfimcjbagjjdlaaW.PrintWords Go.Proofs.YtfimcjbagjjdlaaW.PrintLast

abbrev Ed := S26
theorem rd_ed (E : List Ed) (i : Nat) (h : i < E.length) : rd_T26 E (i : Int) = E[i] := by
  unfold rd_T26
  rw [show ((i : Int)).toNat = i from rfl, List.getD_eq_getElem?_getD, List.getElem?_eq_getElem h]
  rfl
/-- Is an edit small? -/
def small (e : Ed) : Prop := (e.f1.size : Int) ≤ 600 ∧ (e.f2.size : Int) ≤ 600 ∧ e.f0 ≤ 10000 ∧ -10000 ≤ e.f0
theorem few_l0 (E : List Ed) (hE : E.length ≤ 1000) : ∀ (d i : Nat), i + d = E.length → ∃ b, Ev (fun k => styluslaw23_few.l0 k (i : Int) E) b ∧ (b = true → ∀ j, i ≤ j → ∀ h : j < E.length, small E[j])
  | 0, i, hd => ⟨true, Ev.step (f := fun _ => some true) (fun k => by rw [styluslaw23_few.l0, if_neg (by omega)]) (Ev.now _), fun _ j h0 h1 => by omega⟩
  | d + 1, i, hd => by
    have hi : i < E.length := by omega
    obtain ⟨b, hb, hs⟩ := few_l0 E hE d (i + 1) (by omega)
    have st : ∀ (c : Bool), Ev (fun k => if (((rd_T26 E (i : Int)).f1).size : Int) > 600 then some false else if (((rd_T26 E (i : Int)).f2).size : Int) > 600 then some false else if ((rd_T26 E (i : Int)).f0) > 10000 then some false
        else if ((rd_T26 E (i : Int)).f0) < (-10000) then some false else styluslaw23_few.l0 k (wrap64 ((i : Int) + 1)) E) c → Ev (fun k => styluslaw23_few.l0 k (i : Int) E) c := fun c hc =>
      Ev.step (fun k => by rw [styluslaw23_few.l0, if_pos (show (i : Int) < (E.length : Int) by omega), if_pos (show (0 : Int) ≤ (i : Int) by omega)]) hc
    rw [rd_ed E i hi, w64 (x := (i : Int) + 1) (by omega) (by omega)] at st
    by_cases c0 : (E[i].f1.size : Int) > 600
    · exact ⟨false, st false (Ev.pos c0 (Ev.now _)), fun z => by cases z⟩
    by_cases c1 : (E[i].f2.size : Int) > 600
    · exact ⟨false, st false (Ev.neg c0 (Ev.pos c1 (Ev.now _))), fun z => by cases z⟩
    by_cases c2 : E[i].f0 > 10000
    · exact ⟨false, st false (Ev.neg c0 (Ev.neg c1 (Ev.pos c2 (Ev.now _)))), fun z => by cases z⟩
    by_cases c3 : E[i].f0 < -10000
    · exact ⟨false, st false (Ev.neg c0 (Ev.neg c1 (Ev.neg c2 (Ev.pos c3 (Ev.now _))))), fun z => by cases z⟩
    refine ⟨b, st b (Ev.neg c0 (Ev.neg c1 (Ev.neg c2 (Ev.neg c3 hb)))), fun z j h0 h1 => ?_⟩
    by_cases hj : j = i
    · subst hj; exact ⟨by omega, by omega, by omega, by omega⟩
    · exact hs z j (by omega) h1
theorem few_ev (E : List Ed) : ∃ b, Ev (fun k => styluslaw23_few.f k E) b ∧ (b = true → E.length ≤ 40 ∧ ∀ e ∈ E, small e) := by
  unfold styluslaw23_few.f
  by_cases h : (E.length : Int) > 40
  · exact ⟨false, Ev.pos h (Ev.now _), fun z => by cases z⟩
  · obtain ⟨b, hb, hs⟩ := few_l0 E (by omega) E.length 0 (by omega)
    refine ⟨b, Ev.neg h hb, fun z => ⟨by omega, fun e he => ?_⟩⟩
    obtain ⟨j, hj, rfl⟩ := List.getElem_of_mem he
    exact hs z j (by omega) hj
/-! It taken back. -/
def backEd (e : Ed) : Ed := ⟨e.f0, e.f2, e.f1⟩
def backOf (E : List Ed) : List Ed := (E.map backEd).reverse
theorem step_Inverse_l0 (E : List Ed) (hE : E.length ≤ 1000) : ∀ (d i : Nat), i + d = E.length → Ev (fun k => step_Inverse.l0 k (E.length : Int) (E.length : Int) (i : Int) E ((E.reverse.take i).map backEd)) (backOf E)
  | 0, i, hd => by
    have e : (E.reverse.take i).map backEd = backOf E := by
      rw [List.take_of_length_le (by rw [List.length_reverse]; omega)]
      unfold backOf
      rw [List.map_reverse]
    rw [e]
    exact Ev.step (f := fun _ => some (backOf E)) (fun k => by rw [step_Inverse.l0, if_neg (by omega)]) (Ev.now _)
  | d + 1, i, hd => by
    have hj : E.length - 1 - i < E.length := by omega
    have hz : ((E.reverse.take i).map backEd).length < 3518437208883 := by rw [List.length_map, List.length_take]; omega
    have hw : wrap64 (wrap64 ((E.length : Int) - 1) - (i : Int)) = ((E.length - 1 - i : Nat) : Int) := by
      rw [w64 (x := (E.length : Int) - 1) (by omega) (by omega), w64 (by omega) (by omega)]; omega
    have hn : (E.reverse.take i).map backEd ++ [backEd E[E.length - 1 - i]] = (E.reverse.take (i + 1)).map backEd := by
      rw [List.take_add_one, List.getElem?_reverse (by omega), List.getElem?_eq_getElem hj, List.map_append]
      rfl
    refine Ev.step (fun k => by rw [step_Inverse.l0, if_pos (show (i : Int) < (E.length : Int) by omega), hw, if_pos (show (0 : Int) ≤ ((E.length - 1 - i : Nat) : Int) by omega), if_pos (show ((E.length - 1 - i : Nat) : Int) < (E.length : Int) by omega), rd_ed E _ hj]) ?_
    refine Ev.call rfl (Ev.pos hz ?_)
    rw [w64 (x := (i : Int) + 1) (by omega) (by omega)]
    have := step_Inverse_l0 E hE d (i + 1) (by omega)
    rw [← hn] at this
    exact this
theorem step_Inverse_ev (E : List Ed) (hE : E.length ≤ 1000) : Ev (fun k => step_Inverse.f k E) (backOf E) := step_Inverse_l0 E hE E.length 0 (by omega)
/-! Are two the same? -/
theorem ref_Same_l0 (E : List Ed) (hE : E.length ≤ 1000) : ∀ (d i : Nat), i + d = E.length → Ev (fun k => stylusref23_Same.l0 k (i : Int) E E) true
  | 0, i, hd => Ev.step (f := fun _ => some true) (fun k => by rw [stylusref23_Same.l0, if_neg (by omega)]) (Ev.now _)
  | d + 1, i, hd => by
    refine Ev.step (fun k => by rw [stylusref23_Same.l0, if_pos (show (i : Int) < (E.length : Int) by omega), if_pos (show (0 : Int) ≤ (i : Int) by omega), if_pos (show (i : Int) < (E.length : Int) by omega)]) ?_
    refine Ev.neg (by simp) ?_
    rw [w64 (x := (i : Int) + 1) (by omega) (by omega)]
    exact ref_Same_l0 E hE d (i + 1) (by omega)
theorem ref_Same_ev (E : List Ed) (hE : E.length ≤ 1000) : Ev (fun k => stylusref23_Same.f k E E) true := by
  unfold stylusref23_Same.f
  exact Ev.pos rfl (ref_Same_l0 E hE E.length 0 (by omega))
theorem lives23 : Ev (fun k => styluslaw23_lives.f k) true := Ev.of (fun k => styluslaw23_lives.mono k) (k := 40) (by decide +kernel)
/-! Where a mark comes to stand. -/
def shiftsOf : List Ed → Int → Int
  | [], a => a
  | e :: E, a => shiftsOf E (shiftOf e.f0 e.f1 e.f2 a)
theorem shiftOf_range (e : Ed) (h : small e) (a : Int) (h0 : -20000 ≤ a) : -20000 ≤ shiftOf e.f0 e.f1 e.f2 a ∧ (shiftOf e.f0 e.f1 e.f2 a ≤ a + 600 ∨ shiftOf e.f0 e.f1 e.f2 a ≤ 10000) := by
  obtain ⟨s0, s1, s2, s3⟩ := h
  unfold shiftOf
  split
  · omega
  · split
    · omega
    · omega
theorem step_Shift_l0 (E : List Ed) (hE : E.length ≤ 1000) (hs : ∀ e ∈ E, small e) : ∀ (d i : Nat) (a : Int), i + d = E.length → -20000 ≤ a → a ≤ 10000 + 600 * (i : Int) → 
    Ev (fun k => step_Shift.l0 k a E (E.length : Int) (i : Int)) (shiftsOf (E.drop i) a)
  | 0, i, a, hd, _, _ => by
    rw [List.drop_eq_nil_of_le (by omega)]
    exact Ev.step (f := fun _ => some a) (fun k => by rw [step_Shift.l0, if_neg (by omega)]) (Ev.now _)
  | d + 1, i, a, hd, h0, h1 => by
    have hi : i < E.length := by omega
    have hm := hs E[i] (List.getElem_mem hi)
    have hr := shiftOf_range _ hm a h0
    rw [List.drop_eq_getElem_cons hi]
    refine Ev.step (fun k => by rw [step_Shift.l0, if_pos (show (i : Int) < (E.length : Int) by omega), if_pos (show (0 : Int) ≤ (i : Int) by omega), if_pos (show (i : Int) < (E.length : Int) by omega), rd_ed E i hi]) ?_
    refine Ev.call (edit_Shift_is E[i].f0 E[i].f1 E[i].f2 a (by have := hm.2.2.2; omega) (by have := hm.2.2.1; omega) (by omega) (by omega) (by have := hm.1; omega) (by have := hm.2.1; omega)) ?_
    rw [w64 (x := (i : Int) + 1) (by omega) (by omega)]
    exact step_Shift_l0 E hE hs d (i + 1) _ (by omega) hr.1 (by omega)
theorem ref_Shift_l0 (E : List Ed) (hE : E.length ≤ 1000) (hs : ∀ e ∈ E, small e) : ∀ (d i : Nat) (a : Int), i + d = E.length → -20000 ≤ a → a ≤ 10000 + 600 * (i : Int) → 
    Ev (fun k => stylusref23_Shift.l0 k a (i : Int) E) (shiftsOf (E.drop i) a)
  | 0, i, a, hd, _, _ => by
    rw [List.drop_eq_nil_of_le (by omega)]
    exact Ev.step (f := fun _ => some a) (fun k => by rw [stylusref23_Shift.l0, if_neg (by omega)]) (Ev.now _)
  | d + 1, i, a, hd, h0, h1 => by
    have hi : i < E.length := by omega
    have hm := hs E[i] (List.getElem_mem hi)
    have hr := shiftOf_range _ hm a h0
    rw [List.drop_eq_getElem_cons hi]
    refine Ev.step (fun k => by rw [stylusref23_Shift.l0, if_pos (show (i : Int) < (E.length : Int) by omega), if_pos (show (0 : Int) ≤ (i : Int) by omega), rd_ed E i hi]) ?_
    refine Ev.call (ref_Shift_is E[i].f0 E[i].f1 E[i].f2 a (by have := hm.2.2.2; omega) (by have := hm.2.2.1; omega) (by omega) (by omega) (by have := hm.1; omega) (by have := hm.2.1; omega)) ?_
    rw [w64 (x := (i : Int) + 1) (by omega) (by omega)]
    exact ref_Shift_l0 E hE hs d (i + 1) _ (by omega) hr.1 (by omega)
theorem step_Shift_ev (E : List Ed) (hE : E.length ≤ 1000) (hs : ∀ e ∈ E, small e) (a : Int) (h0 : 0 ≤ a) (h1 : a ≤ 10000) : Ev (fun k => step_Shift.f k E a) (shiftsOf E a) :=
  step_Shift_l0 E hE hs E.length 0 a (by omega) (by omega) (by omega)
theorem ref_Shifts_ev (E : List Ed) (hE : E.length ≤ 1000) (hs : ∀ e ∈ E, small e) (a : Int) (h0 : 0 ≤ a) (h1 : a ≤ 10000) : Ev (fun k => stylusref23_Shift.f k E a) (shiftsOf E a) :=
  ref_Shift_l0 E hE hs E.length 0 a (by omega) (by omega) (by omega)
end Go.Proofs.Ytfimcjbagjjdlaa.P
