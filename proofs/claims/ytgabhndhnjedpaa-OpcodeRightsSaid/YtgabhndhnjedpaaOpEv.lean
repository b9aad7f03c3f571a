/- Operations: what the program's and the reference's tests, laying and reading come to. -/
import Derived.Test.YtgabhndhnjedpaaPx2
import Derived.Test.YtgabhndhnjedpaaPx3
import Derived.Test.YtgabhndhnjedpaaPx5
import Derived.Test.YtgabhndhnjedpaaPx7
import Derived.Test.YtgabhndhnjedpaaNumEv
import Derived.Test.YtgabhndhnjedpaaCat
import Derived.Test.YtgabhndhnjedpaaUtfEv
namespace Go.Proofs.Ytgabhndhnjedpaa.P
open Go.RowKit Go.Proofs.YtgabhndhnjedpaaW.PrintWords Go.Proofs.YtgabhndhnjedpaaW.PrintLast

def none_ : ByteArray := ⟨#[]⟩
def lowF (s : ByteArray) : Nat → Nat → Bool
  | 0, _ => true
  | d + 1, i => if bt s (i : Int) < 97 then false else if bt s (i : Int) > 122 then false else lowF s d (i + 1)
/-- May a mark be called so? -/
def mayMark (s : ByteArray) : Bool := if s.size = 0 then false else if 8 < s.size then false else lowF s s.size 0
theorem nil_size (s : ByteArray) : s.toList = ([] : List UInt8) ↔ s.size = 0 := by
  rw [ByteArray.toList_eq]
  constructor
  · intro h
    have := data_length s
    rw [h] at this
    exact this.symm
  · intro h
    apply List.eq_nil_of_length_eq_zero
    rw [data_length]; exact h
theorem size_nil {s : ByteArray} (h : s.size = 0) : s = ⟨#[]⟩ := ByteArray.ext (Array.eq_empty_of_size_eq_zero h)
theorem nil_iff (s : ByteArray) : s.toList = ([] : List UInt8) ↔ s = ⟨#[]⟩ := by
  rw [nil_size]
  exact ⟨size_nil, fun h => by rw [h]; rfl⟩
theorem nil_beq (s : ByteArray) : (s.toList == ([] : List UInt8)) = decide (s = ⟨#[]⟩) := by
  by_cases h : s = ⟨#[]⟩
  · rw [decide_eq_true h]
    exact beq_iff_eq.2 ((nil_iff s).2 h)
  · rw [decide_eq_false h]
    exact beq_eq_false_iff_ne.2 (fun z => h ((nil_iff s).1 z))
theorem Ev.ok (b : Bool) : Ev (fun _ => if b = true then some true else some false) b := by
  cases b <;> exact Ev.now _
theorem opcode_May_l0 (s : ByteArray) (hs : s.size ≤ 140737488351232) : ∀ (d i : Nat), i + d = s.size → Ev (fun k => opcode_MayMark.l0 k s (s.size : Int) (i : Int)) (lowF s d i)
  | 0, i, h => by
    refine Ev.step (f := fun _ => some true) (fun k => ?_) (Ev.now _)
    rw [opcode_MayMark.l0]
    exact if_neg (by omega)
  | d + 1, i, h => by
    unfold lowF
    by_cases c0 : bt s (i : Int) < 97
    · refine Ev.step (f := fun _ => some false) (fun k => ?_) (Ev.to (Ev.now _) (if_pos c0).symm)
      rw [opcode_MayMark.l0, if_pos (by omega), if_pos (by omega), if_pos (by omega)]
      exact if_pos c0
    by_cases c1 : bt s (i : Int) > 122
    · refine Ev.step (f := fun _ => some false) (fun k => ?_) (Ev.to (Ev.now _) (by rw [if_neg c0, if_pos c1]))
      rw [opcode_MayMark.l0, if_pos (by omega), if_pos (by omega), if_pos (by omega), if_neg c0]
      exact if_pos c1
    · refine Ev.step (f := fun k => opcode_MayMark.l0 k s (s.size : Int) ((i + 1 : Nat) : Int)) (fun k => ?_) (Ev.to (opcode_May_l0 s hs d (i + 1) (by omega)) (by rw [if_neg c0, if_neg c1]))
      rw [opcode_MayMark.l0, if_pos (by omega), if_pos (by omega), if_pos (by omega), if_neg c0, if_neg c1, w64 (by omega) (by omega)]
      rfl
theorem opcode_MayMark_ev (s : ByteArray) (hs : s.size ≤ 140737488351232) : Ev (fun k => opcode_MayMark.f k s) (mayMark s) := by
  have no : Ev (fun k => opcode_MayMark.j0 k s true) false := Ev.step (f := fun _ => some false) (fun k => by rw [opcode_MayMark.j0, if_pos (rfl : true = true)]) (Ev.now _)
  unfold opcode_MayMark.f
  by_cases h0 : s.size = 0
  · exact Ev.pos ((nil_size s).2 h0) (Ev.to no (by unfold mayMark; rw [if_pos h0]))
  refine Ev.neg (fun z => h0 ((nil_size s).1 z)) ?_
  by_cases h1 : (s.size : Int) > 8
  · rw [decide_eq_true h1]
    exact Ev.to no (by unfold mayMark; rw [if_neg h0, if_pos (by omega)])
  · rw [decide_eq_false h1]
    refine Ev.step (f := fun k => opcode_MayMark.l0 k s (s.size : Int) 0) (fun k => by rw [opcode_MayMark.j0, if_neg Bool.false_ne_true]) ?_
    exact Ev.to (opcode_May_l0 s hs s.size 0 (by omega)) (by unfold mayMark; rw [if_neg h0, if_neg (by omega)])
theorem ref_May_l0 (s : ByteArray) (hs : s.size ≤ 140737488351232) : ∀ (d i : Nat), i + d = s.size → Ev (fun k => stylusref14_MayMark.l0 k s (i : Int)) (lowF s d i && decide (1 ≤ s.size ∧ s.size ≤ 8))
  | 0, i, h => by
    by_cases c : (s.size : Int) ≥ 1
    · refine Ev.step (f := fun _ => some (decide ((s.size : Int) ≤ 8))) (fun k => ?_) (Ev.to (Ev.now _) ?_)
      · rw [stylusref14_MayMark.l0, if_neg (by omega)]
        exact if_pos c
      · unfold lowF
        rw [Bool.true_and]
        exact decide_eq_decide.2 (by omega)
    · refine Ev.step (f := fun _ => some false) (fun k => ?_) (Ev.to (Ev.now _) ?_)
      · rw [stylusref14_MayMark.l0, if_neg (by omega)]
        exact if_neg c
      · rw [decide_eq_false (show ¬ (1 ≤ s.size ∧ s.size ≤ 8) by omega), Bool.and_false]
  | d + 1, i, h => by
    unfold lowF
    by_cases c0 : bt s (i : Int) < 97
    · refine Ev.step (f := fun _ => some false) (fun k => ?_) (Ev.to (Ev.now _) (by rw [if_pos c0]; rfl))
      rw [stylusref14_MayMark.l0, if_pos (by omega), if_pos (by omega)]
      exact if_pos c0
    by_cases c1 : bt s (i : Int) > 122
    · refine Ev.step (f := fun _ => some false) (fun k => ?_) (Ev.to (Ev.now _) (by rw [if_neg c0, if_pos c1]; rfl))
      rw [stylusref14_MayMark.l0, if_pos (by omega), if_pos (by omega), if_neg c0]
      exact if_pos c1
    · refine Ev.step (f := fun k => stylusref14_MayMark.l0 k s ((i + 1 : Nat) : Int)) (fun k => ?_) (Ev.to (ref_May_l0 s hs d (i + 1) (by omega)) (by rw [if_neg c0, if_neg c1]))
      rw [stylusref14_MayMark.l0, if_pos (by omega), if_pos (by omega), if_neg c0, if_neg c1, w64 (by omega) (by omega)]
      rfl
theorem ref_MayMark_ev (s : ByteArray) (hs : s.size ≤ 140737488351232) : Ev (fun k => stylusref14_MayMark.f k s) (mayMark s) := by
  unfold stylusref14_MayMark.f
  refine Ev.to (ref_May_l0 s hs s.size 0 (by omega)) ?_
  unfold mayMark
  by_cases h0 : s.size = 0
  · rw [if_pos h0, decide_eq_false (show ¬ (1 ≤ s.size ∧ s.size ≤ 8) by omega), Bool.and_false]
  · by_cases h1 : 8 < s.size
    · rw [if_neg h0, if_pos h1, decide_eq_false (show ¬ (1 ≤ s.size ∧ s.size ≤ 8) by omega), Bool.and_false]
    · rw [if_neg h0, if_neg h1, decide_eq_true (show 1 ≤ s.size ∧ s.size ≤ 8 by omega), Bool.and_true]
/-- May an operation be? -/
def opRight (x0 x1 x2 : Int) (x3 : ByteArray) : Bool :=
  if x0 = 1 then (if x2 = 0 then (if 0 ≤ x1 ∧ x1 ≤ 4096 then (if x3.size ≤ 512 then valid x3 else false) else false) else false)
  else if x0 = 2 then (if x3 = ⟨#[]⟩ then (if 0 ≤ x1 ∧ x1 ≤ 4096 then decide (0 ≤ x2 ∧ x2 ≤ 4096) else false) else false)
  else if x0 = 3 then (if x2 = 0 then (if 0 ≤ x1 ∧ x1 ≤ 4096 then mayMark x3 else false) else false)
  else if x0 = 4 then (if x1 = 0 ∧ x2 = 0 then mayMark x3 else false)
  else if 5 ≤ x0 ∧ x0 ≤ 8 then (decide (x1 = 0 ∧ x2 = 0 ∧ x3 = ⟨#[]⟩)) else false
theorem place_is (n : Int) : opcode_place_right.f n = some (decide (0 ≤ n ∧ n ≤ 4096)) := by
  unfold opcode_place_right.f
  by_cases h : n ≥ 0
  · rw [if_pos h]
    exact congrArg some (decide_eq_decide.2 (by omega))
  · rw [if_neg h, decide_eq_false (by omega)]
theorem length_is (n : Int) : opcode_length_right.f n = some (decide (0 ≤ n ∧ n ≤ 4096)) := by
  unfold opcode_length_right.f
  by_cases h : n ≥ 0
  · rw [if_pos h]
    exact congrArg some (decide_eq_decide.2 (by omega))
  · rw [if_neg h, decide_eq_false (by omega)]
theorem insert_ev (s : ByteArray) (hs : s.size ≤ 140737488351232) : Ev (fun k => opcode_insert_right.f k s) (if s.size ≤ 512 then valid s else false) := by
  unfold opcode_insert_right.f
  by_cases h : s.size ≤ 512
  · exact Ev.pos (by omega) (Ev.to (Ev.bind (utf_Valid_ev s hs) (Ev.now _)) (if_pos h).symm)
  · exact Ev.neg (by omega) (Ev.to (Ev.now _) (if_neg h).symm)
theorem name_ev (s : ByteArray) (hs : s.size ≤ 140737488351232) : Ev (fun k => opcode_name_right.f k s) (mayMark s) := by
  unfold opcode_name_right.f
  exact Ev.bind (opcode_MayMark_ev s hs) (Ev.now _)
theorem g_plain (x0 x1 x2 : Int) (x3 : ByteArray) (h : 5 ≤ x0 ∧ x0 ≤ 8) : opcode_fields.g x0 x1 x2 x3 = ([], true) := by
  unfold opcode_fields.g
  rcases (show x0 = 5 ∨ x0 = 6 ∨ x0 = 7 ∨ x0 = 8 by omega) with rfl | rfl | rfl | rfl <;> rfl
theorem g_none (x0 x1 x2 : Int) (x3 : ByteArray) (h : ¬ (1 ≤ x0 ∧ x0 ≤ 8)) : opcode_fields.g x0 x1 x2 x3 = ([], false) := by
  unfold opcode_fields.g
  rw [if_neg (by omega), if_neg (by omega), if_neg (by omega), if_neg (by omega), if_neg (by omega), if_neg (by omega), if_neg (by omega), if_neg (by omega)]
theorem opcode_Right_ev (x0 x1 x2 : Int) (x3 : ByteArray) (hs : x3.size ≤ 140737488351232) : Ev (fun k => opcode_Right.f k x0 x1 x2 x3) (opRight x0 x1 x2 x3) := by
  unfold opcode_Right.f
  by_cases c1 : x0 = 1
  · subst c1
    rw [show opcode_fields.g 1 x1 x2 x3 = ([.place x1, .ins x3], true) from rfl]
    refine Ev.pos rfl ?_
    rw [show opcode_only.g 1 (([.place x1, .ins x3], true) : List opcode_Fld × Bool).1 = (1, x1, 0, x3) from rfl]
    by_cases c2 : x2 = 0
    · subst c2
      refine Ev.pos rfl ?_
      show Ev (fun k => (opcode_place_right.f x1).bind fun b => if b = true then ((opcode_insert_right.f k x3).bind fun b => if b = true then some true else some false) else some false) _
      refine Ev.call (place_is x1) ?_
      by_cases c3 : 0 ≤ x1 ∧ x1 ≤ 4096
      · refine Ev.pos (decide_eq_true c3) (Ev.to (Ev.bind (insert_ev x3 hs) (Ev.ok _)) ?_)
        unfold opRight
        rw [if_pos rfl, if_pos rfl, if_pos c3]
      · refine Ev.neg (fun z => c3 (of_decide_eq_true z)) (Ev.to (Ev.now _) ?_)
        unfold opRight
        rw [if_pos rfl, if_pos rfl, if_neg c3]
    · refine Ev.neg (fun z => c2 (by simp only [Prod.mk.injEq] at z; exact z.2.2.1.symm)) (Ev.to (Ev.now _) ?_)
      unfold opRight
      rw [if_pos rfl, if_neg c2]
  by_cases c2 : x0 = 2
  · subst c2
    rw [show opcode_fields.g 2 x1 x2 x3 = ([.place x1, .len x2], true) from rfl]
    refine Ev.pos rfl ?_
    rw [show opcode_only.g 2 (([.place x1, .len x2], true) : List opcode_Fld × Bool).1 = (2, x1, x2, ⟨#[]⟩) from rfl]
    by_cases c4 : x3 = ⟨#[]⟩
    · subst c4
      refine Ev.pos rfl ?_
      show Ev (fun _ => (opcode_place_right.f x1).bind fun b => if b = true then ((opcode_length_right.f x2).bind fun b => if b = true then some true else some false) else some false) _
      refine Ev.call (place_is x1) ?_
      by_cases c3 : 0 ≤ x1 ∧ x1 ≤ 4096
      · refine Ev.pos (decide_eq_true c3) (Ev.call (length_is x2) (Ev.to (Ev.ok _) ?_))
        unfold opRight
        rw [if_neg (by decide), if_pos rfl, if_pos rfl, if_pos c3]
      · refine Ev.neg (fun z => c3 (of_decide_eq_true z)) (Ev.to (Ev.now _) ?_)
        unfold opRight
        rw [if_neg (by decide), if_pos rfl, if_pos rfl, if_neg c3]
    · refine Ev.neg (fun z => c4 (by simp only [Prod.mk.injEq] at z; exact z.2.2.2.symm)) (Ev.to (Ev.now _) ?_)
      unfold opRight
      rw [if_neg (by decide), if_pos rfl, if_neg c4]
  by_cases c3 : x0 = 3
  · subst c3
    rw [show opcode_fields.g 3 x1 x2 x3 = ([.place x1, .nam x3], true) from rfl]
    refine Ev.pos rfl ?_
    rw [show opcode_only.g 3 (([.place x1, .nam x3], true) : List opcode_Fld × Bool).1 = (3, x1, 0, x3) from rfl]
    by_cases c4 : x2 = 0
    · subst c4
      refine Ev.pos rfl ?_
      show Ev (fun k => (opcode_place_right.f x1).bind fun b => if b = true then ((opcode_name_right.f k x3).bind fun b => if b = true then some true else some false) else some false) _
      refine Ev.call (place_is x1) ?_
      by_cases c5 : 0 ≤ x1 ∧ x1 ≤ 4096
      · refine Ev.pos (decide_eq_true c5) (Ev.to (Ev.bind (name_ev x3 hs) (Ev.ok _)) ?_)
        unfold opRight
        rw [if_neg (by decide), if_neg (by decide), if_pos rfl, if_pos rfl, if_pos c5]
      · refine Ev.neg (fun z => c5 (of_decide_eq_true z)) (Ev.to (Ev.now _) ?_)
        unfold opRight
        rw [if_neg (by decide), if_neg (by decide), if_pos rfl, if_pos rfl, if_neg c5]
    · refine Ev.neg (fun z => c4 (by simp only [Prod.mk.injEq] at z; exact z.2.2.1.symm)) (Ev.to (Ev.now _) ?_)
      unfold opRight
      rw [if_neg (by decide), if_neg (by decide), if_pos rfl, if_neg c4]
  by_cases c4 : x0 = 4
  · subst c4
    rw [show opcode_fields.g 4 x1 x2 x3 = ([.nam x3], true) from rfl]
    refine Ev.pos rfl ?_
    rw [show opcode_only.g 4 (([.nam x3], true) : List opcode_Fld × Bool).1 = (4, 0, 0, x3) from rfl]
    by_cases c5 : x1 = 0 ∧ x2 = 0
    · obtain ⟨rfl, rfl⟩ := c5
      refine Ev.pos rfl ?_
      show Ev (fun k => (opcode_name_right.f k x3).bind fun b => if b = true then some true else some false) _
      refine Ev.to (Ev.bind (name_ev x3 hs) (Ev.ok _)) ?_
      unfold opRight
      rw [if_neg (by decide), if_neg (by decide), if_neg (by decide), if_pos rfl, if_pos ⟨rfl, rfl⟩]
    · refine Ev.neg (fun z => c5 (by simp only [Prod.mk.injEq] at z; exact ⟨z.2.1.symm, z.2.2.1.symm⟩)) (Ev.to (Ev.now _) ?_)
      unfold opRight
      rw [if_neg (by decide), if_neg (by decide), if_neg (by decide), if_pos rfl, if_neg c5]
  by_cases c5 : 5 ≤ x0 ∧ x0 ≤ 8
  · rw [g_plain x0 x1 x2 x3 c5]
    refine Ev.pos rfl ?_
    rw [show opcode_only.g x0 (([], true) : List opcode_Fld × Bool).1 = (x0, 0, 0, ⟨#[]⟩) from rfl]
    by_cases c6 : x1 = 0 ∧ x2 = 0 ∧ x3 = ⟨#[]⟩
    · obtain ⟨rfl, rfl, rfl⟩ := c6
      refine Ev.pos rfl (Ev.to (Ev.now _) ?_)
      unfold opRight
      rw [if_neg c1, if_neg c2, if_neg c3, if_neg c4, if_pos c5, decide_eq_true ⟨rfl, rfl, rfl⟩]
    · refine Ev.neg (fun z => c6 (by simp only [Prod.mk.injEq] at z; exact ⟨z.2.1.symm, z.2.2.1.symm, z.2.2.2.symm⟩)) (Ev.to (Ev.now _) ?_)
      unfold opRight
      rw [if_neg c1, if_neg c2, if_neg c3, if_neg c4, if_pos c5, decide_eq_false c6]
  · rw [g_none x0 x1 x2 x3 (by omega)]
    refine Ev.neg Bool.false_ne_true (Ev.to (Ev.now _) ?_)
    unfold opRight
    rw [if_neg c1, if_neg c2, if_neg c3, if_neg c4, if_neg c5]
theorem ref_place_is (n : Int) : stylusref14_place.f n = some (decide (0 ≤ n ∧ n ≤ 4096)) := by
  unfold stylusref14_place.f
  by_cases h : n ≥ 0
  · rw [if_pos h]
    exact congrArg some (decide_eq_decide.2 (by omega))
  · rw [if_neg h, decide_eq_false (by omega)]
theorem ref_end (x1 x2 : Int) (x3 : ByteArray) : Ev (fun _ => if x1 = 0 then (if x2 = 0 then (some (x3.toList == ([] : List UInt8))) else (some false)) else (some false)) (decide (x1 = 0 ∧ x2 = 0 ∧ x3 = ⟨#[]⟩)) := by
  by_cases a : x1 = 0
  · refine Ev.pos a ?_
    by_cases b : x2 = 0
    · refine Ev.pos b (Ev.to (Ev.now _) ?_)
      rw [nil_beq]
      exact decide_eq_decide.2 ⟨fun z => ⟨a, b, z⟩, fun z => z.2.2⟩
    · exact Ev.neg b (Ev.to (Ev.now _) (decide_eq_false (fun z => b z.2.1)).symm)
  · exact Ev.neg a (Ev.to (Ev.now _) (decide_eq_false (fun z => a z.1)).symm)
theorem ref_Right14_ev (x0 x1 x2 : Int) (x3 : ByteArray) (hs : x3.size ≤ 140737488351232) : Ev (fun k => stylusref14_Right.f k x0 x1 x2 x3) (opRight x0 x1 x2 x3) := by
  unfold stylusref14_Right.f
  by_cases c1 : x0 = 1
  · subst c1
    refine Ev.pos rfl (Ev.call (ref_place_is x1) ?_)
    by_cases c3 : 0 ≤ x1 ∧ x1 ≤ 4096
    · refine Ev.pos (decide_eq_true c3) ?_
      by_cases c2 : x2 = 0
      · refine Ev.pos c2 ?_
        by_cases c4 : x3.size ≤ 512
        · refine Ev.pos (by omega) (Ev.to (Ev.bind (ref_Valid_ev x3 hs) (Ev.now _)) ?_)
          unfold opRight
          rw [if_pos rfl, if_pos c2, if_pos c3, if_pos c4]
        · refine Ev.neg (by omega) (Ev.to (Ev.now _) ?_)
          unfold opRight
          rw [if_pos rfl, if_pos c2, if_pos c3, if_neg c4]
      · refine Ev.neg c2 (Ev.to (Ev.now _) ?_)
        unfold opRight
        rw [if_pos rfl, if_neg c2]
    · refine Ev.neg (fun z => c3 (of_decide_eq_true z)) (Ev.to (Ev.now _) ?_)
      unfold opRight
      rw [if_pos rfl, if_neg c3, ite_self]
  refine Ev.neg c1 ?_
  by_cases c2 : x0 = 2
  · subst c2
    refine Ev.pos rfl (Ev.call (ref_place_is x1) ?_)
    by_cases c3 : 0 ≤ x1 ∧ x1 ≤ 4096
    · refine Ev.pos (decide_eq_true c3) (Ev.call (ref_place_is x2) ?_)
      by_cases c4 : 0 ≤ x2 ∧ x2 ≤ 4096
      · refine Ev.pos (decide_eq_true c4) (Ev.to (Ev.now _) ?_)
        unfold opRight
        rw [if_neg (by decide), if_pos rfl, if_pos c3, decide_eq_true c4, nil_beq]
        by_cases e : x3 = ⟨#[]⟩
        · rw [if_pos e, decide_eq_true e]
        · rw [if_neg e, decide_eq_false e]
      · refine Ev.neg (fun z => c4 (of_decide_eq_true z)) (Ev.to (Ev.now _) ?_)
        unfold opRight
        rw [if_neg (by decide), if_pos rfl, if_pos c3, decide_eq_false c4, ite_self]
    · refine Ev.neg (fun z => c3 (of_decide_eq_true z)) (Ev.to (Ev.now _) ?_)
      unfold opRight
      rw [if_neg (by decide), if_pos rfl, if_neg c3, ite_self]
  refine Ev.neg c2 ?_
  by_cases c3 : x0 = 3
  · subst c3
    refine Ev.pos rfl (Ev.call (ref_place_is x1) ?_)
    by_cases c3 : 0 ≤ x1 ∧ x1 ≤ 4096
    · refine Ev.pos (decide_eq_true c3) ?_
      by_cases c2 : x2 = 0
      · refine Ev.pos c2 (Ev.to (Ev.bind (ref_MayMark_ev x3 hs) (Ev.now _)) ?_)
        unfold opRight
        rw [if_neg (by decide), if_neg (by decide), if_pos rfl, if_pos c2, if_pos c3]
      · refine Ev.neg c2 (Ev.to (Ev.now _) ?_)
        unfold opRight
        rw [if_neg (by decide), if_neg (by decide), if_pos rfl, if_neg c2]
    · refine Ev.neg (fun z => c3 (of_decide_eq_true z)) (Ev.to (Ev.now _) ?_)
      unfold opRight
      rw [if_neg (by decide), if_neg (by decide), if_pos rfl, if_neg c3, ite_self]
  refine Ev.neg c3 ?_
  by_cases c4 : x0 = 4
  · subst c4
    refine Ev.pos rfl ?_
    by_cases a : x1 = 0
    · refine Ev.pos a ?_
      by_cases b : x2 = 0
      · refine Ev.pos b (Ev.to (Ev.bind (ref_MayMark_ev x3 hs) (Ev.now _)) ?_)
        unfold opRight
        rw [if_neg (by decide), if_neg (by decide), if_neg (by decide), if_pos rfl, if_pos ⟨a, b⟩]
      · refine Ev.neg b (Ev.to (Ev.now _) ?_)
        unfold opRight
        rw [if_neg (by decide), if_neg (by decide), if_neg (by decide), if_pos rfl, if_neg (fun z => b z.2)]
    · refine Ev.neg a (Ev.to (Ev.now _) ?_)
      unfold opRight
      rw [if_neg (by decide), if_neg (by decide), if_neg (by decide), if_pos rfl, if_neg (fun z => a z.1)]
  refine Ev.neg c4 ?_
  have fin (h : 5 ≤ x0 ∧ x0 ≤ 8) : decide (x1 = 0 ∧ x2 = 0 ∧ x3 = ⟨#[]⟩) = opRight x0 x1 x2 x3 := by
    unfold opRight
    rw [if_neg c1, if_neg c2, if_neg c3, if_neg c4, if_pos h]
  by_cases c5 : x0 = 5
  · exact Ev.pos c5 (Ev.to (ref_end x1 x2 x3) (fin (by omega)))
  refine Ev.neg c5 ?_
  by_cases c6 : x0 = 6
  · exact Ev.pos c6 (Ev.to (ref_end x1 x2 x3) (fin (by omega)))
  refine Ev.neg c6 ?_
  by_cases c7 : x0 = 7
  · exact Ev.pos c7 (Ev.to (ref_end x1 x2 x3) (fin (by omega)))
  refine Ev.neg c7 ?_
  by_cases c8 : x0 = 8
  · exact Ev.pos c8 (Ev.to (ref_end x1 x2 x3) (fin (by omega)))
  refine Ev.neg c8 (Ev.to (Ev.now _) ?_)
  unfold opRight
  rw [if_neg c1, if_neg c2, if_neg c3, if_neg c4, if_neg (by omega)]
end Go.Proofs.Ytgabhndhnjedpaa.P
