/- Operations: what the program's and the reference's tests, laying and reading come to. -/
import Derived.Test.YtnndanfghlnpfaaPx7
import Derived.Test.YtnndanfghlnpfaaPx14
import Derived.Test.YtnndanfghlnpfaaNumEv
import Derived.Test.YtnndanfghlnpfaaCat
import Derived.Test.YtnndanfghlnpfaaUtfEv
namespace Go.Proofs.Ytnndanfghlnpfaa.P
open Go.RowKit Go.Proofs.YtnndanfghlnpfaaW.PrintWords Go.Proofs.YtnndanfghlnpfaaW.PrintLast
def none_ : ByteArray := ⟨#[]⟩
def lowF (s : ByteArray) : Nat → Nat → Bool
 | 0, _ => true
 | d + 1, i => if bt s (i : Int) < 97 then false else if bt s (i : Int) > 122 then false else lowF s d (i + 1)
/-- May a mark be called so? -/
def mayMark (s : ByteArray) : Bool := if s.size = 0 then false else if 8 < s.size then false else lowF s s.size 0
theorem nil_size (s : ByteArray) : s.toList = ([] : List UInt8) ↔ s.size = 0 := by
 rw [ByteArray.toList_eq]
 constructor
 ·intro h
  have := data_length s
  rw [h] at this
  exact this.symm
 ·intro h
  apply List.eq_nil_of_length_eq_zero
  rw [data_length]; exact h
theorem Ev.ok (b : Bool) : Ev (fun _ => if b = true then some true else some false) b := by
 cases b <;> exact Ev.now _
theorem opcode_May_l0 (s : ByteArray) (hs : s.size ≤ 140737488351232) : ∀ (d i : Nat), i + d = s.size → Ev (fun k => opcode_MayMark.l0 k s (s.size : Int) (i : Int)) (lowF s d i)
 | 0, i, h => by
  refine Ev.step (f := fun _ => some true) (fun k => ?_) (Ev.now _)
  rw [opcode_MayMark.l0]
  exact if_neg (by omega)
 | d + 1, i, h => by
  unfold lowF
  by_cases c0 : bt s (i : Int) < 97
  ·refine Ev.step (f := fun _ => some false) (fun k => ?_) (Ev.to (Ev.now _) (if_pos c0).symm)
   rw [opcode_MayMark.l0, if_pos (by omega), if_pos (by omega), if_pos (by omega)]
   exact if_pos c0
  by_cases c1 : bt s (i : Int) > 122
  ·refine Ev.step (f := fun _ => some false) (fun k => ?_) (Ev.to (Ev.now _) (by rw [if_neg c0, if_pos c1]))
   rw [opcode_MayMark.l0, if_pos (by omega), if_pos (by omega), if_pos (by omega), if_neg c0]
   exact if_pos c1
  ·refine Ev.step (f := fun k => opcode_MayMark.l0 k s (s.size : Int) ((i + 1 : Nat) : Int)) (fun k => ?_) (Ev.to (opcode_May_l0 s hs d (i + 1) (by omega)) (by rw [if_neg c0, if_neg c1]))
   rw [opcode_MayMark.l0, if_pos (by omega), if_pos (by omega), if_pos (by omega), if_neg c0, if_neg c1, w64 (by omega) (by omega)]
   rfl
theorem opcode_MayMark_ev (s : ByteArray) (hs : s.size ≤ 140737488351232) : Ev (fun k => opcode_MayMark.f k s) (mayMark s) := by
 have no : Ev (fun k => opcode_MayMark.j0 k s true) false := Ev.step (f := fun _ => some false) (fun k => by rw [opcode_MayMark.j0, if_pos (rfl : true = true)]) (Ev.now _)
 unfold opcode_MayMark.f
 by_cases h0 : s.size = 0
 ·exact Ev.pos ((nil_size s).2 h0) (Ev.to no (by unfold mayMark; rw [if_pos h0]))
 refine Ev.neg (fun z => h0 ((nil_size s).1 z)) ?_
 by_cases h1 : (s.size : Int) > 8
 ·rw [decide_eq_true h1]
  exact Ev.to no (by unfold mayMark; rw [if_neg h0, if_pos (by omega)])
 ·rw [decide_eq_false h1]
  refine Ev.step (f := fun k => opcode_MayMark.l0 k s (s.size : Int) 0) (fun k => by rw [opcode_MayMark.j0, if_neg Bool.false_ne_true]) ?_
  exact Ev.to (opcode_May_l0 s hs s.size 0 (by omega)) (by unfold mayMark; rw [if_neg h0, if_neg (by omega)])
theorem ref_May_l0 (s : ByteArray) (hs : s.size ≤ 140737488351232) : ∀ (d i : Nat), i + d = s.size → Ev (fun k => sr14MayMark.l0 k s (i : Int)) (lowF s d i && decide (1 ≤ s.size ∧ s.size ≤ 8))
 | 0, i, h => by
  by_cases c : (s.size : Int) ≥ 1
  ·refine Ev.step (f := fun _ => some (decide ((s.size : Int) ≤ 8))) (fun k => ?_) (Ev.to (Ev.now _) ?_)
   ·rw [sr14MayMark.l0, if_neg (by omega)]
    exact if_pos c
   ·unfold lowF
    rw [Bool.true_and]
    exact decide_eq_decide.2 (by omega)
  ·refine Ev.step (f := fun _ => some false) (fun k => ?_) (Ev.to (Ev.now _) ?_)
   ·rw [sr14MayMark.l0, if_neg (by omega)]
    exact if_neg c
   ·rw [decide_eq_false (show ¬ (1 ≤ s.size ∧ s.size ≤ 8) by omega), Bool.and_false]
 | d + 1, i, h => by
  unfold lowF
  by_cases c0 : bt s (i : Int) < 97
  ·refine Ev.step (f := fun _ => some false) (fun k => ?_) (Ev.to (Ev.now _) (by rw [if_pos c0]; rfl))
   rw [sr14MayMark.l0, if_pos (by omega), if_pos (by omega)]
   exact if_pos c0
  by_cases c1 : bt s (i : Int) > 122
  ·refine Ev.step (f := fun _ => some false) (fun k => ?_) (Ev.to (Ev.now _) (by rw [if_neg c0, if_pos c1]; rfl))
   rw [sr14MayMark.l0, if_pos (by omega), if_pos (by omega), if_neg c0]
   exact if_pos c1
  ·refine Ev.step (f := fun k => sr14MayMark.l0 k s ((i + 1 : Nat) : Int)) (fun k => ?_) (Ev.to (ref_May_l0 s hs d (i + 1) (by omega)) (by rw [if_neg c0, if_neg c1]))
   rw [sr14MayMark.l0, if_pos (by omega), if_pos (by omega), if_neg c0, if_neg c1, w64 (by omega) (by omega)]
   rfl
theorem ref_MayMark_ev (s : ByteArray) (hs : s.size ≤ 140737488351232) : Ev (fun k => sr14MayMark.f k s) (mayMark s) := by
 unfold sr14MayMark.f
 refine Ev.to (ref_May_l0 s hs s.size 0 (by omega)) ?_
 unfold mayMark
 by_cases h0 : s.size = 0
 ·rw [if_pos h0, decide_eq_false (show ¬ (1 ≤ s.size ∧ s.size ≤ 8) by omega), Bool.and_false]
 ·by_cases h1 : 8 < s.size
  ·rw [if_neg h0, if_pos h1, decide_eq_false (show ¬ (1 ≤ s.size ∧ s.size ≤ 8) by omega), Bool.and_false]
  ·rw [if_neg h0, if_neg h1, decide_eq_true (show 1 ≤ s.size ∧ s.size ≤ 8 by omega), Bool.and_true]
end Go.Proofs.Ytnndanfghlnpfaa.P
