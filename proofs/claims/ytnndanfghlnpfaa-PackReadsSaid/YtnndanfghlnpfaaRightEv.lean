/- States: whether a state is right, how it shows, how large it is: the program's and the reference's. -/
import Derived.Test.YtnndanfghlnpfaaPx7
import Derived.Test.YtnndanfghlnpfaaPx8
import Derived.Test.YtnndanfghlnpfaaPx14
import Derived.Test.YtnndanfghlnpfaaPx15
import Derived.Test.YtnndanfghlnpfaaPx17
import Derived.Test.YtnndanfghlnpfaaPx18
import Derived.Test.YtnndanfghlnpfaaStateEv
import Derived.Test.YtnndanfghlnpfaaStackEv
import Derived.Test.YtnndanfghlnpfaaUtfEv
import Derived.Test.YtnndanfghlnpfaaOpEv
import Derived.Sort.Walk0
import Derived.Lib.Bytealg
namespace Go.Proofs.Ytnndanfghlnpfaa.P
open Go.RowKit Go.Proofs.YtnndanfghlnpfaaW.PrintWords Go.Proofs.YtnndanfghlnpfaaW.PrintLast
theorem cmp_less : ∀ x y : List UInt8, Lib.compareBytes x y ≥ 0 ↔ ¬ (Op.bytesLess x y = true)
 | [], [] => by simp [Lib.compareBytes, Op.bytesLess]
 | [], _ :: _ => by simp [Lib.compareBytes, Op.bytesLess]
 | _ :: _, [] => by simp [Lib.compareBytes, Op.bytesLess]
 | a :: x, b :: y => by
  have ih := cmp_less x y
  rw [Lib.compareBytes, Op.bytesLess]
  by_cases h1 : a < b
  ·rw [if_pos h1, decide_eq_true h1, Bool.true_or]; simp
  ·rw [if_neg h1, decide_eq_false h1, Bool.false_or]
   by_cases h2 : b < a
   ·have h3 : (a == b) = false := beq_eq_false_iff_ne.2 (fun e => by rw [e] at h2; exact UInt8.lt_irrefl b h2)
    rw [if_pos h2, h3, Bool.false_and]; simp
   ·have h3 : a = b := UInt8.le_antisymm (UInt8.not_lt.1 h2) (UInt8.not_lt.1 h1)
    rw [if_neg h2, beq_iff_eq.2 h3, Bool.true_and]; exact ih
def ltB (a b : ByteArray) : Bool := Op.bytesLess a.toList b.toList
theorem lt_cmp (a b : ByteArray) : Lib.compareBytes a.data.toList b.data.toList ≥ 0 ↔ ¬ (ltB a b = true) := by
 unfold ltB
 rw [ByteArray.toList_eq, ByteArray.toList_eq]
 exact cmp_less _ _
theorem lt_empty (s : ByteArray) (h : s.size ≠ 0) : ltB ⟨#[]⟩ s = true := by
 unfold ltB
 rw [ByteArray.toList_eq, ByteArray.toList_eq]
 cases q : s.data.toList with
 | nil => exact absurd (by rw [← data_length, q]; rfl) h
 | cons x l => rfl
abbrev Mk := S49
theorem rd_mk (l : List Mk) (i : Nat) (h : i < l.length) : rd_T49 l (i : Int) = l[i] := by
 unfold rd_T49
 rw [Int.toNat_natCast, List.getD_eq_getElem?_getD, List.getElem?_eq_getElem h]
 rfl
def walkM (t : ByteArray) : ByteArray → List Mk → Bool
 | _, [] => true
 | p, m :: r => mayMark m.f0 && (ltB p m.f0 && (edge t m.f1 && walkM t m.f0 r))
def marksB (t : ByteArray) (l : List Mk) : Bool := decide (l.length ≤ 16) && walkM t ⟨#[]⟩ l
theorem marks_Right_l (t : ByteArray) (l : List Mk) (hl : l.length ≤ 1000000) (hb : ∀ m ∈ l, m.f0.size ≤ 140737488351232) : ∀ (d i : Nat) (p : ByteArray), i + d = l.length → Ev (fun k => marks_Right.l0 k t p l (l.length : Int) (i : Int)) (walkM t p (l.drop i))
 | 0, i, p, hd => by
  rw [List.drop_eq_nil_of_le (by omega)]
  exact Ev.step (f := fun _ => some true) (fun k => by rw [marks_Right.l0, if_neg (by omega)]) (Ev.now _)
 | d + 1, i, p, hd => by
  have hi : i < l.length := by omega
  rw [List.drop_eq_getElem_cons hi, walkM]
  refine Ev.step (fun k => by rw [marks_Right.l0, if_pos (by omega), if_pos (by omega), if_pos (by omega), rd_mk l i hi]) (Ev.bind (opcode_MayMark_ev _ (hb _ (List.getElem_mem hi))) ?_)
  cases mayMark l[i].f0 with
  | false => exact Ev.neg Bool.false_ne_true (Ev.now _)
  | true =>
   rw [Bool.true_and]
   refine Ev.pos rfl (Ev.call (show strings_Compare.f p l[i].f0 = some (Lib.compareBytes p.data.toList l[i].f0.data.toList) from rfl) ?_)
   cases q : ltB p l[i].f0 with
   | false => exact Ev.pos ((lt_cmp _ _).2 (by rw [q]; exact Bool.false_ne_true)) (Ev.now _)
   | true =>
    rw [Bool.true_and]
    refine Ev.neg (fun z => (lt_cmp _ _).1 z q) (Ev.bind (utf_Edge_ev t l[i].f1) ?_)
    cases edge t l[i].f1 with
    | false => exact Ev.neg Bool.false_ne_true (Ev.now _)
    | true =>
     rw [Bool.true_and]
     refine Ev.pos rfl ?_
     rw [w64 (x := (i : Int) + 1) (by omega) (by omega)]
     exact marks_Right_l t l hl hb d (i + 1) l[i].f0 (by omega)
theorem marks_Right_ev (t : ByteArray) (l : List Mk) (hb : ∀ m ∈ l, m.f0.size ≤ 140737488351232) : Ev (fun k => marks_Right.f k l t) (marksB t l) := by
 unfold marks_Right.f marksB
 by_cases h : (l.length : Int) > 16
 ·rw [decide_eq_false (by omega)]
  exact Ev.pos h (Ev.now _)
 ·rw [decide_eq_true (by omega), Bool.true_and]
  exact Ev.neg h (marks_Right_l t l (by omega) hb l.length 0 _ (by omega))
def rises : ByteArray → List Mk → Bool
 | _, [] => true
 | p, m :: r => ltB p m.f0 && rises m.f0 r
def riseAll : List Mk → Bool
 | [] => true
 | m :: r => rises m.f0 r
def bothM (t : ByteArray) (l : List Mk) : Bool := l.all fun m => mayMark m.f0 && edge t m.f1
theorem walk_eq (t : ByteArray) : ∀ (l : List Mk) (p : ByteArray), walkM t p l = (bothM t l && rises p l)
 | [], p => rfl
 | m :: r, p => by
  rw [walkM, walk_eq t r, rises]
  unfold bothM
  rw [List.all_cons]
  cases mayMark m.f0 <;> cases ltB p m.f0 <;> cases edge t m.f1 <;> simp
theorem walk_all (t : ByteArray) (l : List Mk) : walkM t ⟨#[]⟩ l = (bothM t l && riseAll l) := by
 rw [walk_eq]
 cases l with
 | nil => rfl
 | cons m r =>
  rw [rises, riseAll]
  by_cases h : m.f0.size = 0
  ·unfold bothM
   rw [List.all_cons, show mayMark m.f0 = false from if_pos h]
   simp
  ·rw [lt_empty _ h, Bool.true_and]
theorem ref_Rise_l (l : List Mk) (hl : l.length ≤ 1000000) : ∀ (d i : Nat) (h : i < l.length), i + 1 + d = l.length → Ev (fun k => sr22Rise.l0 k l ((i + 1 : Nat) : Int)) (rises l[i].f0 (l.drop (i + 1)))
 | 0, i, h, hd => by
  rw [List.drop_eq_nil_of_le (by omega)]
  exact Ev.step (f := fun _ => some true) (fun k => by rw [sr22Rise.l0, if_neg (by omega)]) (Ev.now _)
 | d + 1, i, h, hd => by
  have hi : i + 1 < l.length := by omega
  rw [List.drop_eq_getElem_cons hi, rises]
  have hw : wrap64 (((i + 1 : Nat) : Int) - 1) = (i : Int) := by rw [w64 (by omega) (by omega)]; omega
  have st : ∀ r, Ev (fun k => if (Op.bytesLess (l[i].f0.toList) (l[i + 1].f0.toList)) = true then sr22Rise.l0 k l ((i + 1 + 1 : Nat) : Int) else some false) r → Ev (fun k => sr22Rise.l0 k l ((i + 1 : Nat) : Int)) r := fun r e =>
   Ev.step (fun k => by rw [sr22Rise.l0, if_pos (by omega), if_pos (by omega), hw, if_pos (by omega), if_pos (by omega), rd_mk l i h, rd_mk l (i + 1) hi, w64 (x := ((i + 1 : Nat) : Int) + 1) (by omega) (by omega)]; rfl) e
  refine st _ ?_
  cases q : ltB l[i].f0 l[i + 1].f0 with
  | false => exact Ev.neg (by rw [show Op.bytesLess _ _ = false from q]; exact Bool.false_ne_true) (Ev.now _)
  | true =>
   rw [Bool.true_and]
   exact Ev.pos q (ref_Rise_l l hl d (i + 1) hi (by omega))
theorem ref_Rise_ev (l : List Mk) (hl : l.length ≤ 1000000) : Ev (fun k => sr22Rise.f k l) (riseAll l) := by
 unfold sr22Rise.f
 cases l with
 | nil => exact Ev.step (f := fun _ => some true) (fun k => by rw [sr22Rise.l0, if_neg (by simp)]) (Ev.now _)
 | cons m r => exact ref_Rise_l (m :: r) hl r.length 0 (by simp) (by simp; omega)
theorem ref22_Right_l (t : ByteArray) (l : List Mk) (hl : l.length ≤ 1000000) (hb : ∀ m ∈ l, m.f0.size ≤ 140737488351232) : ∀ (d i : Nat), i + d = l.length → Ev (fun k => sr22Right.l0 k l t (i : Int)) (bothM t (l.drop i) && (decide (l.length ≤ 16) && riseAll l))
 | 0, i, hd => by
  rw [List.drop_eq_nil_of_le (by omega), show bothM t [] = true from rfl, Bool.true_and]
  by_cases h : l.length ≤ 16
  ·rw [decide_eq_true h, Bool.true_and]
   exact Ev.step (fun k => by rw [sr22Right.l0, if_neg (by omega), if_pos (by omega)]) (Ev.bind (ref_Rise_ev l hl) (Ev.now _))
  ·rw [decide_eq_false h, Bool.false_and]
   exact Ev.step (f := fun _ => some false) (fun k => by rw [sr22Right.l0, if_neg (by omega), if_neg (by omega)]) (Ev.now _)
 | d + 1, i, hd => by
  have hi : i < l.length := by omega
  have e : bothM t (l.drop i) = (mayMark l[i].f0 && (edge t l[i].f1 && bothM t (l.drop (i + 1)))) := by
   rw [List.drop_eq_getElem_cons hi]
   unfold bothM
   rw [List.all_cons, Bool.and_assoc]
  rw [e]
  refine Ev.step (fun k => by rw [sr22Right.l0, if_pos (by omega), if_pos (by omega), rd_mk l i hi]) (Ev.bind (ref_MayMark_ev _ (hb _ (List.getElem_mem hi))) ?_)
  cases mayMark l[i].f0 with
  | false => exact Ev.neg Bool.false_ne_true (Ev.now _)
  | true =>
   rw [Bool.true_and]
   refine Ev.pos rfl (Ev.call (ref_Edge_is t l[i].f1) ?_)
   cases edge t l[i].f1 with
   | false => exact Ev.neg Bool.false_ne_true (Ev.now _)
   | true =>
    rw [Bool.true_and]
    refine Ev.pos rfl ?_
    rw [w64 (x := (i : Int) + 1) (by omega) (by omega)]
    exact ref22_Right_l t l hl hb d (i + 1) (by omega)
theorem ref22_Right_ev (t : ByteArray) (l : List Mk) (hl : l.length ≤ 1000000) (hb : ∀ m ∈ l, m.f0.size ≤ 140737488351232) : Ev (fun k => sr22Right.f k l t) (marksB t l) := by
 have h := ref22_Right_l t l hl hb l.length 0 (by omega)
 rw [List.drop_zero] at h
 refine Ev.to h ?_
 unfold marksB
 rw [walk_all]
 cases bothM t l <;> cases decide (l.length ≤ 16) <;> simp
def okE (e : Ed) : Bool := decide (e.f1.size ≤ 512 ∧ e.f2.size ≤ 512 ∧ ¬ (e.f1.size = 0 ∧ e.f2.size = 0))
def okT (s : Stp) : Bool := s.f0.all okE
theorem okE_sized {e : Ed} (h : okE e = true) : sized e := by
 have := of_decide_eq_true h
 exact ⟨by omega, by omega⟩
theorem state_edits_l (E : List Ed) (hE : E.length ≤ 1000000) : ∀ (d i : Nat), i + d = E.length → Ev (fun k => state_edits.l0 k E (E.length : Int) (i : Int)) ((E.drop i).all okE)
 | 0, i, hd => by
  rw [List.drop_eq_nil_of_le (by omega)]
  exact Ev.step (f := fun _ => some true) (fun k => by rw [state_edits.l0, if_neg (by omega)]) (Ev.now _)
 | d + 1, i, hd => by
  have hi : i < E.length := by omega
  rw [List.drop_eq_getElem_cons hi, List.all_cons]
  by_cases c1 : (E[i].f1.size : Int) > 512
  ·rw [show okE E[i] = false from decide_eq_false (by omega), Bool.false_and]
   exact Ev.step (f := fun _ => some false) (fun k => by rw [state_edits.l0, if_pos (by omega), if_pos (by omega), if_pos (by omega), rd_ed E i hi, if_pos c1]) (Ev.now _)
  by_cases c2 : (E[i].f2.size : Int) > 512
  ·rw [show okE E[i] = false from decide_eq_false (by omega), Bool.false_and]
   exact Ev.step (f := fun _ => some false) (fun k => by rw [state_edits.l0, if_pos (by omega), if_pos (by omega), if_pos (by omega), rd_ed E i hi, if_neg c1, if_pos c2]) (Ev.now _)
  have rest := state_edits_l E hE d (i + 1) (by omega)
  by_cases c3 : E[i].f1.toList = E[i].f2.toList
  ·by_cases c4 : E[i].f1.toList = ([] : List UInt8)
   ·have z1 := (nil_size _).1 c4
    have z2 := (nil_size _).1 (c3 ▸ c4)
    rw [show okE E[i] = false from decide_eq_false (by omega), Bool.false_and]
    exact Ev.step (f := fun _ => some false) (fun k => by rw [state_edits.l0, if_pos (by omega), if_pos (by omega), if_pos (by omega), rd_ed E i hi, if_neg c1, if_neg c2, if_pos c3, if_pos c4]) (Ev.now _)
   ·have z1 : E[i].f1.size ≠ 0 := fun z => c4 ((nil_size _).2 z)
    rw [show okE E[i] = true from decide_eq_true (by omega), Bool.true_and]
    exact Ev.step (fun k => by rw [state_edits.l0, if_pos (by omega), if_pos (by omega), if_pos (by omega), rd_ed E i hi, if_neg c1, if_neg c2, if_pos c3, if_neg c4, w64 (x := (i : Int) + 1) (by omega) (by omega)]; rfl) rest
  ·have z1 : ¬ (E[i].f1.size = 0 ∧ E[i].f2.size = 0) := fun z => c3 (by rw [(nil_size _).2 z.1, (nil_size _).2 z.2])
   rw [show okE E[i] = true from decide_eq_true (by omega), Bool.true_and]
   exact Ev.step (fun k => by rw [state_edits.l0, if_pos (by omega), if_pos (by omega), if_pos (by omega), rd_ed E i hi, if_neg c1, if_neg c2, if_neg c3, w64 (x := (i : Int) + 1) (by omega) (by omega)]; rfl) rest
theorem state_edits_ev (E : List Ed) (hE : E.length ≤ 1000000) : Ev (fun k => state_edits.f k E) (E.all okE) := state_edits_l E hE E.length 0 (by omega)
theorem state_steps_l (l : List Stp) (hl : l.length ≤ 1000000) (hs : ∀ s ∈ l, s.f0.length ≤ 1000000) : ∀ (d i : Nat), i + d = l.length → Ev (fun k => state_steps.l0 k l (l.length : Int) (i : Int)) ((l.drop i).all okT)
 | 0, i, hd => by
  rw [List.drop_eq_nil_of_le (by omega)]
  exact Ev.step (f := fun _ => some true) (fun k => by rw [state_steps.l0, if_neg (by omega)]) (Ev.now _)
 | d + 1, i, hd => by
  have hi : i < l.length := by omega
  rw [List.drop_eq_getElem_cons hi, List.all_cons]
  refine Ev.step (fun k => by rw [state_steps.l0, if_pos (by omega), if_pos (by omega), if_pos (by omega), rd_st l i hi]) (Ev.bind (state_edits_ev _ (hs _ (List.getElem_mem hi))) ?_)
  show Ev _ (okT l[i] && _)
  unfold okT
  cases l[i].f0.all okE with
  | false => exact Ev.neg Bool.false_ne_true (Ev.now _)
  | true =>
   rw [Bool.true_and]
   refine Ev.pos rfl ?_
   rw [w64 (x := (i : Int) + 1) (by omega) (by omega)]
   exact state_steps_l l hl hs d (i + 1) (by omega)
theorem state_steps_ev (l : List Stp) (hl : l.length ≤ 1000000) (hs : ∀ s ∈ l, s.f0.length ≤ 1000000) : Ev (fun k => state_steps.f k l) (l.all okT) := state_steps_l l hl hs l.length 0 (by omega)
theorem small_l1 (l : List Stp) (i : Nat) (hi : i < l.length) (hl : l.length ≤ 1000000) (hs : l[i].f0.length ≤ 1000000) (nb : Bool) (hn : Ev (fun k => sr25small.l0 k l ((i + 1 : Nat) : Int)) nb) : ∀ (d j : Nat), j + d = l[i].f0.length → Ev (fun k => sr25small.l1 k l (i : Int) (j : Int)) ((l[i].f0.drop j).all okE && nb)
 | 0, j, hd => by
  rw [List.drop_eq_nil_of_le (by omega), List.all_nil, Bool.true_and]
  exact Ev.step (fun k => by rw [sr25small.l1, if_pos (by omega), if_pos (by omega), rd_st l i hi, if_neg (by omega), w64 (x := (i : Int) + 1) (by omega) (by omega)]; rfl) hn
 | d + 1, j, hd => by
  have hj : j < l[i].f0.length := by omega
  rw [List.drop_eq_getElem_cons hj, List.all_cons]
  by_cases c1 : (l[i].f0[j].f1.size : Int) > 512
  ·rw [show okE l[i].f0[j] = false from decide_eq_false (by omega), Bool.false_and, Bool.false_and]
   exact Ev.step (f := fun _ => some false) (fun k => by rw [sr25small.l1, if_pos (by omega), if_pos (by omega), rd_st l i hi, if_pos (by omega), if_pos (by omega), rd_ed _ j hj, if_pos c1]) (Ev.now _)
  by_cases c2 : (l[i].f0[j].f2.size : Int) > 512
  ·rw [show okE l[i].f0[j] = false from decide_eq_false (by omega), Bool.false_and, Bool.false_and]
   exact Ev.step (f := fun _ => some false) (fun k => by rw [sr25small.l1, if_pos (by omega), if_pos (by omega), rd_st l i hi, if_pos (by omega), if_pos (by omega), rd_ed _ j hj, if_neg c1, if_pos c2]) (Ev.now _)
  have rest := small_l1 l i hi hl hs nb hn d (j + 1) (by omega)
  by_cases c3 : l[i].f0[j].f1.toList = ([] : List UInt8)
  ·by_cases c4 : l[i].f0[j].f2.toList = ([] : List UInt8)
   ·have z1 := (nil_size _).1 c3
    have z2 := (nil_size _).1 c4
    rw [show okE l[i].f0[j] = false from decide_eq_false (by omega), Bool.false_and, Bool.false_and]
    exact Ev.step (f := fun _ => some false) (fun k => by rw [sr25small.l1, if_pos (by omega), if_pos (by omega), rd_st l i hi, if_pos (by omega), if_pos (by omega), rd_ed _ j hj, if_neg c1, if_neg c2, if_pos c3, if_pos c4]) (Ev.now _)
   ·have z1 : l[i].f0[j].f2.size ≠ 0 := fun z => c4 ((nil_size _).2 z)
    rw [show okE l[i].f0[j] = true from decide_eq_true (by omega), Bool.true_and]
    exact Ev.step (fun k => by rw [sr25small.l1, if_pos (by omega), if_pos (by omega), rd_st l i hi, if_pos (by omega), if_pos (by omega), rd_ed _ j hj, if_neg c1, if_neg c2, if_pos c3, if_neg c4, w64 (x := (j : Int) + 1) (by omega) (by omega)]; rfl) rest
  ·have z1 : l[i].f0[j].f1.size ≠ 0 := fun z => c3 ((nil_size _).2 z)
   rw [show okE l[i].f0[j] = true from decide_eq_true (by omega), Bool.true_and]
   exact Ev.step (fun k => by rw [sr25small.l1, if_pos (by omega), if_pos (by omega), rd_st l i hi, if_pos (by omega), if_pos (by omega), rd_ed _ j hj, if_neg c1, if_neg c2, if_neg c3, w64 (x := (j : Int) + 1) (by omega) (by omega)]; rfl) rest
theorem small_l0 (l : List Stp) (hl : l.length ≤ 1000000) (hs : ∀ s ∈ l, s.f0.length ≤ 1000000) : ∀ (d i : Nat), i + d = l.length → Ev (fun k => sr25small.l0 k l (i : Int)) ((l.drop i).all okT)
 | 0, i, hd => by
  rw [List.drop_eq_nil_of_le (by omega)]
  exact Ev.step (f := fun _ => some true) (fun k => by rw [sr25small.l0, if_neg (by omega)]) (Ev.now _)
 | d + 1, i, hd => by
  have hi : i < l.length := by omega
  rw [List.drop_eq_getElem_cons hi, List.all_cons]
  have h := small_l1 l i hi hl (hs _ (List.getElem_mem hi)) _ (small_l0 l hl hs d (i + 1) (by omega)) l[i].f0.length 0 (by omega)
  rw [List.drop_zero] at h
  exact Ev.step (fun k => by rw [sr25small.l0, if_pos (by omega)]; rfl) h
theorem small_ev (l : List Stp) (hl : l.length ≤ 1000000) (hs : ∀ s ∈ l, s.f0.length ≤ 1000000) : Ev (fun k => sr25small.f k l) (l.all okT) := small_l0 l hl hs l.length 0 (by omega)
theorem okT_okS {l : List Stp} (h : l.all okT = true) (h2 : ∀ s ∈ l, s.f0.length ≤ 400) : okS l := fun s hs => ⟨h2 s hs, fun e he => okE_sized (List.all_eq_true.1 (List.all_eq_true.1 h s hs) e he)⟩
/-- Is the state right? -/
def rightB (t : ByteArray) (m : List Mk) (u r : List Stp) (o : Bool) (g : List Ed) : Bool :=
 decide (t.size ≤ 4096) && (valid t && (marksB t m && (g.all okE && (u.all okT && (r.all okT && (if g.length = 0 then undoB u t && redoB r t else (o && decide (r.length = 0)) && (rightOf (backOf g) t && (undoB u (runOf (backOf g) t).1 && redoB r t))))))))
theorem Ev.and {f g : Nat → Option Bool} {a b : Bool} (ha : Ev f a) (hb : a = true → Ev g b) : Ev (fun k => (f k).bind fun x => if x = true then g k else some false) (a && b) := by
 refine Ev.bind ha ?_
 cases a with
 | false => exact Ev.neg Bool.false_ne_true (Ev.now _)
 | true => rw [Bool.true_and]; exact Ev.pos rfl (hb rfl)
theorem last_ev (t x : ByteArray) (u r : List Stp) (hu : okS u) (hr : okS r) (ht : t.size ≤ 5000) (hx : x.size ≤ 5000) : Ev (fun k => (stack_Undoes.f k x u).bind fun z => if z = true then stack_Redoes.f k t r else some false) (undoB u x && redoB r t) :=
 Ev.and (stack_Undoes_ev u x hu hx) (fun _ => stack_Redoes_ev r t hr ht)
theorem state_Right_ev (t : ByteArray) (m : List Mk) (u r : List Stp) (o : Bool) (g : List Ed) (F : Few25 t m u r g) (hb : ∀ s ∈ m, s.f0.size ≤ 140737488351232) : Ev (fun k => state_Right.f k t m u r o g) (rightB t m u r o g) := by
 have ht := F.text
 unfold state_Right.f rightB
 by_cases c : 4096 < t.size
 ·rw [decide_eq_false (by omega), Bool.false_and]
  exact Ev.pos c (Ev.now _)
 rw [decide_eq_true (by omega), Bool.true_and]
 refine Ev.neg c (Ev.and (utf_Valid_ev t (by omega)) fun _ => Ev.and (marks_Right_ev t m hb) fun _ => Ev.and (state_edits_ev g (by have := F.group; omega)) fun hg => Ev.and (state_steps_ev u (by have := F.undo; omega) (fun s h => by have := F.us s h; omega)) fun hu => Ev.and (state_steps_ev r (by have := F.redo; omega) (fun s h => by have := F.rs s h; omega)) fun hr => ?_)
 have ku := okT_okS hu F.us
 have kr := okT_okS hr F.rs
 have kg : ∀ e ∈ backOf g, sized e := back_sized fun e he => okE_sized (List.all_eq_true.1 hg e he)
 have kl := back_len g
 have gl := F.group
 unfold state_Right.last state_ahead.f
 by_cases c0 : g.length = 0
 ·rw [if_pos c0]
  refine Ev.bind (a := (t, true)) (Ev.pos (by omega) (Ev.now _)) ?_
  exact Ev.pos rfl (last_ev t t u r ku kr ht ht)
 rw [if_neg c0]
 have no : Ev (fun k => state_ahead.j0 k true t m u r o g) ((⟨#[]⟩ : ByteArray), false) := Ev.step (f := fun _ => some _) (fun k => by rw [state_ahead.j0, if_pos rfl]) (Ev.now _)
 cases o with
 | false =>
  refine Ev.bind (Ev.neg (by omega) (Ev.neg Bool.false_ne_true no)) ?_
  exact Ev.neg Bool.false_ne_true (Ev.now _)
 | true =>
  by_cases c1 : r.length = 0
  ·rw [decide_eq_true c1, Bool.true_and, Bool.true_and]
   have yes : Ev (fun k => state_ahead.j0 k false t m u r true g) (if rightOf (backOf g) t = true then ((runOf (backOf g) t).1, (runOf (backOf g) t).2 == 0) else ((⟨#[]⟩ : ByteArray), false)) := by
    refine Ev.step (fun k => by rw [state_ahead.j0, if_neg Bool.false_ne_true]) (Ev.bind (step_Inverse_ev g (by omega)) (Ev.bind (step_Right_ev _ (by omega) kg t ht) ?_))
    by_cases q : rightOf (backOf g) t = true
    ·rw [if_pos q]
     exact Ev.pos q (Ev.bind (step_Run_ev' _ (by omega) kg t ht) (Ev.now _))
    ·rw [if_neg q]
     exact Ev.neg q (Ev.now _)
   refine Ev.bind (Ev.neg (by omega) (Ev.pos rfl (by rw [decide_eq_false (by omega)]; exact yes))) ?_
   cases q : rightOf (backOf g) t with
   | false => rw [if_neg Bool.false_ne_true]; exact Ev.neg Bool.false_ne_true (Ev.now _)
   | true =>
    rw [if_pos rfl, Bool.true_and]
    have q2 : (runOf (backOf g) t).2 = 0 := (of_decide_eq_true q).2.2
    refine Ev.pos (by rw [q2]; rfl) (last_ev t _ u r ku kr ht (runOf_size _ _ ht))
  ·rw [decide_eq_false c1, Bool.and_false, Bool.false_and]
   refine Ev.bind (Ev.neg (by omega) (Ev.pos rfl (by rw [decide_eq_true (by omega)]; exact no))) ?_
   exact Ev.neg Bool.false_ne_true (Ev.now _)
theorem rightB_no {t : ByteArray} {m : List Mk} {u r : List Stp} {o : Bool} {g : List Ed} (h : valid t = false ∨ 4096 < t.size ∨ marksB t m = false ∨ 16 < u.length ∨ 16 < r.length ∨ 32 < g.length ∨ u.all okT = false ∨ r.all okT = false ∨ g.all okE = false ∨ (g.length ≠ 0 ∧ (o = false ∨ r.length ≠ 0 ∨ rightOf (backOf g) t = false))) : rightB t m u r o g = false := by
 unfold rightB
 rcases h with h | h | h | h | h | h | h | h | h | ⟨h0, h⟩
 ·rw [h]; simp
 ·rw [decide_eq_false (show ¬ t.size ≤ 4096 by omega)]; simp
 ·rw [h]; simp
 ·have e : ∀ x, undoB u x = false := fun x => by unfold undoB; rw [decide_eq_false (by omega)]; rfl
  simp [e]
 ·have e : ∀ x, redoB r x = false := fun x => by unfold redoB; rw [decide_eq_false (by omega)]; rfl
  simp [e]
 ·have e : rightOf (backOf g) t = false := decide_eq_false (by rw [back_len]; omega)
  rw [if_neg (by omega), e]; simp
 ·rw [h]; simp
 ·rw [h]; simp
 ·rw [h]; simp
 ·rw [if_neg h0]
  rcases h with h | h | h
  ·rw [h]; simp
  ·rw [decide_eq_false h]; simp
  ·rw [h]; simp
theorem ref25_Right_ev (t : ByteArray) (m : List Mk) (u r : List Stp) (o : Bool) (g : List Ed) (F : Few25 t m u r g) (hb : ∀ s ∈ m, s.f0.size ≤ 140737488351232) : Ev (fun k => sr25Right.f k t m u r o g) (rightB t m u r o g) := by
 have ht := F.text
 have gl := F.group
 have no : Ev (fun k => sr25Right.j0 k true t m u r o g) false := Ev.step (f := fun _ => some false) (fun k => by rw [sr25Right.j0, if_pos rfl]) (Ev.now _)
 have no1 : Ev (fun k => sr25Right.j1 k true t m u r o g) false := Ev.step (f := fun _ => some false) (fun k => by rw [sr25Right.j1, if_pos rfl]) (Ev.now _)
 unfold sr25Right.f
 refine Ev.bind (ref_Valid_ev t (by omega)) ?_
 cases hv : valid t with
 | false => rw [rightB_no (.inl hv)]; exact Ev.neg Bool.false_ne_true no
 | true =>
 refine Ev.pos rfl ?_
 by_cases c : (t.size : Int) > 4096
 ·rw [rightB_no (.inr (.inl (by omega)))]; exact Ev.pos c no
 refine Ev.neg c (Ev.bind (ref22_Right_ev t m (by have := F.marks; omega) hb) ?_)
 cases hm : marksB t m with
 | false => rw [rightB_no (.inr (.inr (.inl hm)))]; exact no
 | true =>
 refine Ev.step (fun k => by show sr25Right.j0 (k + 1) false t m u r o g = _; rw [sr25Right.j0, if_neg Bool.false_ne_true]) ?_
 by_cases c1 : (u.length : Int) > 16
 ·rw [rightB_no (.inr (.inr (.inr (.inl (by omega)))))]; exact Ev.pos c1 no1
 refine Ev.neg c1 ?_
 by_cases c2 : (r.length : Int) > 16
 ·rw [rightB_no (.inr (.inr (.inr (.inr (.inl (by omega))))))]; exact Ev.pos c2 no1
 refine Ev.neg c2 ?_
 by_cases c3 : (g.length : Int) > 32
 ·rw [rightB_no (.inr (.inr (.inr (.inr (.inr (.inl (by omega)))))))]; exact Ev.pos c3 no1
 refine Ev.neg c3 (Ev.bind (small_ev u (by omega) (fun s h => by have := F.us s h; omega)) ?_)
 cases hu : u.all okT with
 | false => rw [rightB_no (.inr (.inr (.inr (.inr (.inr (.inr (.inl hu)))))))]; exact Ev.neg Bool.false_ne_true no1
 | true =>
 refine Ev.pos rfl (Ev.bind (small_ev r (by omega) (fun s h => by have := F.rs s h; omega)) ?_)
 cases hr : r.all okT with
 | false => rw [rightB_no (.inr (.inr (.inr (.inr (.inr (.inr (.inr (.inl hr))))))))]; exact Ev.neg Bool.false_ne_true no1
 | true =>
 refine Ev.pos rfl (Ev.bind (small_ev [⟨g⟩] (by simp) (fun s h => by rw [List.mem_singleton] at h; subst h; show g.length ≤ _; omega)) ?_)
 have e1 : (([⟨g⟩] : List Stp).all okT) = g.all okE := by rw [List.all_cons, List.all_nil, Bool.and_true]; rfl
 rw [e1]
 cases hg : g.all okE with
 | false => rw [rightB_no (.inr (.inr (.inr (.inr (.inr (.inr (.inr (.inr (.inl hg)))))))))]; exact no1
 | true =>
 have ku := okT_okS hu F.us
 have kr := okT_okS hr F.rs
 have kg : ∀ e ∈ backOf g, sized e := back_sized fun e he => okE_sized (List.all_eq_true.1 hg e he)
 have kl := back_len g
 have lastr : ∀ x : ByteArray, x.size ≤ 5000 → Ev (fun k => (sr24Undoes.f k x u).bind fun z => if z = true then ((sr24Redoes.f k t r).bind fun y => some y) else some false) (undoB u x && redoB r t) := fun x hx =>
  Ev.and (ref_Undoes_ev u (by omega) x ku hx) (fun _ => Ev.bind (ref_Redoes_ev r (by omega) t kr ht) (Ev.now _))
 refine Ev.step (fun k => by show sr25Right.j1 (k + 1) false t m u r o g = _; rw [sr25Right.j1, if_neg Bool.false_ne_true]) ?_
 by_cases c0 : g.length = 0
 ·have e : rightB t m u r o g = (undoB u t && redoB r t) := by
   unfold rightB
   rw [hv, hm, hg, hu, hr, decide_eq_true (show t.size ≤ 4096 by omega), if_pos c0]; simp
  rw [e]
  exact Ev.neg (by omega) (lastr t ht)
 have no2 : Ev (fun k => sr25Right.j2 k true t m u r o g (backOf g)) false := Ev.step (f := fun _ => some false) (fun k => by rw [sr25Right.j2, if_pos rfl]) (Ev.now _)
 refine Ev.pos (by omega) (Ev.bind (ref_Inverse_ev g (by omega)) ?_)
 cases ho : o with
 | false =>
  subst ho
  rw [rightB_no (.inr (.inr (.inr (.inr (.inr (.inr (.inr (.inr (.inr ⟨c0, .inl rfl⟩)))))))))]
  exact Ev.neg Bool.false_ne_true no2
 | true =>
 subst ho
 refine Ev.pos rfl ?_
 by_cases c4 : r.length = 0
 ·refine Ev.neg (by omega) (Ev.bind (ref_Right_ev (backOf g) (by omega) kg t ht) ?_)
  cases hq : rightOf (backOf g) t with
  | false =>
   rw [rightB_no (.inr (.inr (.inr (.inr (.inr (.inr (.inr (.inr (.inr ⟨c0, .inr (.inr hq)⟩)))))))))]
   exact no2
  | true =>
   have e : rightB t m u r true g = (undoB u (runOf (backOf g) t).1 && redoB r t) := by
    unfold rightB
    rw [hv, hm, hg, hu, hr, decide_eq_true (show t.size ≤ 4096 by omega), if_neg c0, hq, decide_eq_true c4]; simp
   rw [e]
   exact Ev.step (fun k => by show sr25Right.j2 (k + 1) false t m u r true g (backOf g) = _; rw [sr25Right.j2, if_neg Bool.false_ne_true]) (Ev.bind (ref_Run_ev' _ (by omega) kg t ht) (lastr _ (runOf_size _ _ ht)))
 ·rw [rightB_no (.inr (.inr (.inr (.inr (.inr (.inr (.inr (.inr (.inr ⟨c0, .inr (.inl c4)⟩)))))))))]
  exact Ev.pos (by omega) no2
end Go.Proofs.Ytnndanfghlnpfaa.P
