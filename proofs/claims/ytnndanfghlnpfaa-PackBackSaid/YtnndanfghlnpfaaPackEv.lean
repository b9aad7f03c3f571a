/- A state's bytes: the program's and the reference's. -/
import Derived.Test.YtnndanfghlnpfaaPx9
import Derived.Test.YtnndanfghlnpfaaPx0
import Derived.Test.YtnndanfghlnpfaaPx12
import Derived.Test.YtnndanfghlnpfaaRightEv
import Derived.Test.YtnndanfghlnpfaaNumEv
namespace Go.Proofs.Ytnndanfghlnpfaa.P
open Go.RowKit Go.Proofs.YtnndanfghlnpfaaW.PrintWords Go.Proofs.YtnndanfghlnpfaaW.PrintLast
def bl (s : ByteArray) : List UInt8 := s.data.toList
theorem bl_append (a b : ByteArray) : bl (a ++ b) = bl a ++ bl b := by unfold bl; rw [ByteArray.data_append, Array.toList_append]
theorem bl_length (a : ByteArray) : (bl a).length = a.size := by unfold bl; rw [Array.length_toList]; rfl
theorem bl_mk (a : ByteArray) : (⟨(bl a).toArray⟩ : ByteArray) = a := by unfold bl; simp
def emB : ByteArray := ⟨#[]⟩
def txtB (s : ByteArray) : ByteArray := put32 (s.size : Int) ++ s
def edB1 : List Ed → ByteArray
 | [] => emB
 | e :: r => ((put32 e.f0 ++ txtB e.f1) ++ txtB e.f2) ++ edB1 r
def edB (l : List Ed) : ByteArray := put16 (l.length : Int) ++ edB1 l
def stB1 : List Stp → ByteArray
 | [] => emB
 | s :: r => edB s.f0 ++ stB1 r
def stB (l : List Stp) : ByteArray := put16 (l.length : Int) ++ stB1 l
def mkB1 : List Mk → ByteArray
 | [] => emB
 | m :: r => (txtB m.f0 ++ put32 m.f1) ++ mkB1 r
def opB (o : Bool) : ByteArray := if o = true then ⟨#[1]⟩ else ⟨#[0]⟩
def headB (t : ByteArray) (m : List Mk) : ByteArray := txtB t ++ put16 (m.length : Int)
def layB (t : ByteArray) (m : List Mk) (u r : List Stp) (o : Bool) (g : List Ed) : ByteArray := ((((headB t m ++ mkB1 m) ++ stB u) ++ stB r) ++ opB o) ++ edB g
theorem txtB_size (s : ByteArray) : (txtB s).size = 4 + s.size := by unfold txtB; rw [ByteArray.size_append, put32_size]
theorem edB_size (l : List Ed) : (edB l).size = 2 + (edB1 l).size := by unfold edB; rw [ByteArray.size_append, put16_size]
theorem stB_size (l : List Stp) : (stB l).size = 2 + (stB1 l).size := by unfold stB; rw [ByteArray.size_append, put16_size]
theorem em_size : emB.size = 0 := rfl
theorem opB_size (o : Bool) : (opB o).size = 1 := by cases o <;> rfl
theorem edB1_cons (e : Ed) (r : List Ed) : (edB1 (e :: r)).size = 12 + e.f1.size + e.f2.size + (edB1 r).size := by
 rw [edB1, ByteArray.size_append, ByteArray.size_append, ByteArray.size_append, put32_size, txtB_size, txtB_size]; omega
theorem stB1_cons (s : Stp) (r : List Stp) : (stB1 (s :: r)).size = 2 + (edB1 s.f0).size + (stB1 r).size := by rw [stB1, ByteArray.size_append, edB_size]
theorem mkB1_cons (m : Mk) (r : List Mk) : (mkB1 (m :: r)).size = 8 + m.f0.size + (mkB1 r).size := by
 rw [mkB1, ByteArray.size_append, ByteArray.size_append, txtB_size, put32_size]; omega
theorem pw_addt_is (o : List UInt8) (s : ByteArray) (h : o.length + 4 + s.size ≤ 1099511627776) : pw_addt o s = some (o ++ bl (txtB s)) := by
 unfold pw_addt
 rw [num_Put32_is]
 show (if o.length + (put32 (s.size : Int)).size + s.size ≤ 1099511627776 then _ else none) = _
 rw [put32_size, if_pos h]
 unfold txtB
 rw [bl_append, ← List.append_assoc]
 rfl
theorem pw_addp_is (o : List UInt8) (n : Int) (h : o.length + 4 ≤ 1099511627776) : pw_addp o n = some (o ++ bl (put32 n)) := by
 unfold pw_addp
 rw [num_Put32_is]
 show (if o.length + (put32 n).size ≤ 1099511627776 then _ else none) = _
 rw [put32_size, if_pos h]
 rfl
theorem pw_addc_is (o : List UInt8) (n : Int) (h : o.length + 2 ≤ 1099511627776) : pw_addc o n = some (o ++ bl (put16 n)) := by
 unfold pw_addc
 rw [num_Put16_is]
 show (if o.length + (put16 n).size ≤ 1099511627776 then _ else none) = _
 rw [put16_size, if_pos h]
 rfl
theorem pw_addf_is (o : List UInt8) (f : Bool) (h : o.length + 1 ≤ 1099511627776) : pw_addf o f = some (o ++ bl (opB f)) := by
 unfold pw_addf
 rw [if_pos h]
 cases f <;> rfl
theorem pw_edits1_is : ∀ (l : List Ed) (o : List UInt8), o.length + (edB1 l).size ≤ 1099511627776 → pw_edits1 l o = some (o ++ bl (edB1 l))
 | [], o, _ => by rw [pw_edits1, edB1]; show some o = some (o ++ []); rw [List.append_nil]
 | e :: r, o, h => by
  rw [edB1_cons] at h
  have l1 : (o ++ bl (put32 e.f0)).length = o.length + 4 := by rw [List.length_append, bl_length, put32_size]
  have l2 : (o ++ bl (put32 e.f0) ++ bl (txtB e.f1)).length = o.length + 8 + e.f1.size := by rw [List.length_append, l1, bl_length, txtB_size]; omega
  have l3 : (o ++ bl (put32 e.f0) ++ bl (txtB e.f1) ++ bl (txtB e.f2)).length = o.length + 12 + e.f1.size + e.f2.size := by rw [List.length_append, l2, bl_length, txtB_size]; omega
  rw [pw_edits1, pw_addp_is o e.f0 (by omega)]
  show (pw_addt _ e.f1).bind _ = _
  rw [pw_addt_is _ e.f1 (by omega)]
  show (pw_addt _ e.f2).bind _ = _
  rw [pw_addt_is _ e.f2 (by omega)]
  show pw_edits1 r _ = _
  rw [pw_edits1_is r _ (by omega), edB1, bl_append, bl_append, bl_append]
  simp only [List.append_assoc]
theorem pw_edits_is (l : List Ed) (o : List UInt8) (hl : l.length ≤ 1000000) (h : o.length + (edB l).size ≤ 1099511627776) : pw_edits l o = some (o ++ bl (edB l)) := by
 rw [edB_size] at h
 have l1 : (o ++ bl (put16 (l.length : Int))).length = o.length + 2 := by rw [List.length_append, bl_length, put16_size]
 unfold pw_edits
 rw [if_neg (by omega), pw_addc_is o _ (by omega)]
 show pw_edits1 l _ = _
 rw [pw_edits1_is l _ (by omega)]
 unfold edB
 rw [bl_append, List.append_assoc]
theorem pw_steps1_is : ∀ (l : List Stp) (o : List UInt8), (∀ s ∈ l, s.f0.length ≤ 1000000) → o.length + (stB1 l).size ≤ 1099511627776 → pw_steps1 l o = some (o ++ bl (stB1 l))
 | [], o, _, _ => by rw [pw_steps1, stB1]; show some o = some (o ++ []); rw [List.append_nil]
 | s :: r, o, hs, h => by
  rw [stB1_cons] at h
  have l1 : (o ++ bl (edB s.f0)).length = o.length + 2 + (edB1 s.f0).size := by rw [List.length_append, bl_length, edB_size]; omega
  rw [pw_steps1, pw_edits_is s.f0 o (hs s (List.mem_cons_self ..)) (by rw [edB_size]; omega)]
  show pw_steps1 r _ = _
  rw [pw_steps1_is r _ (fun x hx => hs x (List.mem_cons_of_mem _ hx)) (by omega), stB1, bl_append]
  simp only [List.append_assoc]
theorem pw_steps_is (l : List Stp) (o : List UInt8) (hl : l.length ≤ 1000000) (hs : ∀ s ∈ l, s.f0.length ≤ 1000000) (h : o.length + (stB l).size ≤ 1099511627776) : pw_steps l o = some (o ++ bl (stB l)) := by
 rw [stB_size] at h
 have l1 : (o ++ bl (put16 (l.length : Int))).length = o.length + 2 := by rw [List.length_append, bl_length, put16_size]
 unfold pw_steps
 rw [if_neg (by omega), pw_addc_is o _ (by omega)]
 show pw_steps1 l _ = _
 rw [pw_steps1_is l _ hs (by omega)]
 unfold stB
 rw [bl_append, List.append_assoc]
theorem pw_marks1_is : ∀ (l : List Mk) (o : List UInt8), o.length + (mkB1 l).size ≤ 1099511627776 → pw_marks1 l o = some (o ++ bl (mkB1 l))
 | [], o, _ => by rw [pw_marks1, mkB1]; show some o = some (o ++ []); rw [List.append_nil]
 | m :: r, o, h => by
  rw [mkB1_cons] at h
  have l1 : (o ++ bl (txtB m.f0)).length = o.length + 4 + m.f0.size := by rw [List.length_append, bl_length, txtB_size]; omega
  have l2 : (o ++ bl (txtB m.f0) ++ bl (put32 m.f1)).length = o.length + 8 + m.f0.size := by rw [List.length_append, l1, bl_length, put32_size]; omega
  rw [pw_marks1, pw_addt_is o m.f0 (by omega)]
  show (pw_addp _ m.f1).bind _ = _
  rw [pw_addp_is _ m.f1 (by omega)]
  show pw_marks1 r _ = _
  rw [pw_marks1_is r _ (by omega), mkB1, bl_append, bl_append]
  simp only [List.append_assoc]
/-- What the numbers of a state are held to here. -/
structure LayOk (t : ByteArray) (m : List Mk) (u r : List Stp) (g : List Ed) : Prop where
 ml : m.length ≤ 1000000
 ul : u.length ≤ 1000000
 rl : r.length ≤ 1000000
 gl : g.length ≤ 1000000
 us : ∀ s ∈ u, s.f0.length ≤ 1000000
 rs : ∀ s ∈ r, s.f0.length ≤ 1000000
 size : ∀ o, (layB t m u r o g).size ≤ 1000000000000
theorem layB_size (t : ByteArray) (m : List Mk) (u r : List Stp) (o : Bool) (g : List Ed) : (layB t m u r o g).size = 6 + t.size + (mkB1 m).size + (stB u).size + (stB r).size + 1 + (edB g).size := by
 unfold layB headB
 rw [ByteArray.size_append, ByteArray.size_append, ByteArray.size_append, ByteArray.size_append, ByteArray.size_append, ByteArray.size_append, txtB_size, put16_size, opB_size]
 omega
theorem pack_Lay_o_is (t : ByteArray) (m : List Mk) (u r : List Stp) (o : Bool) (g : List Ed) (K : LayOk t m u r g) : pack_Lay.o t m u r o g = some (bl (layB t m u r o g)) := by
 have hz := K.size o
 have sz := layB_size t m u r o g
 have l1 : (([] : List UInt8) ++ bl (txtB t)).length = 4 + t.size := by rw [List.nil_append, bl_length, txtB_size]
 have l2 : (([] : List UInt8) ++ bl (txtB t) ++ bl (put16 (m.length : Int))).length = 6 + t.size := by rw [List.length_append, l1, bl_length, put16_size]; omega
 have l3 : (([] : List UInt8) ++ bl (txtB t) ++ bl (put16 (m.length : Int)) ++ bl (mkB1 m)).length = 6 + t.size + (mkB1 m).size := by rw [List.length_append, l2, bl_length]
 have l4 : (([] : List UInt8) ++ bl (txtB t) ++ bl (put16 (m.length : Int)) ++ bl (mkB1 m) ++ bl (stB u)).length = 6 + t.size + (mkB1 m).size + (stB u).size := by rw [List.length_append, l3, bl_length]
 have l5 : (([] : List UInt8) ++ bl (txtB t) ++ bl (put16 (m.length : Int)) ++ bl (mkB1 m) ++ bl (stB u) ++ bl (stB r)).length = 6 + t.size + (mkB1 m).size + (stB u).size + (stB r).size := by rw [List.length_append, l4, bl_length]
 have l6 : (([] : List UInt8) ++ bl (txtB t) ++ bl (put16 (m.length : Int)) ++ bl (mkB1 m) ++ bl (stB u) ++ bl (stB r) ++ bl (opB o)).length = 6 + t.size + (mkB1 m).size + (stB u).size + (stB r).size + 1 := by rw [List.length_append, l5, bl_length, opB_size]
 unfold pack_Lay.o
 rw [if_neg (by have := K.ml; omega), pw_addt_is [] t (by simp only [List.length_nil]; omega)]
 show (pw_addc _ _).bind _ = _
 rw [pw_addc_is _ _ (by omega)]
 show (pw_marks1 m _).bind _ = _
 rw [pw_marks1_is m _ (by omega)]
 show (pw_steps u _).bind _ = _
 rw [pw_steps_is u _ K.ul K.us (by omega)]
 show (pw_steps r _).bind _ = _
 rw [pw_steps_is r _ K.rl K.rs (by omega)]
 show (pw_addf _ o).bind _ = _
 rw [pw_addf_is _ o (by omega)]
 show (pw_edits g _).bind _ = _
 rw [pw_edits_is g _ K.gl (by omega)]
 have e : (([] : List UInt8) ++ bl (txtB t) ++ bl (put16 (m.length : Int)) ++ bl (mkB1 m) ++ bl (stB u) ++ bl (stB r) ++ bl (opB o) ++ bl (edB g)) = bl (layB t m u r o g) := by
  unfold layB headB
  rw [bl_append, bl_append, bl_append, bl_append, bl_append, bl_append, List.nil_append]
 rw [e]
 show (if bl (layB t m u r o g) = [] then none else some (bl (layB t m u r o g))) = _
 rw [if_neg (fun z => by have := bl_length (layB t m u r o g); rw [z] at this; simp only [List.length_nil] at this; omega)]
/-- What is laid of a state, or why nothing. -/
def layV (t : ByteArray) (m : List Mk) (u r : List Stp) (o : Bool) (g : List Ed) : ByteArray × Int := if rightB t m u r o g = true then (layB t m u r o g, 0) else (⟨#[]⟩, 5)
theorem pack_Lay_ev (t : ByteArray) (m : List Mk) (u r : List Stp) (o : Bool) (g : List Ed) (F : Few25 t m u r g) (hb : ∀ s ∈ m, s.f0.size ≤ 140737488351232) (K : rightB t m u r o g = true → LayOk t m u r g) : Ev (fun k => pack_Lay.f k t m u r o g) (layV t m u r o g) := by
 unfold pack_Lay.f layV
 refine Ev.bind (state_Right_ev t m u r o g F hb) ?_
 cases q : rightB t m u r o g with
 | false => exact Ev.neg Bool.false_ne_true (Ev.now _)
 | true =>
  refine Ev.pos rfl ?_
  rw [pack_Lay_o_is t m u r o g (K q)]
  show Ev (fun _ => some ((⟨(bl (layB t m u r o g)).toArray⟩ : ByteArray), (0 : Int))) _
  rw [bl_mk]
  exact Ev.now _
/-- A right state's bytes are not many. -/
theorem edB1_le : ∀ (l : List Ed), l.all okE = true → (edB1 l).size ≤ 1036 * l.length
 | [], _ => by rw [edB1, em_size]; omega
 | e :: r, h => by
  rw [List.all_cons, Bool.and_eq_true] at h
  have h1 := of_decide_eq_true h.1
  have h2 := edB1_le r h.2
  rw [edB1_cons, List.length_cons]
  omega
theorem stB1_le (n : Nat) : ∀ (l : List Stp), l.all okT = true → (∀ s ∈ l, s.f0.length ≤ n) → (stB1 l).size ≤ (2 + 1036 * n) * l.length
 | [], _, _ => by rw [stB1, em_size]; omega
 | s :: r, h, hs => by
  rw [List.all_cons, Bool.and_eq_true] at h
  have h1 := edB1_le s.f0 h.1
  have h2 := stB1_le n r h.2 (fun x hx => hs x (List.mem_cons_of_mem _ hx))
  have h3 := hs s (List.mem_cons_self ..)
  rw [stB1_cons, List.length_cons, Nat.mul_add, Nat.mul_one]
  have h4 : 1036 * s.f0.length ≤ 1036 * n := Nat.mul_le_mul_left _ h3
  omega
theorem mkB1_le (n : Nat) : ∀ (l : List Mk), (∀ m ∈ l, m.f0.size ≤ n) → (mkB1 l).size ≤ (8 + n) * l.length
 | [], _ => by rw [mkB1, em_size]; omega
 | m :: r, h => by
  have h1 := h m (List.mem_cons_self ..)
  have h2 := mkB1_le n r (fun x hx => h x (List.mem_cons_of_mem _ hx))
  rw [mkB1_cons, List.length_cons, Nat.mul_add, Nat.mul_one]
  omega
end Go.Proofs.Ytnndanfghlnpfaa.P
