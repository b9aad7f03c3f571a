/- States: whether there is not too much of them, whether they are the same; the page's example. -/
import Derived.Test.YtnndanfghlnpfaaPx3
import Derived.Test.YtnndanfghlnpfaaPx24
import Derived.Test.YtnndanfghlnpfaaEvKit
namespace Go.Proofs.Ytnndanfghlnpfaa.P
open Go.RowKit Go.Proofs.YtnndanfghlnpfaaW.PrintWords Go.Proofs.YtnndanfghlnpfaaW.PrintLast
/-- What Few says of a state, and more: the numbers are wider than Few's (a state that was read needs them so). -/
structure Few25 (a : ByteArray) (m : List S49) (u r : List S38) (g : List S88) : Prop where
 text : a.size ≤ 5000
 marks : m.length ≤ 100000
 undo : u.length ≤ 100000
 redo : r.length ≤ 100000
 group : g.length ≤ 400
 us : ∀ s ∈ u, s.f0.length ≤ 400
 rs : ∀ s ∈ r, s.f0.length ≤ 400
def same_Mark (x y : S49) : Bool := x.f0.toList == y.f0.toList && (x.f1 == y.f1)
def same_Marks (x y : List S49) : Bool := x.length == y.length && (x.zip y).all fun p => same_Mark p.1 p.2
theorem same_Mark_drop (x y : List S49) (i : Nat) (h : i < x.length) (h' : i < y.length) : ((x.drop i).zip (y.drop i)).all (fun p => same_Mark p.1 p.2) = (same_Mark (rd_T49 x (i : Int)) (rd_T49 y (i : Int)) && ((x.drop (i + 1)).zip (y.drop (i + 1))).all (fun p => same_Mark p.1 p.2)) := by
 rw [List.drop_eq_getElem_cons h, List.drop_eq_getElem_cons h', List.zip_cons_cons, List.all_cons]
 simp [rd_T49, List.getD_eq_getElem?_getD, List.getElem?_eq_getElem h, List.getElem?_eq_getElem h']
def same_Edit (x y : S88) : Bool := x.f0 == y.f0 && (x.f1.toList == y.f1.toList && (x.f2.toList == y.f2.toList))
def same_Edits (x y : List S88) : Bool := x.length == y.length && (x.zip y).all fun p => same_Edit p.1 p.2
theorem same_Edit_drop (x y : List S88) (i : Nat) (h : i < x.length) (h' : i < y.length) : ((x.drop i).zip (y.drop i)).all (fun p => same_Edit p.1 p.2) = (same_Edit (rd_T88 x (i : Int)) (rd_T88 y (i : Int)) && ((x.drop (i + 1)).zip (y.drop (i + 1))).all (fun p => same_Edit p.1 p.2)) := by
 rw [List.drop_eq_getElem_cons h, List.drop_eq_getElem_cons h', List.zip_cons_cons, List.all_cons]
 simp [rd_T88, List.getD_eq_getElem?_getD, List.getElem?_eq_getElem h, List.getElem?_eq_getElem h']
def same_Steps (x y : List S38) : Bool := x.length == y.length && (x.zip y).all fun p => same_Edits p.1.f0 p.2.f0
theorem same_Steps_drop (x y : List S38) (i : Nat) (h : i < x.length) (h' : i < y.length) : ((x.drop i).zip (y.drop i)).all (fun p => same_Edits p.1.f0 p.2.f0) = (same_Edits (rd_T38 x (i : Int)).f0 (rd_T38 y (i : Int)).f0 && ((x.drop (i + 1)).zip (y.drop (i + 1))).all (fun p => same_Edits p.1.f0 p.2.f0)) := by
 rw [List.drop_eq_getElem_cons h, List.drop_eq_getElem_cons h', List.zip_cons_cons, List.all_cons]
 simp [rd_T38, List.getD_eq_getElem?_getD, List.getElem?_eq_getElem h, List.getElem?_eq_getElem h']
theorem rd_Step_mem (x : List S38) (i : Nat) (h : i < x.length) : rd_T38 x (i : Int) ∈ x := by
 simp [rd_T38, List.getD_eq_getElem?_getD, List.getElem?_eq_getElem h]
theorem ref22_Same_l (x y : List S49) (hxy : x.length = y.length) (hl : x.length ≤ 1000000) : ∀ (d i : Nat), i + d = x.length → Ev (fun k => sr22Same.l0 k x y (i : Int)) (((x.drop i).zip (y.drop i)).all fun p => same_Mark p.1 p.2)
 | 0, i, hd => by
  rw [List.drop_eq_nil_of_le (by omega)]
  exact Ev.step (f := fun _ => some true) (fun k => by rw [sr22Same.l0, if_neg (by omega)]) (Ev.now _)
 | d + 1, i, hd => by
  rw [same_Mark_drop x y i (by omega) (by omega)]
  cases hb : same_Mark (rd_T49 x (i : Int)) (rd_T49 y (i : Int)) with
  | false =>
   refine Ev.step (f := fun _ => some false) (fun k => ?_) (Ev.now _)
   rw [sr22Same.l0, if_pos (by omega), if_pos (by omega), if_pos (by omega), if_pos (by rw [← Bool.not_and]; exact congrArg not hb)]
  | true =>
   rw [Bool.true_and]
   refine Ev.step (fun k => ?_) (ref22_Same_l x y hxy hl d (i + 1) (by omega))
   rw [sr22Same.l0, if_pos (by omega), if_pos (by omega), if_pos (by omega), if_neg (by rw [← Bool.not_and]; rw [show (_ && _) = true from hb]; simp), w64 (x := (i : Int) + 1) (by omega) (by omega)]
   rfl
theorem ref22_Same_ev (x y : List S49) (hl : x.length ≤ 1000000) : Ev (fun k => sr22Same.f k x y) (same_Marks x y) := by
 unfold sr22Same.f same_Marks
 by_cases h : x.length = y.length
 ·rw [beq_iff_eq.mpr h, Bool.true_and]
  exact Ev.pos (by omega) (ref22_Same_l x y h hl x.length 0 (by omega))
 ·rw [beq_eq_false_iff_ne.mpr h, Bool.false_and]
  exact Ev.neg (by omega) (Ev.now _)
theorem ref23_Same_l (x y : List S88) (hxy : x.length = y.length) (hl : x.length ≤ 1000000) : ∀ (d i : Nat), i + d = x.length → Ev (fun k => sr23Same.l0 k (i : Int) x y) (((x.drop i).zip (y.drop i)).all fun p => same_Edit p.1 p.2)
 | 0, i, hd => by
  rw [List.drop_eq_nil_of_le (by omega)]
  exact Ev.step (f := fun _ => some true) (fun k => by rw [sr23Same.l0, if_neg (by omega)]) (Ev.now _)
 | d + 1, i, hd => by
  rw [same_Edit_drop x y i (by omega) (by omega)]
  cases hb : same_Edit (rd_T88 x (i : Int)) (rd_T88 y (i : Int)) with
  | false =>
   refine Ev.step (f := fun _ => some false) (fun k => ?_) (Ev.now _)
   rw [sr23Same.l0, if_pos (by omega), if_pos (by omega), if_pos (by omega), if_pos (by rw [← Bool.not_and, ← Bool.not_and]; exact congrArg not hb)]
  | true =>
   rw [Bool.true_and]
   refine Ev.step (fun k => ?_) (ref23_Same_l x y hxy hl d (i + 1) (by omega))
   rw [sr23Same.l0, if_pos (by omega), if_pos (by omega), if_pos (by omega), if_neg (by rw [← Bool.not_and, ← Bool.not_and]; rw [show (_ && (_ && _)) = true from hb]; simp), w64 (x := (i : Int) + 1) (by omega) (by omega)]
   rfl
theorem ref23_Same_ev (x y : List S88) (hl : x.length ≤ 1000000) : Ev (fun k => sr23Same.f k x y) (same_Edits x y) := by
 unfold sr23Same.f same_Edits
 by_cases h : x.length = y.length
 ·rw [beq_iff_eq.mpr h, Bool.true_and]
  exact Ev.pos (by omega) (ref23_Same_l x y h hl x.length 0 (by omega))
 ·rw [beq_eq_false_iff_ne.mpr h, Bool.false_and]
  exact Ev.neg (by omega) (Ev.now _)
theorem ref23_Steps_l (x y : List S38) (hxy : x.length = y.length) (hl : x.length ≤ 1000000) (hs : ∀ p ∈ x, p.f0.length ≤ 1000000) : ∀ (d i : Nat), i + d = x.length → Ev (fun k => sr23Steps.l0 k x y (i : Int)) (((x.drop i).zip (y.drop i)).all fun p => same_Edits p.1.f0 p.2.f0)
 | 0, i, hd => by
  rw [List.drop_eq_nil_of_le (by omega)]
  exact Ev.step (f := fun _ => some true) (fun k => by rw [sr23Steps.l0, if_neg (by omega)]) (Ev.now _)
 | d + 1, i, hd => by
  rw [same_Steps_drop x y i (by omega) (by omega)]
  refine Ev.step (fun k => by rw [sr23Steps.l0, if_pos (by omega), if_pos (by omega), if_pos (by omega)]) (Ev.bind (ref23_Same_ev _ _ (hs _ (rd_Step_mem x i (by omega)))) ?_)
  cases same_Edits (rd_T38 x (i : Int)).f0 (rd_T38 y (i : Int)).f0 with
  | false => exact Ev.neg Bool.false_ne_true (Ev.now _)
  | true =>
   rw [Bool.true_and]
   refine Ev.pos rfl ?_
   rw [w64 (x := (i : Int) + 1) (by omega) (by omega)]
   exact ref23_Steps_l x y hxy hl hs d (i + 1) (by omega)
theorem ref23_Steps_ev (x y : List S38) (hl : x.length ≤ 1000000) (hs : ∀ p ∈ x, p.f0.length ≤ 1000000) : Ev (fun k => sr23Steps.f k x y) (same_Steps x y) := by
 unfold sr23Steps.f same_Steps
 by_cases h : x.length = y.length
 ·rw [beq_iff_eq.mpr h, Bool.true_and]
  exact Ev.pos (by omega) (ref23_Steps_l x y h hl hs x.length 0 (by omega))
 ·rw [beq_eq_false_iff_ne.mpr h, Bool.false_and]
  exact Ev.neg (by omega) (Ev.now _)
def same_State (a : ByteArray) (m : List S49) (u r : List S38) (o : Bool) (g : List S88) (a' : ByteArray) (m' : List S49) (u' r' : List S38) (o' : Bool) (g' : List S88) : Bool :=
 decide (a.toList = a'.toList) && (same_Marks m m' && (same_Steps u u' && (same_Steps r r' && ((o == o') && same_Edits g g'))))
theorem ref25_Same_ev (a : ByteArray) (m : List S49) (u r : List S38) (o : Bool) (g : List S88) (a' : ByteArray) (m' : List S49) (u' r' : List S38) (o' : Bool) (g' : List S88) (F : Few25 a m u r g) :
  Ev (fun k => sr25Same.f k a m u r o g a' m' u' r' o' g') (same_State a m u r o g a' m' u' r' o' g') := by
 have h1 := ref22_Same_ev m m' (by have := F.marks; omega)
 have h2 := ref23_Steps_ev u u' (by have := F.undo; omega) (fun p h => by have := F.us p h; omega)
 have h3 := ref23_Steps_ev r r' (by have := F.redo; omega) (fun p h => by have := F.rs p h; omega)
 have h4 := ref23_Same_ev g g' (by have := F.group; omega)
 unfold sr25Same.f same_State
 by_cases c : a.toList = a'.toList
 ·rw [decide_eq_true c, Bool.true_and]
  refine Ev.pos c (Ev.bind h1 ?_)
  cases same_Marks m m'
  ·exact Ev.neg Bool.false_ne_true (Ev.now _)
  refine Ev.pos rfl (Ev.bind h2 ?_)
  rw [Bool.true_and]
  cases same_Steps u u'
  ·exact Ev.neg Bool.false_ne_true (Ev.now _)
  refine Ev.pos rfl (Ev.bind h3 ?_)
  rw [Bool.true_and]
  cases same_Steps r r'
  ·exact Ev.neg Bool.false_ne_true (Ev.now _)
  rw [Bool.true_and]
  refine Ev.pos rfl ?_
  cases (o == o')
  ·exact Ev.neg Bool.false_ne_true (Ev.now _)
  ·rw [Bool.true_and]
   exact Ev.pos rfl (Ev.bind h4 (Ev.now _))
 ·rw [decide_eq_false c, Bool.false_and]
  exact Ev.neg c (Ev.now _)
theorem same_zip {α : Type} {f : α → α → Bool} (hf : ∀ x, f x x = true) : ∀ l : List α, ((l.zip l).all fun p => f p.1 p.2) = true
 | [] => rfl
 | x :: l => by rw [List.zip_cons_cons, List.all_cons, hf, same_zip hf l]; rfl
theorem same_Edits_refl (l : List S88) : same_Edits l l = true := by
 unfold same_Edits
 rw [beq_self_eq_true, Bool.true_and]
 exact same_zip (fun x => by simp [same_Edit]) l
theorem same_State_refl (a : ByteArray) (m : List S49) (u r : List S38) (o : Bool) (g : List S88) : same_State a m u r o g a m u r o g = true := by
 have hs : ∀ l : List S38, same_Steps l l = true := fun l => by
  unfold same_Steps
  rw [beq_self_eq_true, Bool.true_and]
  exact same_zip (f := fun x y => same_Edits x.f0 y.f0) (fun x => same_Edits_refl _) l
 have hm : same_Marks m m = true := by
  unfold same_Marks
  rw [beq_self_eq_true, Bool.true_and]
  exact same_zip (fun x => by simp [same_Mark]) m
 unfold same_State
 rw [hm, hs, hs, same_Edits_refl, decide_eq_true rfl, beq_self_eq_true]
 rfl
end Go.Proofs.Ytnndanfghlnpfaa.P
