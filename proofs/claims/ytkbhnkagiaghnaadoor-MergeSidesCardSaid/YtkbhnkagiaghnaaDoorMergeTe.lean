/- What pieces of three texts come to: what is said of each, put together; the program's and the reference's. -/
import Derived.Test.YtkbhnkagiaghnaaDoorPx2
import Derived.Test.YtkbhnkagiaghnaaDoorPx4
import Derived.Test.YtkbhnkagiaghnaaDoorPx5
import Derived.Test.YtkbhnkagiaghnaaDoorPx6
import Derived.Test.YtkbhnkagiaghnaaDoorPx10
import Derived.Test.YtkbhnkagiaghnaaDoorPx12
import Derived.Test.YtkbhnkagiaghnaaDoorMergeEv
namespace Go.Proofs.YtkbhnkagiaghnaaDoor.P
open Go.RowKit Go.Proofs.YtkbhnkagiaghnaaDoorW.PrintWords Go.Proofs.YtkbhnkagiaghnaaDoorW.PrintLast
def catL (l : List ByteArray) : List UInt8 := (l.map (·.data.toList)).flatten
theorem catL_app (x y : List ByteArray) : catL (x ++ y) = catL x ++ catL y := by simp [catL]
theorem catL_cons (x : ByteArray) (y : List ByteArray) : catL (x :: y) = x.data.toList ++ catL y := by simp [catL]
theorem bal_size (x : List UInt8) : (bal x).size = x.length := by simp [bal, ByteArray.size]
theorem bal_app (x : List UInt8) (s : ByteArray) : bal x ++ s = bal (x ++ s.data.toList) := by
 apply ByteArray.ext
 apply Array.ext'
 simp [bal]
theorem bal_bal (x y : List UInt8) : bal x ++ bal y = bal (x ++ y) := bal_app x (bal y)
theorem join_nil (xs : List (List UInt8)) : Lib.join xs ([] : List UInt8) = xs.flatten := by
 unfold Lib.join List.intercalate
 induction xs with
 | nil => rfl
 | cons x l ih =>
  cases l with
  | nil => simp
  | cons y l => simp [List.intersperse] at ih ⊢; exact ih
theorem join_f (l : List ByteArray) (hl : l.length ≤ 1000000) (hc : (catL l).length ≤ 10000000) : strings_Join.f l (⟨#[]⟩ : ByteArray) = some (bal (catL l)) := by
 unfold strings_Join.f
 rw [show ((⟨#[]⟩ : ByteArray)).data.toList = [] from rfl, join_nil]
 exact if_pos ⟨hl, by unfold catL at hc; omega⟩
def hasNl (s : ByteArray) : Bool := s.data.toList.getLast? == some 10
theorem suffix_f (s : ByteArray) (hs : s.size ≤ 10000000) : strings_HasSuffix.f s (⟨#[10]⟩ : ByteArray) = some (hasNl s) := by
 have key : stringslite_HasSuffix.f s (⟨#[10]⟩ : ByteArray) = some (hasNl s) := by
  unfold stringslite_HasSuffix.f hasNl
  have hz := data_length s
  rw [show ((⟨#[10]⟩ : ByteArray).size : Int) = 1 from rfl]
  rcases List.eq_nil_or_concat s.data.toList with h | ⟨x, b, h⟩
  ·rw [h] at hz
   rw [if_neg (by simp at hz; omega), h]
   rfl
  ·rw [List.concat_eq_append] at h
   rw [h, List.length_append] at hz
   simp only [List.length_cons, List.length_nil] at hz
   rw [if_pos (by omega), w64 (x := (s.size : Int) - 1) (by omega) (by omega), if_pos (by omega), if_pos (by omega), show ((s.size : Int) - 1).toNat = x.length by omega, bal_extract, List.take_of_length_le (by rw [data_length]; exact Nat.le_refl _), h, ByteArray.toList_eq, ByteArray.toList_eq]
   show some (((x ++ [b]).drop x.length).toArray.toList == [10]) = _
   simp
 unfold strings_HasSuffix.f
 rw [key]
 rfl
def enL (l : List ByteArray) : List UInt8 := (l.map fun s => s.data.toList ++ (if hasNl s = true then [] else [10])).flatten
theorem enL_cons (s : ByteArray) (l : List ByteArray) : enL (s :: l) = s.data.toList ++ (if hasNl s = true then [] else [10]) ++ enL l := by simp [enL]
theorem enL_len : ∀ l : List ByteArray, (enL l).length ≤ (catL l).length + l.length
 | [] => Nat.zero_le _
 | s :: l => by
  have := enL_len l
  rw [enL_cons, catL_cons, List.length_append, List.length_append, List.length_append, List.length_cons]
  have h : (if hasNl s = true then ([] : List UInt8) else [10]).length ≤ 1 := by split <;> simp
  omega
theorem enGo_f : ∀ (l : List ByteArray) (o : List UInt8), o.length + (catL l).length + l.length ≤ 10000000 → enGo l o = some (o ++ enL l)
 | [], o, _ => by rw [enGo, show enL [] = [] from rfl, List.append_nil]
 | s :: l, o, h => by
  have hz := data_length s
  have hb : (if hasNl s = true then ([] : List UInt8) else [10]).length ≤ 1 := by split <;> simp
  rw [catL_cons, List.length_append, List.length_cons] at h
  rw [enGo, suffix_f s (by omega), Option.bind_some, if_pos (by omega), enGo_f l _ (by rw [List.length_append, List.length_append]; omega), enL_cons]
  simp only [List.append_assoc]
theorem ended_f (l : List ByteArray) (hl : l.length ≤ 1000000) (hc : (catL l).length ≤ 1000000) : merge_ended.f l = some (bal (enL l)) := by
 unfold merge_ended.f
 rw [if_pos hl, enGo_f l [] (by simp; omega)]
 rfl
theorem Equal_l (x y : List ByteArray) (hxy : x.length = y.length) (hl : x.length ≤ 1000000) : ∀ (d i : Nat), i + d = x.length → Ev (fun k => slices_Equal__string_string.l0 k x y (x.length : Int) (i : Int)) (decide (x.drop i = y.drop i))
 | 0, i, hd => by
  rw [List.drop_eq_nil_of_le (by omega), List.drop_eq_nil_of_le (by omega), decide_eq_true rfl]
  exact Ev.step (f := fun _ => some true) (fun k => by rw [slices_Equal__string_string.l0, if_neg (by omega)]) (Ev.now _)
 | d + 1, i, hd => by
  have h1 : i < x.length := by omega
  have h2 : i < y.length := by omega
  rw [List.drop_eq_getElem_cons h1, List.drop_eq_getElem_cons h2]
  by_cases q : x[i] = y[i]
  ·have h := Equal_l x y hxy hl d (i + 1) (by omega)
   have e : decide (x[i] :: x.drop (i + 1) = y[i] :: y.drop (i + 1)) = decide (x.drop (i + 1) = y.drop (i + 1)) := decide_eq_decide.2 ⟨fun z => (List.cons.inj z).2, fun z => by rw [q, z]⟩
   rw [e]
   exact Ev.step (fun k => by rw [slices_Equal__string_string.l0, if_pos (by omega), if_pos (by omega), if_pos (by omega), if_pos (by omega), rd51 x i h1, rd51 y i h2, if_pos ((txt_eq _ _).2 q), w64 (x := (i : Int) + 1) (by omega) (by omega)]; rfl) h
  ·have e : decide (x[i] :: x.drop (i + 1) = y[i] :: y.drop (i + 1)) = false := decide_eq_false (fun z => q (List.cons.inj z).1)
   rw [e]
   exact Ev.step (f := fun _ => some false) (fun k => by rw [slices_Equal__string_string.l0, if_pos (by omega), if_pos (by omega), if_pos (by omega), if_pos (by omega), rd51 x i h1, rd51 y i h2, if_neg (fun z => q ((txt_eq _ _).1 z))]) (Ev.now _)
theorem Equal_ev (x y : List ByteArray) (hl : x.length ≤ 1000000) : Ev (fun k => slices_Equal__string_string.f k x y) (decide (x = y)) := by
 unfold slices_Equal__string_string.f
 by_cases h : x.length = y.length
 ·have := Equal_l x y h hl x.length 0 (by omega)
  exact Ev.pos (by omega) (by simpa using this)
 ·rw [decide_eq_false (fun z => h (by rw [z]))]
  exact Ev.neg (by omega) (Ev.now _)
def tL1 : List UInt8 := [60, 60, 60, 60, 60, 60, 60, 10]
def tL2 : List UInt8 := [61, 61, 61, 61, 61, 61, 61, 10]
def tL3 : List UInt8 := [62, 62, 62, 62, 62, 62, 62, 10]
/-- What is said of a piece. -/
def vd (p : PT) : List UInt8 × Bool :=
 if p.2.2.2 = true ∨ p.2.1 = p.2.2.1 ∨ p.2.2.1 = p.1 then (catL p.2.1, false) else if p.2.1 = p.1 then (catL p.2.2.1, false) else (tL1 ++ enL p.2.1 ++ tL2 ++ enL p.2.2.1 ++ tL3, true)
/-- A piece that is not too great. -/
def Small (M : Nat) (p : PT) : Prop := (p.1.length ≤ 200 ∧ p.2.1.length ≤ 200 ∧ p.2.2.1.length ≤ 200) ∧ (catL p.1).length ≤ M ∧ (catL p.2.1).length ≤ M ∧ (catL p.2.2.1).length ≤ M
theorem vd_len (M : Nat) (p : PT) (h : Small M p) : (vd p).1.length ≤ 2 * M + 424 := by
 obtain ⟨⟨h1, h2, h3⟩, h4, h5, h6⟩ := h
 have e1 := enL_len p.2.1
 have e2 := enL_len p.2.2.1
 unfold vd
 split
 ·show (catL p.2.1).length ≤ _; omega
 ·split
  ·show (catL p.2.2.1).length ≤ _; omega
  ·simp only [List.length_append, tL1, tL2, tL3, List.length_cons, List.length_nil]; omega
theorem judge_ev (M : Nat) (hM : M ≤ 100000) (p : PT) (h : Small M p) : Ev (fun k => merge_judge.f k p.1 p.2.1 p.2.2.1 p.2.2.2) (bal (vd p).1, (vd p).2) := by
 obtain ⟨⟨h1, h2, h3⟩, h4, h5, h6⟩ := h
 have J1 : Ev (fun k => merge_judge.j0 k true p.1 p.2.1 p.2.2.1 p.2.2.2) (bal (catL p.2.1), false) :=
  Ev.step (fun k => by rw [merge_judge.j0, if_pos (rfl : true = true)]) (Ev.call (join_f p.2.1 (by omega) (by omega)) (Ev.now _))
 unfold merge_judge.f vd
 by_cases c0 : p.2.2.2 = true
 ·rw [if_pos (.inl c0)]
  exact Ev.pos c0 J1
 ·refine Ev.neg c0 (Ev.bind (Equal_ev p.2.1 p.2.2.1 (by omega)) ?_)
  by_cases c1 : p.2.1 = p.2.2.1
  ·rw [if_pos (.inr (.inl c1)), decide_eq_true c1]
   exact J1
  ·rw [decide_eq_false c1]
   refine Ev.step (fun k => by rw [merge_judge.j0, if_neg Bool.false_ne_true]) (Ev.bind (Equal_ev p.2.2.1 p.1 (by omega)) ?_)
   by_cases c2 : p.2.2.1 = p.1
   ·rw [if_pos (.inr (.inr c2)), decide_eq_true c2]
    exact Ev.pos rfl (Ev.call (join_f p.2.1 (by omega) (by omega)) (Ev.now _))
   ·rw [if_neg (by simp [c0, c1, c2]), decide_eq_false c2]
    refine Ev.neg Bool.false_ne_true (Ev.bind (Equal_ev p.2.1 p.1 (by omega)) ?_)
    by_cases c3 : p.2.1 = p.1
    ·rw [if_pos c3, decide_eq_true c3]
     exact Ev.pos rfl (Ev.call (join_f p.2.2.1 (by omega) (by omega)) (Ev.now _))
    ·rw [if_neg c3, decide_eq_false c3]
     have e1 := enL_len p.2.1
     have e2 := enL_len p.2.2.1
     have a1 : (⟨#[60, 60, 60, 60, 60, 60, 60, 10]⟩ : ByteArray) = bal tL1 := rfl
     have a2 : (⟨#[61, 61, 61, 61, 61, 61, 61, 10]⟩ : ByteArray) = bal tL2 := rfl
     have a3 : (⟨#[62, 62, 62, 62, 62, 62, 62, 10]⟩ : ByteArray) = bal tL3 := rfl
     have l1 : tL1.length = 8 := rfl
     have l2 : tL2.length = 8 := rfl
     refine Ev.neg Bool.false_ne_true (Ev.call (ended_f p.2.1 (by omega) (by omega)) ?_)
     refine Ev.pos (by rw [bal_size]; omega) ?_
     rw [a1, a2, a3, bal_bal]
     refine Ev.pos (by rw [bal_size, List.length_append]; omega) (Ev.call (ended_f p.2.2.1 (by omega) (by omega)) ?_)
     rw [bal_bal, bal_bal, bal_bal]
     refine Ev.pos (by rw [bal_size, bal_size, List.length_append, List.length_append]; omega) (Ev.pos (by rw [bal_size, List.length_append, List.length_append, List.length_append]; omega) (Ev.now _))
def outL (L : List PT) : List UInt8 := (L.map fun p => (vd p).1).flatten
def tornN : List PT → Int
 | [] => 0
 | p :: l => (if (vd p).2 = true then 1 else 0) + tornN l
theorem outL_cons (p : PT) (l : List PT) : outL (p :: l) = (vd p).1 ++ outL l := by simp [outL]
theorem mg_ev (M : Nat) (hM : M ≤ 1000) : ∀ (L : List PT) (o : List UInt8) (t : Int), (∀ p ∈ L, Small M p) → o.length + L.length * 3000 ≤ 10000000 → 0 ≤ t → t + L.length ≤ 1000000 → Ev (fun k => mgGo k (L.map pA) o t) (o ++ outL L, t + tornN L)
 | [], o, t, _, _, _, _ => by
  rw [show outL [] = [] from rfl, List.append_nil, tornN, Int.add_zero]
  exact Ev.now _
 | p :: L, o, t, hp, ho, ht, hl => by
  rw [List.length_cons] at ho hl
  have h1 := hp p (List.mem_cons_self ..)
  have hv := vd_len M p h1
  have ih := mg_ev M hM L (o ++ (vd p).1) (if (vd p).2 = true then t + 1 else t) (fun q hq => hp q (List.mem_cons_of_mem _ hq)) (by rw [List.length_append]; omega) (by split <;> omega) (by split <;> omega)
  have e : (o ++ (vd p).1 ++ outL L, (if (vd p).2 = true then t + 1 else t) + tornN L) = (o ++ outL (p :: L), t + tornN (p :: L)) := by
   rw [outL_cons, tornN, List.append_assoc]
   congr 1
   split <;> omega
  rw [e] at ih
  show Ev (fun k => (merge_judge.f k p.1 p.2.1 p.2.2.1 p.2.2.2).bind fun v => if o.length + v.1.size ≤ 1099511627776 ∧ 0 ≤ t ∧ t ≤ 1000000 then mgGo k (L.map pA) (o ++ v.1.data.toList) (if v.2 = true then t + 1 else t) else none) _
  exact Ev.bind (judge_ev M (by omega) p h1) (Ev.pos ⟨by show o.length + (bal (vd p).1).size ≤ _; rw [bal_size]; omega, ht, by omega⟩ ih)
/-- What holds of all stretches of the three holds of all pieces' lines. -/
theorem pcP_all (R : List ByteArray → Prop) (a b c : List ByteArray) (hA : ∀ n k, R ((a.take n).drop k)) (hB : ∀ n k, R ((b.take n).drop k)) (hC : ∀ n k, R ((c.take n).drop k)) : ∀ (xs ys : List Int) (n k i j : Nat), ∀ p ∈ pcP a b c xs ys n k i j, R p.1 ∧ R p.2.1 ∧ R p.2.2.1 := by
 have one : ∀ (k i j n x y : Nat), ∀ p ∈ oneP a b c k i j n x y, R p.1 ∧ R p.2.1 ∧ R p.2.2.1 := by
  intro k i j n x y p hp
  unfold oneP at hp
  split at hp
  ·cases hp
  ·rw [List.mem_singleton] at hp
   subst hp
   exact ⟨hA _ _, hB _ _, hC _ _⟩
 intro xs
 induction xs with
 | nil =>
  intro ys n k i j p hp
  rw [pcP] at hp
  exact one _ _ _ _ _ _ p hp
 | cons x xs ih =>
  intro ys n k i j p hp
  cases ys with
  | nil =>
   rw [pcP] at hp
   exact one _ _ _ _ _ _ p hp
  | cons y ys =>
   rw [pcP] at hp
   split at hp
   ·rcases List.mem_append.1 hp with h | h
    ·exact one _ _ _ _ _ _ p h
    ·rcases List.mem_cons.1 h with rfl | h
     ·exact ⟨hA _ _, hA _ _, hA _ _⟩
     ·exact ih ys _ _ _ _ p h
   ·exact ih ys _ _ _ _ p hp
theorem catL_cut (a : List ByteArray) (n k : Nat) : (catL ((a.take n).drop k)).length ≤ (catL a).length := by
 have h1 := congrArg (fun z => (catL z).length) (List.take_append_drop n a)
 have h2 := congrArg (fun z => (catL z).length) (List.take_append_drop k (a.take n))
 simp only [catL_app, List.length_append] at h1 h2
 omega
theorem pieces_small (M : Nat) (a b c : List ByteArray) (ha : a.length ≤ 200) (hb : b.length ≤ 200) (hc : c.length ≤ 200) (ma : (catL a).length ≤ M) (mb : (catL b).length ≤ M) (mc : (catL c).length ≤ M) : ∀ p ∈ pieces a b c, Small M p := by
 have cut : ∀ (x : List ByteArray), x.length ≤ 200 → (catL x).length ≤ M → ∀ n k, ((x.take n).drop k).length ≤ 200 ∧ (catL ((x.take n).drop k)).length ≤ M := fun x h1 h2 n k => ⟨by rw [List.length_drop, List.length_take]; omega, Nat.le_trans (catL_cut x n k) h2⟩
 intro p hp
 obtain ⟨⟨h1, h2⟩, ⟨h3, h4⟩, ⟨h5, h6⟩⟩ := pcP_all (fun r => r.length ≤ 200 ∧ (catL r).length ≤ M) a b c (cut a ha ma) (cut b hb mb) (cut c hc mc) _ _ _ _ _ _ p hp
 exact ⟨⟨h1, h3, h5⟩, h2, h4, h6⟩
theorem catL_lines : ∀ (l acc : List UInt8), catL ((lines acc l).map bal) = acc ++ l
 | [], acc => by
  rw [lines]
  split
  ·rename_i h; subst h; rfl
  ·show catL [bal acc] = acc ++ []
   rw [catL_cons]; rfl
 | b :: l, acc => by
  rw [lines]
  split
  ·rename_i h
   subst h
   rw [List.map_cons, catL_cons, catL_lines l []]
   show (acc ++ [10]) ++ ([] ++ l) = _
   simp
  ·rw [catL_lines l (acc ++ [b])]
   simp
theorem lines_le : ∀ (l acc : List UInt8), (lines acc l).length ≤ l.length + (if acc = [] then 0 else 1)
 | [], acc => by rw [lines]; split <;> simp
 | b :: l, acc => by
  rw [lines]
  split
  ·have := lines_le l []
   rw [if_pos rfl] at this
   rw [List.length_cons, List.length_cons]; omega
  ·have := lines_le l (acc ++ [b])
   rw [if_neg (by simp)] at this
   rw [List.length_cons]; omega
def linesB (s : ByteArray) : List ByteArray := (lines [] s.data.toList).map bal
theorem linesB_cat (s : ByteArray) : catL (linesB s) = s.data.toList := by unfold linesB; rw [catL_lines]; rfl
theorem linesB_len (s : ByteArray) : (linesB s).length ≤ s.size := by
 have h := lines_le s.data.toList []
 rw [if_pos rfl, data_length] at h
 unfold linesB
 rw [List.length_map]; exact h
theorem Merge_ev (a b c : ByteArray) (ha : a.size ≤ 400) (hb : b.size ≤ 400) (hc : c.size ≤ 400) (sa : (linesB a).length ≤ 200) (sb : (linesB b).length ≤ 200) (sc : (linesB c).length ≤ 200) :
  Ev (fun k => merge_Merge.f k a b c) (bal (outL (pieces (linesB a) (linesB b) (linesB c))), tornN (pieces (linesB a) (linesB b) (linesB c))) := by
 have hs := pieces_small 400 (linesB a) (linesB b) (linesB c) sa sb sc (by rw [linesB_cat, data_length]; omega) (by rw [linesB_cat, data_length]; omega) (by rw [linesB_cat, data_length]; omega)
 have hl := pcP_len (linesB a) (linesB b) (linesB c) (mt (linesB a) (linesB b) 0) (mt (linesB a) (linesB c) 0) 0 0 0 0
 rw [mt_length] at hl
 have hm := mg_ev 400 (by omega) (pieces (linesB a) (linesB b) (linesB c)) [] 0 hs (by unfold pieces; simp; omega) (Int.le_refl _) (by unfold pieces; omega)
 rw [List.nil_append, Int.zero_add] at hm
 unfold merge_Merge.f
 refine Ev.bind (hunks_Cut_ev a (by omega)) (Ev.bind (hunks_Cut_ev b (by omega)) (Ev.bind (hunks_Cut_ev c (by omega)) (Ev.bind (Pieces_ev (linesB a) (linesB b) (linesB c) sa sb sc) (Ev.pos (by rw [List.length_map]; unfold pieces; omega) ?_))))
 obtain ⟨k0, h0⟩ := hm
 exact ⟨k0, fun k hk => by
  show Option.map _ (mgGo k ((pieces (linesB a) (linesB b) (linesB c)).map pA) [] 0) = _
  rw [show mgGo k ((pieces (linesB a) (linesB b) (linesB c)).map pA) [] 0 = _ from h0 k hk]
  rfl⟩
end Go.Proofs.YtkbhnkagiaghnaaDoor.P
