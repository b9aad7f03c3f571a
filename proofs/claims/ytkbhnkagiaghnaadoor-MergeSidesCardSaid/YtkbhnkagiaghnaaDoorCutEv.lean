/- Texts cut into lines: what the program's iterator hands on and what the reference's loop tells are the same. -/
import Derived.Test.YtkbhnkagiaghnaaDoorPx5
import Derived.Test.YtkbhnkagiaghnaaDoorPx12
import Derived.Test.YtkbhnkagiaghnaaDoorEvKit
import Derived.Lib.Bytealg
namespace Go.Proofs.YtkbhnkagiaghnaaDoor.P
open Go.RowKit Go.Proofs.YtkbhnkagiaghnaaDoorW.PrintWords Go.Proofs.YtkbhnkagiaghnaaDoorW.PrintLast
def bal (l : List UInt8) : ByteArray := ⟨l.toArray⟩
theorem bal_data (s : ByteArray) : bal s.data.toList = s := ByteArray.ext (by simp [bal])
theorem bal_extract (s : ByteArray) (i j : Nat) : s.extract i j = bal ((s.data.toList.take j).drop i) := by
 apply ByteArray.ext
 apply Array.ext'
 simp [bal, List.extract_eq_take_drop, List.drop_take]
/-- The lines of a text, what lies before them at hand. -/
def lines : List UInt8 → List UInt8 → List (List UInt8)
 | acc, [] => if acc = [] then [] else [acc]
 | acc, b :: l => if b = 10 then (acc ++ [b]) :: lines [] l else lines (acc ++ [b]) l
theorem idx_cons (b : UInt8) (l : List UInt8) : Lib.indexByte (b :: l) 10 = if b = 10 then 0 else if Lib.indexByte l 10 = -1 then -1 else Lib.indexByte l 10 + 1 := by
 rw [Lib.indexByte]
 simp only [beq_iff_eq]
theorem lines_no : ∀ (l acc : List UInt8), Lib.indexByte l 10 = -1 → lines acc l = if acc ++ l = [] then [] else [acc ++ l]
 | [], acc, _ => by rw [lines, List.append_nil]
 | b :: l, acc, h => by
  have hr := cut_idx l 10
  rw [idx_cons] at h
  by_cases c : b = 10
  ·rw [if_pos c] at h; omega
  rw [if_neg c] at h
  have h2 : Lib.indexByte l 10 = -1 := by
   split at h
   ·omega
   ·omega
  rw [lines, if_neg c, lines_no l (acc ++ [b]) h2, List.append_assoc]
  rfl
theorem lines_at : ∀ (l acc : List UInt8) (i : Nat), Lib.indexByte l 10 = (i : Int) → lines acc l = (acc ++ l.take (i + 1)) :: lines [] (l.drop (i + 1))
 | [], acc, i, h => by rw [Lib.indexByte] at h; omega
 | b :: l, acc, i, h => by
  have hr := cut_idx l 10
  rw [idx_cons] at h
  by_cases c : b = 10
  ·rw [if_pos c] at h
   obtain rfl : i = 0 := by omega
   rw [lines, if_pos c]
   rfl
  rw [if_neg c] at h
  obtain ⟨j, rfl⟩ : ∃ j, i = j + 1 := by
   rcases i with _ | j
   ·split at h <;> omega
   ·exact ⟨j, rfl⟩
  have h2 : Lib.indexByte l 10 = (j : Int) := by
   split at h
   ·omega
   ·omega
  rw [lines, if_neg c, lines_at l (acc ++ [b]) j h2, List.append_assoc]
  rfl
theorem cut_no (s : ByteArray) (c : ¬ 0 ≤ cut_at s) : Ev (fun k => cut_go k s) [s] ∧ cut_outs [s] = (lines [] s.data.toList).map bal := by
 have hr := cut_idx s.data.toList 10
 have hno : Lib.indexByte s.data.toList 10 = -1 := by unfold cut_at at c; omega
 refine ⟨Ev.step (f := fun _ => some [s]) (fun k => by rw [cut_go, if_neg c]) (Ev.now _), ?_⟩
 rw [lines_no _ [] hno, List.nil_append]
 unfold cut_outs
 by_cases q : s.data.toList = []
 ·rw [if_pos q, List.filter_cons, ByteArray.toList_eq, q]; rfl
 ·have : (s.data.toList == ([] : List UInt8)) = false := beq_eq_false_iff_ne.2 q
  rw [if_neg q, List.filter_cons, ByteArray.toList_eq, this, List.map_cons, bal_data]; rfl
theorem cut_ev : ∀ (n : Nat) (s : ByteArray), s.size ≤ n → ∃ xs, Ev (fun k => cut_go k s) xs ∧ cut_outs xs = (lines [] s.data.toList).map bal ∧ xs.length ≤ n + 1 := by
 intro n
 induction n with
 | zero =>
  intro s hn
  have hr := cut_idx s.data.toList 10
  rw [data_length] at hr
  have c : ¬ 0 ≤ cut_at s := by unfold cut_at; omega
  exact ⟨[s], (cut_no s c).1, (cut_no s c).2, by simp⟩
 | succ n ih =>
  intro s hn
  have hr := cut_idx s.data.toList 10
  rw [data_length] at hr
  by_cases c : 0 ≤ cut_at s
  ·obtain ⟨i, hi⟩ : ∃ i : Nat, Lib.indexByte s.data.toList 10 = (i : Int) := ⟨(Lib.indexByte s.data.toList 10).toNat, by unfold cut_at at c; omega⟩
   have hi2 : cut_at s = (i : Int) := hi
   have e1 : (cut_at s + 1).toNat = i + 1 := by rw [hi2]; omega
   have hz : (s.extract (i + 1) s.size).size ≤ n := by rw [ByteArray.size_extract]; omega
   obtain ⟨xs, e, h1, h2⟩ := ih (s.extract (i + 1) s.size) hz
   refine ⟨s.extract 0 (i + 1) :: xs, ?_, ?_, by rw [List.length_cons]; omega⟩
   ·refine Ev.step (f := fun k => (cut_go k (s.extract (i + 1) s.size)).bind fun l => some (s.extract 0 (i + 1) :: l)) (fun k => ?_) (Ev.bind e (Ev.now _))
    rw [cut_go, if_pos c, e1]
    cases cut_go k (s.extract (i + 1) s.size) <;> rfl
   ·have hd : (s.extract (i + 1) s.size).data.toList = s.data.toList.drop (i + 1) := by
     rw [bal_extract]
     show ((s.data.toList.take s.size).drop (i + 1)).toArray.toList = _
     rw [List.take_of_length_le (by rw [data_length]; exact Nat.le_refl _)]
    have hne : ((s.extract 0 (i + 1)).toList == ([] : List UInt8)) = false := by
     rw [beq_eq_false_iff_ne, ByteArray.toList_eq]
     intro z
     have := congrArg List.length z
     rw [data_length, ByteArray.size_extract, List.length_nil] at this
     omega
    have e2 : cut_outs (s.extract 0 (i + 1) :: xs) = s.extract 0 (i + 1) :: cut_outs xs := by
     unfold cut_outs
     rw [List.filter_cons, hne]
     rfl
    rw [e2, h1, hd, lines_at _ [] i hi, List.map_cons, List.nil_append, bal_extract, List.drop_zero]
  ·exact ⟨[s], (cut_no s c).1, (cut_no s c).2, by simp⟩
theorem hunks_Cut_ev (s : ByteArray) (hs : s.size ≤ 100000) : Ev (fun k => hunks_Cut.f k s) ((lines [] s.data.toList).map bal) := by
 obtain ⟨xs, e, h1, h2⟩ := cut_ev s.size s (Nat.le_refl _)
 unfold hunks_Cut.f
 rw [← h1]
 exact Ev.bind e (Ev.pos ⟨by omega, by omega⟩ (Ev.now _))
end Go.Proofs.YtkbhnkagiaghnaaDoor.P
