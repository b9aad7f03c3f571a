/- What the program's and the reference's rosters tell. -/
import Derived.Test.YtpdgmcmebpfbaaaPx3
import Derived.Test.YtpdgmcmebpfbaaaPx6
import Derived.Test.YtpdgmcmebpfbaaaPx7
import Derived.Test.YtpdgmcmebpfbaaaPx8
import Derived.Test.YtpdgmcmebpfbaaaRosterOrd
namespace Go.Proofs.Ytpdgmcmebpfbaaa.P
open Go.RowKit Go.Proofs.YtpdgmcmebpfbaaaW.PrintWords Go.Proofs.YtpdgmcmebpfbaaaW.PrintLast
theorem rdT (l : List ByteArray) (i : Nat) (h : i < l.length) : rdOf ByteArray.empty l (i : Int) = l[i] := by simp [rdOf, List.getD_eq_getElem?_getD, List.getElem?_eq_getElem h]
theorem rdI (l : List Int) (i : Nat) (h : i < l.length) : rd l (i : Int) = l[i] := by simp [rd, List.getD_eq_getElem?_getD, List.getElem?_eq_getElem h]
abbrev tm (s : ByteArray) : TT := (s, tiRead s)
abbrev Fit (l : List ByteArray) : Prop := ∀ s ∈ l, s.size ≤ 140737488351232
theorem titles_ev : ∀ (l : List ByteArray), Fit l → Ev (fun k => titlesOf k l) (l.map tm)
 | [], _ => Ev.now _
 | s :: r, h => Ev.bind (title_Read_ev s (h s (List.mem_cons_self ..))) (Ev.bind (titles_ev r (fun x m => h x (List.mem_cons_of_mem _ m))) (Ev.now _))
theorem wf_of {x : Int} (h0 : -9223372036854775808 ≤ x) (h1 : x ≤ 9223372036854775807) : (Lit.int .i64 x).wf = true := by
 simp [Lit.wf, IntKind.min, IntKind.max, IntKind.signed, IntKind.bits]; omega
theorem tm_wf (s : ByteArray) : wfT (tm s) := by
 have h : ∀ d, (Lit.int .i64 (parseOf d).1).wf = true := fun d => by
  have := parse_range d
  exact wf_of (by omega) (by omega)
 have h0 : (Lit.int .i64 0).wf = true := by decide
 unfold wfT tm tiRead
 split
 ·exact ⟨h _, h0⟩
 ·split
  ·exact ⟨h _, h _⟩
  ·split
   ·exact ⟨h0, h0⟩
   ·split
    ·exact ⟨h0, h0⟩
    ·exact ⟨h0, h0⟩
theorem tm_all (l : List ByteArray) : ∀ t ∈ l.map tm, wfT t := fun t h => by
 obtain ⟨s, _, rfl⟩ := List.mem_map.1 h
 exact tm_wf s
theorem Epochs_ev (l : List ByteArray) (h : Fit l) (hl : l.length ≤ 1000000) : Ev (fun k => roster_Epochs.f k l) (idOf (roster_Epochs.g (l.map tm))) :=
 Ev.bind (titles_ev l h) (Ev.pos ⟨hl, tm_all l⟩ (Ev.now _))
theorem Old_ev (l : List ByteArray) (a : Int) (h : Fit l) (hl : l.length ≤ 1000000) : Ev (fun k => roster_Old.f k l a) (txOf (pick_outs (oldT a) (l.map tm))) := by
 rw [← pickOf_txOf]
 exact Ev.bind (titles_ev l h) (Ev.pos hl (Ev.now _))
theorem Temps_ev (l : List ByteArray) (h : Fit l) (hl : l.length ≤ 1000000) : Ev (fun k => roster_Temps.f k l) (txOf (pick_outs tempT (l.map tm))) := by
 rw [← pickOf_txOf]
 exact Ev.bind (titles_ev l h) (Ev.pos hl (Ev.now _))
theorem lives31 : Ev (fun k => styluslaw31_lives.f k) true := Ev.of (fun k => styluslaw31_lives.mono k) (k := 40) (by decide +kernel)
theorem len_idAdd (n : Int) : ∀ l : List Int, (idAdd n l).length ≤ l.length + 1
 | [] => by simp [idAdd]
 | a :: r => by
  have := len_idAdd n r
  unfold idAdd
  split
  ·simp
  ·split
   ·simp
   ·simp; omega
theorem len_txAdd (n : ByteArray) : ∀ l : List ByteArray, (txAdd n l).length ≤ l.length + 1
 | [] => by simp [txAdd]
 | a :: r => by
  have := len_txAdd n r
  unfold txAdd
  split
  ·simp
  ·split
   ·simp
   ·simp; omega
theorem Ints_l (x y : List Int) (hxy : x.length = y.length) (hl : x.length ≤ 1000000) : ∀ (d i : Nat), i + d = x.length → Ev (fun k => stylusref31_Ints.l0 k x y (i : Int)) (decide (x.drop i = y.drop i))
 | 0, i, hd => by
  rw [List.drop_eq_nil_of_le (by omega), List.drop_eq_nil_of_le (by omega), decide_eq_true rfl]
  exact Ev.step (f := fun _ => some true) (fun k => by rw [stylusref31_Ints.l0, if_neg (by omega)]) (Ev.now _)
 | d + 1, i, hd => by
  have h1 : i < x.length := by omega
  have h2 : i < y.length := by omega
  rw [List.drop_eq_getElem_cons h1, List.drop_eq_getElem_cons h2]
  by_cases q : x[i] = y[i]
  ·have e : decide (x[i] :: x.drop (i + 1) = y[i] :: y.drop (i + 1)) = decide (x.drop (i + 1) = y.drop (i + 1)) := by rw [q]; exact decide_eq_decide.2 ⟨fun h => (List.cons.inj h).2, fun h => by rw [h]⟩
   rw [e]
   exact Ev.step (fun k => by rw [stylusref31_Ints.l0, if_pos (by omega), if_pos (by omega), if_pos (by omega), rdI x i h1, rdI y i h2, if_pos q, w64 (x := (i : Int) + 1) (by omega) (by omega)]; rfl) (Ints_l x y hxy hl d (i + 1) (by omega))
  ·rw [decide_eq_false (fun h => q (List.cons.inj h).1)]
   exact Ev.step (f := fun _ => some false) (fun k => by rw [stylusref31_Ints.l0, if_pos (by omega), if_pos (by omega), if_pos (by omega), rdI x i h1, rdI y i h2, if_neg q]) (Ev.now _)
theorem Ints_ev (x y : List Int) (hl : x.length ≤ 1000000) : Ev (fun k => stylusref31_Ints.f k x y) (decide (x = y)) := by
 unfold stylusref31_Ints.f
 by_cases h : x.length = y.length
 ·have := Ints_l x y h hl x.length 0 (by omega)
  rw [List.drop_zero, List.drop_zero] at this
  exact Ev.pos (by omega) this
 ·rw [decide_eq_false (fun z => h (by rw [z]))]
  exact Ev.neg (by omega) (Ev.now _)
theorem Texts_l (x y : List ByteArray) (hxy : x.length = y.length) (hl : x.length ≤ 1000000) : ∀ (d i : Nat), i + d = x.length → Ev (fun k => stylusref15_Texts.l0 k x y (i : Int)) (decide (x.drop i = y.drop i))
 | 0, i, hd => by
  rw [List.drop_eq_nil_of_le (by omega), List.drop_eq_nil_of_le (by omega), decide_eq_true rfl]
  exact Ev.step (f := fun _ => some true) (fun k => by rw [stylusref15_Texts.l0, if_neg (by omega)]) (Ev.now _)
 | d + 1, i, hd => by
  have h1 : i < x.length := by omega
  have h2 : i < y.length := by omega
  rw [List.drop_eq_getElem_cons h1, List.drop_eq_getElem_cons h2]
  by_cases q : x[i] = y[i]
  ·have e : decide (x[i] :: x.drop (i + 1) = y[i] :: y.drop (i + 1)) = decide (x.drop (i + 1) = y.drop (i + 1)) := by rw [q]; exact decide_eq_decide.2 ⟨fun h => (List.cons.inj h).2, fun h => by rw [h]⟩
   rw [e]
   exact Ev.step (fun k => by rw [stylusref15_Texts.l0, if_pos (by omega), if_pos (by omega), if_pos (by omega), rdT x i h1, rdT y i h2, if_pos (cat_list.2 q), w64 (x := (i : Int) + 1) (by omega) (by omega)]; rfl) (Texts_l x y hxy hl d (i + 1) (by omega))
  ·rw [decide_eq_false (fun h => q (List.cons.inj h).1)]
   exact Ev.step (f := fun _ => some false) (fun k => by rw [stylusref15_Texts.l0, if_pos (by omega), if_pos (by omega), if_pos (by omega), rdT x i h1, rdT y i h2, if_neg (fun z => q (cat_list.1 z))]) (Ev.now _)
theorem Texts_ev (x y : List ByteArray) (hl : x.length ≤ 1000000) : Ev (fun k => stylusref15_Texts.f k x y) (decide (x = y)) := by
 unfold stylusref15_Texts.f
 by_cases h : x.length = y.length
 ·have := Texts_l x y h hl x.length 0 (by omega)
  rw [List.drop_zero, List.drop_zero] at this
  exact Ev.pos (by omega) this
 ·rw [decide_eq_false (fun z => h (by rw [z]))]
  exact Ev.neg (by omega) (Ev.now _)
theorem len_idOf (xs : List Int) : (idOf xs).length ≤ xs.length := by
 have key : ∀ (xs l : List Int), (xs.foldl (fun l n => idAdd n l) l).length ≤ l.length + xs.length := by
  intro xs
  induction xs with
  | nil => intro l; simp
  | cons a r ih =>
   intro l
   have h1 := ih (idAdd a l)
   have h2 := len_idAdd a l
   rw [List.foldl_cons, List.length_cons]
   omega
 simpa [idOf] using key xs []
theorem len_txOf (xs : List ByteArray) : (txOf xs).length ≤ xs.length := by
 have key : ∀ (xs l : List ByteArray), (xs.foldl (fun l n => txAdd n l) l).length ≤ l.length + xs.length := by
  intro xs
  induction xs with
  | nil => intro l; simp
  | cons a r ih =>
   intro l
   have h1 := ih (txAdd a l)
   have h2 := len_txAdd a l
   rw [List.foldl_cons, List.length_cons]
   omega
 simpa [txOf] using key xs []
theorem len_epochs (l : List ByteArray) : (idOf (roster_Epochs.g (l.map tm))).length ≤ l.length := by
 refine Nat.le_trans (len_idOf _) ?_
 unfold roster_Epochs.g
 rw [List.length_map]
 exact Nat.le_trans (List.length_filter_le _ _) (by simp)
theorem len_outs (p : TT → Bool) (l : List ByteArray) : (txOf (pick_outs p (l.map tm))).length ≤ l.length := Nat.le_trans (len_txOf _) (Nat.le_trans (pick_le p _) (by simp))
end Go.Proofs.Ytpdgmcmebpfbaaa.P
