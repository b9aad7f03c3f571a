/- What the program's and the reference's rosters tell. -/
import Derived.Test.YtpdgmcmebpfbaaaPx3
import Derived.Test.YtpdgmcmebpfbaaaPx6
import Derived.Test.YtpdgmcmebpfbaaaPx7
import Derived.Test.YtpdgmcmebpfbaaaPx8
import Derived.Test.YtpdgmcmebpfbaaaRosterOrd
namespace Go.Proofs.Ytpdgmcmebpfbaaa.P
open Go.RowKit Go.Proofs.YtpdgmcmebpfbaaaW.PrintWords Go.Proofs.YtpdgmcmebpfbaaaW.PrintLast

theorem rdT (l : List ByteArray) (i : Nat) (h : i < l.length) : rdOf ByteArray.empty l (i : Int) = l[i] := by simp [rdOf, List.getD_eq_getElem?_getD, List.getElem?_eq_getElem h]
theorem rdI (l : List Int) (i : Nat) (h : i < l.length) : rd l (i : Int) = l[i] := by simp [rd, List.getD_eq_getElem?_getD, List.getElem?_eq_getElem h]
abbrev tm (s : ByteArray) : TT := (s, tiRead s)
abbrev Fit (l : List ByteArray) : Prop := ∀ s ∈ l, s.size ≤ 140737488351232
theorem titles_ev : ∀ (l : List ByteArray), Fit l → Ev (fun k => titlesOf k l) (l.map tm)
  | [], _ => Ev.now _
  | s :: r, h => Ev.bind (title_Read_ev s (h s (List.mem_cons_self ..))) (Ev.bind (titles_ev r (fun x m => h x (List.mem_cons_of_mem _ m))) (Ev.now _))
theorem wf_of {x : Int} (h0 : -9223372036854775808 ≤ x) (h1 : x ≤ 9223372036854775807) : (Lit.int .i64 x).wf = true := by
  simp [Lit.wf, IntKind.min, IntKind.max, IntKind.signed, IntKind.bits]; omega
theorem tm_wf (s : ByteArray) : wfT (tm s) := by
  have h : ∀ d, (Lit.int .i64 (parseOf d).1).wf = true := fun d => by
    have := parse_range d
    exact wf_of (by omega) (by omega)
  have h0 : (Lit.int .i64 0).wf = true := by decide
  unfold wfT tm tiRead
  split
  · exact ⟨h _, h0⟩
  · split
    · exact ⟨h _, h _⟩
    · split
      · exact ⟨h0, h0⟩
      · split
        · exact ⟨h0, h0⟩
        · exact ⟨h0, h0⟩
theorem tm_all (l : List ByteArray) : ∀ t ∈ l.map tm, wfT t := fun t h => by
  obtain ⟨s, _, rfl⟩ := List.mem_map.1 h
  exact tm_wf s
theorem Epochs_ev (l : List ByteArray) (h : Fit l) (hl : l.length ≤ 1000000) : Ev (fun k => roster_Epochs.f k l) (idOf (roster_Epochs.g (l.map tm))) :=
  Ev.bind (titles_ev l h) (Ev.pos ⟨hl, tm_all l⟩ (Ev.now _))
theorem Parts_ev (l : List ByteArray) (a : Int) (h : Fit l) (hl : l.length ≤ 1000000) : Ev (fun k => roster_Parts.f k l a) (idOf (roster_Parts.g a (l.map tm))) :=
  Ev.bind (titles_ev l h) (Ev.pos ⟨hl, tm_all l⟩ (Ev.now _))
theorem Old_ev (l : List ByteArray) (a : Int) (h : Fit l) (hl : l.length ≤ 1000000) : Ev (fun k => roster_Old.f k l a) (txOf (pick_outs (oldT a) (l.map tm))) := by
  rw [← pickOf_txOf]
  exact Ev.bind (titles_ev l h) (Ev.pos hl (Ev.now _))
theorem Temps_ev (l : List ByteArray) (h : Fit l) (hl : l.length ≤ 1000000) : Ev (fun k => roster_Temps.f k l) (txOf (pick_outs tempT (l.map tm))) := by
  rw [← pickOf_txOf]
  exact Ev.bind (titles_ev l h) (Ev.pos hl (Ev.now _))
theorem Ours_ev (l : List ByteArray) (h : Fit l) (hl : l.length ≤ 1000000) : Ev (fun k => roster_Ours.f k l) ((l.map tm).any oursT) :=
  Ev.bind (titles_ev l h) (Ev.pos hl (Ev.now _))
theorem lives31 : Ev (fun k => styluslaw31_lives.f k) true := Ev.of (fun k => styluslaw31_lives.mono k) (k := 40) (by decide +kernel)
/-! the reference's lists -/
theorem number_done (l : List Int) (n : Int) (hl : l.length ≤ 1000000) : ∀ (d i : Nat) (acc : List Int), i + d = l.length → acc.length ≤ i + 1 → (∀ x ∈ l.drop i, x ≠ n) → Ev (fun k => stylusref31_number.l0 k l n acc true (i : Int)) (acc ++ l.drop i)
  | 0, i, acc, hd, ha, hx => by
    rw [List.drop_eq_nil_of_le (by omega), List.append_nil]
    exact Ev.step (f := fun _ => some acc) (fun k => by rw [stylusref31_number.l0, if_neg (by omega), if_pos rfl]) (Ev.now _)
  | d + 1, i, acc, hd, ha, hx => by
    have h1 : i < l.length := by omega
    rw [List.drop_eq_getElem_cons h1] at hx ⊢
    have h2 := number_done l n hl d (i + 1) (acc ++ [l[i]]) (by omega) (by simp; omega) (fun x m => hx x (List.mem_cons_of_mem _ m))
    rw [List.append_assoc] at h2
    exact Ev.step (fun k => by rw [stylusref31_number.l0, if_pos (by omega), if_pos (by omega), rdI l i h1, if_neg (hx _ (List.mem_cons_self ..)), if_pos rfl, if_pos (by omega), w64 (x := (i : Int) + 1) (by omega) (by omega)]; rfl) h2
theorem number_l (l : List Int) (n : Int) (hl : l.length ≤ 1000000) (hr : l.Pairwise (· < ·)) : ∀ (d i : Nat), i + d = l.length → Ev (fun k => stylusref31_number.l0 k l n (l.take i) false (i : Int)) (l.take i ++ idAdd n (l.drop i))
  | 0, i, hd => by
    rw [List.drop_eq_nil_of_le (by omega)]
    exact Ev.step (f := fun _ => some (l.take i ++ [n])) (fun k => by rw [stylusref31_number.l0, if_neg (by omega), if_neg Bool.false_ne_true, if_pos (by rw [List.length_take]; omega)]) (Ev.now _)
  | d + 1, i, hd => by
    have h1 : i < l.length := by omega
    have hlt : (l.take i).length < 17592186044416 := by rw [List.length_take]; omega
    have hr2 : (l.drop i).Pairwise (· < ·) := hr.sublist (List.drop_sublist i l)
    rw [List.drop_eq_getElem_cons h1] at hr2 ⊢
    obtain ⟨p1, p2⟩ := List.pairwise_cons.1 hr2
    unfold idAdd
    by_cases q : n = l[i]
    · rw [if_pos q, ← List.drop_eq_getElem_cons h1, List.take_append_drop]
      exact Ev.step (f := fun _ => some l) (fun k => by rw [stylusref31_number.l0, if_pos (by omega), if_pos (by omega), rdI l i h1, if_pos q.symm]) (Ev.now _)
    · rw [if_neg q]
      by_cases q2 : n < l[i]
      · rw [if_pos q2]
        have h2 := number_done l n hl d (i + 1) ((l.take i ++ [n]) ++ [l[i]]) (by omega) (by simp; omega) (fun x m => by have := p1 x m; omega)
        rw [show (l.take i ++ [n]) ++ [l[i]] ++ l.drop (i + 1) = l.take i ++ (n :: l[i] :: l.drop (i + 1)) by simp] at h2
        exact Ev.step (fun k => by rw [stylusref31_number.l0, if_pos (by omega), if_pos (by omega), rdI l i h1, if_neg (fun e => q e.symm), if_neg Bool.false_ne_true, if_pos (show l[i] > n from q2), if_pos hlt, Option.bind_some, if_pos (by simp; omega), w64 (x := (i : Int) + 1) (by omega) (by omega)]; rfl) h2
      · rw [if_neg q2]
        have h2 := number_l l n hl hr d (i + 1) (by omega)
        rw [List.take_succ_eq_append_getElem h1, List.append_assoc] at h2
        exact Ev.step (fun k => by rw [stylusref31_number.l0, if_pos (by omega), if_pos (by omega), rdI l i h1, if_neg (fun e => q e.symm), if_neg Bool.false_ne_true, if_neg (show ¬ l[i] > n from q2), if_pos hlt, w64 (x := (i : Int) + 1) (by omega) (by omega)]; rfl) h2
theorem number_ev (l : List Int) (n : Int) (hl : l.length ≤ 1000000) (hr : l.Pairwise (· < ·)) : Ev (fun k => stylusref31_number.f k l n) (idAdd n l) := number_l l n hl hr l.length 0 (by omega)
theorem len_idAdd (n : Int) : ∀ l : List Int, (idAdd n l).length ≤ l.length + 1
  | [] => by simp [idAdd]
  | a :: r => by
    have := len_idAdd n r
    unfold idAdd
    split
    · simp
    · split
      · simp
      · simp; omega
theorem add_done (l : List ByteArray) (n : ByteArray) (hl : l.length ≤ 1000000) : ∀ (d i : Nat) (acc : List ByteArray), i + d = l.length → acc.length ≤ i + 1 → (∀ x ∈ l.drop i, x ≠ n) → Ev (fun k => stylusref31_add.l0 k l n acc true (i : Int)) (acc ++ l.drop i)
  | 0, i, acc, hd, ha, hx => by
    rw [List.drop_eq_nil_of_le (by omega), List.append_nil]
    exact Ev.step (f := fun _ => some acc) (fun k => by rw [stylusref31_add.l0, if_neg (by omega), if_pos rfl]) (Ev.now _)
  | d + 1, i, acc, hd, ha, hx => by
    have h1 : i < l.length := by omega
    rw [List.drop_eq_getElem_cons h1] at hx ⊢
    have h2 := add_done l n hl d (i + 1) (acc ++ [l[i]]) (by omega) (by simp; omega) (fun x m => hx x (List.mem_cons_of_mem _ m))
    rw [List.append_assoc] at h2
    exact Ev.step (fun k => by rw [stylusref31_add.l0, if_pos (by omega), if_pos (by omega), rdT l i h1, if_neg (fun e => hx _ (List.mem_cons_self ..) (cat_list.1 e)), if_pos rfl, if_pos (by omega), w64 (x := (i : Int) + 1) (by omega) (by omega)]; rfl) h2
theorem add_l (l : List ByteArray) (n : ByteArray) (hl : l.length ≤ 1000000) (hr : l.Pairwise lessT) : ∀ (d i : Nat), i + d = l.length → Ev (fun k => stylusref31_add.l0 k l n (l.take i) false (i : Int)) (l.take i ++ txAdd n (l.drop i))
  | 0, i, hd => by
    rw [List.drop_eq_nil_of_le (by omega)]
    exact Ev.step (f := fun _ => some (l.take i ++ [n])) (fun k => by rw [stylusref31_add.l0, if_neg (by omega), if_neg Bool.false_ne_true, if_pos (by rw [List.length_take]; omega)]) (Ev.now _)
  | d + 1, i, hd => by
    have h1 : i < l.length := by omega
    have hlt : (l.take i).length < 8796093022208 := by rw [List.length_take]; omega
    have hr2 : (l.drop i).Pairwise lessT := hr.sublist (List.drop_sublist i l)
    rw [List.drop_eq_getElem_cons h1] at hr2 ⊢
    obtain ⟨p1, p2⟩ := List.pairwise_cons.1 hr2
    unfold txAdd
    by_cases q : n = l[i]
    · rw [if_pos q, ← List.drop_eq_getElem_cons h1, List.take_append_drop]
      exact Ev.step (f := fun _ => some l) (fun k => by rw [stylusref31_add.l0, if_pos (by omega), if_pos (by omega), rdT l i h1, if_pos (cat_list.2 q.symm)]) (Ev.now _)
    · rw [if_neg q]
      by_cases q2 : lessT n l[i]
      · rw [if_pos q2]
        have h2 := add_done l n hl d (i + 1) ((l.take i ++ [n]) ++ [l[i]]) (by omega) (by simp; omega) (fun x m e => by subst e; exact lessT_irr _ (lessT_trans q2 (p1 x m)))
        rw [show (l.take i ++ [n]) ++ [l[i]] ++ l.drop (i + 1) = l.take i ++ (n :: l[i] :: l.drop (i + 1)) by simp] at h2
        exact Ev.step (fun k => by rw [stylusref31_add.l0, if_pos (by omega), if_pos (by omega), rdT l i h1, if_neg (fun e => q (cat_list.1 e).symm), if_neg Bool.false_ne_true, if_pos q2, if_pos hlt, Option.bind_some, if_pos (by simp; omega), w64 (x := (i : Int) + 1) (by omega) (by omega)]; rfl) h2
      · rw [if_neg q2]
        have h2 := add_l l n hl hr d (i + 1) (by omega)
        rw [List.take_succ_eq_append_getElem h1, List.append_assoc] at h2
        exact Ev.step (fun k => by rw [stylusref31_add.l0, if_pos (by omega), if_pos (by omega), rdT l i h1, if_neg (fun e => q (cat_list.1 e).symm), if_neg Bool.false_ne_true, if_neg q2, if_pos hlt, w64 (x := (i : Int) + 1) (by omega) (by omega)]; rfl) h2
theorem add_ev (l : List ByteArray) (n : ByteArray) (hl : l.length ≤ 1000000) (hr : l.Pairwise lessT) : Ev (fun k => stylusref31_add.f k l n) (txAdd n l) := add_l l n hl hr l.length 0 (by omega)
theorem len_txAdd (n : ByteArray) : ∀ l : List ByteArray, (txAdd n l).length ≤ l.length + 1
  | [] => by simp [txAdd]
  | a :: r => by
    have := len_txAdd n r
    unfold txAdd
    split
    · simp
    · split
      · simp
      · simp; omega
/-! the reference's loops over names -/
theorem refEpochs_l (l : List ByteArray) (h : Fit l) (hl : l.length ≤ 1000) : ∀ (d i : Nat) (acc : List Int), i + d = l.length → acc.length ≤ i → acc.Pairwise (· < ·) → Ev (fun k => stylusref31_Epochs.l0 k l acc (i : Int)) ((roster_Epochs.g ((l.drop i).map tm)).foldl (fun l n => idAdd n l) acc)
  | 0, i, acc, hd, ha, hr => by
    rw [List.drop_eq_nil_of_le (by omega)]
    exact Ev.step (f := fun _ => some acc) (fun k => by rw [stylusref31_Epochs.l0, if_neg (by omega)]) (Ev.now _)
  | d + 1, i, acc, hd, ha, hr => by
    have h1 : i < l.length := by omega
    refine Ev.step (fun k => by rw [stylusref31_Epochs.l0, if_pos (by omega), if_pos (by omega), rdT l i h1, w64 (x := (i : Int) + 1) (by omega) (by omega)]; try rfl) ?_
    refine Ev.bind (ref_Read_ev l[i] (h _ (List.getElem_mem h1))) ?_
    rw [List.drop_eq_getElem_cons h1, List.map_cons]
    unfold roster_Epochs.g
    rw [List.filter_cons]
    by_cases q : (tiRead l[i]).1 = 1
    · rw [if_pos (show ((tm l[i]).2.1 == 1) = true from beq_iff_eq.2 q), List.map_cons, List.foldl_cons]
      exact Ev.pos q (Ev.bind (number_ev acc _ (by omega) hr) (refEpochs_l l h hl d (i + 1) _ (by omega) (by have := len_idAdd (tiRead l[i]).2.1 acc; omega) (rise_idAdd _ _ hr)))
    · rw [if_neg (show ¬ ((tm l[i]).2.1 == 1) = true from fun e => q (beq_iff_eq.1 e))]
      exact Ev.neg q (refEpochs_l l h hl d (i + 1) acc (by omega) (by omega) hr)
theorem refEpochs_ev (l : List ByteArray) (h : Fit l) (hl : l.length ≤ 1000) : Ev (fun k => stylusref31_Epochs.f k l) (idOf (roster_Epochs.g (l.map tm))) := refEpochs_l l h hl l.length 0 [] (by omega) (by simp) List.Pairwise.nil
theorem refParts_l (l : List ByteArray) (a : Int) (h : Fit l) (hl : l.length ≤ 1000) : ∀ (d i : Nat) (acc : List Int), i + d = l.length → acc.length ≤ i → acc.Pairwise (· < ·) → Ev (fun k => stylusref31_Parts.l0 k l a acc (i : Int)) ((roster_Parts.g a ((l.drop i).map tm)).foldl (fun l n => idAdd n l) acc)
  | 0, i, acc, hd, ha, hr => by
    rw [List.drop_eq_nil_of_le (by omega)]
    exact Ev.step (f := fun _ => some acc) (fun k => by rw [stylusref31_Parts.l0, if_neg (by omega)]) (Ev.now _)
  | d + 1, i, acc, hd, ha, hr => by
    have h1 : i < l.length := by omega
    refine Ev.step (fun k => by rw [stylusref31_Parts.l0, if_pos (by omega), if_pos (by omega), rdT l i h1, w64 (x := (i : Int) + 1) (by omega) (by omega)]; try rfl) ?_
    refine Ev.bind (ref_Read_ev l[i] (h _ (List.getElem_mem h1))) ?_
    rw [List.drop_eq_getElem_cons h1, List.map_cons]
    unfold roster_Parts.g
    rw [List.filter_cons]
    by_cases q : (tiRead l[i]).1 = 2
    · by_cases q2 : (tiRead l[i]).2.1 = a
      · rw [if_pos (show ((tm l[i]).2.1 == 2 && (tm l[i]).2.2.1 == a) = true by simp [q, q2]), List.map_cons, List.foldl_cons]
        exact Ev.pos q (Ev.pos q2 (Ev.bind (number_ev acc _ (by omega) hr) (refParts_l l a h hl d (i + 1) _ (by omega) (by have := len_idAdd (tiRead l[i]).2.2.1 acc; omega) (rise_idAdd _ _ hr))))
      · rw [if_neg (show ¬ ((tm l[i]).2.1 == 2 && (tm l[i]).2.2.1 == a) = true by simp [q2])]
        exact Ev.pos q (Ev.neg q2 (refParts_l l a h hl d (i + 1) acc (by omega) (by omega) hr))
    · rw [if_neg (show ¬ ((tm l[i]).2.1 == 2 && (tm l[i]).2.2.1 == a) = true by simp [q])]
      exact Ev.neg q (refParts_l l a h hl d (i + 1) acc (by omega) (by omega) hr)
theorem refParts_ev (l : List ByteArray) (a : Int) (h : Fit l) (hl : l.length ≤ 1000) : Ev (fun k => stylusref31_Parts.f k l a) (idOf (roster_Parts.g a (l.map tm))) := refParts_l l a h hl l.length 0 [] (by omega) (by simp) List.Pairwise.nil
theorem outs_yes {p : TT → Bool} {t : TT} {r : List TT} (h : p t = true) : pick_outs p (t :: r) = t.1 :: pick_outs p r := by unfold pick_outs; rw [List.filter_cons, if_pos h, List.map_cons]
theorem outs_no {p : TT → Bool} {t : TT} {r : List TT} (h : p t = false) : pick_outs p (t :: r) = pick_outs p r := by unfold pick_outs; rw [List.filter_cons, if_neg (by rw [h]; decide)]
theorem refOld_l (l : List ByteArray) (a : Int) (h : Fit l) (hl : l.length ≤ 1000) : ∀ (d i : Nat) (acc : List ByteArray), i + d = l.length → acc.length ≤ i → acc.Pairwise lessT → Ev (fun k => stylusref31_Old.l0 k l a acc (i : Int)) ((pick_outs (oldT a) ((l.drop i).map tm)).foldl (fun l n => txAdd n l) acc)
  | 0, i, acc, hd, ha, hr => by
    rw [List.drop_eq_nil_of_le (by omega)]
    exact Ev.step (f := fun _ => some acc) (fun k => by rw [stylusref31_Old.l0, if_neg (by omega)]) (Ev.now _)
  | d + 1, i, acc, hd, ha, hr => by
    have h1 : i < l.length := by omega
    have no := refOld_l l a h hl d (i + 1) acc (by omega) (by omega) hr
    have yes : Ev (fun k => (stylusref31_add.f k acc l[i]).bind fun t => stylusref31_Old.l0 k l a t ((i + 1 : Nat) : Int)) ((pick_outs (oldT a) ((l.drop (i + 1)).map tm)).foldl (fun l n => txAdd n l) (txAdd l[i] acc)) := Ev.bind (add_ev acc l[i] (by omega) hr) (refOld_l l a h hl d (i + 1) (txAdd l[i] acc) (by omega) (by have := len_txAdd l[i] acc; omega) (rise_txAdd _ _ hr))
    refine Ev.step (fun k => by rw [stylusref31_Old.l0, if_pos (by omega), if_pos (by omega), rdT l i h1, w64 (x := (i : Int) + 1) (by omega) (by omega)]; try rfl) ?_
    refine Ev.bind (ref_Read_ev l[i] (h _ (List.getElem_mem h1))) ?_
    rw [List.drop_eq_getElem_cons h1, List.map_cons]
    by_cases q2 : (tiRead l[i]).2.1 = a
    · rw [outs_no (show oldT a (tm l[i]) = false by unfold oldT; simp [q2])]
      by_cases q : (tiRead l[i]).1 = 1
      · exact Ev.pos q (Ev.pos q2 no)
      · refine Ev.neg q ?_
        by_cases q3 : (tiRead l[i]).1 = 2
        · exact Ev.pos q3 (Ev.pos q2 no)
        · exact Ev.neg q3 no
    · by_cases q : (tiRead l[i]).1 = 1
      · rw [outs_yes (show oldT a (tm l[i]) = true by unfold oldT oursT; simp [q, q2])]
        exact Ev.pos q (Ev.neg q2 yes)
      · refine Ev.neg q ?_
        by_cases q3 : (tiRead l[i]).1 = 2
        · rw [outs_yes (show oldT a (tm l[i]) = true by unfold oldT oursT; simp [q3, q2])]
          exact Ev.pos q3 (Ev.neg q2 yes)
        · rw [outs_no (show oldT a (tm l[i]) = false by unfold oldT oursT; simp [q, q3])]
          exact Ev.neg q3 no
theorem refOld_ev (l : List ByteArray) (a : Int) (h : Fit l) (hl : l.length ≤ 1000) : Ev (fun k => stylusref31_Old.f k l a) (txOf (pick_outs (oldT a) (l.map tm))) := refOld_l l a h hl l.length 0 [] (by omega) (by simp) List.Pairwise.nil
theorem refTemps_l (l : List ByteArray) (h : Fit l) (hl : l.length ≤ 1000) : ∀ (d i : Nat) (acc : List ByteArray), i + d = l.length → acc.length ≤ i → acc.Pairwise lessT → Ev (fun k => stylusref31_Temps.l0 k l acc (i : Int)) ((pick_outs tempT ((l.drop i).map tm)).foldl (fun l n => txAdd n l) acc)
  | 0, i, acc, hd, ha, hr => by
    rw [List.drop_eq_nil_of_le (by omega)]
    exact Ev.step (f := fun _ => some acc) (fun k => by rw [stylusref31_Temps.l0, if_neg (by omega)]) (Ev.now _)
  | d + 1, i, acc, hd, ha, hr => by
    have h1 : i < l.length := by omega
    have no := refTemps_l l h hl d (i + 1) acc (by omega) (by omega) hr
    have yes : Ev (fun k => (stylusref31_add.f k acc l[i]).bind fun t => stylusref31_Temps.l0 k l t ((i + 1 : Nat) : Int)) ((pick_outs tempT ((l.drop (i + 1)).map tm)).foldl (fun l n => txAdd n l) (txAdd l[i] acc)) := Ev.bind (add_ev acc l[i] (by omega) hr) (refTemps_l l h hl d (i + 1) (txAdd l[i] acc) (by omega) (by have := len_txAdd l[i] acc; omega) (rise_txAdd _ _ hr))
    refine Ev.step (fun k => by rw [stylusref31_Temps.l0, if_pos (by omega), if_pos (by omega), rdT l i h1, w64 (x := (i : Int) + 1) (by omega) (by omega)]; try rfl) ?_
    refine Ev.bind (ref_Read_ev l[i] (h _ (List.getElem_mem h1))) ?_
    rw [List.drop_eq_getElem_cons h1, List.map_cons]
    by_cases q : (tiRead l[i]).1 = 3
    · rw [outs_yes (show tempT (tm l[i]) = true by unfold tempT; simp [q])]
      exact Ev.pos q yes
    · rw [outs_no (show tempT (tm l[i]) = false by unfold tempT; simp [q])]
      exact Ev.neg q no
theorem refTemps_ev (l : List ByteArray) (h : Fit l) (hl : l.length ≤ 1000) : Ev (fun k => stylusref31_Temps.f k l) (txOf (pick_outs tempT (l.map tm))) := refTemps_l l h hl l.length 0 [] (by omega) (by simp) List.Pairwise.nil
theorem refOurs_l (l : List ByteArray) (h : Fit l) (hl : l.length ≤ 1000) : ∀ (d i : Nat), i + d = l.length → Ev (fun k => stylusref31_Ours.l0 k l (i : Int)) (((l.drop i).map tm).any oursT)
  | 0, i, hd => by
    rw [List.drop_eq_nil_of_le (by omega)]
    exact Ev.step (f := fun _ => some false) (fun k => by rw [stylusref31_Ours.l0, if_neg (by omega)]) (Ev.now _)
  | d + 1, i, hd => by
    have h1 : i < l.length := by omega
    have no := refOurs_l l h hl d (i + 1) (by omega)
    refine Ev.step (fun k => by rw [stylusref31_Ours.l0, if_pos (by omega), if_pos (by omega), rdT l i h1, w64 (x := (i : Int) + 1) (by omega) (by omega)]; try rfl) ?_
    refine Ev.bind (ref_Read_ev l[i] (h _ (List.getElem_mem h1))) ?_
    rw [List.drop_eq_getElem_cons h1, List.map_cons, List.any_cons]
    by_cases q : (tiRead l[i]).1 = 1
    · rw [show oursT (tm l[i]) = true by unfold oursT; simp [q]]
      exact Ev.pos q (Ev.now _)
    · refine Ev.neg q ?_
      by_cases q3 : (tiRead l[i]).1 = 2
      · rw [show oursT (tm l[i]) = true by unfold oursT; simp [q3]]
        exact Ev.pos q3 (Ev.now _)
      · rw [show oursT (tm l[i]) = false by unfold oursT; simp [q, q3], Bool.false_or]
        exact Ev.neg q3 no
theorem refOurs_ev (l : List ByteArray) (h : Fit l) (hl : l.length ≤ 1000) : Ev (fun k => stylusref31_Ours.f k l) ((l.map tm).any oursT) := refOurs_l l h hl l.length 0 (by omega)
theorem Ints_l (x y : List Int) (hxy : x.length = y.length) (hl : x.length ≤ 1000000) : ∀ (d i : Nat), i + d = x.length → Ev (fun k => stylusref31_Ints.l0 k x y (i : Int)) (decide (x.drop i = y.drop i))
  | 0, i, hd => by
    rw [List.drop_eq_nil_of_le (by omega), List.drop_eq_nil_of_le (by omega), decide_eq_true rfl]
    exact Ev.step (f := fun _ => some true) (fun k => by rw [stylusref31_Ints.l0, if_neg (by omega)]) (Ev.now _)
  | d + 1, i, hd => by
    have h1 : i < x.length := by omega
    have h2 : i < y.length := by omega
    rw [List.drop_eq_getElem_cons h1, List.drop_eq_getElem_cons h2]
    by_cases q : x[i] = y[i]
    · have e : decide (x[i] :: x.drop (i + 1) = y[i] :: y.drop (i + 1)) = decide (x.drop (i + 1) = y.drop (i + 1)) := by rw [q]; exact decide_eq_decide.2 ⟨fun h => (List.cons.inj h).2, fun h => by rw [h]⟩
      rw [e]
      exact Ev.step (fun k => by rw [stylusref31_Ints.l0, if_pos (by omega), if_pos (by omega), if_pos (by omega), rdI x i h1, rdI y i h2, if_pos q, w64 (x := (i : Int) + 1) (by omega) (by omega)]; rfl) (Ints_l x y hxy hl d (i + 1) (by omega))
    · rw [decide_eq_false (fun h => q (List.cons.inj h).1)]
      exact Ev.step (f := fun _ => some false) (fun k => by rw [stylusref31_Ints.l0, if_pos (by omega), if_pos (by omega), if_pos (by omega), rdI x i h1, rdI y i h2, if_neg q]) (Ev.now _)
theorem Ints_ev (x y : List Int) (hl : x.length ≤ 1000000) : Ev (fun k => stylusref31_Ints.f k x y) (decide (x = y)) := by
  unfold stylusref31_Ints.f
  by_cases h : x.length = y.length
  · have := Ints_l x y h hl x.length 0 (by omega)
    rw [List.drop_zero, List.drop_zero] at this
    exact Ev.pos (by omega) this
  · rw [decide_eq_false (fun z => h (by rw [z]))]
    exact Ev.neg (by omega) (Ev.now _)
theorem Texts_l (x y : List ByteArray) (hxy : x.length = y.length) (hl : x.length ≤ 1000000) : ∀ (d i : Nat), i + d = x.length → Ev (fun k => stylusref15_Texts.l0 k x y (i : Int)) (decide (x.drop i = y.drop i))
  | 0, i, hd => by
    rw [List.drop_eq_nil_of_le (by omega), List.drop_eq_nil_of_le (by omega), decide_eq_true rfl]
    exact Ev.step (f := fun _ => some true) (fun k => by rw [stylusref15_Texts.l0, if_neg (by omega)]) (Ev.now _)
  | d + 1, i, hd => by
    have h1 : i < x.length := by omega
    have h2 : i < y.length := by omega
    rw [List.drop_eq_getElem_cons h1, List.drop_eq_getElem_cons h2]
    by_cases q : x[i] = y[i]
    · have e : decide (x[i] :: x.drop (i + 1) = y[i] :: y.drop (i + 1)) = decide (x.drop (i + 1) = y.drop (i + 1)) := by rw [q]; exact decide_eq_decide.2 ⟨fun h => (List.cons.inj h).2, fun h => by rw [h]⟩
      rw [e]
      exact Ev.step (fun k => by rw [stylusref15_Texts.l0, if_pos (by omega), if_pos (by omega), if_pos (by omega), rdT x i h1, rdT y i h2, if_pos (cat_list.2 q), w64 (x := (i : Int) + 1) (by omega) (by omega)]; rfl) (Texts_l x y hxy hl d (i + 1) (by omega))
    · rw [decide_eq_false (fun h => q (List.cons.inj h).1)]
      exact Ev.step (f := fun _ => some false) (fun k => by rw [stylusref15_Texts.l0, if_pos (by omega), if_pos (by omega), if_pos (by omega), rdT x i h1, rdT y i h2, if_neg (fun z => q (cat_list.1 z))]) (Ev.now _)
theorem Texts_ev (x y : List ByteArray) (hl : x.length ≤ 1000000) : Ev (fun k => stylusref15_Texts.f k x y) (decide (x = y)) := by
  unfold stylusref15_Texts.f
  by_cases h : x.length = y.length
  · have := Texts_l x y h hl x.length 0 (by omega)
    rw [List.drop_zero, List.drop_zero] at this
    exact Ev.pos (by omega) this
  · rw [decide_eq_false (fun z => h (by rw [z]))]
    exact Ev.neg (by omega) (Ev.now _)
theorem len_idOf (xs : List Int) : (idOf xs).length ≤ xs.length := by
  have key : ∀ (xs l : List Int), (xs.foldl (fun l n => idAdd n l) l).length ≤ l.length + xs.length := by
    intro xs
    induction xs with
    | nil => intro l; simp
    | cons a r ih =>
      intro l
      have h1 := ih (idAdd a l)
      have h2 := len_idAdd a l
      rw [List.foldl_cons, List.length_cons]
      omega
  simpa [idOf] using key xs []
theorem len_txOf (xs : List ByteArray) : (txOf xs).length ≤ xs.length := by
  have key : ∀ (xs l : List ByteArray), (xs.foldl (fun l n => txAdd n l) l).length ≤ l.length + xs.length := by
    intro xs
    induction xs with
    | nil => intro l; simp
    | cons a r ih =>
      intro l
      have h1 := ih (txAdd a l)
      have h2 := len_txAdd a l
      rw [List.foldl_cons, List.length_cons]
      omega
  simpa [txOf] using key xs []
theorem len_epochs (l : List ByteArray) : (idOf (roster_Epochs.g (l.map tm))).length ≤ l.length := by
  refine Nat.le_trans (len_idOf _) ?_
  unfold roster_Epochs.g
  rw [List.length_map]
  exact Nat.le_trans (List.length_filter_le _ _) (by simp)
theorem len_parts (a : Int) (l : List ByteArray) : (idOf (roster_Parts.g a (l.map tm))).length ≤ l.length := by
  refine Nat.le_trans (len_idOf _) ?_
  unfold roster_Parts.g
  rw [List.length_map]
  exact Nat.le_trans (List.length_filter_le _ _) (by simp)
theorem len_outs (p : TT → Bool) (l : List ByteArray) : (txOf (pick_outs p (l.map tm))).length ≤ l.length := Nat.le_trans (len_txOf _) (Nat.le_trans (pick_le p _) (by simp))
end Go.Proofs.Ytpdgmcmebpfbaaa.P
