/- Without the reference's lists: each name of a checkpoint or a part is old or of just this epoch, and so on; the order plays no part. -/
import Derived.Test.YtpdgmcmebpfbaaaPx3
import Derived.Test.YtpdgmcmebpfbaaaPx7
import Derived.Test.YtpdgmcmebpfbaaaPx8
import Derived.Test.YtpdgmcmebpfbaaaPx9
import Derived.Test.YtpdgmcmebpfbaaaRosterEv
namespace Go.Proofs.Ytpdgmcmebpfbaaa.Pure
open Go.RowKit Go.Proofs.Ytpdgmcmebpfbaaa.P Go.Proofs.YtpdgmcmebpfbaaaW.PrintWords Go.Proofs.YtpdgmcmebpfbaaaW.PrintLast
noncomputable local instance decMem (s : ByteArray) (l : List ByteArray) : Decidable (s ∈ l) := Classical.propDecidable _
theorem has_l (l : List ByteArray) (s : ByteArray) (hl : l.length ≤ 1000000) : ∀ (d i : Nat), i + d = l.length → Ev (fun k => styluslaw31_has.l0 k l s (i : Int)) (decide (s ∈ l.drop i))
 | 0, i, hd => by
  rw [List.drop_eq_nil_of_le (by omega), decide_eq_false (by simp)]
  exact Ev.step (f := fun _ => some false) (fun k => by rw [styluslaw31_has.l0, if_neg (by omega)]) (Ev.now _)
 | d + 1, i, hd => by
  have h1 : i < l.length := by omega
  rw [List.drop_eq_getElem_cons h1]
  by_cases q : s = l[i]
  ·rw [decide_eq_true (by rw [q]; exact List.mem_cons_self ..)]
   exact Ev.step (f := fun _ => some true) (fun k => by rw [styluslaw31_has.l0, if_pos (by omega), if_pos (by omega), rdT l i h1, if_pos (cat_list.2 q.symm)]) (Ev.now _)
  ·rw [show decide (s ∈ l[i] :: l.drop (i + 1)) = decide (s ∈ l.drop (i + 1)) from decide_eq_decide.2 ⟨fun h => (List.mem_cons.1 h).resolve_left q, List.mem_cons_of_mem _⟩]
   exact Ev.step (fun k => by rw [styluslaw31_has.l0, if_pos (by omega), if_pos (by omega), rdT l i h1, if_neg (fun e => q (cat_list.1 e).symm), w64 (x := (i : Int) + 1) (by omega) (by omega)]; try rfl) (has_l l s hl d (i + 1) (by omega))
theorem has_ev (l : List ByteArray) (s : ByteArray) (hl : l.length ≤ 1000000) : Ev (fun k => styluslaw31_has.f k l s) (decide (s ∈ l)) := has_l l s hl l.length 0 (by omega)
theorem mem_outs (p : TT → Bool) (l : List ByteArray) (x : ByteArray) : x ∈ pick_outs p (l.map tm) ↔ x ∈ l ∧ p (tm x) = true := by
 unfold pick_outs
 rw [List.mem_map]
 constructor
 ·rintro ⟨t, ht, rfl⟩
  obtain ⟨h1, h2⟩ := List.mem_filter.1 ht
  obtain ⟨s, hs, rfl⟩ := List.mem_map.1 h1
  exact ⟨hs, h2⟩
 ·rintro ⟨h1, h2⟩
  exact ⟨tm x, List.mem_filter.2 ⟨List.mem_map.2 ⟨x, h1, rfl⟩, h2⟩, rfl⟩
abbrev outL (p : TT → Bool) (l : List ByteArray) : List ByteArray := txOf (pick_outs p (l.map tm))
theorem len_outL (p : TT → Bool) (l : List ByteArray) : (outL p l).length ≤ l.length := len_outs p l
theorem mem_outL (p : TT → Bool) (l : List ByteArray) (x : ByteArray) : x ∈ outL p l ↔ x ∈ l ∧ p (tm x) = true := (mem_txOf _ x).trans (mem_outs p l x)
theorem outL_rev (p : TT → Bool) (l : List ByteArray) : outL p l.reverse = outL p l :=
 rise_unique lessT_irr lessT_trans (txOf_rise _) (txOf_rise _) fun x => by rw [mem_outL, mem_outL, List.mem_reverse]
theorem eps_rev (l : List ByteArray) : idOf (roster_Epochs.g (l.reverse.map tm)) = idOf (roster_Epochs.g (l.map tm)) :=
 rise_unique (R := fun a b : Int => a < b) (fun a => Int.lt_irrefl a) (fun h1 h2 => Int.lt_trans h1 h2) (idOf_rise _) (idOf_rise _) fun x => by
  rw [mem_idOf, mem_idOf]
  unfold roster_Epochs.g
  simp
theorem has_out (p : TT → Bool) (l : List ByteArray) (hl : l.length ≤ 60) (i : Nat) (h : i < l.length) : Ev (fun k => styluslaw31_has.f k (outL p l) l[i]) (p (tm l[i])) := by
 have h0 := len_outL p l
 have h1 := has_ev (outL p l) l[i] (by omega)
 rwa [show decide (l[i] ∈ outL p l) = p (tm l[i]) by
  cases hp : p (tm l[i])
  ·exact decide_eq_false (fun m => by have := ((mem_outL p l _).1 m).2; rw [hp] at this; cases this)
  ·exact decide_eq_true ((mem_outL p l _).2 ⟨List.getElem_mem h, hp⟩)] at h1
theorem each_l2 (l : List ByteArray) (a : Int) (h : Fit l) (hl : l.length ≤ 60) : ∀ (d i : Nat), i + d = (outL tempT l).length → Ev (fun k => styluslaw31_RosterEach.l2 k l a (outL (oldT a) l) (outL tempT l) l.reverse (i : Int)) true
 | 0, i, hd => by
  have h0 := len_outL tempT l
  have h1 := len_outL (oldT a) l
  have h2 := len_epochs l
  have hr : Fit l.reverse := fun s m => h s (List.mem_reverse.1 m)
  have hrl : l.reverse.length ≤ 1000000 := by rw [List.length_reverse]; omega
  have lv : Ev (fun k => (styluslaw31_lives.f k).bind fun t => some t) true := Ev.bind lives31 (Ev.now _)
  have o1 := Old_ev l.reverse a hr hrl
  have o2 := Temps_ev l.reverse hr hrl
  have o3 := Epochs_ev l.reverse hr hrl
  rw [show txOf (pick_outs (oldT a) (l.reverse.map tm)) = outL (oldT a) l from outL_rev _ _] at o1
  rw [show txOf (pick_outs tempT (l.reverse.map tm)) = outL tempT l from outL_rev _ _] at o2
  rw [eps_rev] at o3
  refine Ev.step (fun k => by rw [styluslaw31_RosterEach.l2, if_neg (by omega)]) ?_
  refine Ev.bind o1 (Ev.bind (Texts_ev _ _ (by omega)) (Ev.pos (decide_eq_true rfl) ?_))
  refine Ev.bind o2 (Ev.bind (Texts_ev _ _ (by omega)) (Ev.pos (decide_eq_true rfl) ?_))
  exact Ev.bind o3 (Ev.bind (Epochs_ev l h (by omega)) (Ev.bind (Ints_ev _ _ (by omega)) (Ev.pos (decide_eq_true rfl) lv)))
 | d + 1, i, hd => by
  have h0 := len_outL tempT l
  have h1 : i < (outL tempT l).length := by omega
  have hm : decide ((outL tempT l)[i] ∈ l) = true := decide_eq_true ((mem_outL tempT l _).1 (List.getElem_mem h1)).1
  have hh := has_ev l (outL tempT l)[i] (by omega)
  rw [hm] at hh
  refine Ev.step (fun k => by rw [styluslaw31_RosterEach.l2, if_pos (by omega), if_pos (by omega), rdT (outL tempT l) i h1, w64 (x := (i : Int) + 1) (by omega) (by omega)]; try rfl) ?_
  exact Ev.bind hh (Ev.pos rfl (each_l2 l a h hl d (i + 1) (by omega)))
theorem each_l1 (l : List ByteArray) (a : Int) (h : Fit l) (hl : l.length ≤ 60) : ∀ (d i : Nat), i + d = (outL (oldT a) l).length → Ev (fun k => styluslaw31_RosterEach.l1 k l a (outL (oldT a) l) (outL tempT l) l.reverse (i : Int)) true
 | 0, i, hd => Ev.step (fun k => by rw [styluslaw31_RosterEach.l1, if_neg (by omega)]; try rfl) (each_l2 l a h hl (outL tempT l).length 0 (by omega))
 | d + 1, i, hd => by
  have h0 := len_outL (oldT a) l
  have h1 : i < (outL (oldT a) l).length := by omega
  have hm : decide ((outL (oldT a) l)[i] ∈ l) = true := decide_eq_true ((mem_outL (oldT a) l _).1 (List.getElem_mem h1)).1
  have hh := has_ev l (outL (oldT a) l)[i] (by omega)
  rw [hm] at hh
  have go := each_l1 l a h hl d (i + 1) (by omega)
  refine Ev.step (fun k => by rw [styluslaw31_RosterEach.l1, if_pos (by omega), if_pos (by omega), rdT (outL (oldT a) l) i h1, w64 (x := (i : Int) + 1) (by omega) (by omega)]; try rfl) ?_
  refine Ev.bind hh (Ev.pos rfl ?_)
  by_cases q : i = 0
  ·exact Ev.neg (by omega) go
  ·have h2 : i - 1 < (outL (oldT a) l).length := by omega
   have hw : wrap64 ((i : Int) - 1) = ((i - 1 : Nat) : Int) := by rw [w64 (by omega) (by omega)]; omega
   rw [hw, rdT (outL (oldT a) l) (i - 1) h2]
   exact Ev.pos (by omega) (Ev.pos (by omega) (Ev.pos (by omega) (Ev.pos (List.pairwise_iff_getElem.1 (txOf_rise _) (i - 1) i h2 h1 (by omega)) go)))
theorem each_l0 (l : List ByteArray) (a : Int) (h : Fit l) (hl : l.length ≤ 60) : ∀ (d i : Nat), i + d = l.length → Ev (fun k => styluslaw31_RosterEach.l0 k l a (outL (oldT a) l) (outL tempT l) (l.reverse.take i) (i : Int)) true
 | 0, i, hd => by
  rw [List.take_of_length_le (by rw [List.length_reverse]; omega)]
  exact Ev.step (fun k => by rw [styluslaw31_RosterEach.l0, if_neg (by omega)]; try rfl) (each_l1 l a h hl (outL (oldT a) l).length 0 (by omega))
 | d + 1, i, hd => by
  have h1 : i < l.length := by omega
  have h3 : l.length - 1 - i < l.length := by omega
  have hrl : i < l.reverse.length := by rw [List.length_reverse]; omega
  have go := each_l0 l a h hl d (i + 1) (by omega)
  rw [List.take_succ_eq_append_getElem hrl, List.getElem_reverse] at go
  have hw : wrap64 (wrap64 ((l.length : Int) - 1) - (i : Int)) = ((l.length - 1 - i : Nat) : Int) := by rw [w64 (x := (l.length : Int) - 1) (by omega) (by omega), w64 (by omega) (by omega)]; omega
  have hlen : (l.reverse.take i).length < 8796093022208 := by rw [List.length_take]; omega
  have last : ∀ t : Bool, t = tempT (tm l[i]) → Ev (fun k => if (t != ((tiRead l[i]).1 == 3)) = true then none else if 0 ≤ ((l.length - 1 - i : Nat) : Int) then (if ((l.length - 1 - i : Nat) : Int) < (l.length : Int) then (if (l.reverse.take i).length < 8796093022208 then styluslaw31_RosterEach.l0 k l a (outL (oldT a) l) (outL tempT l) (l.reverse.take i ++ [l[l.length - 1 - i]]) ((i + 1 : Nat) : Int) else none) else none) else none) true := by
   rintro t rfl
   exact Ev.neg (by show ¬ ((((tiRead l[i]).1 == 3) != ((tiRead l[i]).1 == 3)) = true); simp) (Ev.pos (by omega) (Ev.pos (by omega) (Ev.pos hlen go)))
  have j1 : Ev (fun k => styluslaw31_RosterEach.j1 k l a (outL (oldT a) l) (outL tempT l) (l.reverse.take i) (i : Int) (oursT (tm l[i])) (tiRead l[i]).1 (tiRead l[i]).2.1 (tiRead l[i]).2.2.1 (tiRead l[i]).2.2.2) true := by
   refine Ev.step (fun k => by rw [styluslaw31_RosterEach.j1, if_pos (by omega), if_pos (by omega), rdT l i h1, hw, rdT l _ h3, w64 (x := (i : Int) + 1) (by omega) (by omega)]; try rfl) ?_
   refine Ev.bind (has_out (oldT a) l hl i h1) ?_
   cases ho : oursT (tm l[i])
   ·refine Ev.neg Bool.false_ne_true (Ev.neg ?_ (Ev.bind (has_out tempT l hl i h1) (last _ rfl)))
    unfold oldT
    rw [ho]
    simp
   ·refine Ev.pos rfl (Ev.neg ?_ (Ev.bind (has_out tempT l hl i h1) (last _ rfl)))
    unfold oldT
    rw [ho]
    simp [bne]
  refine Ev.step (fun k => by rw [styluslaw31_RosterEach.l0, if_pos (by omega), if_pos (by omega), rdT l i h1]; try rfl) ?_
  refine Ev.bind (ref_Read_ev l[i] (h _ (List.getElem_mem h1))) ?_
  by_cases q : (tiRead l[i]).1 = 1
  ·rw [show oursT (tm l[i]) = true by unfold oursT; simp [q]] at j1
   exact Ev.pos q j1
  ·rw [show oursT (tm l[i]) = ((tiRead l[i]).1 == 2) by unfold oursT; simp [q]] at j1
   exact Ev.neg q j1
theorem RosterEach : styluslaw31_RosterEach.Pure := by
 intro l a hl ha
 apply Ev.rounds
 have lv : Ev (fun k => (styluslaw31_lives.f k).bind fun t => some t) true := Ev.bind lives31 (Ev.now _)
 unfold styluslaw31_RosterEach.f
 by_cases h0 : (l.length : Int) > 60
 ·exact Ev.pos h0 lv
 exact Ev.neg h0 (Ev.bind (Old_ev l a hl.2 (by omega)) (Ev.bind (Temps_ev l hl.2 (by omega)) (each_l0 l a hl.2 (by omega) l.length 0 (by omega))))
end Go.Proofs.Ytpdgmcmebpfbaaa.Pure
