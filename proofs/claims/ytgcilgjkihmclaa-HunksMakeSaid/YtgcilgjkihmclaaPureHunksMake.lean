/- What matches and what that makes: the hunks make the one text of the other, the matches rise, and no more lines lie between than the table says. -/
import Derived.Test.YtgcilgjkihmclaaPx2
import Derived.Test.YtgcilgjkihmclaaPx3
import Derived.Test.YtgcilgjkihmclaaPx9
import Derived.Test.YtgcilgjkihmclaaHunkEv
namespace Go.Proofs.Ytgcilgjkihmclaa.Pure
open Go.RowKit Go.Proofs.Ytgcilgjkihmclaa.P Go.Proofs.YtgcilgjkihmclaaW.PrintWords Go.Proofs.YtgcilgjkihmclaaW.PrintLast

theorem make_l (a b : List ByteArray) (ha : a.length ≤ 200) (hb : b.length ≤ 200) (M : List Int) (hM : M.length = a.length) (hc : cnt M = lcs a b) : ∀ (m : List Int) (i s n : Nat), M.drop i = m → i ≤ a.length → Fits a b m i s → n + cnt m = cnt M → Ev (fun k => styluslaw51_HunksMake.l0 k a b ((s : Int) - 1) (n : Int) M (i : Int)) true
 | [], i, s, n, hm, hi, hf, hn => by
  obtain ⟨rfl, hs⟩ := hf
  rw [cnt, hc] at hn
  obtain rfl : n = lcs a b := by omega
  have hle := cnt_le M
  have h3 := lcs_le a b
  refine Ev.step (fun k => by rw [styluslaw51_HunksMake.l0, if_neg (by omega)]) (Ev.call (show hunks_Diff.f a b = some (diffL a b) from if_pos ⟨ha, hb⟩) (Ev.bind (Size_ev a b ha hb) (Ev.call (Row_f a b ha hb) ?_)))
  have hlb : lcs a b ≤ 200 := by omega
  refine Ev.pos rfl (Ev.pos ?_ (Ev.pos ?_ (Ev.call (show styluslaw51_lives.f = some true from rfl) (Ev.now _))))
  ·rw [w64 (x := (a.length : Int) - (lcs a b : Int)) (by omega) (by omega)]
  ·rw [w64 (x := (b.length : Int) - (lcs a b : Int)) (by omega) (by omega)]
 | jv :: m, i, s, n, hm, hi, hf, hn => by
  have hil : i < M.length := by
   rcases Nat.lt_or_ge i M.length with h | h
   ·exact h
   ·rw [List.drop_eq_nil_of_le h] at hm; cases hm
  have hjv : M[i] = jv := by rw [List.drop_eq_getElem_cons hil] at hm; exact (List.cons.inj hm).1
  have hm2 : M.drop (i + 1) = m := by rw [List.drop_eq_getElem_cons hil] at hm; exact (List.cons.inj hm).2
  have hcl := cnt_le M
  rw [Fits] at hf
  rw [cnt] at hn
  by_cases q : 0 ≤ jv
  ·rw [if_pos q] at hf hn
   obtain ⟨j, rfl⟩ : ∃ j : Nat, jv = (j : Int) := ⟨jv.toNat, by omega⟩
   rw [Int.toNat_natCast] at hf
   obtain ⟨f1, f2, f3, f4, f5⟩ := hf
   have h := make_l a b ha hb M hM hc m (i + 1) (j + 1) (n + 1) hm2 f3 f5 (by omega)
   rw [show ((j + 1 : Nat) : Int) - 1 = (j : Int) by omega] at h
   rw [List.getElem?_eq_getElem f3, List.getElem?_eq_getElem f2] at f4
   refine Ev.step (fun k => ?_) h
   rw [styluslaw51_HunksMake.l0, if_pos (by omega), if_pos (by omega), rdI M i hil, hjv, if_neg (by omega), if_neg (by omega), if_neg (by omega), if_pos (by omega), if_pos (by omega), if_pos (by omega), rd51 a i f3, rd51 b j f2, if_pos (by rw [Option.some.inj f4]), w64 (x := (n : Int) + 1) (by omega) (by omega), w64 (x := (i : Int) + 1) (by omega) (by omega)]
   rfl
  ·rw [if_neg q] at hf hn
   have h := make_l a b ha hb M hM hc m (i + 1) s n hm2 hf.1 hf.2 (by omega)
   refine Ev.step (fun k => ?_) h
   rw [styluslaw51_HunksMake.l0, if_pos (by omega), if_pos (by omega), rdI M i hil, hjv, if_pos (by omega), w64 (x := (i : Int) + 1) (by omega) (by omega)]
   rfl
theorem HunksMake : styluslaw51_HunksMake.Pure := by
 intro a b _ _
 apply Ev.rounds
 have no : Ev (fun k => styluslaw51_HunksMake.j0 k a b true) true := Ev.step (fun k => by rw [styluslaw51_HunksMake.j0, if_pos (rfl : true = true)]) (Ev.call (show styluslaw51_lives.f = some true from rfl) (Ev.now _))
 unfold styluslaw51_HunksMake.f
 obtain ⟨p, hp, hs⟩ := few51_ev a
 obtain ⟨q, hq, hs'⟩ := few51_ev b
 refine Ev.bind hp ?_
 cases p with
 | false => exact Ev.neg Bool.false_ne_true no
 | true =>
  refine Ev.pos rfl (Ev.bind hq ?_)
  cases q with
  | false => exact no
  | true =>
   have ha := hs rfl
   have hb := hs' rfl
   have hT := Texts_ev b b (by omega)
   rw [decide_eq_true rfl] at hT
   refine Ev.step (fun k => by show styluslaw51_HunksMake.j0 (k + 1) a b false = _; rw [styluslaw51_HunksMake.j0, if_neg Bool.false_ne_true]) ?_
   refine Ev.call (show hunks_Diff.f a b = some (diffL a b) from if_pos ⟨by omega, by omega⟩) (Ev.bind (Apply_ev a b (by omega) (by omega)) (Ev.pos rfl (Ev.bind hT ?_)))
   refine Ev.step (fun k => by show styluslaw51_HunksMake.j1 (k + 1) a b false = _; rw [styluslaw51_HunksMake.j1, if_neg Bool.false_ne_true]) ?_
   refine Ev.call (show hunks_Match.f a b = some (mt a b 0) from if_pos ⟨by omega, by omega⟩) (Ev.pos (by rw [mt_length]) ?_)
   have hf := mt_fits a b _ 0 0 rfl (Nat.zero_le _) (Nat.zero_le _)
   exact make_l a b (by omega) (by omega) (mt a b 0) (mt_length a b 0) (cnt_mt a b 0) (mt a b 0) 0 0 0 rfl (Nat.zero_le _) (by simpa using hf) (Nat.zero_add _)

end Go.Proofs.Ytgcilgjkihmclaa.Pure
