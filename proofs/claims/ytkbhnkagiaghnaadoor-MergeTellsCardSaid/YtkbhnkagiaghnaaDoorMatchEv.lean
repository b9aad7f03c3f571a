/- Which line matches which: the program's row and the reference's. -/
import Derived.Test.YtkbhnkagiaghnaaDoorPx2
import Derived.Test.YtkbhnkagiaghnaaDoorPx7
import Derived.Test.YtkbhnkagiaghnaaDoorPx8
import Derived.Test.YtkbhnkagiaghnaaDoorPx10
import Derived.Test.YtkbhnkagiaghnaaDoorEvKit
namespace Go.Proofs.YtkbhnkagiaghnaaDoor.P
open Go.RowKit Go.Proofs.YtkbhnkagiaghnaaDoorW.PrintWords Go.Proofs.YtkbhnkagiaghnaaDoorW.PrintLast
theorem txt_eq (x y : ByteArray) : x.toList = y.toList ↔ x = y := by
 have h := toList_eq x y
 rw [Bool.eq_iff_iff, beq_iff_eq, decide_eq_true_iff] at h
 exact h
theorem rd51 (l : List ByteArray) (i : Nat) (h : i < l.length) : rdOf ByteArray.empty l (i : Int) = l[i] := by simp [rdOf, List.getD_eq_getElem?_getD, List.getElem?_eq_getElem h]
theorem rdI (l : List Int) (i : Nat) (h : i < l.length) : rd l (i : Int) = l[i] := by simp [rd, List.getD_eq_getElem?_getD, List.getElem?_eq_getElem h]
theorem tab_rd (a b : List ByteArray) (i j : Nat) (hi : i ≤ a.length) (hj : j ≤ b.length) : rd (rd_L5 (rowsL a b) (i : Int)) (j : Int) = ((lcs (a.drop i) (b.drop j) : Nat) : Int) ∧ (rd_L5 (rowsL a b) (i : Int)).length = b.length + 1 := by
 have h1 : rd_L5 (rowsL a b) (i : Int) = rowL a b i := by simp [rd_L5, rowsL, List.getD_eq_getElem?_getD, show i < a.length + 1 by omega]
 rw [h1]
 exact ⟨by simp [rd, rowL, List.getD_eq_getElem?_getD, show j < b.length + 1 by omega], by simp [rowL]⟩
theorem rowsL_len (a b : List ByteArray) : (rowsL a b).length = a.length + 1 := by simp [rowsL]
theorem ref_Match_l (a b : List ByteArray) (ha : a.length ≤ 200) (hb : b.length ≤ 200) : ∀ (d : Nat),
  (∀ (i j : Nat) (out : List Int), (a.length - i) + (b.length - j) = d → i < a.length → j ≤ b.length → out.length = i → Ev (fun k => stylusref51_Match.l1 k a b (rowsL a b) out (j : Int) (i : Int)) (out ++ mt (a.drop i) (b.drop j) (j : Int))) ∧
  (∀ (i j : Nat) (out : List Int), (a.length - i) + (b.length - j) = d → i ≤ a.length → j ≤ b.length → out.length = i → Ev (fun k => stylusref51_Match.l0 k a b (rowsL a b) out (j : Int) (i : Int)) (out ++ mt (a.drop i) (b.drop j) (j : Int))) := by
 intro d
 induction d using Nat.strongRecOn with
 | ind d ih =>
  have P1 : ∀ (i j : Nat) (out : List Int), (a.length - i) + (b.length - j) = d → i < a.length → j ≤ b.length → out.length = i → Ev (fun k => stylusref51_Match.l1 k a b (rowsL a b) out (j : Int) (i : Int)) (out ++ mt (a.drop i) (b.drop j) (j : Int)) := by
   intro i j out hd hi hj ho
   by_cases qj : j < b.length
   ·rw [mt_step a b i j hi qj]
    by_cases q : rdOf ByteArray.empty a (i : Int) = rdOf ByteArray.empty b (j : Int)
    ·rw [if_pos q]
     have h := (ih ((a.length - (i + 1)) + (b.length - (j + 1))) (by omega)).2 (i + 1) (j + 1) (out ++ [(j : Int)]) rfl (by omega) (by omega) (by simp [ho])
     rw [List.append_assoc] at h
     refine Ev.step (fun k => ?_) h
     rw [stylusref51_Match.l1, if_pos (by omega), if_pos (by omega), if_pos (by omega), if_pos (by omega), if_pos ((txt_eq _ _).2 q), if_pos (by omega), w64 (x := (j : Int) + 1) (by omega) (by omega), w64 (x := (i : Int) + 1) (by omega) (by omega)]
     rfl
    ·rw [if_neg q]
     obtain ⟨t1, l1⟩ := tab_rd a b (i + 1) j (by omega) hj
     obtain ⟨t2, l2⟩ := tab_rd a b i (j + 1) (by omega) (by omega)
     have hT : ∀ k, stylusref51_Match.l1 (k + 1) a b (rowsL a b) out (j : Int) (i : Int) = if ((lcs (a.drop (i + 1)) (b.drop j) : Nat) : Int) < ((lcs (a.drop i) (b.drop (j + 1)) : Nat) : Int) then stylusref51_Match.l1 k a b (rowsL a b) out ((j + 1 : Nat) : Int) (i : Int) else stylusref51_Match.l0 k a b (rowsL a b) (out ++ [(-1)]) (j : Int) ((i + 1 : Nat) : Int) := by
      intro k
      rw [stylusref51_Match.l1, if_pos (by omega), if_pos (by omega), if_pos (by omega), if_pos (by omega), if_neg (fun z => q ((txt_eq _ _).1 z)), w64 (x := (j : Int) + 1) (by omega) (by omega), w64 (x := (i : Int) + 1) (by omega) (by omega)]
      have c1 : (i : Int) + 1 = ((i + 1 : Nat) : Int) := rfl
      have c2 : (j : Int) + 1 = ((j + 1 : Nat) : Int) := rfl
      rw [c1, c2, t1, t2, l1, l2, rowsL_len, if_pos (by omega), if_pos (by omega), if_pos (by omega), if_pos (by omega), if_pos (by omega), if_pos (by omega)]
      split
      ·rfl
      ·rw [if_pos (by omega)]
     by_cases c : lcs (a.drop i) (b.drop (j + 1)) ≤ lcs (a.drop (i + 1)) (b.drop j)
     ·rw [if_pos c]
      have h := (ih ((a.length - (i + 1)) + (b.length - j)) (by omega)).2 (i + 1) j (out ++ [(-1)]) rfl (by omega) (by omega) (by simp [ho])
      rw [List.append_assoc] at h
      exact Ev.step (fun k => by rw [hT, if_neg (by omega)]) h
     ·rw [if_neg c]
      have h := (ih ((a.length - i) + (b.length - (j + 1))) (by omega)).1 i (j + 1) out rfl hi (by omega) ho
      exact Ev.step (fun k => by rw [hT, if_pos (by omega)]) h
   ·obtain rfl : j = b.length := by omega
    have h := (ih ((a.length - (i + 1)) + (b.length - b.length)) (by omega)).2 (i + 1) b.length (out ++ [(-1)]) rfl (by omega) (by omega) (by simp [ho])
    rw [List.drop_length, mt_end, List.append_assoc] at h
    rw [List.drop_length, mt_end]
    have e : List.replicate (a.drop i).length (-1 : Int) = [(-1)] ++ List.replicate (a.drop (i + 1)).length (-1) := by
     rw [List.length_drop, List.length_drop, show a.length - i = (a.length - (i + 1)) + 1 by omega, List.replicate_succ]
     rfl
    rw [e]
    refine Ev.step (fun k => ?_) h
    rw [stylusref51_Match.l1, if_neg (by omega), if_pos (by omega), w64 (x := (i : Int) + 1) (by omega) (by omega)]
    rfl
  refine ⟨P1, fun i j out hd hi hj ho => ?_⟩
  by_cases q : i < a.length
  ·exact Ev.step (fun k => by rw [stylusref51_Match.l0, if_pos (by omega)]) (P1 i j out hd q hj ho)
  ·obtain rfl : i = a.length := by omega
   rw [List.drop_length]
   exact Ev.step (f := fun _ => some (out ++ [])) (fun k => by rw [stylusref51_Match.l0, if_neg (by omega), List.append_nil]) (Ev.now _)
theorem ref_Match_ev (a b : List ByteArray) (ha : a.length ≤ 200) (hb : b.length ≤ 200) : Ev (fun k => stylusref51_Match.f k a b) (mt a b 0) := by
 unfold stylusref51_Match.f
 refine Ev.neg (by omega) ?_
 rw [decide_eq_false (by omega)]
 refine Ev.step (fun k => by rw [stylusref51_Match.j0, if_neg Bool.false_ne_true]) (Ev.call (show stylusref51_rows.f a b = some (rowsL a b) from if_pos ⟨ha, hb⟩) ?_)
 have h := (ref_Match_l a b ha hb _).2 0 0 [] rfl (Nat.zero_le _) (Nat.zero_le _) rfl
 simpa using h
theorem Texts_l (x y : List ByteArray) (hxy : x.length = y.length) (hl : x.length ≤ 1000000) : ∀ (d i : Nat), i + d = x.length → Ev (fun k => stylusref51_Texts.l0 k x y (i : Int)) (decide (x.drop i = y.drop i))
 | 0, i, hd => by
  rw [List.drop_eq_nil_of_le (by omega), List.drop_eq_nil_of_le (by omega), decide_eq_true rfl]
  exact Ev.step (f := fun _ => some true) (fun k => by rw [stylusref51_Texts.l0, if_neg (by omega)]) (Ev.now _)
 | d + 1, i, hd => by
  have h1 : i < x.length := by omega
  have h2 : i < y.length := by omega
  rw [List.drop_eq_getElem_cons h1, List.drop_eq_getElem_cons h2]
  by_cases q : x[i] = y[i]
  ·have e : decide (x[i] :: x.drop (i + 1) = y[i] :: y.drop (i + 1)) = decide (x.drop (i + 1) = y.drop (i + 1)) := by rw [q]; exact decide_eq_decide.2 ⟨fun h => (List.cons.inj h).2, fun h => by rw [h]⟩
   rw [e]
   exact Ev.step (fun k => by rw [stylusref51_Texts.l0, if_pos (by omega), if_pos (by omega), if_pos (by omega), rd51 x i h1, rd51 y i h2, if_pos ((txt_eq _ _).2 q), w64 (x := (i : Int) + 1) (by omega) (by omega)]; rfl) (Texts_l x y hxy hl d (i + 1) (by omega))
  ·rw [decide_eq_false (fun h => q (List.cons.inj h).1)]
   exact Ev.step (f := fun _ => some false) (fun k => by rw [stylusref51_Texts.l0, if_pos (by omega), if_pos (by omega), if_pos (by omega), rd51 x i h1, rd51 y i h2, if_neg (fun z => q ((txt_eq _ _).1 z))]) (Ev.now _)
theorem Texts_ev (x y : List ByteArray) (hl : x.length ≤ 1000000) : Ev (fun k => stylusref51_Texts.f k x y) (decide (x = y)) := by
 unfold stylusref51_Texts.f
 by_cases h : x.length = y.length
 ·have := Texts_l x y h hl x.length 0 (by omega)
  rw [List.drop_zero, List.drop_zero] at this
  exact Ev.pos (by omega) this
 ·rw [decide_eq_false (fun z => h (by rw [z]))]
  exact Ev.neg (by omega) (Ev.now _)
/-- The matches: rising, within, and of the same lines. -/
def Fits (a b : List ByteArray) : List Int → Nat → Nat → Prop
 | [], i, s => i = a.length ∧ s ≤ b.length
 | j :: m, i, s => if 0 ≤ j then (s ≤ j.toNat ∧ j.toNat < b.length ∧ i < a.length ∧ a[i]? = b[j.toNat]? ∧ Fits a b m (i + 1) (j.toNat + 1)) else (i < a.length ∧ Fits a b m (i + 1) s)
theorem Fits.lower {a b : List ByteArray} : ∀ {m : List Int} {i s s' : Nat}, s' ≤ s → Fits a b m i s → Fits a b m i s'
 | [], _, _, _, h, h2 => ⟨h2.1, Nat.le_trans h h2.2⟩
 | j :: m, i, s, s', h, h2 => by
  rw [Fits] at h2 ⊢
  split
  ·rename_i h3
   rw [if_pos h3] at h2
   exact ⟨Nat.le_trans h h2.1, h2.2⟩
  ·rename_i h3
   rw [if_neg h3] at h2
   exact ⟨h2.1, Fits.lower h h2.2⟩
theorem mt_fits (a b : List ByteArray) : ∀ (d i j : Nat), (a.length - i) + (b.length - j) = d → i ≤ a.length → j ≤ b.length → Fits a b (mt (a.drop i) (b.drop j) (j : Int)) i j := by
 intro d
 induction d using Nat.strongRecOn with
 | ind d ih =>
  intro i j hd hi hj
  by_cases qi : i < a.length
  ·by_cases qj : j < b.length
   ·rw [mt_step a b i j qi qj]
    split
    ·rename_i q
     rw [Fits, if_pos (Int.natCast_nonneg _), Int.toNat_natCast]
     rw [rd51 a i qi, rd51 b j qj] at q
     exact ⟨Nat.le_refl _, qj, qi, by rw [List.getElem?_eq_getElem qi, List.getElem?_eq_getElem qj, q], ih _ (by omega) (i + 1) (j + 1) rfl (by omega) (by omega)⟩
    ·split
     ·rw [Fits, if_neg (by omega)]
      exact ⟨qi, ih _ (by omega) (i + 1) j rfl (by omega) hj⟩
     ·exact Fits.lower (Nat.le_succ _) (ih _ (by omega) i (j + 1) rfl hi (by omega))
   ·obtain rfl : j = b.length := by omega
    rw [List.drop_length, mt_end, List.length_drop, show a.length - i = (a.length - (i + 1)) + 1 by omega, List.replicate_succ, Fits, if_neg (by omega)]
    refine ⟨qi, ?_⟩
    have h := ih ((a.length - (i + 1)) + (b.length - b.length)) (by omega) (i + 1) b.length rfl (by omega) (Nat.le_refl _)
    rw [List.drop_length, mt_end, List.length_drop] at h
    exact h
  ·obtain rfl : i = a.length := by omega
   rw [List.drop_length]
   exact ⟨rfl, hj⟩
end Go.Proofs.YtkbhnkagiaghnaaDoor.P
