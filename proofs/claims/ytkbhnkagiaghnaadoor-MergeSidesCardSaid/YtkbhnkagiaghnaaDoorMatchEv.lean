/- Which line matches which: the program's row and the reference's. -/
import Derived.Test.YtkbhnkagiaghnaaDoorPx2
import Derived.Test.YtkbhnkagiaghnaaDoorPx7
import Derived.Test.YtkbhnkagiaghnaaDoorPx0
import Derived.Test.YtkbhnkagiaghnaaDoorPx10
import Derived.Test.YtkbhnkagiaghnaaDoorEvKit
namespace Go.Proofs.YtkbhnkagiaghnaaDoor.P
open Go.RowKit Go.Proofs.YtkbhnkagiaghnaaDoorW.PrintWords Go.Proofs.YtkbhnkagiaghnaaDoorW.PrintLast
theorem txt_eq (x y : ByteArray) : x.toList = y.toList ↔ x = y := by
 have h := toList_eq x y
 rw [Bool.eq_iff_iff, beq_iff_eq, decide_eq_true_iff] at h
 exact h
theorem rd51 (l : List ByteArray) (i : Nat) (h : i < l.length) : rdOf ByteArray.empty l (i : Int) = l[i] := by simp [rdOf, List.getD_eq_getElem?_getD, List.getElem?_eq_getElem h]
theorem rdI (l : List Int) (i : Nat) (h : i < l.length) : rd l (i : Int) = l[i] := by simp [rd, List.getD_eq_getElem?_getD, List.getElem?_eq_getElem h]
/-- The matches: rising, within, and of the same lines. -/
def Fits (a b : List ByteArray) : List Int → Nat → Nat → Prop
 | [], i, s => i = a.length ∧ s ≤ b.length
 | j :: m, i, s => if 0 ≤ j then (s ≤ j.toNat ∧ j.toNat < b.length ∧ i < a.length ∧ a[i]? = b[j.toNat]? ∧ Fits a b m (i + 1) (j.toNat + 1)) else (i < a.length ∧ Fits a b m (i + 1) s)
theorem Fits.lower {a b : List ByteArray} : ∀ {m : List Int} {i s s' : Nat}, s' ≤ s → Fits a b m i s → Fits a b m i s'
 | [], _, _, _, h, h2 => ⟨h2.1, Nat.le_trans h h2.2⟩
 | j :: m, i, s, s', h, h2 => by
  rw [Fits] at h2 ⊢
  split
  ·rename_i h3
   rw [if_pos h3] at h2
   exact ⟨Nat.le_trans h h2.1, h2.2⟩
  ·rename_i h3
   rw [if_neg h3] at h2
   exact ⟨h2.1, Fits.lower h h2.2⟩
theorem mt_fits (a b : List ByteArray) : ∀ (d i j : Nat), (a.length - i) + (b.length - j) = d → i ≤ a.length → j ≤ b.length → Fits a b (mt (a.drop i) (b.drop j) (j : Int)) i j := by
 intro d
 induction d using Nat.strongRecOn with
 | ind d ih =>
  intro i j hd hi hj
  by_cases qi : i < a.length
  ·by_cases qj : j < b.length
   ·rw [mt_step a b i j qi qj]
    split
    ·rename_i q
     rw [Fits, if_pos (Int.natCast_nonneg _), Int.toNat_natCast]
     rw [rd51 a i qi, rd51 b j qj] at q
     exact ⟨Nat.le_refl _, qj, qi, by rw [List.getElem?_eq_getElem qi, List.getElem?_eq_getElem qj, q], ih _ (by omega) (i + 1) (j + 1) rfl (by omega) (by omega)⟩
    ·split
     ·rw [Fits, if_neg (by omega)]
      exact ⟨qi, ih _ (by omega) (i + 1) j rfl (by omega) hj⟩
     ·exact Fits.lower (Nat.le_succ _) (ih _ (by omega) i (j + 1) rfl hi (by omega))
   ·obtain rfl : j = b.length := by omega
    rw [List.drop_length, mt_end, List.length_drop, show a.length - i = (a.length - (i + 1)) + 1 by omega, List.replicate_succ, Fits, if_neg (by omega)]
    refine ⟨qi, ?_⟩
    have h := ih ((a.length - (i + 1)) + (b.length - b.length)) (by omega) (i + 1) b.length rfl (by omega) (Nat.le_refl _)
    rw [List.drop_length, mt_end, List.length_drop] at h
    exact h
  ·obtain rfl : i = a.length := by omega
   rw [List.drop_length]
   exact ⟨rfl, hj⟩
end Go.Proofs.YtkbhnkagiaghnaaDoor.P
