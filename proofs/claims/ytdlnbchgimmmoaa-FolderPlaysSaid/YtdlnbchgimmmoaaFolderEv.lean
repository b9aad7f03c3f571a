/- A folder's names as a list: what a name more, and one less, make of what is found. -/
import Derived.Test.YtdlnbchgimmmoaaPx1
namespace Go.Proofs.Ytdlnbchgimmmoaa.P
open Go.RowKit Go.Proofs.YtdlnbchgimmmoaaW.PrintWords Go.Proofs.YtdlnbchgimmmoaaW.PrintLast

theorem nmHas_nil (s : List UInt8) : nmHas [] s = false := rfl
theorem nmHas_ins (x : List UInt8 × Int) (L : Nms) (s : List UInt8) : nmHas (nmIns x L) s = ((x.1 == s) || nmHas L s) := by
  induction L with
  | nil => simp [nmIns, nmHas]
  | cons y r ih =>
    unfold nmIns
    split
    · rfl
    · have h1 : nmHas (y :: nmIns x r) s = ((y.1 == s) || nmHas (nmIns x r) s) := rfl
      have h2 : nmHas (y :: r) s = ((y.1 == s) || nmHas r s) := rfl
      rw [h1, h2, ih]
      cases (y.1 == s) <;> cases (x.1 == s) <;> rfl
theorem nmHas_del (L : Nms) (s t : List UInt8) : nmHas (nmDel L s) t = (!(s == t) && nmHas L t) := by
  induction L with
  | nil => simp [nmDel, nmHas]
  | cons y r ih =>
    have h2 : nmHas (y :: r) t = ((y.1 == t) || nmHas r t) := rfl
    by_cases h : y.1 = s
    · have h1 : nmDel (y :: r) s = nmDel r s := by simp [nmDel, h]
      rw [h1, ih, h2, h]
      cases (s == t) <;> simp
    · have h1 : nmDel (y :: r) s = y :: nmDel r s := by simp [nmDel, h]
      have h3 : nmHas (y :: nmDel r s) t = ((y.1 == t) || nmHas (nmDel r s) t) := rfl
      rw [h1, h3, ih, h2]
      by_cases h4 : y.1 = t
      · have h5 : (s == t) = false := beq_eq_false_iff_ne.2 (fun e => h (h4.trans e.symm))
        simp [h4, h5]
      · simp [beq_eq_false_iff_ne.2 h4]
theorem nmHas_put (L : Nms) (s t : List UInt8) (v : Int) : nmHas (nmPut L s v) t = ((s == t) || nmHas L t) := by
  unfold nmPut
  rw [nmHas_ins, nmHas_del]
  cases (s == t) <;> simp
theorem nmGet_cons (y : List UInt8 × Int) (r : Nms) (s : List UInt8) : nmGet (y :: r) s = if y.1 = s then y.2 else nmGet r s := by
  unfold nmGet
  rw [List.find?_cons]
  by_cases h : y.1 = s
  · rw [if_pos h, beq_iff_eq.2 h]
  · rw [if_neg h, beq_eq_false_iff_ne.2 h]
theorem nmGet_ins (x : List UInt8 × Int) (L : Nms) (s : List UInt8) (h : nmHas L x.1 = false) : nmGet (nmIns x L) s = if x.1 = s then x.2 else nmGet L s := by
  induction L with
  | nil => exact nmGet_cons x [] s
  | cons y r ih =>
    have h2 : nmHas (y :: r) x.1 = ((y.1 == x.1) || nmHas r x.1) := rfl
    rw [h2, Bool.or_eq_false_iff] at h
    unfold nmIns
    split
    · exact nmGet_cons x (y :: r) s
    · rw [nmGet_cons, nmGet_cons, ih h.2]
      by_cases h4 : y.1 = s
      · have h5 : x.1 ≠ s := fun e => beq_eq_false_iff_ne.1 h.1 (h4.trans e.symm)
        rw [if_pos h4, if_pos h4, if_neg h5]
      · rw [if_neg h4, if_neg h4]
theorem nmGet_del (L : Nms) (s t : List UInt8) (h : s ≠ t) : nmGet (nmDel L s) t = nmGet L t := by
  induction L with
  | nil => rfl
  | cons y r ih =>
    by_cases h3 : y.1 = s
    · have h1 : nmDel (y :: r) s = nmDel r s := by simp [nmDel, h3]
      rw [h1, ih, nmGet_cons, if_neg (fun e => h (h3.symm.trans e))]
    · have h1 : nmDel (y :: r) s = y :: nmDel r s := by simp [nmDel, h3]
      rw [h1, nmGet_cons, nmGet_cons, ih]
theorem nmGet_put (L : Nms) (s t : List UInt8) (v : Int) : nmGet (nmPut L s v) t = if s = t then v else nmGet L t := by
  unfold nmPut
  rw [nmGet_ins _ _ _ (by rw [nmHas_del]; simp)]
  by_cases h : s = t
  · rw [if_pos h, if_pos h]
  · rw [if_neg h, if_neg h, nmGet_del _ _ _ h]
theorem nmStep_put (L : Nms) (s : ByteArray) (v : Int) : nmStep L ⟨false, ⟨#[]⟩, true, s, v⟩ = nmPut L s.data.toList v := rfl
theorem nmStep_mv (L : Nms) (s t : ByteArray) (v : Int) : nmStep L ⟨true, s, true, t, v⟩ = nmPut (nmDel L s.data.toList) t.data.toList v := rfl
theorem nmStep_del (L : Nms) (s t : ByteArray) (v : Int) : nmStep L ⟨true, s, false, t, v⟩ = nmDel L s.data.toList := rfl
end Go.Proofs.Ytdlnbchgimmmoaa.P
