/- The page's lists of names, by the rounds that its functions take. -/
import Derived.Test.YtdlnbchgimmmoaaPx1
import Derived.Test.YtdlnbchgimmmoaaPx2
import Derived.Test.YtdlnbchgimmmoaaPx3
import Derived.Test.YtdlnbchgimmmoaaPx6
import Derived.Test.YtdlnbchgimmmoaaFolderEv
import Derived.Test.YtdlnbchgimmmoaaEvKit
namespace Go.Proofs.Ytdlnbchgimmmoaa.P
open Go.RowKit Go.Proofs.YtdlnbchgimmmoaaW.PrintWords Go.Proofs.YtdlnbchgimmmoaaW.PrintLast

abbrev En := S74
def toR (p : List UInt8 × Int) : En := ⟨⟨p.1.toArray⟩, p.2⟩
def rowR (L : Nms) : List En := L.map toR
theorem toR_name (p : List UInt8 × Int) : (toR p).f0.toList = p.1 := by rw [ByteArray.toList_eq]; simp [toR]
theorem toR_eta (s : ByteArray) (v : Int) : toR (s.data.toList, v) = ⟨s, v⟩ := by simp [toR]
theorem toR_self (p : List UInt8 × Int) : (⟨(toR p).f0, (toR p).f1⟩ : En) = toR p := rfl
theorem rowR_length (L : Nms) : (rowR L).length = L.length := List.length_map _
theorem rd_row (L : Nms) (i : Nat) (h : i < L.length) : rd_T74 (rowR L) (i : Int) = toR L[i] := by
  unfold rd_T74 rowR
  rw [Int.toNat_natCast, List.getD_eq_getElem?_getD, List.getElem?_map, List.getElem?_eq_getElem h]
  rfl
theorem less_before : ∀ x y : List UInt8, Op.bytesLess x y = bytesBefore x y
  | [], [] => rfl
  | [], _ :: _ => rfl
  | _ :: _, [] => rfl
  | a :: r, b :: s => by
    unfold Op.bytesLess bytesBefore
    rw [less_before r s]
theorem find_l (L : Nms) (s : ByteArray) (hl : L.length ≤ 1000000) : ∀ (d i : Nat), i + d = L.length → Ev (fun k => stylusref09_Find.l0 k (rowR L) s (i : Int)) (nmGet (L.drop i) s.data.toList, nmHas (L.drop i) s.data.toList)
  | 0, i, h => by
    have e : L.drop i = [] := List.drop_eq_nil_of_le (by omega)
    rw [e]
    exact Ev.step (f := fun _ => some (0, false)) (fun k => by rw [stylusref09_Find.l0, if_neg (by rw [rowR_length]; omega)]) (Ev.now _)
  | d + 1, i, h => by
    have hi : i < L.length := by omega
    have ih := find_l L s hl d (i + 1) (by omega)
    rw [List.drop_eq_getElem_cons hi, nmGet_cons]
    have hh : nmHas (L[i] :: L.drop (i + 1)) s.data.toList = ((L[i].1 == s.data.toList) || nmHas (L.drop (i + 1)) s.data.toList) := rfl
    rw [hh]
    by_cases c : L[i].1 = s.data.toList
    · rw [if_pos c, beq_iff_eq.2 c]
      exact Ev.step (f := fun _ => some (L[i].2, true)) (fun k => by rw [stylusref09_Find.l0, if_pos (by rw [rowR_length]; omega), if_pos (by omega), rd_row L i hi, if_pos (by rw [toR_name, ByteArray.toList_eq]; exact c)]; rfl) (Ev.now _)
    · rw [if_neg c, beq_eq_false_iff_ne.2 c, Bool.false_or]
      exact Ev.step (fun k => by rw [stylusref09_Find.l0, if_pos (by rw [rowR_length]; omega), if_pos (by omega), rd_row L i hi, if_neg (by rw [toR_name, ByteArray.toList_eq]; exact c), w64 (x := (i : Int) + 1) (by omega) (by omega)]; rfl) ih
theorem find_ev (L : Nms) (s : ByteArray) (hl : L.length ≤ 1000000) : Ev (fun k => stylusref09_Find.f k (rowR L) s) (nmGet L s.data.toList, nmHas L s.data.toList) := find_l L s hl L.length 0 (by omega)
theorem nmDel_pos (y : List UInt8 × Int) (r : Nms) (s : List UInt8) (h : y.1 = s) : nmDel (y :: r) s = nmDel r s := by simp [nmDel, h]
theorem nmDel_neg (y : List UInt8 × Int) (r : Nms) (s : List UInt8) (h : y.1 ≠ s) : nmDel (y :: r) s = y :: nmDel r s := by simp [nmDel, h]
theorem without_l (L : Nms) (s : ByteArray) (hl : L.length ≤ 1000000) : ∀ (d i : Nat) (acc : List En), i + d = L.length → acc.length ≤ i → Ev (fun k => stylusref09_without.l0 k (rowR L) s acc (i : Int)) (acc ++ rowR (nmDel (L.drop i) s.data.toList))
  | 0, i, acc, h, ha => by
    have e : L.drop i = [] := List.drop_eq_nil_of_le (by omega)
    rw [e]
    exact Ev.step (f := fun _ => some _) (fun k => by rw [stylusref09_without.l0, if_neg (by rw [rowR_length]; omega)]; simp [nmDel, rowR]) (Ev.now _)
  | d + 1, i, acc, h, ha => by
    have hi : i < L.length := by omega
    rw [List.drop_eq_getElem_cons hi]
    by_cases c : L[i].1 = s.data.toList
    · have ih := without_l L s hl d (i + 1) acc (by omega) (by omega)
      have e : nmDel (L[i] :: L.drop (i + 1)) s.data.toList = nmDel (L.drop (i + 1)) s.data.toList := nmDel_pos _ _ _ c
      rw [e]
      exact Ev.step (fun k => by rw [stylusref09_without.l0, if_pos (by rw [rowR_length]; omega), if_pos (by omega), rd_row L i hi, if_pos (by rw [toR_name, ByteArray.toList_eq]; exact c), w64 (x := (i : Int) + 1) (by omega) (by omega)]; rfl) ih
    · have ih := without_l L s hl d (i + 1) (acc ++ [toR L[i]]) (by omega) (by simp; omega)
      have e : nmDel (L[i] :: L.drop (i + 1)) s.data.toList = L[i] :: nmDel (L.drop (i + 1)) s.data.toList := nmDel_neg _ _ _ c
      rw [e]
      refine Ev.to (Ev.step (fun k => by rw [stylusref09_without.l0, if_pos (by rw [rowR_length]; omega), if_pos (by omega), rd_row L i hi, if_neg (by rw [toR_name, ByteArray.toList_eq]; exact c), if_pos (by omega), w64 (x := (i : Int) + 1) (by omega) (by omega), toR_self]; rfl) ih) ?_
      simp only [rowR, List.map_cons, List.append_assoc, List.cons_append, List.nil_append]
theorem without_ev (L : Nms) (s : ByteArray) (hl : L.length ≤ 1000000) : Ev (fun k => stylusref09_without.f k (rowR L) s) (rowR (nmDel L s.data.toList)) := Ev.to (without_l L s hl L.length 0 [] (by omega) (Nat.le_refl _)) (by simp)
theorem with_done (L : Nms) (s : ByteArray) (v : Int) (hl : L.length ≤ 1000000) : ∀ (d i : Nat) (acc : List En), i + d = L.length → acc.length ≤ i + 1 → Ev (fun k => stylusref09_with.l0 k (rowR L) acc true (i : Int) s v) (acc ++ rowR (L.drop i))
  | 0, i, acc, h, ha => by
    have e : L.drop i = [] := List.drop_eq_nil_of_le (by omega)
    rw [e]
    exact Ev.step (f := fun _ => some _) (fun k => by rw [stylusref09_with.l0, if_neg (by rw [rowR_length]; omega), if_pos rfl]; simp [rowR]) (Ev.now _)
  | d + 1, i, acc, h, ha => by
    have hi : i < L.length := by omega
    have ih := with_done L s v hl d (i + 1) (acc ++ [toR L[i]]) (by omega) (by simp; omega)
    rw [List.drop_eq_getElem_cons hi]
    refine Ev.to (Ev.step (fun k => by rw [stylusref09_with.l0, if_pos (by rw [rowR_length]; omega), if_pos rfl, if_pos (by omega), if_pos (by omega), rd_row L i hi, w64 (x := (i : Int) + 1) (by omega) (by omega), toR_self]; rfl) ih) ?_
    simp only [rowR, List.map_cons, List.append_assoc, List.cons_append, List.nil_append]
theorem with_l (L : Nms) (s : ByteArray) (v : Int) (hl : L.length ≤ 1000000) : ∀ (d i : Nat) (acc : List En), i + d = L.length → acc.length ≤ i → Ev (fun k => stylusref09_with.l0 k (rowR L) acc false (i : Int) s v) (acc ++ rowR (nmIns (s.data.toList, v) (L.drop i)))
  | 0, i, acc, h, ha => by
    have e : L.drop i = [] := List.drop_eq_nil_of_le (by omega)
    rw [e]
    exact Ev.step (f := fun _ => some _) (fun k => by rw [stylusref09_with.l0, if_neg (by rw [rowR_length]; omega), if_neg Bool.false_ne_true, if_pos (by omega)]; simp [rowR, nmIns, toR_eta]) (Ev.now _)
  | d + 1, i, acc, h, ha => by
    have hi : i < L.length := by omega
    rw [List.drop_eq_getElem_cons hi]
    by_cases c : bytesBefore s.data.toList L[i].1 = true
    · have ih := with_done L s v hl d (i + 1) (acc ++ [(⟨s, v⟩ : En)] ++ [toR L[i]]) (by omega) (by simp; omega)
      have e : nmIns (s.data.toList, v) (L[i] :: L.drop (i + 1)) = (s.data.toList, v) :: L[i] :: L.drop (i + 1) := if_pos c
      rw [e]
      refine Ev.to (Ev.step (fun k => by rw [stylusref09_with.l0, if_pos (by rw [rowR_length]; omega), if_neg Bool.false_ne_true, if_pos (by omega), rd_row L i hi, if_pos (by rw [toR_name, ByteArray.toList_eq, less_before]; exact c), if_pos (by omega), Option.bind_some, if_pos (by simp; omega), w64 (x := (i : Int) + 1) (by omega) (by omega), toR_self]; rfl) ih) ?_
      simp only [rowR, toR_eta, List.map_cons, List.append_assoc, List.cons_append, List.nil_append]
    · have ih := with_l L s v hl d (i + 1) (acc ++ [toR L[i]]) (by omega) (by simp; omega)
      have e : nmIns (s.data.toList, v) (L[i] :: L.drop (i + 1)) = L[i] :: nmIns (s.data.toList, v) (L.drop (i + 1)) := if_neg c
      rw [e]
      refine Ev.to (Ev.step (fun k => by rw [stylusref09_with.l0, if_pos (by rw [rowR_length]; omega), if_neg Bool.false_ne_true, if_pos (by omega), rd_row L i hi, if_neg (by rw [toR_name, ByteArray.toList_eq, less_before]; exact c), if_pos (by omega), w64 (x := (i : Int) + 1) (by omega) (by omega), toR_self]; rfl) ih) ?_
      simp only [rowR, List.map_cons, List.append_assoc, List.cons_append, List.nil_append]
theorem with_ev (L : Nms) (s : ByteArray) (v : Int) (hl : L.length ≤ 1000000) : Ev (fun k => stylusref09_with.f k (rowR L) s v) (rowR (nmIns (s.data.toList, v) L)) := Ev.to (with_l L s v hl L.length 0 [] (by omega) (Nat.le_refl _)) (by simp)
theorem like_l (L : Nms) (hl : L.length ≤ 1000000) : ∀ (d i : Nat), i + d = L.length → Ev (fun k => styluslaw09_like.l0 k (L.map toS) (rowR L) (i : Int)) true
  | 0, i, h => Ev.step (f := fun _ => some true) (fun k => by rw [styluslaw09_like.l0, if_neg (by rw [List.length_map]; omega)]) (Ev.now _)
  | d + 1, i, h => by
    have hi : i < L.length := by omega
    have e1 : rd_T84 (L.map toS) (i : Int) = toS L[i] := by
      unfold rd_T84
      rw [Int.toNat_natCast, List.getD_eq_getElem?_getD, List.getElem?_map, List.getElem?_eq_getElem hi]
      rfl
    exact Ev.step (fun k => by rw [styluslaw09_like.l0, if_pos (by rw [List.length_map]; omega), if_pos (by omega), if_pos (by rw [rowR_length]; omega), rd_row L i hi, e1, if_pos (show (toS L[i]).f0.toList = (toR L[i]).f0.toList from rfl), if_pos (show (toS L[i]).f1 = (toR L[i]).f1 from rfl), w64 (x := (i : Int) + 1) (by omega) (by omega)]; rfl) (like_l L hl d (i + 1) (by omega))
theorem like_ev (L : Nms) (hl : L.length ≤ 1000000) : Ev (fun k => styluslaw09_like.f k (L.map toS) (rowR L)) true :=
  Ev.pos (by rw [rowR_length, List.length_map]) (like_l L hl L.length 0 (by omega))
theorem ints_l (l : List Int) (hl : l.length ≤ 1000000) : ∀ (d i : Nat), i + d = l.length → Ev (fun k => styluslaw09_ints.l0 k l l (i : Int)) true
  | 0, i, h => Ev.step (f := fun _ => some true) (fun k => by rw [styluslaw09_ints.l0, if_neg (by omega)]) (Ev.now _)
  | d + 1, i, h => Ev.step (fun k => by rw [styluslaw09_ints.l0, if_pos (by omega), if_pos (by omega), if_pos (by omega), if_pos rfl, w64 (x := (i : Int) + 1) (by omega) (by omega)]; rfl) (ints_l l hl d (i + 1) (by omega))
theorem ints_ev (l : List Int) (hl : l.length ≤ 1000000) : Ev (fun k => styluslaw09_ints.f k l l) true := Ev.pos rfl (ints_l l hl l.length 0 (by omega))
end Go.Proofs.Ytdlnbchgimmmoaa.P
