/- Hunks put in, and their size: the program's and the reference's tell the same of any hunks. -/
import Derived.Test.YtgcilgjkihmclaaDoorPx3
import Derived.Test.YtgcilgjkihmclaaDoorPx4
import Derived.Test.YtgcilgjkihmclaaDoorEvKit
namespace Go.Proofs.YtgcilgjkihmclaaDoor.P
open Go.RowKit Go.Proofs.YtgcilgjkihmclaaDoorW.PrintWords Go.Proofs.YtgcilgjkihmclaaDoorW.PrintLast

def hk_ (x : S28) : S29 := ⟨x.f0, x.f1, x.f2⟩
theorem rd_a (l : List S28) (i : Nat) (h : i < l.length) : rd_T28 l (i : Int) = l[i] := by simp [rd_T28, List.getD_eq_getElem?_getD, List.getElem?_eq_getElem h]
theorem rd_b (l : List S28) (i : Nat) (h : i < l.length) : rd_T29 (l.map hk_) (i : Int) = hk_ l[i] := by simp [rd_T29, List.getD_eq_getElem?_getD, List.getElem?_eq_getElem h]
theorem apply_both (a : List ByteArray) (ha : a.length ≤ 1000) (L : List S28) (hL : L.length ≤ 1000) (hs : ∀ x ∈ L, x.f2.length ≤ 1000) : ∀ (d n p : Nat) (out : List ByteArray), n + d = L.length → p ≤ a.length → out.length + d * 3000 ≤ 500000 →
    ∃ r : List ByteArray × Int, r.1.length ≤ 1000000 ∧ Ev (fun k => hunks_Apply.l0 k a out (p : Int) (L.map hk_) ((L.map hk_).length : Int) (n : Int)) r ∧ Ev (fun k => stylusref51_Apply.l0 k a L out (p : Int) (n : Int)) r
  | 0, n, p, out, hd, hp, ho => by
    have hm : (L.map hk_).length = L.length := List.length_map ..
    have hx : (a.drop p).length ≤ 1000 := by rw [List.length_drop]; omega
    have h2 : out.length ≤ 500000 := by rw [Nat.zero_mul, Nat.add_zero] at ho; exact ho
    have hz : (out ++ a.drop p).length ≤ 1000000 := Nat.le_trans (Nat.le_of_eq List.length_append) (Nat.le_trans (Nat.add_le_add h2 hx) (by decide))
    refine ⟨(out ++ a.drop p, 0), hz, Ev.step (f := fun _ => some _) (fun k => ?_) (Ev.now _), Ev.step (f := fun _ => some _) (fun k => ?_) (Ev.now _)⟩
    · rw [hunks_Apply.l0, if_neg (by omega), if_pos (by omega), if_pos (by omega), Int.toNat_natCast, if_pos (by omega)]
    · rw [stylusref51_Apply.l0, if_neg (by omega), if_pos (by omega), if_pos (by omega), Int.toNat_natCast, if_pos (by omega)]
  | d + 1, n, p, out, hd, hp, ho => by
    have hm : (L.map hk_).length = L.length := List.length_map ..
    have hn : n < L.length := by omega
    have h2 := hs _ (List.getElem_mem hn)
    have hz0 : ([] : List ByteArray).length ≤ 1000000 := Nat.zero_le _
    have f0 : (hk_ L[n]).f0 = L[n].f0 := rfl
    have f1 : (hk_ L[n]).f1 = L[n].f1 := rfl
    have f2 : (hk_ L[n]).f2 = L[n].f2 := rfl
    by_cases c1 : L[n].f0 < (p : Int)
    · refine ⟨([], 3), hz0, Ev.step (f := fun _ => some _) (fun k => ?_) (Ev.now _), Ev.step (f := fun _ => some _) (fun k => ?_) (Ev.now _)⟩
      · rw [hunks_Apply.l0, if_pos (by omega), if_pos (by omega), if_pos (by omega), rd_b L n hn, f0, if_pos c1]
      · rw [stylusref51_Apply.l0, if_pos (by omega), if_pos (by omega), rd_a L n hn, if_pos c1]
    by_cases c2 : L[n].f0 > (a.length : Int)
    · refine ⟨([], 3), hz0, Ev.step (f := fun _ => some _) (fun k => ?_) (Ev.now _), Ev.step (f := fun _ => some _) (fun k => ?_) (Ev.now _)⟩
      · rw [hunks_Apply.l0, if_pos (by omega), if_pos (by omega), if_pos (by omega), rd_b L n hn, f0, if_neg c1, if_pos c2]
      · rw [stylusref51_Apply.l0, if_pos (by omega), if_pos (by omega), rd_a L n hn, if_neg c1]
        by_cases c3 : L[n].f1 < 0
        · rw [if_pos c3]
        · rw [if_neg c3, if_pos c2]
    by_cases c3 : L[n].f1 < 0
    · refine ⟨([], 3), hz0, Ev.step (f := fun _ => some _) (fun k => ?_) (Ev.now _), Ev.step (f := fun _ => some _) (fun k => ?_) (Ev.now _)⟩
      · rw [hunks_Apply.l0, if_pos (by omega), if_pos (by omega), if_pos (by omega), rd_b L n hn, f0, f1, if_neg c1, if_neg c2, if_pos c3]
      · rw [stylusref51_Apply.l0, if_pos (by omega), if_pos (by omega), rd_a L n hn, if_neg c1, if_pos c3]
    have hw : wrap64 ((a.length : Int) - L[n].f0) = (a.length : Int) - L[n].f0 := w64 (by omega) (by omega)
    by_cases c4 : L[n].f1 > (a.length : Int) - L[n].f0
    · refine ⟨([], 3), hz0, Ev.step (f := fun _ => some _) (fun k => ?_) (Ev.now _), Ev.step (f := fun _ => some _) (fun k => ?_) (Ev.now _)⟩
      · rw [hunks_Apply.l0, if_pos (by omega), if_pos (by omega), if_pos (by omega), rd_b L n hn, f0, f1, hw, if_neg c1, if_neg c2, if_neg c3, if_pos c4]
      · rw [stylusref51_Apply.l0, if_pos (by omega), if_pos (by omega), rd_a L n hn, hw, if_neg c1, if_neg c3, if_neg c2, if_pos c4]
    obtain ⟨q, hq⟩ : ∃ q : Nat, L[n].f0 + L[n].f1 = (q : Int) := ⟨(L[n].f0 + L[n].f1).toNat, by omega⟩
    have hx : ((a.take L[n].f0.toNat).drop p).length ≤ 1000 := by rw [List.length_drop, List.length_take]; omega
    have hy : (out ++ (a.take L[n].f0.toNat).drop p).length ≤ out.length + 1000 := by rw [List.length_append]; omega
    obtain ⟨r, e0, e1, e2⟩ := apply_both a ha L hL hs d (n + 1) q (out ++ (a.take L[n].f0.toNat).drop p ++ L[n].f2) (by omega) (by omega) (by rw [List.length_append]; omega)
    refine ⟨r, e0, Ev.step (fun k => ?_) e1, Ev.step (fun k => ?_) e2⟩
    · rw [hunks_Apply.l0, if_pos (by omega), if_pos (by omega), if_pos (by omega), rd_b L n hn, f0, f1, f2, hw, if_neg c1, if_neg c2, if_neg c3, if_neg c4, if_pos (by omega), if_pos (by omega), if_pos (by omega), Int.toNat_natCast, if_pos (by omega), Option.bind_some, if_pos (by omega), hq, w64 (x := (q : Int)) (by omega) (by omega), w64 (x := (n : Int) + 1) (by omega) (by omega)]
      rfl
    · rw [stylusref51_Apply.l0, if_pos (by omega), if_pos (by omega), rd_a L n hn, hw, if_neg c1, if_neg c3, if_neg c2, if_neg c4, if_pos (by omega), if_pos (by omega), if_pos (by omega), Int.toNat_natCast, if_pos (by omega), Option.bind_some, if_pos (by omega), hq, w64 (x := (q : Int)) (by omega) (by omega), w64 (x := (n : Int) + 1) (by omega) (by omega)]
      rfl
theorem Apply_both (a : List ByteArray) (ha : a.length ≤ 1000) (L : List S28) (hL : L.length ≤ 100) (hs : ∀ x ∈ L, x.f2.length ≤ 1000) :
    ∃ r : List ByteArray × Int, r.1.length ≤ 1000000 ∧ Ev (fun k => hunks_Apply.f k a (L.map hk_)) r ∧ Ev (fun k => stylusref51_Apply.f k a L) r :=
  apply_both a ha L (by omega) hs L.length 0 0 [] (by omega) (Nat.zero_le _) (by simp; omega)
def szL : Int → Int → List S28 → Int × Int
  | x, y, [] => (x, y)
  | x, y, h :: l => szL (wrap64 (x + h.f1)) (wrap64 (y + (h.f2.length : Int))) l
theorem Size_b (L : List S28) (hL : L.length ≤ 1000) : ∀ (d n : Nat) (x y : Int), n + d = L.length → Ev (fun k => hunks_Size.l0 k x y (L.map hk_) ((L.map hk_).length : Int) (n : Int)) (szL x y (L.drop n)) ∧ Ev (fun k => stylusref51_Size.l0 k L x y (n : Int)) (szL x y (L.drop n))
  | 0, n, x, y, hd => by
    have hm : (L.map hk_).length = L.length := List.length_map ..
    rw [List.drop_eq_nil_of_le (by omega), szL]
    exact ⟨Ev.step (f := fun _ => some (x, y)) (fun k => by rw [hunks_Size.l0, if_neg (by omega)]) (Ev.now _), Ev.step (f := fun _ => some (x, y)) (fun k => by rw [stylusref51_Size.l0, if_neg (by omega)]) (Ev.now _)⟩
  | d + 1, n, x, y, hd => by
    have hm : (L.map hk_).length = L.length := List.length_map ..
    have hn : n < L.length := by omega
    have h := Size_b L hL d (n + 1) (wrap64 (x + L[n].f1)) (wrap64 (y + (L[n].f2.length : Int))) (by omega)
    rw [List.drop_eq_getElem_cons hn, szL]
    exact ⟨Ev.step (fun k => by rw [hunks_Size.l0, if_pos (by omega), if_pos (by omega), if_pos (by omega), rd_b L n hn, w64 (x := (n : Int) + 1) (by omega) (by omega)]; rfl) h.1, Ev.step (fun k => by rw [stylusref51_Size.l0, if_pos (by omega), if_pos (by omega), rd_a L n hn, w64 (x := (n : Int) + 1) (by omega) (by omega)]; rfl) h.2⟩
theorem Size_both (L : List S28) (hL : L.length ≤ 1000) : ∃ r, Ev (fun k => hunks_Size.f k (L.map hk_)) r ∧ Ev (fun k => stylusref51_Size.f k L) r :=
  ⟨_, Size_b L hL L.length 0 0 0 (by omega)⟩
end Go.Proofs.YtgcilgjkihmclaaDoor.P
