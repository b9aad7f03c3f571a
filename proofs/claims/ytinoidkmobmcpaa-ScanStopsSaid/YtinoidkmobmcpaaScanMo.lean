/- Filling up, and all frames that stand anywhere. -/
import Derived.Test.YtinoidkmobmcpaaPx4
import Derived.Test.YtinoidkmobmcpaaPx10
import Derived.Test.YtinoidkmobmcpaaScanEv
namespace Go.Proofs.Ytinoidkmobmcpaa.P
open Go.RowKit Go.Proofs.YtinoidkmobmcpaaW.PrintWords Go.Proofs.YtinoidkmobmcpaaW.PrintLast Go.Proofs.YtinoidkmobmcpaaW.PrintMore

theorem nil_size (s : ByteArray) : s.toList = [] ↔ s.size = 0 := by
  have e : s.data.toList.length = s.size := rfl
  rw [ByteArray.toList_eq, ← e]
  exact ⟨fun h => by rw [h]; rfl, fun h => List.eq_nil_of_length_eq_zero h⟩
theorem rest_rest (s : ByteArray) (a w : Nat) : (s.extract a s.size).extract w (s.extract a s.size).size = s.extract (a + w) s.size := by
  rw [ByteArray.extract_extract, ByteArray.size_extract]
  congr 1
  omega
theorem fill_bytes (n : Nat) : Bytes (List.replicate n 255) := fun x hx => by
  have := List.eq_of_mem_replicate hx
  omega
/-- So many bytes that fill up. -/
def fillN (n : Nat) : ByteArray := strOfNums (List.replicate n 255)
theorem fillN_size (n : Nat) : (fillN n).size = n := by unfold fillN; rw [strOfNums_size, List.length_replicate]
theorem nums_snoc (xs : List Int) : strOfNums xs ++ (⟨#[255]⟩ : ByteArray) = strOfNums (xs ++ [255]) := by
  apply ByteArray.ext
  simp [strOfNums]
theorem fillN_succ (n : Nat) : fillN n ++ (⟨#[255]⟩ : ByteArray) = fillN (n + 1) := by
  unfold fillN
  rw [List.replicate_succ', nums_snoc]
theorem fillN_bt (n i : Nat) (h : i < n) : bt (fillN n) (i : Int) = 255 := by
  unfold fillN
  rw [bt_nums _ (fill_bytes n) i (by rw [List.length_replicate]; exact h), List.getElem_replicate]
theorem fillN_blank (n : Nat) : blank (fillN n) := fun i h => fillN_bt n i (by rwa [fillN_size] at h)
/-- So many as are asked for, up to 32. -/
def fillC (n : Int) : Nat := (min n 32).toNat
theorem scan_Fill_l0 (m : Nat) (hm : m ≤ 32) : ∀ (d i : Nat), i + d = m → Ev (fun k => scan_Fill.l0 k (List.replicate i 255) (m : Int) (i : Int)) (fillN m)
  | 0, i, h => by
    obtain rfl : i = m := by omega
    exact Ev.step (f := fun _ => some (fillN i)) (fun k => by rw [scan_Fill.l0, if_neg (by omega)]; rfl) (Ev.now _)
  | d + 1, i, h => by
    refine Ev.step (fun k => by rw [scan_Fill.l0, if_pos (by omega), if_pos (by rw [List.length_replicate]; omega), ← List.replicate_succ', w64 (x := (i : Int) + 1) (by omega) (by omega)]) ?_
    exact scan_Fill_l0 m hm d (i + 1) (by omega)
theorem scan_Fill_ev (n : Int) : Ev (fun k => scan_Fill.f k n) (fillN (fillC n)) := by
  unfold scan_Fill.f fillC
  by_cases h : n < 0
  · have e : (min n 32).toNat = 0 := by omega
    rw [e]
    exact Ev.step (f := fun _ => some (fillN 0)) (fun k => by rw [scan_Fill.l0, if_neg (by unfold mn; split <;> omega)]; rfl) (Ev.now _)
  · have e : mn n 32 = (((min n 32).toNat : Nat) : Int) := by unfold mn; split <;> omega
    rw [e]
    exact scan_Fill_l0 (min n 32).toNat (by omega) (min n 32).toNat 0 (by omega)
theorem ref_Fill_l0 (n : Int) : ∀ (d i : Nat), i + d = fillC n → Ev (fun k => stylusref13_Fill.l0 k n (fillN i) (i : Int)) (fillN (fillC n))
  | 0, i, h => by
    obtain rfl : i = fillC n := by omega
    refine Ev.step (f := fun _ => some (fillN (fillC n))) (fun k => ?_) (Ev.now _)
    rw [stylusref13_Fill.l0]
    by_cases c : (fillC n : Int) < n
    · rw [if_pos c, if_neg (by unfold fillC at c ⊢; omega)]
    · rw [if_neg c]
  | d + 1, i, h => by
    refine Ev.step (fun k => by rw [stylusref13_Fill.l0, if_pos (by unfold fillC at h; omega), if_pos (by unfold fillC at h; omega), if_pos (by rw [fillN_size]; unfold fillC at h; omega), fillN_succ, w64 (x := (i : Int) + 1) (by omega) (by unfold fillC at h; omega)]) ?_
    exact ref_Fill_l0 n d (i + 1) (by omega)
theorem ref_Fill_ev (n : Int) : Ev (fun k => stylusref13_Fill.f k n) (fillN (fillC n)) := by
  unfold stylusref13_Fill.f
  exact ref_Fill_l0 n (fillC n) 0 (by omega)
def anyL : Nat → ByteArray → Nat → List Fr
  | 0, _, _ => []
  | n + 1, s, a => if a < s.size then (if (oneAt s a).2.2.2.2 = 0 then (⟨(oneAt s a).1, (oneAt s a).2.1, (oneAt s a).2.2.1⟩ : Fr) :: anyL n s (a + (oneAt s a).2.2.2.1.toNat) else anyL n s (a + 1)) else []
theorem anyL_len (s : ByteArray) : ∀ n a, (anyL n s a).length ≤ n
  | 0, _ => by simp [anyL]
  | n + 1, a => by
    unfold anyL
    split
    · split
      · have := anyL_len s n (a + (oneAt s a).2.2.2.1.toNat)
        simp only [List.length_cons]
        omega
      · have := anyL_len s n (a + 1)
        omega
    · simp
theorem scan_Any_l0 (s : ByteArray) (hs : s.size ≤ 900000) : ∀ (n a : Nat) (acc : List Fr), a ≤ s.size → s.size - a < n → acc.length + n ≤ 4000000 →
    Ev (fun k => scan_Any.l0 k (s.extract a s.size) acc) (acc ++ anyL n s a)
  | 0, a, acc, ha, hn, _ => absurd hn (by omega)
  | n + 1, a, acc, ha, hn, hacc => by
    have hz : (s.extract a s.size).size = s.size - a := by rw [ByteArray.size_extract]; omega
    unfold anyL
    by_cases c0 : a < s.size
    rotate_left
    · rw [if_neg c0, List.append_nil]
      exact Ev.step (f := fun _ => some acc) (fun k => by rw [scan_Any.l0, if_pos ((nil_size _).2 (by omega))]) (Ev.now _)
    rw [if_pos c0]
    refine Ev.step (fun k => by rw [scan_Any.l0, if_neg (fun z : (s.extract a s.size).toList = [] => by have := (nil_size _).1 z; omega)]) ?_
    refine Ev.bind (frame_One_ev _ (by omega)) ?_
    have hl0 := oneAt_len0 s a ha
    show Ev (fun k => if (oneAt s a).2.2.2.2 = 0 then _ else _) _
    by_cases c : (oneAt s a).2.2.2.2 = 0
    · have hl := oneAt_len s a ha c
      refine Ev.pos c (Ev.pos (by omega) (Ev.pos (by show 0 ≤ (oneAt s a).2.2.2.1; omega) (Ev.pos (by show (oneAt s a).2.2.2.1 ≤ _; omega) ?_)))
      rw [if_pos c, show acc ++ (⟨(oneAt s a).1, (oneAt s a).2.1, (oneAt s a).2.2.1⟩ : Fr) :: anyL n s (a + (oneAt s a).2.2.2.1.toNat) = (acc ++ [(⟨(oneAt s a).1, (oneAt s a).2.1, (oneAt s a).2.2.1⟩ : Fr)]) ++ anyL n s (a + (oneAt s a).2.2.2.1.toNat) by simp]
      have e := scan_Any_l0 s hs n (a + (oneAt s a).2.2.2.1.toNat) (acc ++ [(⟨(oneAt s a).1, (oneAt s a).2.1, (oneAt s a).2.2.1⟩ : Fr)]) (by omega) (by omega) (by rw [List.length_append]; simp only [List.length_cons, List.length_nil]; omega)
      rw [← rest_rest] at e
      exact e
    · refine Ev.neg c (Ev.pos (by omega) ?_)
      rw [if_neg c]
      have e := scan_Any_l0 s hs n (a + 1) acc (by omega) (by omega) (by omega)
      rw [← rest_rest] at e
      exact e
theorem scan_Any_ev (s : ByteArray) (hs : s.size ≤ 900000) : Ev (fun k => scan_Any.f k s) (anyL (s.size + 1) s 0) := by
  have e := scan_Any_l0 s hs (s.size + 1) 0 [] (by omega) (by omega) (by simp only [List.length_nil]; omega)
  rw [List.nil_append, show s.extract 0 s.size = s from ByteArray.extract_zero_size] at e
  exact e
theorem ref_Any_l0 (s : ByteArray) (hs : s.size ≤ 900000) : ∀ (n a : Nat) (acc : List Fr), a ≤ s.size → s.size - a < n → acc.length + n ≤ 4000000 →
    Ev (fun k => stylusref13_Any.l0 k s acc (a : Int)) (acc ++ anyL n s a)
  | 0, a, acc, ha, hn, _ => absurd hn (by omega)
  | n + 1, a, acc, ha, hn, hacc => by
    unfold anyL
    by_cases c0 : a < s.size
    rotate_left
    · rw [if_neg c0, List.append_nil]
      exact Ev.step (f := fun _ => some acc) (fun k => by rw [stylusref13_Any.l0, if_neg (by omega)]) (Ev.now _)
    rw [if_pos c0]
    refine Ev.step (fun k => by rw [stylusref13_Any.l0, if_pos (show (a : Int) < (s.size : Int) by omega), if_pos (show (0 : Int) ≤ (a : Int) by omega), if_pos (show (a : Int) ≤ (s.size : Int) by omega)]) ?_
    refine Ev.bind (ref_One_ev _ (by rw [ByteArray.size_extract]; omega)) ?_
    have hl0 := oneAt_len0 s a ha
    show Ev (fun k => if (oneAt s a).2.2.2.2 = 0 then _ else _) _
    by_cases c : (oneAt s a).2.2.2.2 = 0
    · have hl := oneAt_len s a ha c
      refine Ev.pos c (Ev.pos (by omega) ?_)
      have hw : wrap64 ((a : Int) + (oneAt s a).2.2.2.1) = ((a + (oneAt s a).2.2.2.1.toNat : Nat) : Int) := by rw [w64 (by omega) (by omega)]; omega
      rw [if_pos c, show acc ++ (⟨(oneAt s a).1, (oneAt s a).2.1, (oneAt s a).2.2.1⟩ : Fr) :: anyL n s (a + (oneAt s a).2.2.2.1.toNat) = (acc ++ [(⟨(oneAt s a).1, (oneAt s a).2.1, (oneAt s a).2.2.1⟩ : Fr)]) ++ anyL n s (a + (oneAt s a).2.2.2.1.toNat) by simp]
      have e := ref_Any_l0 s hs n (a + (oneAt s a).2.2.2.1.toNat) (acc ++ [(⟨(oneAt s a).1, (oneAt s a).2.1, (oneAt s a).2.2.1⟩ : Fr)]) (by omega) (by omega) (by rw [List.length_append]; simp only [List.length_cons, List.length_nil]; omega)
      rw [← hw] at e
      exact e
    · refine Ev.neg c ?_
      rw [if_neg c, w64 (x := (a : Int) + 1) (by omega) (by omega)]
      exact ref_Any_l0 s hs n (a + 1) acc (by omega) (by omega) (by omega)
theorem ref_Any_ev (s : ByteArray) (hs : s.size ≤ 900000) : Ev (fun k => stylusref13_Any.f k s) (anyL (s.size + 1) s 0) := by
  have e := ref_Any_l0 s hs (s.size + 1) 0 [] (by omega) (by omega) (by simp only [List.length_nil]; omega)
  rw [List.nil_append] at e
  exact e
end Go.Proofs.Ytinoidkmobmcpaa.P
