/- A frame of whose data one byte is another one is none; nor is a beginning of one. -/
import Derived.Test.YtmgnbnkifofleaaPx0
import Derived.Test.YtmgnbnkifofleaaFrameTh
namespace Go.Proofs.Ytmgnbnkifofleaa.P
open Go.RowKit Go.Proofs.YtmgnbnkifofleaaW.PrintWords Go.Proofs.YtmgnbnkifofleaaW.PrintLast

theorem data_get (s : ByteArray) (i : Nat) (h : i < s.size) : ∃ c : UInt8, s.data.toList[i]? = some c ∧ bt s (i : Int) = (c.toNat : Int) := by
  have hl : i < s.data.toList.length := by rw [data_length]; exact h
  refine ⟨s.data.toList[i], List.getElem?_eq_getElem hl, ?_⟩
  exact bt_nat s i hl
/-- Texts of one length that are unlike in one byte have unlike sums, whatever stands ahead. -/
theorem crc_one (h d d' : ByteArray) (a : Nat) (ha : a < d.size) (hz : d'.size = d.size) (hs : ∀ i : Nat, i < d.size → i ≠ a → bt d' (i : Int) = bt d (i : Int)) (hne : bt d' (a : Int) ≠ bt d (a : Int)) :
    crcAdd 0#32 (h ++ d') ≠ crcAdd 0#32 (h ++ d) := by
  obtain ⟨x, hx, ex⟩ := data_get d a ha
  obtain ⟨y, hy, ey⟩ := data_get d' a (by omega)
  have hxy : y ≠ x := fun e => hne (by rw [ex, ey, e])
  have same : ∀ i : Nat, i ≠ a → d'.data.toList[i]? = d.data.toList[i]? := by
    intro i hi
    by_cases c : i < d.size
    · obtain ⟨u, hu, eu⟩ := data_get d i c
      obtain ⟨v, hv, ev⟩ := data_get d' i (by omega)
      rw [hu, hv]
      congr 1
      have := hs i c hi
      apply UInt8.toNat_inj.1
      omega
    · rw [List.getElem?_eq_none (by rw [data_length]; omega), List.getElem?_eq_none (by rw [data_length]; omega)]
  have ld : d.data.toList = d.data.toList.take a ++ x :: d.data.toList.drop (a + 1) := by
    have hl : a < d.data.toList.length := by rw [data_length]; exact ha
    have e : d.data.toList[a] = x := by
      have := List.getElem?_eq_getElem hl
      rw [hx] at this
      exact (Option.some.inj this).symm
    rw [← e, ← List.drop_eq_getElem_cons hl, List.take_append_drop]
  have ld' : d'.data.toList = d.data.toList.take a ++ y :: d.data.toList.drop (a + 1) := by
    apply List.ext_getElem?
    intro i
    have hl : (d.data.toList.take a).length = a := by rw [List.length_take, data_length]; omega
    by_cases c : i < a
    · rw [List.getElem?_append_left (by omega), List.getElem?_take_of_lt c]
      exact same i (by omega)
    · rw [List.getElem?_append_right (by omega), hl]
      by_cases c2 : i = a
      · subst c2; rw [Nat.sub_self]; exact hy
      · rw [show i - a = (i - a - 1) + 1 by omega, List.getElem?_cons_succ, List.getElem?_drop, show a + 1 + (i - a - 1) = i by omega]
        exact same i c2
  unfold crcAdd
  intro e
  have e2 : Crc.run (0#32 ^^^ 0xffffffff#32) (h ++ d').data.toList = Crc.run (0#32 ^^^ 0xffffffff#32) (h ++ d).data.toList := by
    have := congrArg (fun v => v ^^^ 0xffffffff#32) e
    simpa [BitVec.xor_assoc] using this
  rw [ByteArray.data_append, ByteArray.data_append, Array.toList_append, Array.toList_append, ld, ld', ← List.append_assoc, ← List.append_assoc] at e2
  exact Crc.run_one _ _ _ _ _ hxy e2
theorem frOne_changed (e q : Int) (d s : ByteArray) (hd : d.size ≤ 1024) (a : Nat) (ha : a < d.size) (hz : s.size = 16 + d.size)
    (hs : ∀ i : Nat, i ≠ 16 + a → bt s (i : Int) = bt (laidOf e q d) (i : Int)) (hne : bt s ((16 + a : Nat) : Int) ≠ bt d (a : Int)) : frOne s = (0, 0, ⟨#[]⟩, 0, 19) := by
  have hl := laidOf_size e q d
  obtain ⟨x0, x1, x2, x3, x4, x5, x6, x7, _⟩ := laid_bytes e q d ByteArray.empty
  rw [ByteArray.append_empty] at x0 x1 x2 x3 x4 x5 x6 x7
  have hb := ofB_range (crcAdd 0#32 (headOf e q (d.size : Int) ++ d))
  have m0 : (d.size : Int) % 65536 = d.size := by omega
  have m3 : sumOf e q d % 4294967296 = sumOf e q d := by unfold sumOf; omega
  rw [m0] at x2
  rw [m3] at x5
  have g2 : getN s 2 2 = ((d.size : Int), true) := by
    rw [← x2]
    unfold getN
    rw [if_pos (by omega), if_pos (by omega)]
    congr 2
    apply List.ext_getElem (by rw [bytesAt_length, bytesAt_length])
    intro i h1 h2
    rw [bytesAt_length] at h1
    rw [bytesAt_get, bytesAt_get]
    exact hs (2 + i) (by omega)
  have g12 : getN s 12 4 = (sumOf e q d, true) := by
    rw [← x5]
    unfold getN
    rw [if_pos (by omega), if_pos (by omega)]
    congr 2
    apply List.ext_getElem (by rw [bytesAt_length, bytesAt_length])
    intro i h1 h2
    rw [bytesAt_length] at h1
    rw [bytesAt_get, bytesAt_get]
    exact hs (12 + i) (by omega)
  have hh : s.extract 2 12 = headOf e q (d.size : Int) := by
    rw [← x6]
    apply cat_ext (by rw [ByteArray.size_extract, ByteArray.size_extract]; omega)
    intro i hi
    rw [ByteArray.size_extract] at hi
    rw [cat_piece _ _ _ _ (by omega) (by omega), cat_piece _ _ _ _ (by omega) (by omega)]
    exact hs (2 + i) (by omega)
  have zd : (s.extract 16 (16 + d.size)).size = d.size := by rw [ByteArray.size_extract]; omega
  have hc := crc_one (headOf e q (d.size : Int)) d (s.extract 16 (16 + d.size)) a ha zd (fun i hi hne' => by
    rw [cat_piece _ _ _ _ (by omega) (by omega), hs (16 + i) (by omega)]
    have := cat_piece (laidOf e q d) 16 (16 + d.size) i (by omega) (by omega)
    rw [x7] at this
    exact this.symm) (by rw [cat_piece _ _ _ _ (by omega) (by omega)]; exact hne)
  have ht : (16 + (d.size : Int)).toNat = 16 + d.size := by omega
  have hbg : begins s := ⟨fun _ => (hs 0 (by omega)).trans x0, fun _ => (hs 1 (by omega)).trans x1⟩
  unfold frOne
  have n16 : ¬ s.size < 16 := by omega
  have nlong : ¬ (d.size : Int) > 1024 := by omega
  have nshort : ¬ 16 + (d.size : Int) > s.size := by omega
  rw [if_neg (not_not_intro hbg), if_neg n16]
  simp only [g2, g12]
  rw [if_neg nlong, if_neg nshort, ht, hh]
  have hx : ¬ ofB (crcAdd 0#32 (headOf e q (d.size : Int) ++ s.extract 16 (16 + d.size))) = sumOf e q d := fun z => hc (ofB_inj z)
  rw [if_pos hx]
/-- A beginning of a frame is none. -/
theorem frOne_short (e q : Int) (d : ByteArray) (hd : d.size ≤ 1024) (n : Nat) (hn : n < 16 + d.size) : frOne ((laidOf e q d).extract 0 n) = (0, 0, ⟨#[]⟩, 0, 18) := by
  have hl := laidOf_size e q d
  obtain ⟨x0, x1, x2, _, _, _, _, _, _⟩ := laid_bytes e q d ByteArray.empty
  rw [ByteArray.append_empty] at x0 x1 x2
  have z : ((laidOf e q d).extract 0 n).size = n := by rw [ByteArray.size_extract]; omega
  have hs : ∀ i : Nat, i < n → bt ((laidOf e q d).extract 0 n) (i : Int) = bt (laidOf e q d) (i : Int) := fun i hi => by
    rw [cat_piece _ _ _ _ (by omega) (by omega), Nat.zero_add]
  have hbg : begins ((laidOf e q d).extract 0 n) := ⟨fun h => (hs 0 (by omega)).trans x0, fun h => (hs 1 (by omega)).trans x1⟩
  unfold frOne
  rw [if_neg (not_not_intro hbg), z]
  by_cases c : n < 16
  · rw [if_pos c]
  · rw [if_neg c]
    have g2 : getN ((laidOf e q d).extract 0 n) 2 2 = ((d.size : Int) % 65536, true) := by
      rw [← x2]
      unfold getN
      rw [if_pos (by omega), if_pos (by omega)]
      congr 2
      apply List.ext_getElem (by rw [bytesAt_length, bytesAt_length])
      intro i h1 h2
      rw [bytesAt_length] at h1
      rw [bytesAt_get, bytesAt_get]
      exact hs (2 + i) (by omega)
    simp only [g2]
    rw [if_neg (by omega), if_pos (by omega)]
end Go.Proofs.Ytmgnbnkifofleaa.P
