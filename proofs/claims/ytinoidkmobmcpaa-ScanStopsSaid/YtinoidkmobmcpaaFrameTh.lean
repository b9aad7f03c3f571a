/- What was laid is read again, and what is read is what was laid. -/
import Derived.Test.YtinoidkmobmcpaaPx0
import Derived.Test.YtinoidkmobmcpaaFrameEv
namespace Go.Proofs.Ytinoidkmobmcpaa.P
open Go.RowKit Go.Proofs.YtinoidkmobmcpaaW.PrintWords Go.Proofs.YtinoidkmobmcpaaW.PrintLast

theorem laidOf_size (e q : Int) (d : ByteArray) : (laidOf e q d).size = 16 + d.size := by
  unfold laidOf
  rw [ByteArray.size_append, ByteArray.size_append, ByteArray.size_append, sj_size, headOf_size, put32_size]
theorem cat_at {a b c : ByteArray} {n m : Nat} (ha : a.size = n) (hb : m = b.size) (i : Nat) (hi : i < m) : bt ((a ++ b) ++ c) ((n + i : Nat) : Int) = bt b (i : Int) := by
  rw [cat_left _ _ _ (by rw [ByteArray.size_append]; omega), ← ha, cat_right]
theorem laid_bytes (e q : Int) (d y : ByteArray) : let s := laidOf e q d ++ y
    bt s 0 = 83 ∧ bt s 1 = 74 ∧ getN s 2 2 = ((d.size : Int) % 65536, true) ∧ getN s 4 4 = (e % 4294967296, true) ∧ getN s 8 4 = (q % 4294967296, true) ∧ getN s 12 4 = (sumOf e q d % 4294967296, true) ∧
      s.extract 2 12 = headOf e q (d.size : Int) ∧ s.extract 16 (16 + d.size) = d ∧ s.extract 0 (16 + d.size) = laidOf e q d := by
  intro s
  have hl := laidOf_size e q d
  have hz : s.size = 16 + d.size + y.size := by rw [show s = laidOf e q d ++ y from rfl, ByteArray.size_append, hl]
  have hh := headOf_size e q (d.size : Int)
  have hp := put32_size (sumOf e q d)
  have b0 : ∀ i : Nat, i < 16 + d.size → bt s (i : Int) = bt (laidOf e q d) (i : Int) := fun i hi => cat_left _ _ _ (by omega)
  have z1 : (sj ++ headOf e q (d.size : Int)).size = 12 := by rw [ByteArray.size_append, sj_size, hh]
  have z2 : ((sj ++ headOf e q (d.size : Int)) ++ put32 (sumOf e q d)).size = 16 := by rw [ByteArray.size_append, z1, hp]
  have b1 : ∀ i : Nat, i < 2 → bt s (i : Int) = bt sj (i : Int) := fun i hi => by
    rw [b0 i (by omega)]
    unfold laidOf
    rw [cat_left _ _ _ (by omega), cat_left _ _ _ (by omega), cat_left _ _ _ (by rw [sj_size]; omega)]
  have b2 : ∀ i : Nat, i < 10 → bt s ((2 + i : Nat) : Int) = bt (headOf e q (d.size : Int)) (i : Int) := fun i hi => by
    rw [b0 _ (by omega)]
    unfold laidOf
    rw [cat_left _ _ _ (by omega), cat_left _ _ _ (by omega)]
    exact cat_right sj _ i
  have b3 : ∀ i : Nat, i < 4 → bt s ((12 + i : Nat) : Int) = bt (put32 (sumOf e q d)) (i : Int) := fun i hi => by
    rw [b0 _ (by omega)]
    unfold laidOf
    rw [cat_left _ _ _ (by omega)]
    have := cat_right (sj ++ headOf e q (d.size : Int)) (put32 (sumOf e q d)) i
    rwa [z1] at this
  have b4 : ∀ i : Nat, i < d.size → bt s ((16 + i : Nat) : Int) = bt d (i : Int) := fun i hi => by
    rw [b0 _ (by omega)]
    unfold laidOf
    have := cat_right ((sj ++ headOf e q (d.size : Int)) ++ put32 (sumOf e q d)) d i
    rwa [z2] at this
  have c0 : ∀ i : Nat, i < 2 → bt (headOf e q (d.size : Int)) (i : Int) = bt (put16 (d.size : Int)) (i : Int) := fun i hi => by
    unfold headOf
    rw [cat_left _ _ _ (by rw [ByteArray.size_append, put16_size]; omega), cat_left _ _ _ (by rw [put16_size]; omega)]
  have c1 : ∀ i : Nat, i < 4 → bt (headOf e q (d.size : Int)) ((2 + i : Nat) : Int) = bt (put32 e) (i : Int) := fun i hi => by
    unfold headOf
    exact cat_at (put16_size _) (put32_size e).symm i hi
  have c2 : ∀ i : Nat, i < 4 → bt (headOf e q (d.size : Int)) ((6 + i : Nat) : Int) = bt (put32 q) (i : Int) := fun i hi => by
    unfold headOf
    have := cat_right (put16 (d.size : Int) ++ put32 e) (put32 q) i
    rwa [ByteArray.size_append, put16_size, put32_size] at this
  refine ⟨?_, ?_, ?_, ?_, ?_, ?_, ?_, ?_, ?_⟩
  · exact (b1 0 (by omega)).trans (by decide +kernel)
  · exact (b1 1 (by omega)).trans (by decide +kernel)
  · rw [← getN_put16]
    exact getN_of s (put16 (d.size : Int)) 2 2 (put16_size _) (by omega) fun i hi => (b2 i (by omega)).trans (c0 i hi)
  · rw [← getN_put32]
    refine getN_of s (put32 e) 4 4 (put32_size _) (by omega) fun i hi => ?_
    have := b2 (2 + i) (by omega)
    rw [show 2 + (2 + i) = 4 + i by omega] at this
    exact this.trans (c1 i hi)
  · rw [← getN_put32]
    refine getN_of s (put32 q) 8 4 (put32_size _) (by omega) fun i hi => ?_
    have := b2 (6 + i) (by omega)
    rw [show 2 + (6 + i) = 8 + i by omega] at this
    exact this.trans (c2 i hi)
  · rw [← getN_put32]
    exact getN_of s _ 12 4 hp (by omega) b3
  · have := piece_of s (headOf e q (d.size : Int)) 2 (by omega) (fun i hi => b2 i (by omega))
    rwa [hh] at this
  · exact piece_of s d 16 (by omega) b4
  · have := piece_of s (laidOf e q d) 0 (by omega) (fun i hi => by rw [Nat.zero_add]; exact b0 i (by omega))
    rwa [hl, Nat.zero_add] at this
/-- A frame that was laid is read again, whatever stands behind. -/
theorem frOne_laid (e q : Int) (d y : ByteArray) (h : 0 ≤ e ∧ e ≤ 999999 ∧ 0 ≤ q ∧ q ≤ 2147483647) (hd : d.size ≤ 1024) : frOne (laidOf e q d ++ y) = (e, q, d, 16 + (d.size : Int), 0) := by
  obtain ⟨x0, x1, x2, x3, x4, x5, x6, x7, _⟩ := laid_bytes e q d y
  have hz : (laidOf e q d ++ y).size = 16 + d.size + y.size := by rw [ByteArray.size_append, laidOf_size]
  have hb := ofB_range (crcAdd 0#32 (headOf e q (d.size : Int) ++ d))
  have m0 : (d.size : Int) % 65536 = d.size := by omega
  have m1 : e % 4294967296 = e := by omega
  have m2 : q % 4294967296 = q := by omega
  have m3 : sumOf e q d % 4294967296 = sumOf e q d := by unfold sumOf; omega
  rw [m0] at x2
  rw [m1] at x3
  rw [m2] at x4
  rw [m3] at x5
  have ht : (16 + (d.size : Int)).toNat = 16 + d.size := by omega
  unfold frOne
  have hbg : begins (laidOf e q d ++ y) := ⟨fun _ => x0, fun _ => x1⟩
  have n16 : ¬ (laidOf e q d ++ y).size < 16 := by omega
  have nlong : ¬ (d.size : Int) > 1024 := by omega
  have nshort : ¬ 16 + (d.size : Int) > (laidOf e q d ++ y).size := by omega
  rw [if_neg (not_not_intro hbg), if_neg n16]
  simp only [x2, x3, x4, x5]
  rw [if_neg nlong, if_neg nshort, ht, x6, x7]
  have hs : ofB (crcAdd 0#32 (headOf e q (d.size : Int) ++ d)) = sumOf e q d := rfl
  rw [if_neg (not_not_intro hs), if_neg (not_not_intro ⟨h.2.1, h.2.2.2⟩)]
/-- What is read is what was laid. -/
theorem frOne_only {s : ByteArray} {e q : Int} {d : ByteArray} {n c : Int} (h : frOne s = (e, q, d, n, c)) : (c ≠ 0 ∧ e = 0 ∧ q = 0 ∧ d = ⟨#[]⟩ ∧ n = 0) ∨
    (c = 0 ∧ n = 16 + d.size ∧ 16 + d.size ≤ s.size ∧ frLay e q d = (s.extract 0 (16 + d.size), 0)) := by
  unfold frOne at h
  by_cases h0 : begins s
  rotate_left
  · rw [if_pos h0] at h; simp only [Prod.mk.injEq] at h; obtain ⟨rfl, rfl, rfl, rfl, rfl⟩ := h; exact .inl ⟨by decide, rfl, rfl, rfl, rfl⟩
  rw [if_neg (not_not_intro h0)] at h
  by_cases h1 : s.size < 16
  · rw [if_pos h1] at h; simp only [Prod.mk.injEq] at h; obtain ⟨rfl, rfl, rfl, rfl, rfl⟩ := h; exact .inl ⟨by decide, rfl, rfl, rfl, rfl⟩
  rw [if_neg h1] at h
  by_cases h2 : (getN s 2 2).1 > 1024
  · rw [if_pos h2] at h; simp only [Prod.mk.injEq] at h; obtain ⟨rfl, rfl, rfl, rfl, rfl⟩ := h; exact .inl ⟨by decide, rfl, rfl, rfl, rfl⟩
  rw [if_neg h2] at h
  by_cases h3 : 16 + (getN s 2 2).1 > s.size
  · rw [if_pos h3] at h; simp only [Prod.mk.injEq] at h; obtain ⟨rfl, rfl, rfl, rfl, rfl⟩ := h; exact .inl ⟨by decide, rfl, rfl, rfl, rfl⟩
  rw [if_neg h3] at h
  by_cases h4 : ofB (crcAdd 0#32 (s.extract 2 12 ++ s.extract 16 (16 + (getN s 2 2).1).toNat)) = (getN s 12 4).1
  rotate_left
  · rw [if_pos h4] at h; simp only [Prod.mk.injEq] at h; obtain ⟨rfl, rfl, rfl, rfl, rfl⟩ := h; exact .inl ⟨by decide, rfl, rfl, rfl, rfl⟩
  rw [if_neg (not_not_intro h4)] at h
  by_cases h5 : (getN s 4 4).1 ≤ 999999 ∧ (getN s 8 4).1 ≤ 2147483647
  rotate_left
  · rw [if_pos h5] at h; simp only [Prod.mk.injEq] at h; obtain ⟨rfl, rfl, rfl, rfl, rfl⟩ := h; exact .inl ⟨by decide, rfl, rfl, rfl, rfl⟩
  rw [if_neg (not_not_intro h5)] at h
  simp only [Prod.mk.injEq] at h
  obtain ⟨he, hq, hd, hn, hc⟩ := h
  have r2 := getN_range s 2 2
  have r4 := getN_range s 4 4
  have r8 := getN_range s 8 4
  obtain ⟨m, hm⟩ : ∃ m : Nat, (getN s 2 2).1 = m := ⟨(getN s 2 2).1.toNat, by omega⟩
  rw [hm] at hd hn h2 h3 h4
  have ht : (16 + (m : Int)).toNat = 16 + m := by omega
  rw [ht] at hd h4
  have hz : d.size = m := by rw [← hd, ByteArray.size_extract]; omega
  refine .inr ⟨hc.symm, by omega, by omega, ?_⟩
  unfold frLay
  have g : 0 ≤ e ∧ e ≤ 999999 ∧ 0 ≤ q ∧ q ≤ 2147483647 := ⟨by omega, by omega, by omega, by omega⟩
  rw [if_neg (not_not_intro g), if_neg (by omega)]
  have p2 := put16_get s 2 (by omega)
  have p4 := put32_get s 4 (by omega)
  have p8 := put32_get s 8 (by omega)
  have p12 := put32_get s 12 (by omega)
  rw [show ((2 : Nat) : Int) = 2 from rfl, hm] at p2
  rw [show ((4 : Nat) : Int) = 4 from rfl, he] at p4
  rw [show ((8 : Nat) : Int) = 8 from rfl, hq] at p8
  rw [show ((12 : Nat) : Int) = 12 from rfl, ← h4] at p12
  have hh : headOf e q (d.size : Int) = s.extract 2 12 := by
    unfold headOf
    rw [hz, p2, p4, p8, cut_join _ _ _ _ (by omega) (by omega) (by omega), cut_join _ _ _ _ (by omega) (by omega) (by omega)]
  have hj : sj = s.extract 0 2 := by
    apply cat_ext
    · rw [sj_size, ByteArray.size_extract]; omega
    · intro i hi
      rw [sj_size] at hi
      rw [cat_piece _ _ _ _ (by omega) (by omega), Nat.zero_add]
      rcases (show i = 0 ∨ i = 1 by omega) with rfl | rfl
      · exact Eq.trans (by decide +kernel) (h0.1 (by omega)).symm
      · exact Eq.trans (by decide +kernel) (h0.2 (by omega)).symm
  have hl : laidOf e q d = s.extract 0 (16 + d.size) := by
    unfold laidOf sumOf
    rw [hh, ← hd, p12, hj, cut_join _ _ _ _ (by omega) (by omega) (by omega), cut_join _ _ _ _ (by omega) (by omega) (by omega), cut_join _ _ _ _ (by omega) (by omega) (by omega), hd, hz]
  rw [hl]
end Go.Proofs.Ytinoidkmobmcpaa.P
