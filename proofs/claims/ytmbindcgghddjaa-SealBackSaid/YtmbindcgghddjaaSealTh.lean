/- What was sealed is read again, and what is read is what was sealed. -/
import Derived.Test.YtmbindcgghddjaaPx0
import Derived.Test.YtmbindcgghddjaaSealEv
import Derived.Test.YtmbindcgghddjaaAlter
namespace Go.Proofs.Ytmbindcgghddjaa.P
open Go.RowKit Go.Proofs.YtmbindcgghddjaaW.PrintWords Go.Proofs.YtmbindcgghddjaaW.PrintLast

def sealed (e : Int) (s : ByteArray) : ByteArray := ((sc01 ++ toldOf e s) ++ put32 (ofB (crcAdd 0#32 (toldOf e s ++ s)))) ++ s
theorem sealed_size (e : Int) (s : ByteArray) : (sealed e s).size = 16 + s.size := by
  unfold sealed
  rw [ByteArray.size_append, ByteArray.size_append, ByteArray.size_append, sc01_size, toldOf_size, put32_size]
theorem sealed_bytes (e : Int) (s y : ByteArray) : let t := sealed e s ++ y
    isSc01 t ∧ getN t 4 4 = (e % 4294967296, true) ∧ getN t 8 4 = ((s.size : Int) % 4294967296, true) ∧ getN t 12 4 = (ofB (crcAdd 0#32 (toldOf e s ++ s)) % 4294967296, true) ∧
      t.extract 4 12 = toldOf e s ∧ t.extract 16 (16 + s.size) = s ∧ t.extract 0 (16 + s.size) = sealed e s := by
  intro t
  have hl := sealed_size e s
  have hz : t.size = 16 + s.size + y.size := by rw [show t = sealed e s ++ y from rfl, ByteArray.size_append, hl]
  have hh := toldOf_size e s
  have hp := put32_size (ofB (crcAdd 0#32 (toldOf e s ++ s)))
  have b0 : ∀ i : Nat, i < 16 + s.size → bt t (i : Int) = bt (sealed e s) (i : Int) := fun i hi => cat_left _ _ _ (by omega)
  have z1 : (sc01 ++ toldOf e s).size = 12 := by rw [ByteArray.size_append, sc01_size, hh]
  have z2 : ((sc01 ++ toldOf e s) ++ put32 (ofB (crcAdd 0#32 (toldOf e s ++ s)))).size = 16 := by rw [ByteArray.size_append, z1, hp]
  have b1 : ∀ i : Nat, i < 4 → bt t (i : Int) = bt sc01 (i : Int) := fun i hi => by
    rw [b0 i (by omega)]
    unfold sealed
    rw [cat_left _ _ _ (by omega), cat_left _ _ _ (by omega), cat_left _ _ _ (by rw [sc01_size]; omega)]
  have b2 : ∀ i : Nat, i < 8 → bt t ((4 + i : Nat) : Int) = bt (toldOf e s) (i : Int) := fun i hi => by
    rw [b0 _ (by omega)]
    unfold sealed
    rw [cat_left _ _ _ (by omega), cat_left _ _ _ (by omega)]
    exact cat_right sc01 _ i
  have b3 : ∀ i : Nat, i < 4 → bt t ((12 + i : Nat) : Int) = bt (put32 (ofB (crcAdd 0#32 (toldOf e s ++ s)))) (i : Int) := fun i hi => by
    rw [b0 _ (by omega)]
    unfold sealed
    rw [cat_left _ _ _ (by omega)]
    have := cat_right (sc01 ++ toldOf e s) (put32 (ofB (crcAdd 0#32 (toldOf e s ++ s)))) i
    rwa [z1] at this
  have b4 : ∀ i : Nat, i < s.size → bt t ((16 + i : Nat) : Int) = bt s (i : Int) := fun i hi => by
    rw [b0 _ (by omega)]
    unfold sealed
    have := cat_right ((sc01 ++ toldOf e s) ++ put32 (ofB (crcAdd 0#32 (toldOf e s ++ s)))) s i
    rwa [z2] at this
  have c1 : ∀ i : Nat, i < 4 → bt (toldOf e s) (i : Int) = bt (put32 e) (i : Int) := fun i hi => by
    unfold toldOf
    rw [cat_left _ _ _ (by rw [put32_size]; omega)]
  have c2 : ∀ i : Nat, i < 4 → bt (toldOf e s) ((4 + i : Nat) : Int) = bt (put32 (s.size : Int)) (i : Int) := fun i hi => by
    unfold toldOf
    have := cat_right (put32 e) (put32 (s.size : Int)) i
    rwa [put32_size] at this
  refine ⟨?_, ?_, ?_, ?_, ?_, ?_, ?_⟩
  · unfold isSc01
    exact ⟨(b1 0 (by omega)).trans (by decide +kernel), (b1 1 (by omega)).trans (by decide +kernel), (b1 2 (by omega)).trans (by decide +kernel), (b1 3 (by omega)).trans (by decide +kernel)⟩
  · rw [← getN_put32]
    exact getN_of t (put32 e) 4 4 (put32_size _) (by omega) fun i hi => (b2 i (by omega)).trans (c1 i hi)
  · rw [← getN_put32]
    refine getN_of t (put32 (s.size : Int)) 8 4 (put32_size _) (by omega) fun i hi => ?_
    have := b2 (4 + i) (by omega)
    rw [show 4 + (4 + i) = 8 + i by omega] at this
    exact this.trans (c2 i hi)
  · rw [← getN_put32]
    exact getN_of t _ 12 4 hp (by omega) b3
  · have := piece_of t (toldOf e s) 4 (by omega) (fun i hi => b2 i (by omega))
    rwa [hh] at this
  · exact piece_of t s 16 (by omega) b4
  · have := piece_of t (sealed e s) 0 (by omega) (fun i hi => by rw [Nat.zero_add]; exact b0 i (by omega))
    rwa [hl, Nat.zero_add] at this
theorem sealRead_sealed (e : Int) (s : ByteArray) (h : 0 ≤ e ∧ e ≤ 999999) (hd : s.size ≤ 131072) : sealRead (sealed e s) = (e, s, 0) := by
  obtain ⟨x0, x1, x2, x3, x4, x5, _⟩ := sealed_bytes e s ByteArray.empty
  rw [ByteArray.append_empty] at x0 x1 x2 x3 x4 x5
  have hz := sealed_size e s
  have hb := ofB_range (crcAdd 0#32 (toldOf e s ++ s))
  unfold sealRead
  have n16 : ¬ (sealed e s).size < 16 := by omega
  rw [if_neg n16, if_pos x0]
  simp only [x1, x2, x3]
  rw [if_neg (by omega), if_neg (by omega), x4, hz, x5, if_pos (by omega), if_neg (by omega)]
  congr 1
  omega
theorem sealRead_longer (e : Int) (s y : ByteArray) (hy : 0 < y.size) (hd : s.size ≤ 131072) : sealRead (sealed e s ++ y) = (0, ⟨#[]⟩, 6) := by
  obtain ⟨x0, x1, x2, x3, x4, x5, _⟩ := sealed_bytes e s y
  have hz : (sealed e s ++ y).size = 16 + s.size + y.size := by rw [ByteArray.size_append, sealed_size]
  unfold sealRead
  have n16 : ¬ (sealed e s ++ y).size < 16 := by omega
  rw [if_neg n16, if_pos x0]
  simp only [x2]
  rw [if_neg (by omega), if_pos (by omega)]
theorem getN_same (s t : ByteArray) (a m : Nat) (h1 : a + m ≤ s.size) (h2 : a + m ≤ t.size) (h : ∀ i : Nat, i < m → bt t ((a + i : Nat) : Int) = bt s ((a + i : Nat) : Int)) : getN t (a : Int) m = getN s (a : Int) m := by
  unfold getN
  rw [if_pos (by omega), if_pos (by omega)]
  congr 2
  apply List.ext_getElem (by rw [bytesAt_length, bytesAt_length])
  intro i h1 h2
  rw [bytesAt_length] at h1
  rw [bytesAt_get, bytesAt_get]
  exact h i h1
theorem sealRead_short (e : Int) (s : ByteArray) (hd : s.size ≤ 131072) (n : Nat) (hn : n < 16 + s.size) : sealRead ((sealed e s).extract 0 n) = (0, ⟨#[]⟩, 18) := by
  obtain ⟨x0, _, x2, _, _, _, _⟩ := sealed_bytes e s ByteArray.empty
  rw [ByteArray.append_empty] at x0 x2
  have hl := sealed_size e s
  have z : ((sealed e s).extract 0 n).size = n := by rw [ByteArray.size_extract]; omega
  have hs : ∀ i : Nat, i < n → bt ((sealed e s).extract 0 n) (i : Int) = bt (sealed e s) (i : Int) := fun i hi => by
    rw [cat_piece _ _ _ _ (by omega) (by omega), Nat.zero_add]
  unfold sealRead
  rw [z]
  by_cases c : n < 16
  · rw [if_pos c]
  · rw [if_neg c]
    have hsc : isSc01 ((sealed e s).extract 0 n) := ⟨(hs 0 (by omega)).trans x0.1, (hs 1 (by omega)).trans x0.2.1, (hs 2 (by omega)).trans x0.2.2.1, (hs 3 (by omega)).trans x0.2.2.2⟩
    have g8 := getN_same (sealed e s) ((sealed e s).extract 0 n) 8 4 (by omega) (by omega) (fun i hi => hs (8 + i) (by omega))
    rw [show ((8 : Nat) : Int) = 8 from rfl, x2] at g8
    rw [if_pos hsc]
    simp only [g8]
    rw [if_pos (by omega)]
theorem sealRead_changed (e : Int) (s t : ByteArray) (hd : s.size ≤ 131072) (a : Nat) (ha : a < s.size) (hz : t.size = 16 + s.size)
    (hs : ∀ i : Nat, i < 16 + s.size → i ≠ 16 + a → bt t (i : Int) = bt (sealed e s) (i : Int)) (hne : bt t ((16 + a : Nat) : Int) ≠ bt s (a : Int)) : sealRead t = (0, ⟨#[]⟩, 19) := by
  have hl := sealed_size e s
  obtain ⟨x0, x1, x2, x3, x4, x5, _⟩ := sealed_bytes e s ByteArray.empty
  rw [ByteArray.append_empty] at x0 x1 x2 x3 x4 x5
  have hb := ofB_range (crcAdd 0#32 (toldOf e s ++ s))
  have g8 := getN_same (sealed e s) t 8 4 (by omega) (by omega) (fun i hi => hs (8 + i) (by omega) (by omega))
  rw [show ((8 : Nat) : Int) = 8 from rfl, x2] at g8
  have g12 := getN_same (sealed e s) t 12 4 (by omega) (by omega) (fun i hi => hs (12 + i) (by omega) (by omega))
  rw [show ((12 : Nat) : Int) = 12 from rfl, x3] at g12
  have hsc : isSc01 t := ⟨(hs 0 (by omega) (by omega)).trans x0.1, (hs 1 (by omega) (by omega)).trans x0.2.1, (hs 2 (by omega) (by omega)).trans x0.2.2.1, (hs 3 (by omega) (by omega)).trans x0.2.2.2⟩
  have hh : t.extract 4 12 = toldOf e s := by
    rw [← x4]
    apply cat_ext (by rw [ByteArray.size_extract, ByteArray.size_extract]; omega)
    intro i hi
    rw [ByteArray.size_extract] at hi
    rw [cat_piece _ _ _ _ (by omega) (by omega), cat_piece _ _ _ _ (by omega) (by omega)]
    exact hs (4 + i) (by omega) (by omega)
  have zd : (t.extract 16 t.size).size = s.size := by rw [ByteArray.size_extract]; omega
  have hc := crc_oneA (toldOf e s) s (t.extract 16 t.size) a ha zd (fun i hi hne' => by
    rw [cat_piece _ _ _ _ (by omega) (by omega), hs (16 + i) (by omega) (by omega)]
    have := cat_piece (sealed e s) 16 (16 + s.size) i (by omega) (by omega)
    rw [x5] at this
    exact this.symm) (by rw [cat_piece _ _ _ _ (by omega) (by omega)]; exact hne)
  unfold sealRead
  have n16 : ¬ t.size < 16 := by omega
  rw [if_neg n16, if_pos hsc]
  simp only [g8, g12]
  rw [if_neg (by omega), if_neg (by omega), hh]
  have hx : ¬ ofB (crcAdd 0#32 (toldOf e s ++ t.extract 16 t.size)) = ofB (crcAdd 0#32 (toldOf e s ++ s)) % 4294967296 := fun z => hc (ofB_inj (by omega))
  rw [if_neg hx]
theorem sealRead_only {s : ByteArray} {e : Int} {d : ByteArray} {c : Int} (h : sealRead s = (e, d, c)) : (c ≠ 0 ∧ e = 0 ∧ d = ⟨#[]⟩) ∨ (c = 0 ∧ (s.size ≤ 131088 → sealLay e d = (s, 0))) := by
  unfold sealRead at h
  by_cases h0 : s.size < 16
  · rw [if_pos h0] at h; simp only [Prod.mk.injEq] at h; obtain ⟨rfl, rfl, rfl⟩ := h; exact .inl ⟨by decide, rfl, rfl⟩
  rw [if_neg h0] at h
  by_cases h1 : isSc01 s
  rotate_left
  · rw [if_neg h1] at h; simp only [Prod.mk.injEq] at h; obtain ⟨rfl, rfl, rfl⟩ := h; exact .inl ⟨by decide, rfl, rfl⟩
  rw [if_pos h1] at h
  by_cases h2 : ((s.size - 16 : Nat) : Int) < (getN s 8 4).1
  · rw [if_pos h2] at h; simp only [Prod.mk.injEq] at h; obtain ⟨rfl, rfl, rfl⟩ := h; exact .inl ⟨by decide, rfl, rfl⟩
  rw [if_neg h2] at h
  by_cases h3 : ((s.size - 16 : Nat) : Int) > (getN s 8 4).1
  · rw [if_pos h3] at h; simp only [Prod.mk.injEq] at h; obtain ⟨rfl, rfl, rfl⟩ := h; exact .inl ⟨by decide, rfl, rfl⟩
  rw [if_neg h3] at h
  by_cases h4 : ofB (crcAdd 0#32 (s.extract 4 12 ++ s.extract 16 s.size)) = (getN s 12 4).1
  rotate_left
  · rw [if_neg h4] at h; simp only [Prod.mk.injEq] at h; obtain ⟨rfl, rfl, rfl⟩ := h; exact .inl ⟨by decide, rfl, rfl⟩
  rw [if_pos h4] at h
  by_cases h5 : (getN s 4 4).1 > 999999
  · rw [if_pos h5] at h; simp only [Prod.mk.injEq] at h; obtain ⟨rfl, rfl, rfl⟩ := h; exact .inl ⟨by decide, rfl, rfl⟩
  rw [if_neg h5] at h
  simp only [Prod.mk.injEq] at h
  obtain ⟨he, hd, hc⟩ := h
  refine .inr ⟨hc.symm, fun hmax => ?_⟩
  have r4 := getN_range s 4 4
  have hz : d.size = s.size - 16 := by rw [← hd, ByteArray.size_extract]; omega
  unfold sealLay
  rw [if_neg (by omega), if_neg (by omega)]
  have p4 := put32_get s 4 (by omega)
  have p8 := put32_get s 8 (by omega)
  have p12 := put32_get s 12 (by omega)
  rw [show ((4 : Nat) : Int) = 4 from rfl, he] at p4
  rw [show ((8 : Nat) : Int) = 8 from rfl, show (getN s 8 4).1 = (d.size : Int) by omega] at p8
  rw [show ((12 : Nat) : Int) = 12 from rfl, ← h4] at p12
  have hh : toldOf e d = s.extract 4 12 := by
    unfold toldOf
    rw [p4, p8, cut_join _ _ _ _ (by omega) (by omega) (by omega)]
  have hj : sc01 = s.extract 0 4 := by
    apply cat_ext
    · rw [sc01_size, ByteArray.size_extract]; omega
    · intro i hi
      rw [sc01_size] at hi
      rw [cat_piece _ _ _ _ (by omega) (by omega), Nat.zero_add]
      rcases (show i = 0 ∨ i = 1 ∨ i = 2 ∨ i = 3 by omega) with rfl | rfl | rfl | rfl
      · exact Eq.trans (by decide +kernel) h1.1.symm
      · exact Eq.trans (by decide +kernel) h1.2.1.symm
      · exact Eq.trans (by decide +kernel) h1.2.2.1.symm
      · exact Eq.trans (by decide +kernel) h1.2.2.2.symm
  rw [hh, ← hd, p12, hj, cut_join _ _ _ _ (by omega) (by omega) (by omega), cut_join _ _ _ _ (by omega) (by omega) (by omega), cut_join _ _ _ _ (by omega) (by omega) (by omega)]
  congr 1
  rw [ByteArray.extract_zero_size]
end Go.Proofs.Ytmbindcgghddjaa.P
