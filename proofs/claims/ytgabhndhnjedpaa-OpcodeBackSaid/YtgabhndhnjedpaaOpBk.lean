/- An operation that is laid is read again; bytes that are one are just those that are laid of it. -/
import Derived.Test.YtgabhndhnjedpaaPx0
import Derived.Test.YtgabhndhnjedpaaOpTh
namespace Go.Proofs.Ytgabhndhnjedpaa.P
open Go.RowKit Go.Proofs.YtgabhndhnjedpaaW.PrintWords Go.Proofs.YtgabhndhnjedpaaW.PrintLast

theorem behind (a b : ByteArray) : (a ++ b).extract a.size (a ++ b).size = b := by
  have h := piece_of (a ++ b) b a.size (by rw [ByteArray.size_append]; omega) (fun i _ => cat_right a b i)
  rwa [← ByteArray.size_append] at h
theorem one_bt (x : Int) (h : 0 ≤ x ∧ x ≤ 255) (t : ByteArray) : bt (one x ++ t) 0 = x := by
  have hb : Bytes [x] := by
    intro y hy
    rw [List.mem_singleton] at hy
    omega
  have := cat_left (one x) t 0 (by rw [one_size]; omega)
  rw [show ((0 : Nat) : Int) = 0 from rfl] at this
  rw [this]
  have := bt_nums [x] hb 0 (by simp)
  exact this
theorem one_behind (x : Int) (t : ByteArray) : (one x ++ t).extract 1 (one x ++ t).size = t := by
  have := behind (one x) t
  rwa [one_size] at this
theorem put_behind (n : Int) (t : ByteArray) : (put32 n ++ t).extract 4 (put32 n ++ t).size = t := by
  have := behind (put32 n) t
  rwa [put32_size] at this
theorem put_getN (n : Int) (h : 0 ≤ n ∧ n ≤ 4096) (t : ByteArray) : getN (put32 n ++ t) 0 4 = (n, true) := by
  have := getN_of (put32 n ++ t) (put32 n) 0 4 (put32_size n) (by rw [ByteArray.size_append, put32_size]; omega) (fun i hi => by rw [Nat.zero_add]; exact cat_left _ _ _ (by rw [put32_size]; exact hi))
  rw [show ((0 : Nat) : Int) = 0 from rfl] at this
  rw [this, getN_put32, show n % 4294967296 = n by omega]
theorem opRead_laid {x0 x1 x2 : Int} {x3 : ByteArray} (h : opRight x0 x1 x2 x3 = true) : opRead (opLaid x0 x1 x2 x3) = (x0, x1, x2, x3, 0) := by
  obtain ⟨k1, k8, a0, a1, b0, b1, hs, hn2, hn3, hnil⟩ := right_facts h
  have fin : opFin x0 x1 x2 x3 = (x0, x1, x2, x3, 0) := by unfold opFin; rw [if_pos h]
  obtain ⟨t, ht⟩ : ∃ t, opLaid x0 x1 x2 x3 = one x0 ++ t := by
    unfold opLaid
    by_cases c : x0 ≤ 3
    · rw [if_pos c]
      by_cases d : x0 = 2
      · rw [if_pos d]; exact ⟨put32 x1 ++ (put32 x2 ++ x3), by rw [ByteArray.append_assoc, ByteArray.append_assoc]⟩
      · rw [if_neg d]; exact ⟨put32 x1 ++ x3, by rw [ByteArray.append_assoc]⟩
    · rw [if_neg c]; exact ⟨x3, rfl⟩
  have hbt := one_bt x0 (by omega) t
  have hbe := one_behind x0 t
  have hz : (one x0 ++ t).size = 1 + t.size := by rw [ByteArray.size_append, one_size]
  have htt : t = if x0 ≤ 3 then (if x0 = 2 then put32 x1 ++ (put32 x2 ++ x3) else put32 x1 ++ x3) else x3 := by
    have : opLaid x0 x1 x2 x3 = one x0 ++ (if x0 ≤ 3 then (if x0 = 2 then put32 x1 ++ (put32 x2 ++ x3) else put32 x1 ++ x3) else x3) := by
      unfold opLaid
      by_cases c : x0 ≤ 3
      · rw [if_pos c, if_pos c]
        by_cases d : x0 = 2
        · rw [if_pos d, if_pos d, ByteArray.append_assoc, ByteArray.append_assoc]
        · rw [if_neg d, if_neg d, ByteArray.append_assoc]
      · rw [if_neg c, if_neg c]
    have e := ht.symm.trans this
    have := one_behind x0 t
    rw [e, one_behind] at this
    exact this.symm
  rw [ht]
  unfold opRead
  rw [if_neg (by omega), hbt, if_neg (not_not_intro ⟨k1, k8⟩), hbe]
  unfold opRest
  by_cases c : x0 ≤ 3
  · rw [if_pos c] at htt ⊢
    by_cases d : x0 = 2
    · rw [if_pos d] at htt
      rw [htt]
      simp only [put_getN x1 ⟨a0, a1⟩]
      rw [if_pos trivial, put_behind]
      unfold opRest2
      rw [if_pos d]
      simp only [put_getN x2 ⟨b0, b1⟩]
      rw [if_pos trivial, put_behind]
      exact fin
    · rw [if_neg d] at htt
      rw [htt]
      simp only [put_getN x1 ⟨a0, a1⟩]
      rw [if_pos trivial, put_behind]
      unfold opRest2
      rw [if_neg d]
      have e2 := hn2 d
      rw [e2] at fin ⊢
      exact fin
  · rw [if_neg c] at htt ⊢
    rw [htt]
    unfold opRest2
    rw [if_neg (by omega)]
    have e1 := hn3 (by omega)
    have e2 := hn2 (by omega)
    rw [e1, e2] at fin
    rw [e1, e2]
    exact fin
theorem one_join (s : ByteArray) (h : 0 < s.size) : one (bt s 0) ++ s.extract 1 s.size = s := by
  have hb : Bytes [bt s 0] := by
    intro y hy
    rw [List.mem_singleton] at hy
    have := bt_range s 0
    omega
  have : one (bt s 0) = s.extract 0 1 := by
    apply cat_ext
    · rw [one_size, ByteArray.size_extract]; omega
    · intro i hi
      rw [one_size] at hi
      obtain rfl : i = 0 := by omega
      rw [cat_piece _ _ _ _ (by omega) (by omega)]
      exact bt_nums [bt s 0] hb 0 (by simp)
  rw [this, cut_join _ _ _ _ (by omega) (by omega) (by omega), ByteArray.extract_zero_size]
theorem put_join (r : ByteArray) (h : 4 ≤ r.size) : put32 (getN r 0 4).1 ++ r.extract 4 r.size = r := by
  have := put32_get r 0 (by omega)
  rw [show ((0 : Nat) : Int) = 0 from rfl] at this
  rw [this, cut_join _ _ _ _ (by omega) (by omega) (by omega), ByteArray.extract_zero_size]
theorem fin_only {x0 x1 x2 y0 y1 y2 c : Int} {r y3 : ByteArray} (h : opFin x0 x1 x2 r = (y0, y1, y2, y3, c)) : (c ≠ 0 ∧ y0 = 0 ∧ y1 = 0 ∧ y2 = 0 ∧ y3 = ⟨#[]⟩) ∨ (c = 0 ∧ opRight x0 x1 x2 r = true ∧ y0 = x0 ∧ y1 = x1 ∧ y2 = x2 ∧ y3 = r) := by
  unfold opFin at h
  by_cases q : opRight x0 x1 x2 r = true
  · rw [if_pos q] at h; simp only [Prod.mk.injEq] at h; obtain ⟨rfl, rfl, rfl, rfl, rfl⟩ := h; exact .inr ⟨rfl, q, rfl, rfl, rfl, rfl⟩
  · rw [if_neg q] at h; simp only [Prod.mk.injEq] at h; obtain ⟨rfl, rfl, rfl, rfl, rfl⟩ := h; exact .inl ⟨by decide, rfl, rfl, rfl, rfl⟩
theorem opRead_only {s : ByteArray} {y0 y1 y2 c : Int} {y3 : ByteArray} (h : opRead s = (y0, y1, y2, y3, c)) : (c ≠ 0 ∧ y0 = 0 ∧ y1 = 0 ∧ y2 = 0 ∧ y3 = ⟨#[]⟩) ∨ (c = 0 ∧ opBytes y0 y1 y2 y3 = (s, 0) ∧ y3.size ≤ 512) := by
  unfold opRead at h
  by_cases h0 : s.size = 0
  · rw [if_pos h0] at h; simp only [Prod.mk.injEq] at h; obtain ⟨rfl, rfl, rfl, rfl, rfl⟩ := h; exact .inl ⟨by decide, rfl, rfl, rfl, rfl⟩
  rw [if_neg h0] at h
  by_cases h1 : 1 ≤ bt s 0 ∧ bt s 0 ≤ 8
  rotate_left
  · rw [if_pos h1] at h; simp only [Prod.mk.injEq] at h; obtain ⟨rfl, rfl, rfl, rfl, rfl⟩ := h; exact .inl ⟨by decide, rfl, rfl, rfl, rfl⟩
  rw [if_neg (not_not_intro h1)] at h
  have hj := one_join s (by omega)
  obtain ⟨x0, hx⟩ : ∃ x0, bt s 0 = x0 := ⟨_, rfl⟩
  obtain ⟨r, hr⟩ : ∃ r, s.extract 1 s.size = r := ⟨_, rfl⟩
  rw [hx, hr] at hj h
  rw [hx] at h1
  unfold opRest at h
  by_cases c3 : x0 ≤ 3
  · rw [if_pos c3] at h
    by_cases g : (getN r 0 4).2 = true
    rotate_left
    · rw [if_neg g] at h; simp only [Prod.mk.injEq] at h; obtain ⟨rfl, rfl, rfl, rfl, rfl⟩ := h; exact .inl ⟨by decide, rfl, rfl, rfl, rfl⟩
    rw [if_pos g] at h
    have g4 := (getN_ok r).1 g
    have hj2 := put_join r g4
    unfold opRest2 at h
    by_cases c2 : x0 = 2
    · rw [if_pos c2] at h
      by_cases g2 : (getN (r.extract 4 r.size) 0 4).2 = true
      rotate_left
      · rw [if_neg g2] at h; simp only [Prod.mk.injEq] at h; obtain ⟨rfl, rfl, rfl, rfl, rfl⟩ := h; exact .inl ⟨by decide, rfl, rfl, rfl, rfl⟩
      rw [if_pos g2] at h
      have hj3 := put_join _ ((getN_ok _).1 g2)
      rcases fin_only h with ⟨a, b⟩ | ⟨rfl, q, rfl, rfl, rfl, rfl⟩
      · exact .inl ⟨a, b⟩
      · refine .inr ⟨rfl, ?_, (right_facts q).2.2.2.2.2.2.1⟩
        unfold opBytes
        rw [if_pos q]
        unfold opLaid
        rw [if_pos c3, if_pos c2, ByteArray.append_assoc, ByteArray.append_assoc, hj3, hj2, hj]
    · rw [if_neg c2] at h
      rcases fin_only h with ⟨a, b⟩ | ⟨rfl, q, rfl, rfl, rfl, rfl⟩
      · exact .inl ⟨a, b⟩
      · refine .inr ⟨rfl, ?_, (right_facts q).2.2.2.2.2.2.1⟩
        unfold opBytes
        rw [if_pos q]
        unfold opLaid
        rw [if_pos c3, if_neg c2, ByteArray.append_assoc, hj2, hj]
  · rw [if_neg c3] at h
    unfold opRest2 at h
    rw [if_neg (by omega)] at h
    rcases fin_only h with ⟨a, b⟩ | ⟨rfl, q, rfl, rfl, rfl, rfl⟩
    · exact .inl ⟨a, b⟩
    · refine .inr ⟨rfl, ?_, (right_facts q).2.2.2.2.2.2.1⟩
      unfold opBytes
      rw [if_pos q]
      unfold opLaid
      rw [if_neg c3, hj]
end Go.Proofs.Ytgabhndhnjedpaa.P
