/- Texts that are runes throughout: their pieces between edges are, and what is put together of such pieces is. -/
import Derived.Test.YtbcokholddlpbaaPx0
import Derived.Test.YtbcokholddlpbaaUtfEv
namespace Go.Proofs.Ytbcokholddlpbaa.P
open Go.RowKit Go.Proofs.YtbcokholddlpbaaW.PrintWords Go.Proofs.YtbcokholddlpbaaW.PrintLast

/-- A byte that goes on. -/
def mid (x : Int) : Prop := 128 ≤ x ∧ x ≤ 191
instance (x : Int) : Decidable (mid x) := by unfold mid; infer_instance
theorem tk_begins (s : ByteArray) (p : Int) (h : (tk s p).2 ≠ 0) : ¬ mid (bt s p) := by
  intro m
  unfold mid at m
  apply h
  unfold tk
  rw [if_neg (by omega), if_neg (by omega), if_neg (by omega), if_neg (by omega)]
theorem tk_goes (s : ByteArray) (p i : Int) (h : (tk s p).2 ≠ 0) (h0 : 0 < i) (h1 : i < (tk s p).2) : mid (bt s (p + i)) := by
  revert h h1
  unfold tk isOn
  split
  · intro _ h1; simp only at h1; omega
  · split
    · rename_i c
      split
      · intro _ h1; simp only at h1
        obtain rfl : i = 1 := by omega
        exact c.2.2.2
      · intro h; exact absurd rfl h
    · split
      · rename_i c
        split
        · intro _ h1; simp only at h1
          rcases (show i = 1 ∨ i = 2 by omega) with rfl | rfl
          · exact c.2.2.1.2
          · exact c.2.2.2.2
        · intro h; exact absurd rfl h
      · split
        · rename_i c
          split
          · intro _ h1; simp only at h1
            rcases (show i = 1 ∨ i = 2 ∨ i = 3 by omega) with rfl | rfl | rfl
            · exact c.2.2.1.2
            · exact c.2.2.2.1.2
            · exact c.2.2.2.2.2
          · intro h; exact absurd rfl h
        · intro h; exact absurd rfl h
theorem tk_move (s t : ByteArray) (p q : Int) (h : (tk s p).2 ≠ 0) (hq : q + (tk s p).2 ≤ t.size)
    (hb : ∀ i : Int, 0 ≤ i → i < (tk s p).2 → bt t (q + i) = bt s (p + i)) : tk t q = tk s p := by
  have b0 : bt t q = bt s p := by
    have := hb 0 (by omega) (by rcases tk_len s p with z | z <;> omega)
    rwa [Int.add_zero, Int.add_zero] at this
  by_cases a1 : bt s p < 128
  · have e1 : tk s p = (bt s p, 1) := if_pos a1
    have e2 : tk t q = (bt t q, 1) := if_pos (by rw [b0]; exact a1)
    rw [e1, e2, b0]
  by_cases a2 : 192 ≤ bt s p ∧ bt s p < 224 ∧ isOn s (p + 1)
  · by_cases z : 128 ≤ (bt s p - 192) * 64 + (bt s (p + 1) - 128)
    · have e1 : tk s p = ((bt s p - 192) * 64 + (bt s (p + 1) - 128), 2) := by unfold tk; rw [if_neg a1, if_pos a2, if_pos z]
      rw [e1] at hq hb ⊢
      have b1 := hb 1 (by decide) (show (1 : Int) < 2 by decide)
      have o1 : isOn t (q + 1) := by unfold isOn; rw [b1]; exact ⟨by simp only at hq; omega, a2.2.2.2⟩
      unfold tk
      rw [b0, b1, if_neg a1, if_pos ⟨a2.1, a2.2.1, o1⟩, if_pos z]
    · exact absurd (by unfold tk; rw [if_neg a1, if_pos a2, if_neg z]) h
  by_cases a3 : 224 ≤ bt s p ∧ bt s p < 240 ∧ isOn s (p + 1) ∧ isOn s (p + 2)
  · by_cases z : 2048 ≤ ((bt s p - 224) * 64 + (bt s (p + 1) - 128)) * 64 + (bt s (p + 2) - 128) ∧ ¬ (55296 ≤ ((bt s p - 224) * 64 + (bt s (p + 1) - 128)) * 64 + (bt s (p + 2) - 128) ∧ ((bt s p - 224) * 64 + (bt s (p + 1) - 128)) * 64 + (bt s (p + 2) - 128) ≤ 57343)
    · have e1 : tk s p = (((bt s p - 224) * 64 + (bt s (p + 1) - 128)) * 64 + (bt s (p + 2) - 128), 3) := by unfold tk; rw [if_neg a1, if_neg a2, if_pos a3, if_pos z]
      rw [e1] at hq hb ⊢
      simp only at hq
      have b1 := hb 1 (by decide) (show (1 : Int) < 3 by decide)
      have b2 := hb 2 (by decide) (show (2 : Int) < 3 by decide)
      have o1 : isOn t (q + 1) := by unfold isOn; rw [b1]; exact ⟨by omega, a3.2.2.1.2⟩
      have o2 : isOn t (q + 2) := by unfold isOn; rw [b2]; exact ⟨by omega, a3.2.2.2.2⟩
      unfold tk
      rw [b0, b1, b2, if_neg a1, if_neg (by omega), if_pos ⟨a3.1, a3.2.1, o1, o2⟩, if_pos z]
    · exact absurd (by unfold tk; rw [if_neg a1, if_neg a2, if_pos a3, if_neg z]) h
  by_cases a4 : 240 ≤ bt s p ∧ bt s p < 248 ∧ isOn s (p + 1) ∧ isOn s (p + 2) ∧ isOn s (p + 3)
  · by_cases z : 65536 ≤ (((bt s p - 240) * 64 + (bt s (p + 1) - 128)) * 64 + (bt s (p + 2) - 128)) * 64 + (bt s (p + 3) - 128) ∧ (((bt s p - 240) * 64 + (bt s (p + 1) - 128)) * 64 + (bt s (p + 2) - 128)) * 64 + (bt s (p + 3) - 128) ≤ 1114111
    · have e1 : tk s p = ((((bt s p - 240) * 64 + (bt s (p + 1) - 128)) * 64 + (bt s (p + 2) - 128)) * 64 + (bt s (p + 3) - 128), 4) := by unfold tk; rw [if_neg a1, if_neg a2, if_neg a3, if_pos a4, if_pos z]
      rw [e1] at hq hb ⊢
      simp only at hq
      have b1 := hb 1 (by decide) (show (1 : Int) < 4 by decide)
      have b2 := hb 2 (by decide) (show (2 : Int) < 4 by decide)
      have b3 := hb 3 (by decide) (show (3 : Int) < 4 by decide)
      have o1 : isOn t (q + 1) := by unfold isOn; rw [b1]; exact ⟨by omega, a4.2.2.1.2⟩
      have o2 : isOn t (q + 2) := by unfold isOn; rw [b2]; exact ⟨by omega, a4.2.2.2.1.2⟩
      have o3 : isOn t (q + 3) := by unfold isOn; rw [b3]; exact ⟨by omega, a4.2.2.2.2.2⟩
      unfold tk
      rw [b0, b1, b2, b3, if_neg a1, if_neg (by omega), if_neg (by omega), if_pos ⟨a4.1, a4.2.1, o1, o2, o3⟩, if_pos z]
    · exact absurd (by unfold tk; rw [if_neg a1, if_neg a2, if_neg a3, if_pos a4, if_neg z]) h
  · exact absurd (by unfold tk; rw [if_neg a1, if_neg a2, if_neg a3, if_neg a4]) h
/-- Runes lead from a to b. -/
def walks (s : ByteArray) : Nat → Nat → Nat → Prop
  | 0, a, b => a = b
  | d + 1, a, b => a = b ∨ (a < s.size ∧ (tk s (a : Int)).2 ≠ 0 ∧ walks s d (a + (tk s (a : Int)).2.toNat) b)
theorem tk_pos (s : ByteArray) (a : Nat) (ha : a < s.size) (h : (tk s (a : Int)).2 ≠ 0) : 1 ≤ (tk s (a : Int)).2.toNat ∧ a + (tk s (a : Int)).2.toNat ≤ s.size := by
  rcases tk_len s (a : Int) with z | ⟨z1, z2, z3⟩
  · exact absurd z h
  · have := z3 (by omega)
    omega
theorem walks_le (s : ByteArray) : ∀ (d a b : Nat), walks s d a b → a ≤ b
  | 0, _, _, h => Nat.le_of_eq h
  | d + 1, a, b, h => by
    rcases h with h | ⟨_, _, h2⟩
    · omega
    · have := walks_le s d _ _ h2
      omega
theorem walks_end (s : ByteArray) : ∀ (d a b : Nat), a ≤ s.size → walks s d a b → b ≤ s.size
  | 0, _, _, ha, h => by have : _ = _ := h; omega
  | d + 1, a, b, ha, h => by
    rcases h with h | ⟨h0, h1, h2⟩
    · omega
    · exact walks_end s d _ _ (tk_pos s a h0 h1).2 h2
theorem walks_trans (s : ByteArray) : ∀ (d e a b c : Nat), walks s d a b → walks s e b c → ∃ f, walks s f a c
  | 0, e, a, b, c, h, g => by have : a = b := h; subst this; exact ⟨e, g⟩
  | d + 1, e, a, b, c, h, g => by
    rcases h with rfl | ⟨h0, h1, h2⟩
    · exact ⟨e, g⟩
    · obtain ⟨f, hf⟩ := walks_trans s d e _ b c h2 g
      exact ⟨f + 1, .inr ⟨h0, h1, hf⟩⟩
theorem walks_cut (s : ByteArray) (p : Nat) (he : ¬ mid (bt s (p : Int))) : ∀ (d a b : Nat), walks s d a b → a ≤ p → p ≤ b → (∃ f, walks s f a p) ∧ (∃ f, walks s f p b)
  | 0, a, b, h, h0, h1 => by
    have e : a = b := h
    obtain rfl : p = a := by omega
    exact ⟨⟨0, rfl⟩, ⟨0, e⟩⟩
  | d + 1, a, b, h, h0, h1 => by
    by_cases hap : a = p
    · subst hap
      exact ⟨⟨0, rfl⟩, ⟨d + 1, h⟩⟩
    · rcases h with e | ⟨g0, g1, g2⟩
      · omega
      · have hpos := tk_pos s a g0 g1
        by_cases hin : p < a + (tk s (a : Int)).2.toNat
        · have hm := tk_goes s (a : Int) ((p : Int) - a) g1 (by omega) (by omega)
          rw [show (a : Int) + ((p : Int) - a) = p by omega] at hm
          exact absurd hm he
        · obtain ⟨⟨f, hf⟩, g⟩ := walks_cut s p he d _ b g2 (by omega) h1
          exact ⟨⟨f + 1, .inr ⟨g0, g1, hf⟩⟩, g⟩
theorem walks_move (s t : ByteArray) : ∀ (d a b a' b' : Nat), walks s d a b → a ≤ s.size → b + a' = b' + a → b' ≤ t.size →
    (∀ i : Nat, a + i < b → bt t ((a' + i : Nat) : Int) = bt s ((a + i : Nat) : Int)) → walks t d a' b'
  | 0, a, b, a', b', h, _, e, _, _ => by have : a = b := h; show a' = b'; omega
  | d + 1, a, b, a', b', h, hz, e, hb', hb => by
    rcases h with rfl | ⟨g0, g1, g2⟩
    · exact .inl (by omega)
    · have hpos := tk_pos s a g0 g1
      have hle := walks_le s d _ _ g2
      have hm : tk t (a' : Int) = tk s (a : Int) := tk_move s t (a : Int) (a' : Int) g1 (by omega) (fun i i0 i1 => by
        have := hb i.toNat (by omega)
        rwa [show ((a' + i.toNat : Nat) : Int) = (a' : Int) + i by omega, show ((a + i.toNat : Nat) : Int) = (a : Int) + i by omega] at this)
      refine .inr ⟨by omega, by rw [hm]; exact g1, ?_⟩
      rw [hm]
      refine walks_move s t d _ b _ b' g2 hpos.2 (by omega) hb' (fun i hi => ?_)
      have := hb ((tk s (a : Int)).2.toNat + i) (by omega)
      rwa [← Nat.add_assoc, ← Nat.add_assoc] at this
theorem bad_walks (s : ByteArray) : ∀ (d p : Nat), p ≤ s.size → s.size < p + d → badFrom s d p < 0 → walks s d p s.size
  | 0, p, h0, h1, _ => by omega
  | d + 1, p, h0, h1, h => by
    unfold badFrom at h
    by_cases hp : p < s.size
    · rw [if_pos hp] at h
      by_cases hk : (tk s (p : Int)).2 = 0
      · rw [if_pos hk] at h; omega
      · rw [if_neg hk] at h
        have hpos := tk_pos s p hp hk
        exact .inr ⟨hp, hk, bad_walks s d _ hpos.2 (by omega) h⟩
    · exact .inl (by omega)
theorem walks_bad (s : ByteArray) : ∀ (f d p : Nat), walks s f p s.size → badFrom s d p = -1
  | _, 0, _, _ => rfl
  | 0, d + 1, p, h => by
    have : p = s.size := h
    unfold badFrom
    rw [if_neg (by omega)]
  | f + 1, d + 1, p, h => by
    unfold badFrom
    rcases h with h | ⟨h0, h1, h2⟩
    · rw [if_neg (by omega)]
    · rw [if_pos h0, if_neg h1]
      exact walks_bad s f d _ h2
theorem valid_walks {s : ByteArray} (h : valid s = true) : ∃ d, walks s d 0 s.size :=
  ⟨_, bad_walks s (s.size + 1) 0 (by omega) (by omega) (of_decide_eq_true h)⟩
theorem walks_valid {s : ByteArray} {d : Nat} (h : walks s d 0 s.size) : valid s = true := by
  have e : badOf s = -1 := walks_bad s d (s.size + 1) 0 h
  unfold valid
  rw [e]
  rfl
/-- The first byte of a text of runes begins one. -/
theorem valid_first {s : ByteArray} (h : valid s = true) (hz : 0 < s.size) : ¬ mid (bt s 0) := by
  obtain ⟨d, hd⟩ := valid_walks h
  cases d with
  | zero => exact absurd (show 0 = s.size from hd) (by omega)
  | succ d =>
    rcases hd with hd | ⟨_, h1, _⟩
    · omega
    · exact tk_begins s 0 h1
/-- An edge, in a text of runes, is a place where no byte goes on, or the end. -/
theorem edge_open {s : ByteArray} (hv : valid s = true) (p : Int) (h : edge s p = true) : 0 ≤ p ∧ p ≤ s.size ∧ (p = s.size ∨ ¬ mid (bt s p)) := by
  have := of_decide_eq_true h
  refine ⟨this.1, this.2.1, ?_⟩
  rcases this.2.2 with rfl | z | z
  · by_cases hz : 0 < s.size
    · exact .inr (valid_first hv hz)
    · exact .inl (by omega)
  · exact .inl z
  · exact .inr z
theorem edge_shut {s : ByteArray} {p : Int} (h0 : 0 ≤ p) (h1 : p ≤ s.size) (h : p = s.size ∨ ¬ mid (bt s p)) : edge s p = true :=
  decide_eq_true ⟨h0, h1, h.elim (fun z => .inr (.inl z)) (fun z => .inr (.inr z))⟩
/-- Bytes past the end are none. -/
theorem bt_over (s : ByteArray) (p : Int) (h : s.size ≤ p) : ¬ mid (bt s p) := by
  unfold bt mid
  rw [dif_neg (by omega)]
  omega
theorem valid_cut {s : ByteArray} (hv : valid s = true) (p : Nat) (h : p ≤ s.size) (he : ¬ mid (bt s (p : Int))) : (∃ f, walks s f 0 p) ∧ ∃ f, walks s f p s.size := by
  obtain ⟨d, hd⟩ := valid_walks hv
  exact walks_cut s p he d 0 s.size hd (by omega) h
/-! Bytes of what was put together. -/
theorem bt_left (a b : ByteArray) (i : Nat) (h : i < a.size) : bt (a ++ b) (i : Int) = bt a (i : Int) := by
  rw [bt_eq _ _ (by rw [ByteArray.size_append]; omega), bt_eq _ _ h, ByteArray.getElem_append_left]
theorem bt_right (a b : ByteArray) (i : Nat) : bt (a ++ b) ((a.size + i : Nat) : Int) = bt b (i : Int) := by
  by_cases h : i < b.size
  · rw [bt_eq _ _ (by rw [ByteArray.size_append]; omega), bt_eq _ _ h, ByteArray.getElem_append_right (by omega)]
    congr 2
    congr 1
    omega
  · unfold bt
    rw [dif_neg (by rw [ByteArray.size_append]; omega), dif_neg (by omega)]
theorem tl {a b : ByteArray} : a.toList = b.toList ↔ a = b := by
  constructor
  · intro h
    rw [ByteArray.toList_eq, ByteArray.toList_eq] at h
    exact ByteArray.ext (Array.ext' h)
  · rintro rfl; rfl
end Go.Proofs.Ytbcokholddlpbaa.P
