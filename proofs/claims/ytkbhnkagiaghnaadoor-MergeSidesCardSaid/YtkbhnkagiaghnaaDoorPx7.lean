import Derived.Test.YtkbhnkagiaghnaaDoorPx0
import Derived.Test.YtkbhnkagiaghnaaDoorPx2
namespace Go.Proofs.YtkbhnkagiaghnaaDoor.P
open Go.RowKit Go.Proofs.YtkbhnkagiaghnaaDoorW.PrintWords Go.Proofs.YtkbhnkagiaghnaaDoorW.PrintLast Go.Proofs.YtkbhnkagiaghnaaDoorW.PrintMore
attribute [local go_sem] max2_int min2_int max_two min_two max_three min_three max_four min_four   -- for this text's walks alone
set_option linter.unusedVariables false
set_option linter.unusedSimpArgs false
/-! ### stylusref51_rows: function 26 -/
def rowL (a b : List ByteArray) (i : Nat) : List Int := (List.range (b.length + 1)).map fun j => ((lcs (a.drop i) (b.drop j) : Nat) : Int)
def rowsL (a b : List ByteArray) : List (List Int) := (List.range (a.length + 1)).map fun i => rowL a b i
/-- A row's block, told from j on. -/
def RowTold (a b : List ByteArray) (i j : Nat) (cur : Array Value) : Prop := cur.size = b.length + 1 ∧ ∀ j', j ≤ j' → j' ≤ b.length → cur[j']? = some (.int .i64 ((lcs (a.drop i) (b.drop j') : Nat) : Int))
theorem RowTold.start (a b : List ByteArray) (i : Nat) : RowTold a b i b.length (zeroRow (b.length + 1)) := by
 refine ⟨by simp [zeroRow], fun j' h0 h1 => ?_⟩
 obtain rfl : j' = b.length := by omega
 rw [List.drop_length, lcs_end]
 unfold zeroRow
 rw [← Array.getElem?_toList, List.toList_toArray, List.getElem?_replicate, if_pos (by omega)]
 rfl
theorem RowTold.last (a b : List ByteArray) : RowTold a b a.length 0 (zeroRow (b.length + 1)) := by
 refine ⟨by simp [zeroRow], fun j' h0 h1 => ?_⟩
 rw [List.drop_length, lcs_nil]
 unfold zeroRow
 rw [← Array.getElem?_toList, List.toList_toArray, List.getElem?_replicate, if_pos (by omega)]
 rfl
theorem RowTold.set {a b : List ByteArray} {i j : Nat} {cur : Array Value} (h : RowTold a b i (j + 1) cur) (hj : j ≤ b.length) (v : Int) (hv : v = ((lcs (a.drop i) (b.drop j) : Nat) : Int)) : RowTold a b i j (cur.setIfInBounds j (.int .i64 v)) := by
 subst hv
 refine ⟨by simpa using h.1, fun j' h0 h1 => ?_⟩
 by_cases e : j = j'
 ·subst e
  rw [Array.getElem?_setIfInBounds_self_of_lt (by rw [h.1]; omega)]
 ·rw [Array.getElem?_setIfInBounds_ne e]
  exact h.2 j' (by omega) h1
/-- The rows from m on. -/
def RowsTold (a b : List ByteArray) (base : Nat) (W : World) (m : Nat) (G : Nat → Nat) : Prop :=
 ∃ cur : Array Value, W.heap[base]? = some (.cells cur 43 (0, 0)) ∧ cur.size = a.length + 1 ∧ (∀ i, m ≤ i → i ≤ a.length → cur[i]? = some (.slice (some ⟨G i, 0, none⟩) (b.length + 1) (b.length + 1)) ∧ base < G i ∧ ∃ ci, W.heap[G i]? = some (.cells ci 3 (0, 0)) ∧ RowTold a b i 0 ci) ∧ ∀ i i', m ≤ i → i < i' → i' ≤ a.length → G i ≠ G i'
theorem RowsTold.step {a b : List ByteArray} {base : Nat} {W W' : World} {m : Nat} {G : Nat → Nat} (h : RowsTold a b base W m G) (hk : ∀ k, k < W.heap.size → (k = base ∨ ∃ i, m ≤ i ∧ i ≤ a.length ∧ k = G i) → W'.heap[k]? = W.heap[k]?) : RowsTold a b base W' m G := by
 obtain ⟨cur, h1, h2, h3, h4⟩ := h
 refine ⟨cur, (hk _ (blk_lt h1) (.inl rfl)).trans h1, h2, fun i hi hl => ?_, h4⟩
 obtain ⟨e1, e2, ci, e3, e4⟩ := h3 i hi hl
 exact ⟨e1, e2, ci, (hk _ (blk_lt e3) (.inr ⟨i, hi, hl, rfl⟩)).trans e3, e4⟩
theorem RowsTold.S {a b : List ByteArray} {base : Nat} {W : World} {G : Nat → Nat} (h : RowsTold a b base W 0 G) (ha : a.length ≤ 1000) (hb : b.length ≤ 1000) : Kd.S (Kd.slice 3 (Kd.int .i64)) 43 W base (fun _ => True) (.slice (some ⟨base, 0, none⟩) (a.length + 1) (a.length + 1)) (rowsL a b) := by
 classical
 obtain ⟨cur, h1, h2, h3, h4⟩ := h
 let f : Nat → Nat := fun k => if h : ∃ i, i ≤ a.length ∧ G i = k then h.choose else 0
 have hf : ∀ i, i ≤ a.length → f (G i) = i := by
  intro i hi
  have hx : ∃ i', i' ≤ a.length ∧ G i' = G i := ⟨i, hi, rfl⟩
  show (if h : ∃ i', i' ≤ a.length ∧ G i' = G i then h.choose else 0) = i
  rw [dif_pos hx]
  obtain ⟨c1, c2⟩ := hx.choose_spec
  rcases Nat.lt_trichotomy hx.choose i with hl | he | hl
  ·exact absurd c2 (h4 _ _ (Nat.zero_le _) hl hi)
  ·exact he
  ·exact absurd c2.symm (h4 _ _ (Nat.zero_le _) hl c1)
 have hlen : (rowsL a b).length = a.length + 1 := by simp [rowsL]
 refine ⟨f, fun k hk => trivial, cur.toList, ?_, ?_, fun j q hq => ?_⟩
 ·rw [List.length_zipIdx, hlen]
  refine ⟨by simp [h2, Kd.tag, Kd.slice], .inr ⟨base, a.length + 1, cur, rfl, Nat.le_refl _, h1, Nat.le_refl _, by simp [maxLen]; omega, by rw [h2]; exact (Nat.mul_one _).symm, ?_⟩⟩
  rw [List.take_of_length_le]
  simp [h2, Kd.tag, Kd.slice]
 ·rw [List.length_zipIdx, hlen]; simp [h2, Kd.tag, Kd.slice]
 ·have hj : j < a.length + 1 := by have := (List.getElem?_eq_some_iff.1 hq).1; rw [List.length_zipIdx, hlen] at this; exact this
  rw [List.getElem?_zipIdx] at hq
  have hr : (rowsL a b)[j]? = some (rowL a b j) := by simp [rowsL, hj]
  rw [hr] at hq
  obtain rfl : (rowL a b j, j) = q := by simpa using hq
  obtain ⟨e1, e2, ci, e3, e4⟩ := h3 j (Nat.zero_le _) (by omega)
  refine ⟨.slice (some ⟨G j, 0, none⟩) (b.length + 1) (b.length + 1), ?_, ?_⟩
  ·have hc : cur.toList[j]? = some (.slice (some ⟨G j, 0, none⟩) (b.length + 1) (b.length + 1)) := by rw [Array.getElem?_toList]; exact e1
   obtain ⟨hl, he⟩ := List.getElem?_eq_some_iff.1 hc
   show (cur.toList.drop (j * 1)).take 1 = _
   rw [Nat.mul_one, List.drop_eq_getElem_cons hl, List.take_succ_cons, he]
   rfl
  ·have hlr : (rowL a b j).length = b.length + 1 := by simp [rowL]
   have hin : ci.toList = encs (Value.int .i64) (rowL a b j) := by
    apply List.ext_getElem?
    intro x
    rcases Nat.lt_or_ge x (b.length + 1) with hx | hx
    ·rw [Array.getElem?_toList, e4.2 x (Nat.zero_le _) (by omega)]
     simp [encs, rowL, hx]
    ·rw [List.getElem?_eq_none (by simp [e4.1]; omega), List.getElem?_eq_none (by simp [encs, hlr]; omega)]
   refine Kd.R_of_own ?_ (fun k hk => ?_)
   ·rw [hlr]
    refine ⟨by simp [encs, hlr], .inr ⟨G j, b.length + 1, ci, rfl, Nat.le_of_lt e2, e3, Nat.le_refl _, by simp [maxLen]; omega, by rw [e4.1, Nat.mul_one], ?_⟩⟩
    rw [List.take_of_length_le (by simp [e4.1]), hin]
   ·have hk2 : G j = k := by simpa [Value.ownBlock] using hk
    subst hk2
    exact ⟨⟨trivial, fun e => by simp [Value.ownBlock] at e; omega⟩, hf j (by omega)⟩
end Go.Proofs.YtkbhnkagiaghnaaDoor.P
