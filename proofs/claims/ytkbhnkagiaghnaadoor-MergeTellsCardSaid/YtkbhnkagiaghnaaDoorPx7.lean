import Derived.Test.YtkbhnkagiaghnaaDoorPx0
import Derived.Test.YtkbhnkagiaghnaaDoorPx2
namespace Go.Proofs.YtkbhnkagiaghnaaDoor.P
open Go.RowKit Go.Proofs.YtkbhnkagiaghnaaDoorW.PrintWords Go.Proofs.YtkbhnkagiaghnaaDoorW.PrintLast Go.Proofs.YtkbhnkagiaghnaaDoorW.PrintMore
attribute [local go_sem] max2_int min2_int max_two min_two max_three min_three max_four min_four   -- for this text's walks alone
set_option linter.unusedVariables false
set_option linter.unusedSimpArgs false
/-! ### stylusref51_rows: function 26 -/
def rowL (a b : List ByteArray) (i : Nat) : List Int := (List.range (b.length + 1)).map fun j => ((lcs (a.drop i) (b.drop j) : Nat) : Int)
def rowsL (a b : List ByteArray) : List (List Int) := (List.range (a.length + 1)).map fun i => rowL a b i
def stylusref51_rows.f (a b : List ByteArray) : Option (List (List Int)) := if a.length ≤ 200 ∧ b.length ≤ 200 then some (rowsL a b) else none
/-- A row's block, told from j on. -/
def RowTold (a b : List ByteArray) (i j : Nat) (cur : Array Value) : Prop := cur.size = b.length + 1 ∧ ∀ j', j ≤ j' → j' ≤ b.length → cur[j']? = some (.int .i64 ((lcs (a.drop i) (b.drop j') : Nat) : Int))
theorem RowTold.start (a b : List ByteArray) (i : Nat) : RowTold a b i b.length (zeroRow (b.length + 1)) := by
 refine ⟨by simp [zeroRow], fun j' h0 h1 => ?_⟩
 obtain rfl : j' = b.length := by omega
 rw [List.drop_length, lcs_end]
 unfold zeroRow
 rw [← Array.getElem?_toList, List.toList_toArray, List.getElem?_replicate, if_pos (by omega)]
 rfl
theorem RowTold.last (a b : List ByteArray) : RowTold a b a.length 0 (zeroRow (b.length + 1)) := by
 refine ⟨by simp [zeroRow], fun j' h0 h1 => ?_⟩
 rw [List.drop_length, lcs_nil]
 unfold zeroRow
 rw [← Array.getElem?_toList, List.toList_toArray, List.getElem?_replicate, if_pos (by omega)]
 rfl
theorem RowTold.set {a b : List ByteArray} {i j : Nat} {cur : Array Value} (h : RowTold a b i (j + 1) cur) (hj : j ≤ b.length) (v : Int) (hv : v = ((lcs (a.drop i) (b.drop j) : Nat) : Int)) : RowTold a b i j (cur.setIfInBounds j (.int .i64 v)) := by
 subst hv
 refine ⟨by simpa using h.1, fun j' h0 h1 => ?_⟩
 by_cases e : j = j'
 ·subst e
  rw [Array.getElem?_setIfInBounds_self_of_lt (by rw [h.1]; omega)]
 ·rw [Array.getElem?_setIfInBounds_ne e]
  exact h.2 j' (by omega) h1
theorem RowTold.unset {a b : List ByteArray} {i j : Nat} {cur : Array Value} (h : RowTold a b i (j + 1) cur) (v : Value) : RowTold a b i (j + 1) (cur.setIfInBounds j v) := by
 refine ⟨by simpa using h.1, fun j' h0 h1 => ?_⟩
 rw [Array.getElem?_setIfInBounds_ne (by omega)]
 exact h.2 j' h0 h1
/-- The rows from m on. -/
def RowsTold (a b : List ByteArray) (base : Nat) (W : World) (m : Nat) (G : Nat → Nat) : Prop :=
 ∃ cur : Array Value, W.heap[base]? = some (.cells cur 43 (0, 0)) ∧ cur.size = a.length + 1 ∧ (∀ i, m ≤ i → i ≤ a.length → cur[i]? = some (.slice (some ⟨G i, 0, none⟩) (b.length + 1) (b.length + 1)) ∧ base < G i ∧ ∃ ci, W.heap[G i]? = some (.cells ci 3 (0, 0)) ∧ RowTold a b i 0 ci) ∧ ∀ i i', m ≤ i → i < i' → i' ≤ a.length → G i ≠ G i'
theorem RowsTold.step {a b : List ByteArray} {base : Nat} {W W' : World} {m : Nat} {G : Nat → Nat} (h : RowsTold a b base W m G) (hk : ∀ k, k < W.heap.size → (k = base ∨ ∃ i, m ≤ i ∧ i ≤ a.length ∧ k = G i) → W'.heap[k]? = W.heap[k]?) : RowsTold a b base W' m G := by
 obtain ⟨cur, h1, h2, h3, h4⟩ := h
 refine ⟨cur, (hk _ (blk_lt h1) (.inl rfl)).trans h1, h2, fun i hi hl => ?_, h4⟩
 obtain ⟨e1, e2, ci, e3, e4⟩ := h3 i hi hl
 exact ⟨e1, e2, ci, (hk _ (blk_lt e3) (.inr ⟨i, hi, hl, rfl⟩)).trans e3, e4⟩
theorem RowsTold.S {a b : List ByteArray} {base : Nat} {W : World} {G : Nat → Nat} (h : RowsTold a b base W 0 G) (ha : a.length ≤ 1000) (hb : b.length ≤ 1000) : Kd.S (Kd.slice 3 (Kd.int .i64)) 43 W base (fun _ => True) (.slice (some ⟨base, 0, none⟩) (a.length + 1) (a.length + 1)) (rowsL a b) := by
 classical
 obtain ⟨cur, h1, h2, h3, h4⟩ := h
 let f : Nat → Nat := fun k => if h : ∃ i, i ≤ a.length ∧ G i = k then h.choose else 0
 have hf : ∀ i, i ≤ a.length → f (G i) = i := by
  intro i hi
  have hx : ∃ i', i' ≤ a.length ∧ G i' = G i := ⟨i, hi, rfl⟩
  show (if h : ∃ i', i' ≤ a.length ∧ G i' = G i then h.choose else 0) = i
  rw [dif_pos hx]
  obtain ⟨c1, c2⟩ := hx.choose_spec
  rcases Nat.lt_trichotomy hx.choose i with hl | he | hl
  ·exact absurd c2 (h4 _ _ (Nat.zero_le _) hl hi)
  ·exact he
  ·exact absurd c2.symm (h4 _ _ (Nat.zero_le _) hl c1)
 have hlen : (rowsL a b).length = a.length + 1 := by simp [rowsL]
 refine ⟨f, fun k hk => trivial, cur.toList, ?_, ?_, fun j q hq => ?_⟩
 ·rw [List.length_zipIdx, hlen]
  refine ⟨by simp [h2, Kd.tag, Kd.slice], .inr ⟨base, a.length + 1, cur, rfl, Nat.le_refl _, h1, Nat.le_refl _, by simp [maxLen]; omega, by rw [h2]; exact (Nat.mul_one _).symm, ?_⟩⟩
  rw [List.take_of_length_le]
  simp [h2, Kd.tag, Kd.slice]
 ·rw [List.length_zipIdx, hlen]; simp [h2, Kd.tag, Kd.slice]
 ·have hj : j < a.length + 1 := by have := (List.getElem?_eq_some_iff.1 hq).1; rw [List.length_zipIdx, hlen] at this; exact this
  rw [List.getElem?_zipIdx] at hq
  have hr : (rowsL a b)[j]? = some (rowL a b j) := by simp [rowsL, hj]
  rw [hr] at hq
  obtain rfl : (rowL a b j, j) = q := by simpa using hq
  obtain ⟨e1, e2, ci, e3, e4⟩ := h3 j (Nat.zero_le _) (by omega)
  refine ⟨.slice (some ⟨G j, 0, none⟩) (b.length + 1) (b.length + 1), ?_, ?_⟩
  ·have hc : cur.toList[j]? = some (.slice (some ⟨G j, 0, none⟩) (b.length + 1) (b.length + 1)) := by rw [Array.getElem?_toList]; exact e1
   obtain ⟨hl, he⟩ := List.getElem?_eq_some_iff.1 hc
   show (cur.toList.drop (j * 1)).take 1 = _
   rw [Nat.mul_one, List.drop_eq_getElem_cons hl, List.take_succ_cons, he]
   rfl
  ·have hlr : (rowL a b j).length = b.length + 1 := by simp [rowL]
   have hin : ci.toList = encs (Value.int .i64) (rowL a b j) := by
    apply List.ext_getElem?
    intro x
    rcases Nat.lt_or_ge x (b.length + 1) with hx | hx
    ·rw [Array.getElem?_toList, e4.2 x (Nat.zero_le _) (by omega)]
     simp [encs, rowL, hx]
    ·rw [List.getElem?_eq_none (by simp [e4.1]; omega), List.getElem?_eq_none (by simp [encs, hlr]; omega)]
   refine Kd.R_of_own ?_ (fun k hk => ?_)
   ·rw [hlr]
    refine ⟨by simp [encs, hlr], .inr ⟨G j, b.length + 1, ci, rfl, Nat.le_of_lt e2, e3, Nat.le_refl _, by simp [maxLen]; omega, by rw [e4.1, Nat.mul_one], ?_⟩⟩
    rw [List.take_of_length_le (by simp [e4.1]), hin]
   ·have hk2 : G j = k := by simpa [Value.ownBlock] using hk
    subst hk2
    exact ⟨⟨trivial, fun e => by simp [Value.ownBlock] at e; omega⟩, hf j (by omega)⟩
theorem rows_info : (Tryd.prog.info? 43).map (fun i => (i.zero, i.size, i.bytes)) = some (some (.slice none 0 0), 1, 24) := by kernel_rfl
theorem rows_make (n : Nat) (hn : n ≤ 1000000) (W : World) : (Instr.makeSlice 59 (.int .i64 (n : Int)) (.int .i64 (n : Int))).run Tryd.prog W = .ok (.slice (some ⟨W.heap.size, 0, none⟩) n n) (W.alloc (.cells (List.replicate n (Value.slice none 0 0)).toArray 43)) := by
 obtain ⟨i0, hi, hzz⟩ := Option.map_eq_some_iff.1 rows_info
 simp only [Prod.mk.injEq] at hzz
 obtain ⟨hz0, hz1, hz2⟩ := hzz
 have h := run_makeSlice (w := W) 59 43 i0 (.slice none 0 0) Tryd.underlying59 hi hz0 .i64 .i64 (n : Int) (n : Int) (by omega) (Int.le_refl _) (by rw [hz1]; omega) (by rw [hz2]; omega) (by omega)
 rw [h, hz1]
 have hc : madeCells (Value.slice none 0 0).cells ((n : Int).toNat * 1) = (List.replicate n (Value.slice none 0 0)).toArray := by
  rw [Int.toNat_natCast, Nat.mul_one]
  apply Array.ext
  ·rw [size_madeCells]; simp
  ·intro j h1 h2
   simp [madeCells, Value.cells, Nat.mod_one]
 rw [hc]
 simp
set_option maxHeartbeats 16000000 in
set_option maxRecDepth 100000 in
theorem stylusref51_rows.own (A0 : Option Addr) (c0 la : Nat) (a : List ByteArray) (A1 : Option Addr) (c1 lb : Nat) (b : List ByteArray) (w : World) (h0 : Kd.C Kd.string w A0 la a) (h1 : Kd.C Kd.string w A1 lb b) (ha : la ≤ 200) (hb : lb ≤ 200) :
  Calls Tryd.prog 26 #[.slice A0 la c0, .slice A1 lb c1] w fun e w' => ∃ v0_ : Value, e = .returned v0_ ∧ Kd.S (Kd.slice 3 (Kd.int .i64)) 43 w' w.heap.size (fun _ => True) v0_ (rowsL a b) ∧ Below w.heap.size w w' := by
 have HA := Aside0.mk (show a.length = la from h0.1)
 have HB := Aside0.mk (show b.length = lb from h1.1)
 have HC0 := Aside0.mk h0
 have HC1 := Aside0.mk h1
 have hmk0 : ∀ W : World, (Instr.makeSlice 59 (.int .i64 ((la : Int) + 1)) (.int .i64 ((la : Int) + 1))).run Tryd.prog W = .ok (.slice (some ⟨W.heap.size, 0, none⟩) (la + 1) (la + 1)) (W.alloc (.cells (List.replicate (la + 1) (Value.slice none 0 0)).toArray 43)) := fun W => rows_make (la + 1) (by omega) W
 have hmk1 : ∀ W : World, (Instr.makeSlice 43 (.int .i64 ((lb : Int) + 1)) (.int .i64 ((lb : Int) + 1))).run Tryd.prog W = .ok (.slice (some ⟨W.heap.size, 0, none⟩) (lb + 1) (lb + 1)) (W.alloc (.cells (zeroRow (lb + 1)) 3)) := fun W => zero_make (lb + 1) (by omega) W
 clear h0 h1
 go_enter Tryd.func26, Tryd.ntmps26
 go_wp2
 go_loopw [6] (fun v W => ∃ (x : Int) (m : Nat), v = .int .i64 x ∧ x = (m : Int) - 1 ∧ m ≤ la + 1 ∧ Aside0 (∃ G, RowsTold a b w.heap.size W m G ∧ Below w.heap.size w W)) (fun v _ => (intOf v + 1).toNat)
 case atStart => exact ⟨la, la + 1, rfl, by omega, Nat.le_refl _, ⟨fun _ => 0, ⟨_, heap_alloc_new w _, by simp [HA.out], fun i hi hl => absurd hi (by rw [HA.out] at hl; omega), fun i i' hi hl hl' => absurd hi (by rw [HA.out] at hl'; omega)⟩, below_alloc (Below.refl _ _) _⟩⟩
 case round =>
  obtain ⟨x, m, rfl, hx, hm, HJ⟩ := hrel
  cases m with
  | zero =>
   obtain rfl : x = -1 := by omega
   obtain ⟨G, hR, hB⟩ := HJ.out
   have HS := Aside0.mk (hR.S (by rw [HA.out]; omega) (by rw [HB.out]; omega))
   have KB := Aside0.mk hB
   clear hR hB hx
   go_wp2
   go_ret
   exact ⟨_, rfl, by have h_ := HS.out; rw [HA.out] at h_; exact h_, KB.out⟩
  | succ i =>
   obtain rfl : x = (i : Int) := by omega
   have hil : i ≤ la := by omega
   obtain ⟨G, hR, hB⟩ := HJ.out
   obtain ⟨cur, hO, hOs, hOr, hOd⟩ := hR
   have HO := Aside0.mk hO
   have HOs := Aside0.mk hOs
   have HOr := Aside0.mk hOr
   have HOd := Aside0.mk hOd
   have KB := Aside0.mk hB
   have p0 : (0 : Int) ≤ (i : Int) := Int.natCast_nonneg _
   have p1 : (i : Int) < (la : Int) + 1 := by omega
   have p1n : i < la + 1 := by omega
   have hlt : i < cur.size := by rw [hOs, HA.out]; omega
   obtain ⟨u0, hu0⟩ : ∃ u, cur[i]? = some u := ⟨_, Array.getElem?_eq_getElem hlt⟩
   have hxc := fun o => (blk_cell (blk_alloc hO o) i).trans hu0
   have hxf := fun o => blk_frozen (blk_alloc hO o) i
   have HLT := Aside0.mk hlt
   clear hO hOs hOr hOd hB HJ hx hlt hu0
   go_wp2
   obtain ⟨gi, hgi⟩ : ∃ g, wr.heap.size = g := ⟨_, rfl⟩
   obtain ⟨W0, hW0⟩ : ∃ W : World, (wr.alloc (.cells (zeroRow (lb + 1)) 3)).setCell ⟨w.heap.size, i, none⟩ (.slice (some ⟨wr.heap.size, 0, none⟩) (lb + 1) (lb + 1)) = W := ⟨_, rfl⟩
   have HGi : Aside0 (W0.heap[gi]? = some (.cells (zeroRow (lb + 1)) 3 (0, 0))) := ⟨by rw [← hW0, ← hgi]; exact blk_far (heap_alloc_new wr _) (Nat.ne_of_gt (blk_lt HO.out)) _⟩
   have HO0 : Aside0 (W0.heap[w.heap.size]? = some (.cells (cur.setIfInBounds i (.slice (some ⟨gi, 0, none⟩) (lb + 1) (lb + 1))) 43 (0, 0))) := ⟨by rw [← hW0, ← hgi]; exact blk_set (blk_alloc HO.out _) _ _⟩
   have KB0 : Aside0 (Below w.heap.size w W0) := ⟨by rw [← hW0]; exact (below_alloc KB.out _).setCell (Nat.le_refl _) _⟩
   have HGr : Aside0 (∀ i', i + 1 ≤ i' → i' ≤ a.length → W0.heap[G i']? = wr.heap[G i']? ∧ G i' < gi) := ⟨fun i' h1 h2 => by
    obtain ⟨_, e2, ci, e3, _⟩ := HOr.out i' h1 h2
    rw [← hW0]
    exact ⟨(Below.heap_setCell _ _ _ _ (Nat.ne_of_gt e2)).trans ((blk_alloc e3 _).trans e3.symm), by rw [← hgi]; exact blk_lt e3⟩⟩
   have HGb := Aside0.mk (show w.heap.size < gi by rw [← hgi]; exact blk_lt HO.out)
   rw [hW0, hgi]
   clear hW0 hgi hxc hxf
   have HFin : Aside0 (∀ (W : World) (ci : Array Value), W.heap[gi]? = some (.cells ci 3 (0, 0)) → RowTold a b i 0 ci → (∀ k, k < W0.heap.size → k ≠ gi → W.heap[k]? = W0.heap[k]?) → RowsTold a b w.heap.size W i (fun x => if x = i then gi else G x)) := ⟨fun W ci h1 h2 h3 => by
    refine ⟨_, (h3 _ (blk_lt HO0.out) (Nat.ne_of_lt HGb.out)).trans HO0.out, by simpa using HOs.out, fun i' hi hl => ?_, fun i1 i2 hi hl hl2 => ?_⟩
    ·rcases Nat.eq_or_lt_of_le hi with he | he
     ·subst he
      dsimp only
      rw [if_pos rfl]
      exact ⟨by rw [Array.getElem?_setIfInBounds_self_of_lt HLT.out, HB.out], HGb.out, ci, h1, h2⟩
     ·dsimp only
      rw [if_neg (by omega)]
      obtain ⟨e1, e2, c, e3, e4⟩ := HOr.out i' (by omega) hl
      obtain ⟨g1, g2⟩ := HGr.out i' (by omega) hl
      have e5 := g1.trans e3
      exact ⟨by rw [Array.getElem?_setIfInBounds_ne (by omega)]; exact e1, e2, c, (h3 _ (blk_lt e5) (by omega)).trans e5, e4⟩
    ·rcases Nat.eq_or_lt_of_le hi with he | he
     ·subst he
      dsimp only
      rw [if_pos rfl, if_neg (by omega)]
      have := (HGr.out i2 (by omega) hl2).2
      omega
     ·dsimp only
      rw [if_neg (by omega), if_neg (by omega)]
      exact HOd.out i1 i2 (by omega) hl hl2⟩
   go_loopw [7] (fun v W => ∃ (y : Int) (q : Nat), v = .int .i64 y ∧ y = (q : Int) - 1 ∧ q ≤ lb ∧ Aside0 (∃ ci, W.heap[gi]? = some (.cells ci 3 (0, 0)) ∧ (if i = la then ci = zeroRow (lb + 1) else RowTold a b i q ci) ∧ (∀ k, k < W0.heap.size → k ≠ gi → W.heap[k]? = W0.heap[k]?) ∧ Below w.heap.size w W)) (fun v _ => (intOf v + 1).toNat)
   case atStart => exact ⟨(lb : Int) - 1, lb, by go_num, rfl, Nat.le_refl _, ⟨_, HGi.out, by split; rfl; rw [← HB.out]; exact RowTold.start a b i, fun _ _ _ => rfl, KB0.out⟩⟩
   case round =>
    obtain ⟨y, q, rfl, hy, hq, HJ⟩ := hrel
    by_cases hi : i = la
    ·have HE : Aside0 (∃ ci, wr.heap[gi]? = some (.cells ci 3 (0, 0)) ∧ RowTold a b i 0 ci ∧ (∀ k, k < W0.heap.size → k ≠ gi → wr.heap[k]? = W0.heap[k]?) ∧ Below w.heap.size w wr) := ⟨by
      obtain ⟨ci, c1, c2, c3, c4⟩ := HJ.out
      rw [if_pos hi] at c2
      subst c2
      refine ⟨_, c1, ?_, c3, c4⟩
      rw [hi, ← HA.out, ← HB.out]
      exact RowTold.last a b⟩
     have hl0 : decide ((i : Int) < (la : Int)) = false := decide_eq_false (by omega)
     have hl1 : decide (i < la) = false := decide_eq_false (by omega)
     have HI := Aside0.mk hi
     clear hi HJ
     by_cases hy0 : 0 ≤ y
     ·have hyb : decide (0 ≤ y) = true := decide_eq_true hy0
      clear hy0 hy
      go_wp2
      go_roundw
      case rel => exact ⟨(i : Int) - 1, i, by go_num, rfl, by omega, ⟨_, by obtain ⟨ci, c1, c2, c3, c4⟩ := HE.out; exact ⟨HFin.out _ ci c1 c2 c3, c4⟩⟩⟩
      case measure => first | (simp [intOf]; done) | (simp [intOf]; omega)
     ·have hyb : decide (0 ≤ y) = false := decide_eq_false hy0
      clear hy0 hy
      go_wp2
      go_roundw
      case rel => exact ⟨(i : Int) - 1, i, by go_num, rfl, by omega, ⟨_, by obtain ⟨ci, c1, c2, c3, c4⟩ := HE.out; exact ⟨HFin.out _ ci c1 c2 c3, c4⟩⟩⟩
      case measure => first | (simp [intOf]; done) | (simp [intOf]; omega)
    ·have hil2 : i < la := by omega
     cases q with
     | zero =>
      obtain rfl : y = -1 := by omega
      have HE : Aside0 (∃ ci, wr.heap[gi]? = some (.cells ci 3 (0, 0)) ∧ RowTold a b i 0 ci ∧ (∀ k, k < W0.heap.size → k ≠ gi → wr.heap[k]? = W0.heap[k]?) ∧ Below w.heap.size w wr) := ⟨by
       obtain ⟨ci, c1, c2, c3, c4⟩ := HJ.out
       rw [if_neg hi] at c2
       exact ⟨_, c1, c2, c3, c4⟩⟩
      clear hy HJ hi
      go_wp2
      go_roundw
      case rel => exact ⟨(i : Int) - 1, i, by go_num, rfl, by omega, ⟨_, by obtain ⟨ci, c1, c2, c3, c4⟩ := HE.out; exact ⟨HFin.out _ ci c1 c2 c3, c4⟩⟩⟩
      case measure => first | (simp [intOf]; done) | (simp [intOf]; omega)
     | succ j =>
      obtain rfl : y = (j : Int) := by omega
      obtain ⟨ci, c1, c2, c3, c4⟩ := HJ.out
      rw [if_neg hi] at c2
      have HR := Aside0.mk c2
      have HGi := Aside0.mk c1
      have HK := Aside0.mk c3
      have KB := Aside0.mk c4
      have HO := Aside0.mk ((c3 _ (blk_lt HO0.out) (Nat.ne_of_lt HGb.out)).trans HO0.out)
      have HOi : Aside0 ((cur.setIfInBounds i (.slice (some ⟨gi, 0, none⟩) (lb + 1) (lb + 1)))[i]? = some (.slice (some ⟨gi, 0, none⟩) (lb + 1) (lb + 1))) := ⟨Array.getElem?_setIfInBounds_self_of_lt HLT.out⟩
      obtain ⟨e1, e2, cn, e3, e4⟩ := HOr.out (i + 1) (Nat.le_refl _) (by rw [HA.out]; exact hil2)
      obtain ⟨g1, g2⟩ := HGr.out (i + 1) (Nat.le_refl _) (by rw [HA.out]; exact hil2)
      rw [HB.out] at e1
      obtain ⟨gn, hgn⟩ : ∃ g, G (i + 1) = g := ⟨_, rfl⟩
      rw [hgn] at e1 e2 e3 g1 g2
      have HOn : Aside0 ((cur.setIfInBounds i (.slice (some ⟨gi, 0, none⟩) (lb + 1) (lb + 1)))[i + 1]? = some (.slice (some ⟨gn, 0, none⟩) (lb + 1) (lb + 1))) := ⟨by rw [Array.getElem?_setIfInBounds_ne (by omega)]; exact e1⟩
      have HGn := Aside0.mk ((c3 gn (blk_lt (g1.trans e3)) (by omega)).trans (g1.trans e3))
      have HNe := Aside0.mk (show gn ≠ gi by omega)
      have HPc : Aside0 (j < ci.size) := ⟨by rw [c2.1, HB.out]; omega⟩
      obtain ⟨L1, hL1⟩ : ∃ L, lcs (a.drop (i + 1)) (b.drop j) = L := ⟨_, rfl⟩
      obtain ⟨L2, hL2⟩ : ∃ L, lcs (a.drop i) (b.drop (j + 1)) = L := ⟨_, rfl⟩
      obtain ⟨L3, hL3⟩ : ∃ L, lcs (a.drop (i + 1)) (b.drop (j + 1)) = L := ⟨_, rfl⟩
      have HV1 : Aside0 (cn[j]? = some (.int .i64 (L1 : Int))) := ⟨by rw [← hL1]; exact e4.2 j (Nat.zero_le _) (by rw [HB.out]; omega)⟩
      have HV2 : Aside0 (ci[j + 1]? = some (.int .i64 (L2 : Int))) := ⟨by rw [← hL2]; exact c2.2 (j + 1) (Nat.le_refl _) (by rw [HB.out]; omega)⟩
      have HV3 : Aside0 (cn[j + 1]? = some (.int .i64 (L3 : Int))) := ⟨by rw [← hL3]; exact e4.2 (j + 1) (Nat.zero_le _) (by rw [HB.out]; omega)⟩
      have hb3 : (L3 : Int) ≤ 200 := by have h_ := lcs_le (a.drop (i + 1)) (b.drop (j + 1)); rw [hL3, List.length_drop, HA.out] at h_; omega
      have HL := Aside0.mk (lcs_step a b i j (by rw [HA.out]; exact hil2) (by rw [HB.out]; omega))
      have HL1 := Aside0.mk hL1
      have HL2 := Aside0.mk hL2
      have HL3 := Aside0.mk hL3
      have q0 : (0 : Int) ≤ (j : Int) := Int.natCast_nonneg _
      have q1 : (j : Int) < (lb : Int) := by omega
      have q2 : (i : Int) < (la : Int) := by omega
      have HJl := Aside0.mk (show j ≤ b.length by rw [HB.out]; omega)
      have HIl := Aside0.mk hil2
      have HNi := Aside0.mk hi
      clear c1 c2 c3 c4 e1 e2 e3 e4 g1 g2 hL1 hL2 hL3 hgn hy HJ hi
      have r1 : (i : Int) + 1 < (la : Int) + 1 := by omega
      have r2 : (j : Int) + 1 < (lb : Int) + 1 := by omega
      have r3 : (j : Int) < (lb : Int) + 1 := by omega
      have r4 : (0 : Int) ≤ (i : Int) + 1 := by omega
      have r5 : (0 : Int) ≤ (j : Int) + 1 := by omega
      have s1 : IntKind.i64.wrap ((i : Int) + 1) = (i : Int) + 1 := by rw [IntKind.wrap_i64]; omega
      have s2 : IntKind.i64.wrap ((j : Int) + 1) = (j : Int) + 1 := by rw [IntKind.wrap_i64]; omega
      have s5 : wrap64 ((i : Int) + 1) = (i : Int) + 1 := by rw [← i64_w]; exact s1
      have s6 : wrap64 ((j : Int) + 1) = (j : Int) + 1 := by rw [← i64_w]; exact s2
      have s3 : ((i : Int) + 1).toNat = i + 1 := by omega
      have s4 : ((j : Int) + 1).toNat = j + 1 := by omega
      have s7 : IntKind.i64.wrap ((L3 : Int) + 1) = (L3 : Int) + 1 := by rw [IntKind.wrap_i64]; omega
      have s8 : wrap64 ((L3 : Int) + 1) = (L3 : Int) + 1 := by rw [← i64_w]; exact s7
      obtain ⟨Lm, hLm⟩ : ∃ L : Int, (if L1 < L2 then (L2 : Int) else (L1 : Int)) = L := ⟨_, rfl⟩
      go_upto_region 9 with fail
      refine start_ (n := 24) (S := fun w' => w'.cell? ⟨w.heap.size, i, none⟩ = some (.slice (some ⟨gi, 0, none⟩) (lb + 1) (lb + 1)) ∧ w'.cell? ⟨w.heap.size, i + 1, none⟩ = some (.slice (some ⟨gn, 0, none⟩) (lb + 1) (lb + 1)) ∧ w'.cell? ⟨gn, j, none⟩ = some (.int .i64 (L1 : Int)) ∧ w'.cell? ⟨gi, j + 1, none⟩ = some (.int .i64 (L2 : Int))) (ds := [23]) #[false, false, false, false, false, false, false, false, false, false, false, false, false, false, false, false, false, false, false, false, false, false, false, false] (by kernel_rfl) rfl rfl ⟨(blk_cell (blk_drew HO.out) i).trans HOi.out, (blk_cell (blk_drew HO.out) (i + 1)).trans HOn.out, (blk_cell (blk_drew HGn.out) j).trans HV1.out, (blk_cell (blk_drew HGi.out) (j + 1)).trans HV2.out⟩ (fun hHeld => ?_)
      refine pure_ (i := 0) (N := some 38) (v := ?_) (a' := ?_) #[true, false, false, false, false, false, false, false, false, false, false, false, false, false, false, false, false, false, false, false, false, false, false, false] rfl rfl (by kernel_rfl) (fun _ _ _ h => h) (Or.inl ⟨by rfl, ?_⟩) ?_ ?_
      rotate_left
      ·intro w'
       go_simp
       with_reducible rfl
      rotate_left
      ·simp only [Act.put, List.setIfInBounds_toArray, List.set_cons_zero, List.set_cons_succ, i64_w, i32_w]
       rfl
      refine pure_ (i := 1) (N := some 39) (v := ?_) (a' := ?_) #[true, true, false, false, false, false, false, false, false, false, false, false, false, false, false, false, false, false, false, false, false, false, false, false] rfl rfl (by kernel_rfl) (fun _ _ _ h => h) (Or.inl ⟨by rfl, ?_⟩) ?_ ?_
      rotate_left
      ·intro w'
       go_simp
       with_reducible rfl
      rotate_left
      ·simp only [Act.put, List.setIfInBounds_toArray, List.set_cons_zero, List.set_cons_succ, i64_w, i32_w]
       rfl
      refine pure_ (i := 2) (N := some 40) (v := ?_) (a' := ?_) #[true, true, true, false, false, false, false, false, false, false, false, false, false, false, false, false, false, false, false, false, false, false, false, false] rfl rfl (by kernel_rfl) (fun _ _ _ h => h) (Or.inl ⟨by rfl, ?_⟩) ?_ ?_
      rotate_left
      ·intro w'
       go_simp
       with_reducible rfl
      rotate_left
      ·simp only [Act.put, List.setIfInBounds_toArray, List.set_cons_zero, List.set_cons_succ, i64_w, i32_w]
       rfl
      refine pure_ (i := 4) (N := some 42) (v := ?_) (a' := ?_) #[true, true, true, false, true, false, false, false, false, false, false, false, false, false, false, false, false, false, false, false, false, false, false, false] rfl rfl (by kernel_rfl) (fun _ _ _ h => h) (Or.inl ⟨by rfl, ?_⟩) ?_ ?_
      rotate_left
      ·intro w'
       go_simp
       with_reducible rfl
      rotate_left
      ·simp only [Act.put, List.setIfInBounds_toArray, List.set_cons_zero, List.set_cons_succ, i64_w, i32_w]
       rfl
      refine pure_ (i := 5) (N := some 43) (v := ?_) (a' := ?_) #[true, true, true, false, true, true, false, false, false, false, false, false, false, false, false, false, false, false, false, false, false, false, false, false] rfl rfl (by kernel_rfl) (fun _ _ _ h => h) (Or.inl ⟨by rfl, ?_⟩) ?_ ?_
      rotate_left
      ·intro w'
       go_simp
       with_reducible rfl
      rotate_left
      ·simp only [Act.put, List.setIfInBounds_toArray, List.set_cons_zero, List.set_cons_succ, i64_w, i32_w]
       rfl
      refine pure_ (i := 6) (N := some 44) (v := ?_) (a' := ?_) #[true, true, true, false, true, true, true, false, false, false, false, false, false, false, false, false, false, false, false, false, false, false, false, false] rfl rfl (by kernel_rfl) (fun _ _ _ h => h) (Or.inl ⟨by rfl, ?_⟩) ?_ ?_
      rotate_left
      ·intro w'
       go_simp
       with_reducible rfl
      rotate_left
      ·simp only [Act.put, List.setIfInBounds_toArray, List.set_cons_zero, List.set_cons_succ, i64_w, i32_w]
       rfl
      refine pure_ (i := 7) (N := some 45) (v := ?_) (a' := ?_) #[true, true, true, false, true, true, true, true, false, false, false, false, false, false, false, false, false, false, false, false, false, false, false, false] rfl rfl (by kernel_rfl) (fun _ _ _ h => h) (Or.inl ⟨by rfl, ?_⟩) ?_ ?_
      rotate_left
      ·intro w'
       go_simp
       with_reducible rfl
      rotate_left
      ·simp only [Act.put, List.setIfInBounds_toArray, List.set_cons_zero, List.set_cons_succ, i64_w, i32_w]
       rfl
      refine pure_ (i := 8) (N := some 46) (v := ?_) (a' := ?_) #[true, true, true, false, true, true, true, true, true, false, false, false, false, false, false, false, false, false, false, false, false, false, false, false] rfl rfl (by kernel_rfl) (fun _ _ _ h => h) (Or.inl ⟨by rfl, ?_⟩) ?_ ?_
      rotate_left
      ·intro w'
       go_simp
       with_reducible rfl
      rotate_left
      ·simp only [Act.put, List.setIfInBounds_toArray, List.set_cons_zero, List.set_cons_succ, i64_w, i32_w]
       rfl
      refine pure_ (i := 10) (N := some 48) (v := ?_) (a' := ?_) #[true, true, true, false, true, true, true, true, true, false, true, false, false, false, false, false, false, false, false, false, false, false, false, false] rfl rfl (by kernel_rfl) (fun _ _ _ h => h) (Or.inl ⟨by rfl, ?_⟩) ?_ ?_
      rotate_left
      ·intro w'
       go_simp
       with_reducible rfl
      rotate_left
      ·simp only [Act.put, List.setIfInBounds_toArray, List.set_cons_zero, List.set_cons_succ, i64_w, i32_w]
       rfl
      refine pure_ (i := 13) (N := some 51) (v := ?_) (a' := ?_) #[true, true, true, false, true, true, true, true, true, false, true, false, false, true, false, false, false, false, false, false, false, false, false, false] rfl rfl (by kernel_rfl) (fun _ _ _ h => h) (Or.inl ⟨by rfl, ?_⟩) ?_ ?_
      rotate_left
      ·intro w'
       go_simp
       with_reducible rfl
      rotate_left
      ·simp only [Act.put, List.setIfInBounds_toArray, List.set_cons_zero, List.set_cons_succ, i64_w, i32_w]
       rfl
      refine pure_ (i := 14) (N := some 52) (v := ?_) (a' := ?_) #[true, true, true, false, true, true, true, true, true, false, true, false, false, true, true, false, false, false, false, false, false, false, false, false] rfl rfl (by kernel_rfl) (fun _ _ _ h => h) (Or.inl ⟨by rfl, ?_⟩) ?_ ?_
      rotate_left
      ·intro w'
       go_simp
       with_reducible rfl
      rotate_left
      ·simp only [Act.put, List.setIfInBounds_toArray, List.set_cons_zero, List.set_cons_succ, i64_w, i32_w]
       rfl
      refine pure_ (i := 15) (N := some 53) (v := ?_) (a' := ?_) #[true, true, true, false, true, true, true, true, true, false, true, false, false, true, true, true, false, false, false, false, false, false, false, false] rfl rfl (by kernel_rfl) (fun _ _ _ h => h) (Or.inl ⟨by rfl, ?_⟩) ?_ ?_
      rotate_left
      ·intro w'
       go_simp
       with_reducible rfl
      rotate_left
      ·simp only [Act.put, List.setIfInBounds_toArray, List.set_cons_zero, List.set_cons_succ, i64_w, i32_w]
       rfl
      refine pure_ (i := 17) (N := some 55) (v := ?_) (a' := ?_) #[true, true, true, false, true, true, true, true, true, false, true, false, false, true, true, true, false, true, false, false, false, false, false, false] rfl rfl (by kernel_rfl) (fun _ _ _ h => h) (Or.inl ⟨by rfl, ?_⟩) ?_ ?_
      rotate_left
      ·intro w'
       go_simp
       with_reducible rfl
      rotate_left
      ·simp only [Act.put, List.setIfInBounds_toArray, List.set_cons_zero, List.set_cons_succ, i64_w, i32_w]
       rfl
      refine pure_ (i := 18) (N := some 56) (v := ?_) (a' := ?_) #[true, true, true, false, true, true, true, true, true, false, true, false, false, true, true, true, false, true, true, false, false, false, false, false] rfl rfl (by kernel_rfl) (fun _ _ _ h => h) (Or.inl ⟨by rfl, ?_⟩) ?_ ?_
      rotate_left
      ·intro w'
       go_simp
       with_reducible rfl
      rotate_left
      ·simp only [Act.put, List.setIfInBounds_toArray, List.set_cons_zero, List.set_cons_succ, i64_w, i32_w]
       rfl
      refine take_ (i := 3) (N := some 41) (v := ?_) (a' := ?_) #[true, true, true, true, true, true, true, true, true, false, true, false, false, true, true, true, false, true, true, false, false, false, false, false] rfl rfl (by kernel_rfl) (fun _ _ _ h => h) (Or.inl ⟨by rfl, ?_⟩) hHeld ?_ ?_
      rotate_left
      ·rintro w' ⟨s0, s1, s2, s3⟩
       go_simp
       with_reducible rfl
      rotate_left
      ·simp only [Act.put, List.setIfInBounds_toArray, List.set_cons_zero, List.set_cons_succ, i64_w, i32_w]
       rfl
      refine take_ (i := 9) (N := some 47) (v := ?_) (a' := ?_) #[true, true, true, true, true, true, true, true, true, true, true, false, false, true, true, true, false, true, true, false, false, false, false, false] rfl rfl (by kernel_rfl) (fun _ _ _ h => h) (Or.inl ⟨by rfl, ?_⟩) hHeld ?_ ?_
      rotate_left
      ·rintro w' ⟨s0, s1, s2, s3⟩
       go_simp
       with_reducible rfl
      rotate_left
      ·simp only [Act.put, List.setIfInBounds_toArray, List.set_cons_zero, List.set_cons_succ, i64_w, i32_w]
       rfl
      refine pure_ (i := 11) (N := some 49) (v := ?_) (a' := ?_) #[true, true, true, true, true, true, true, true, true, true, true, true, false, true, true, true, false, true, true, false, false, false, false, false] rfl rfl (by kernel_rfl) (fun _ _ _ h => h) (Or.inl ⟨by rfl, ?_⟩) ?_ ?_
      rotate_left
      ·intro w'
       go_simp
       with_reducible rfl
      rotate_left
      ·simp only [Act.put, List.setIfInBounds_toArray, List.set_cons_zero, List.set_cons_succ, i64_w, i32_w]
       rfl
      refine take_ (i := 12) (N := some 50) (v := ?_) (a' := ?_) #[true, true, true, true, true, true, true, true, true, true, true, true, true, true, true, true, false, true, true, false, false, false, false, false] rfl rfl (by kernel_rfl) (fun _ _ _ h => h) (Or.inl ⟨by rfl, ?_⟩) hHeld ?_ ?_
      rotate_left
      ·rintro w' ⟨s0, s1, s2, s3⟩
       go_simp
       with_reducible rfl
      rotate_left
      ·simp only [Act.put, List.setIfInBounds_toArray, List.set_cons_zero, List.set_cons_succ, i64_w, i32_w]
       rfl
      refine take_ (i := 16) (N := some 54) (v := ?_) (a' := ?_) #[true, true, true, true, true, true, true, true, true, true, true, true, true, true, true, true, true, true, true, false, false, false, false, false] rfl rfl (by kernel_rfl) (fun _ _ _ h => h) (Or.inl ⟨by rfl, ?_⟩) hHeld ?_ ?_
      rotate_left
      ·rintro w' ⟨s0, s1, s2, s3⟩
       go_simp
       with_reducible rfl
      rotate_left
      ·simp only [Act.put, List.setIfInBounds_toArray, List.set_cons_zero, List.set_cons_succ, i64_w, i32_w]
       rfl
      refine pure_ (i := 19) (N := some 57) (v := ?_) (a' := ?_) #[true, true, true, true, true, true, true, true, true, true, true, true, true, true, true, true, true, true, true, true, false, false, false, false] rfl rfl (by kernel_rfl) (fun _ _ _ h => h) (Or.inl ⟨by rfl, ?_⟩) ?_ ?_
      rotate_left
      ·intro w'
       go_simp
       with_reducible rfl
      rotate_left
      ·simp only [Act.put, List.setIfInBounds_toArray, List.set_cons_zero, List.set_cons_succ, i64_w, i32_w]
       rfl
      refine take_ (i := 20) (N := some 58) (v := ?_) (a' := ?_) #[true, true, true, true, true, true, true, true, true, true, true, true, true, true, true, true, true, true, true, true, true, false, false, false] rfl rfl (by kernel_rfl) (fun _ _ _ h => h) (Or.inl ⟨by rfl, ?_⟩) hHeld ?_ ?_
      rotate_left
      ·rintro w' ⟨s0, s1, s2, s3⟩
       go_simp
       with_reducible rfl
      rotate_left
      ·simp only [Act.put, List.setIfInBounds_toArray, List.set_cons_zero, List.set_cons_succ, i64_w, i32_w]
       rfl
      refine pure_ (i := 21) (N := some 59) (v := ?_) (a' := ?_) #[true, true, true, true, true, true, true, true, true, true, true, true, true, true, true, true, true, true, true, true, true, true, false, false] rfl rfl (by kernel_rfl) (fun _ _ _ h => h) (Or.inl ⟨by rfl, ?_⟩) ?_ ?_
      rotate_left
      ·intro w'
       go_simp
       with_reducible rfl
      rotate_left
      ·simp only [Act.put, List.setIfInBounds_toArray, List.set_cons_zero, List.set_cons_succ, i64_w, i32_w]
       rfl
      refine pure_ (i := 22) (N := some 60) (v := ?_) (a' := ?_) #[true, true, true, true, true, true, true, true, true, true, true, true, true, true, true, true, true, true, true, true, true, true, true, false] rfl rfl (by kernel_rfl) (fun _ _ _ h => h) (Or.inl ⟨by rfl, ?_⟩) ?_ ?_
      rotate_left
      ·intro w'
       go_simp
       with_reducible rfl
      rotate_left
      ·simp only [Act.put, List.setIfInBounds_toArray, List.set_cons_zero, List.set_cons_succ, i64_w, i32_w]
       rfl
      refine last_ (i := 23) (N := none) #[true, true, true, true, true, true, true, true, true, true, true, true, true, true, true, true, true, true, true, true, true, true, true, true] rfl rfl (by kernel_rfl) (by decide) (fun K hK => ?_)
      have hs_ := (blk_cell (blk_drew HGi.out) j).trans (Array.getElem?_eq_getElem HPc.out)
      have hf_ := blk_frozen (blk_drew HGi.out) j
      refine skip_ (w1 := ?_) (by rfl) rfl ?_ ?_
      rotate_left
      ·go_simp
       rfl
      refine hK.out _ _ ?_
      clear hK K
      refine done_ (by kernel_rfl) ?_
      have HLm := Aside0.mk hLm
      clear hLm
      have HG9 := Aside0.mk (blk_drew (blk_set HGi.out j (.int .i64 Lm)))
      have HO9 := Aside0.mk (blk_drew (blk_far (p := ⟨gi, j, none⟩) HO.out (Nat.ne_of_lt HGb.out) (.int .i64 Lm)))
      have HN9 := Aside0.mk (blk_drew (blk_far (p := ⟨gi, j, none⟩) HGn.out HNe.out (.int .i64 Lm)))
      have KB9 := Aside0.mk (below_drew1 (KB.out.setCell (p := ⟨gi, j, none⟩) (Nat.le_of_lt HGb.out) (.int .i64 Lm)))
      have HK9 : Aside0 (∀ k, k < W0.heap.size → k ≠ gi → ((wr.setCell ⟨gi, j, none⟩ (.int .i64 Lm)).drew).heap[k]? = W0.heap[k]?) := ⟨fun k h1 h2 => (Below.heap_setCell _ _ _ _ h2).trans (HK.out k h1 h2)⟩
      obtain ⟨W9, hW9⟩ : ∃ W : World, (wr.setCell ⟨gi, j, none⟩ (.int .i64 Lm)).drew = W := ⟨_, rfl⟩
      rw [hW9] at HG9 HO9 HN9 KB9 HK9 ⊢
      clear hW9 HGi HO HGn KB HK
      obtain ⟨ad0, e0, hx0⟩ := Kd.at_string (Kd.C_below HC0.out KB9.out) (i : Int) p0 q2
      obtain ⟨ad1, e1, hx1⟩ := Kd.at_string (Kd.C_below HC1.out KB9.out) (j : Int) q0 q1
      cases e0
      cases e1
      simp only [Int.toNat_natCast] at hx0 hx1
      by_cases hq : rdOf ByteArray.empty a (i : Int) = rdOf ByteArray.empty b (j : Int)
      ·have hqb : ((rdOf ByteArray.empty a (i : Int)).toList == (rdOf ByteArray.empty b (j : Int)).toList) = true := by rw [toList_eq]; exact decide_eq_true hq
       have HQ := Aside0.mk hq
       clear hq
       go_wp2
       go_quiet (fail)
       go_upto_region 11 with fail
       obtain ⟨wc, hnq⟩ : ∃ W : World, W = W9.drewN nq := ⟨_, rfl⟩
       rw [← hnq]
       have HGi := Aside0.mk (blk_drewN HG9.out nq)
       have HO := Aside0.mk (blk_drewN HO9.out nq)
       have HGn := Aside0.mk (blk_drewN HN9.out nq)
       have KB := Aside0.mk (pw_below_drewN KB9.out nq)
       have HK : Aside0 (∀ k, k < W0.heap.size → k ≠ gi → (W9.drewN nq).heap[k]? = W0.heap[k]?) := ⟨HK9.out⟩
       rw [← hnq] at HGi HO HGn KB HK
       have HPc : Aside0 (j < (ci.setIfInBounds j (.int .i64 Lm)).size) := ⟨by simpa using HPc.out⟩
       clear hnq HG9 HO9 HN9 KB9 HK9 hx0 hx1
       refine start_ (n := 17) (S := fun w' => w'.cell? ⟨w.heap.size, i, none⟩ = some (.slice (some ⟨gi, 0, none⟩) (lb + 1) (lb + 1)) ∧ w'.cell? ⟨w.heap.size, i + 1, none⟩ = some (.slice (some ⟨gn, 0, none⟩) (lb + 1) (lb + 1)) ∧ w'.cell? ⟨gn, j + 1, none⟩ = some (.int .i64 (L3 : Int))) (ds := [16]) #[false, false, false, false, false, false, false, false, false, false, false, false, false, false, false, false, false] (by kernel_rfl) rfl rfl ⟨(blk_cell (blk_drew HO.out) i).trans HOi.out, (blk_cell (blk_drew HO.out) (i + 1)).trans HOn.out, (blk_cell (blk_drew HGn.out) (j + 1)).trans HV3.out⟩ (fun hHeld => ?_)
       refine pure_ (i := 0) (N := some 70) (v := ?_) (a' := ?_) #[true, false, false, false, false, false, false, false, false, false, false, false, false, false, false, false, false] rfl rfl (by kernel_rfl) (fun _ _ _ h => h) (Or.inl ⟨by rfl, ?_⟩) ?_ ?_
       rotate_left
       ·intro w'
        go_simp
        with_reducible rfl
       rotate_left
       ·simp only [Act.put, List.setIfInBounds_toArray, List.set_cons_zero, List.set_cons_succ, i64_w, i32_w]
        rfl
       refine pure_ (i := 1) (N := some 71) (v := ?_) (a' := ?_) #[true, true, false, false, false, false, false, false, false, false, false, false, false, false, false, false, false] rfl rfl (by kernel_rfl) (fun _ _ _ h => h) (Or.inl ⟨by rfl, ?_⟩) ?_ ?_
       rotate_left
       ·intro w'
        go_simp
        with_reducible rfl
       rotate_left
       ·simp only [Act.put, List.setIfInBounds_toArray, List.set_cons_zero, List.set_cons_succ, i64_w, i32_w]
        rfl
       refine pure_ (i := 2) (N := some 72) (v := ?_) (a' := ?_) #[true, true, true, false, false, false, false, false, false, false, false, false, false, false, false, false, false] rfl rfl (by kernel_rfl) (fun _ _ _ h => h) (Or.inl ⟨by rfl, ?_⟩) ?_ ?_
       rotate_left
       ·intro w'
        go_simp
        with_reducible rfl
       rotate_left
       ·simp only [Act.put, List.setIfInBounds_toArray, List.set_cons_zero, List.set_cons_succ, i64_w, i32_w]
        rfl
       refine pure_ (i := 4) (N := some 74) (v := ?_) (a' := ?_) #[true, true, true, false, true, false, false, false, false, false, false, false, false, false, false, false, false] rfl rfl (by kernel_rfl) (fun _ _ _ h => h) (Or.inl ⟨by rfl, ?_⟩) ?_ ?_
       rotate_left
       ·intro w'
        go_simp
        with_reducible rfl
       rotate_left
       ·simp only [Act.put, List.setIfInBounds_toArray, List.set_cons_zero, List.set_cons_succ, i64_w, i32_w]
        rfl
       refine pure_ (i := 5) (N := some 75) (v := ?_) (a' := ?_) #[true, true, true, false, true, true, false, false, false, false, false, false, false, false, false, false, false] rfl rfl (by kernel_rfl) (fun _ _ _ h => h) (Or.inl ⟨by rfl, ?_⟩) ?_ ?_
       rotate_left
       ·intro w'
        go_simp
        with_reducible rfl
       rotate_left
       ·simp only [Act.put, List.setIfInBounds_toArray, List.set_cons_zero, List.set_cons_succ, i64_w, i32_w]
        rfl
       refine pure_ (i := 6) (N := some 76) (v := ?_) (a' := ?_) #[true, true, true, false, true, true, true, false, false, false, false, false, false, false, false, false, false] rfl rfl (by kernel_rfl) (fun _ _ _ h => h) (Or.inl ⟨by rfl, ?_⟩) ?_ ?_
       rotate_left
       ·intro w'
        go_simp
        with_reducible rfl
       rotate_left
       ·simp only [Act.put, List.setIfInBounds_toArray, List.set_cons_zero, List.set_cons_succ, i64_w, i32_w]
        rfl
       refine pure_ (i := 7) (N := some 77) (v := ?_) (a' := ?_) #[true, true, true, false, true, true, true, true, false, false, false, false, false, false, false, false, false] rfl rfl (by kernel_rfl) (fun _ _ _ h => h) (Or.inl ⟨by rfl, ?_⟩) ?_ ?_
       rotate_left
       ·intro w'
        go_simp
        with_reducible rfl
       rotate_left
       ·simp only [Act.put, List.setIfInBounds_toArray, List.set_cons_zero, List.set_cons_succ, i64_w, i32_w]
        rfl
       refine pure_ (i := 8) (N := some 78) (v := ?_) (a' := ?_) #[true, true, true, false, true, true, true, true, true, false, false, false, false, false, false, false, false] rfl rfl (by kernel_rfl) (fun _ _ _ h => h) (Or.inl ⟨by rfl, ?_⟩) ?_ ?_
       rotate_left
       ·intro w'
        go_simp
        with_reducible rfl
       rotate_left
       ·simp only [Act.put, List.setIfInBounds_toArray, List.set_cons_zero, List.set_cons_succ, i64_w, i32_w]
        rfl
       refine pure_ (i := 10) (N := some 80) (v := ?_) (a' := ?_) #[true, true, true, false, true, true, true, true, true, false, true, false, false, false, false, false, false] rfl rfl (by kernel_rfl) (fun _ _ _ h => h) (Or.inl ⟨by rfl, ?_⟩) ?_ ?_
       rotate_left
       ·intro w'
        go_simp
        with_reducible rfl
       rotate_left
       ·simp only [Act.put, List.setIfInBounds_toArray, List.set_cons_zero, List.set_cons_succ, i64_w, i32_w]
        rfl
       refine pure_ (i := 11) (N := some 81) (v := ?_) (a' := ?_) #[true, true, true, false, true, true, true, true, true, false, true, true, false, false, false, false, false] rfl rfl (by kernel_rfl) (fun _ _ _ h => h) (Or.inl ⟨by rfl, ?_⟩) ?_ ?_
       rotate_left
       ·intro w'
        go_simp
        with_reducible rfl
       rotate_left
       ·simp only [Act.put, List.setIfInBounds_toArray, List.set_cons_zero, List.set_cons_succ, i64_w, i32_w]
        rfl
       refine take_ (i := 3) (N := some 73) (v := ?_) (a' := ?_) #[true, true, true, true, true, true, true, true, true, false, true, true, false, false, false, false, false] rfl rfl (by kernel_rfl) (fun _ _ _ h => h) (Or.inl ⟨by rfl, ?_⟩) hHeld ?_ ?_
       rotate_left
       ·rintro w' ⟨s0, s1, s2⟩
        go_simp
        with_reducible rfl
       rotate_left
       ·simp only [Act.put, List.setIfInBounds_toArray, List.set_cons_zero, List.set_cons_succ, i64_w, i32_w]
        rfl
       refine take_ (i := 9) (N := some 79) (v := ?_) (a' := ?_) #[true, true, true, true, true, true, true, true, true, true, true, true, false, false, false, false, false] rfl rfl (by kernel_rfl) (fun _ _ _ h => h) (Or.inl ⟨by rfl, ?_⟩) hHeld ?_ ?_
       rotate_left
       ·rintro w' ⟨s0, s1, s2⟩
        go_simp
        with_reducible rfl
       rotate_left
       ·simp only [Act.put, List.setIfInBounds_toArray, List.set_cons_zero, List.set_cons_succ, i64_w, i32_w]
        rfl
       refine pure_ (i := 12) (N := some 82) (v := ?_) (a' := ?_) #[true, true, true, true, true, true, true, true, true, true, true, true, true, false, false, false, false] rfl rfl (by kernel_rfl) (fun _ _ _ h => h) (Or.inl ⟨by rfl, ?_⟩) ?_ ?_
       rotate_left
       ·intro w'
        go_simp
        with_reducible rfl
       rotate_left
       ·simp only [Act.put, List.setIfInBounds_toArray, List.set_cons_zero, List.set_cons_succ, i64_w, i32_w]
        rfl
       refine take_ (i := 13) (N := some 83) (v := ?_) (a' := ?_) #[true, true, true, true, true, true, true, true, true, true, true, true, true, true, false, false, false] rfl rfl (by kernel_rfl) (fun _ _ _ h => h) (Or.inl ⟨by rfl, ?_⟩) hHeld ?_ ?_
       rotate_left
       ·rintro w' ⟨s0, s1, s2⟩
        go_simp
        with_reducible rfl
       rotate_left
       ·simp only [Act.put, List.setIfInBounds_toArray, List.set_cons_zero, List.set_cons_succ, i64_w, i32_w]
        rfl
       refine pure_ (i := 14) (N := some 84) (v := ?_) (a' := ?_) #[true, true, true, true, true, true, true, true, true, true, true, true, true, true, true, false, false] rfl rfl (by kernel_rfl) (fun _ _ _ h => h) (Or.inl ⟨by rfl, ?_⟩) ?_ ?_
       rotate_left
       ·intro w'
        go_simp
        with_reducible rfl
       rotate_left
       ·simp only [Act.put, List.setIfInBounds_toArray, List.set_cons_zero, List.set_cons_succ, i64_w, i32_w]
        rfl
       refine pure_ (i := 15) (N := some 85) (v := ?_) (a' := ?_) #[true, true, true, true, true, true, true, true, true, true, true, true, true, true, true, true, false] rfl rfl (by kernel_rfl) (fun _ _ _ h => h) (Or.inl ⟨by rfl, ?_⟩) ?_ ?_
       rotate_left
       ·intro w'
        go_simp
        with_reducible rfl
       rotate_left
       ·simp only [Act.put, List.setIfInBounds_toArray, List.set_cons_zero, List.set_cons_succ, i64_w, i32_w]
        rfl
       refine last_ (i := 16) (N := none) #[true, true, true, true, true, true, true, true, true, true, true, true, true, true, true, true, true] rfl rfl (by kernel_rfl) (by decide) (fun K hK => ?_)
       have hs_ := (blk_cell (blk_drew HGi.out) j).trans (Array.getElem?_eq_getElem HPc.out)
       have hf_ := blk_frozen (blk_drew HGi.out) j
       refine skip_ (w1 := ?_) (by rfl) rfl ?_ ?_
       rotate_left
       ·go_simp
        rfl
       refine hK.out _ _ ?_
       clear hK K
       refine done_ (by kernel_rfl) ?_
       go_wp2_with fail
       go_roundw
       case rel => exact ⟨(j : Int) - 1, j, by go_num, rfl, by omega, ⟨_, blk_drew (blk_set HGi.out _ _), by rw [if_neg HNi.out]; exact RowTold.set (RowTold.unset HR.out _) HJl.out _ (by rw [HL.out, if_pos HQ.out, HL3.out]; omega), fun k h1 h2 => (Below.heap_setCell _ _ _ _ h2).trans (HK.out k h1 h2), below_drew1 (KB.out.setCell (Nat.le_of_lt HGb.out) _)⟩⟩
       case measure => first | (simp [intOf]; done) | (simp [intOf]; omega)
      ·have hqb : ((rdOf ByteArray.empty a (i : Int)).toList == (rdOf ByteArray.empty b (j : Int)).toList) = false := by rw [toList_eq]; exact decide_eq_false hq
       have HQ := Aside0.mk hq
       clear hq
       go_wp2
       go_quiet (fail)
       go_wp2_with fail
       go_roundw
       case rel => exact ⟨(j : Int) - 1, j, by go_num, rfl, by omega, ⟨_, HG9.out, by rw [if_neg HNi.out]; exact RowTold.set HR.out HJl.out _ (by rw [HL.out, if_neg HQ.out, HL1.out, HL2.out, ← HLm.out]; split <;> omega), HK9.out, pw_below_drewN KB9.out _⟩⟩
       case measure => first | (simp [intOf]; done) | (simp [intOf]; omega)
theorem stylusref51_rows.calls (A0 : Option Addr) (c0 : Nat) (l0 : List ByteArray) (A1 : Option Addr) (c1 : Nat) (l1 : List ByteArray) (r : List (List Int)) (w : World) (hr0 : Kd.C Kd.string w A0 l0.length l0) (hc0 : l0.length ≤ c0) (hr1 : Kd.C Kd.string w A1 l1.length l1) (hc1 : l1.length ≤ c1) (h : stylusref51_rows.f l0 l1 = some r) :
  Calls Tryd.prog 26 #[.slice A0 l0.length c0, .slice A1 l1.length c1] w fun e w' => ∃ v0_ : Value, e = .returned v0_ ∧ Kd.S (Kd.slice 3 (Kd.int .i64)) 43 w' w.heap.size (fun _ => True) v0_ r ∧ Below w.heap.size w w' := by
 unfold stylusref51_rows.f at h
 by_cases hm : l0.length ≤ 200 ∧ l1.length ≤ 200
 ·rw [if_pos hm] at h
  obtain rfl := Option.some.inj h
  exact stylusref51_rows.own A0 c0 _ l0 A1 c1 _ l1 w hr0 hr1 hm.1 hm.2
 ·rw [if_neg hm] at h
  cases h
end Go.Proofs.YtkbhnkagiaghnaaDoor.P
