import Derived.Test.YtkbhnkagiaghnaaDoorPx0
import Derived.Test.YtkbhnkagiaghnaaDoorPx1
namespace Go.Proofs.YtkbhnkagiaghnaaDoor.P
open Go.RowKit Go.Proofs.YtkbhnkagiaghnaaDoorW.PrintWords Go.Proofs.YtkbhnkagiaghnaaDoorW.PrintLast Go.Proofs.YtkbhnkagiaghnaaDoorW.PrintMore
attribute [local go_sem] max2_int min2_int max_two min_two max_three min_three max_four min_four   -- for this text's walks alone
set_option linter.unusedVariables false
set_option linter.unusedSimpArgs false
/-! ### hunks_reckon: function 34 -/
def lcsGo (x : ByteArray) (f : List ByteArray → Nat) : List ByteArray → Nat
 | [] => 0
 | y :: b => if x = y then f b + 1 else max (f (y :: b)) (lcsGo x f b)
def lcs : List ByteArray → List ByteArray → Nat
 | [], _ => 0
 | x :: a, b => lcsGo x (lcs a) b
theorem lcs_nil (b : List ByteArray) : lcs [] b = 0 := rfl
theorem lcs_end (a : List ByteArray) : lcs a [] = 0 := by cases a <;> rfl
theorem lcs_cons (x y : ByteArray) (a b : List ByteArray) : lcs (x :: a) (y :: b) = if x = y then lcs a b + 1 else max (lcs a (y :: b)) (lcs (x :: a) b) := rfl
theorem lcs_le : ∀ (a b : List ByteArray), lcs a b ≤ a.length
 | [], _ => Nat.le_refl _
 | x :: a, [] => by rw [lcs_end]; exact Nat.zero_le _
 | x :: a, y :: b => by
  rw [lcs_cons, List.length_cons]
  have h1 := lcs_le a b
  have h2 := lcs_le a (y :: b)
  have h3 := lcs_le (x :: a) b
  rw [List.length_cons] at h3
  split
  ·omega
  ·exact Nat.max_le.2 ⟨by omega, h3⟩
theorem toList_eq (x y : ByteArray) : (x.toList == y.toList) = decide (x = y) := by
 rw [Bool.eq_iff_iff, decide_eq_true_iff, beq_iff_eq]
 constructor
 ·intro h
  rw [ByteArray.toList_eq, ByteArray.toList_eq] at h
  exact ByteArray.ext (Array.ext' h)
 ·rintro rfl; rfl
set_option maxHeartbeats 4000000 in
set_option maxRecDepth 100000 in
theorem tab_at (gt gr i j wide n p : Nat) (I J v : Int) (w : World) (hI : I = (i : Int)) (hJ : J = (j : Int)) (h0 : w.cell? ⟨gt, 0, none⟩ = some (.int .i64 (wide : Int))) (h1 : w.cell? ⟨gt, 1, none⟩ = some (.slice (some ⟨gr, 0, none⟩) n n)) (hv : w.cell? ⟨gr, p, none⟩ = some (.int .i64 v)) (hp : i * wide + j = p) (hn : p < n) (hm : n ≤ 1000000) :
  Calls Tryd.prog 35 #[.pointer (some ⟨gt, 0, none⟩), .int .i64 I, .int .i64 J] w fun e w' => e = .returned (.int .i64 v) ∧ Drawn0 w w' := by
 subst hI
 subst hJ
 have huT := Tryd.underlying83
 obtain ⟨m, hm_⟩ : ∃ m, i * wide = m := ⟨_, rfl⟩
 rw [hm_] at hp
 have e1 : IntKind.i64.wrap ((i : Int) * (wide : Int)) = (m : Int) := by
  have : ((i * wide : Nat) : Int) = (i : Int) * (wide : Int) := Int.natCast_mul _ _
  rw [← this, hm_, IntKind.wrap_i64]; omega
 have e2 : IntKind.i64.wrap ((m : Int) + (j : Int)) = (p : Int) := by rw [IntKind.wrap_i64]; omega
 have b0 : (0 : Int) ≤ (p : Int) := Int.natCast_nonneg _
 have b1 : (p : Int) < (n : Int) := by omega
 clear hm_ hp hm
 go_enter Tryd.func35, Tryd.ntmps35
 go_wp2
 repeat (go_quiet (fail); try go_wp2)
 go_ret
 exact ⟨rfl, by repeat (first | exact Drawn0.refl _ | apply Drawn0.step)⟩
set_option maxHeartbeats 4000000 in
set_option maxRecDepth 100000 in
theorem tab_set (gt gr i j wide n p : Nat) (I J v : Int) (cur : Array Value) (w : World) (hI : I = (i : Int)) (hJ : J = (j : Int)) (h0 : w.heap[gt]? = some (.cells #[.int .i64 (wide : Int), .slice (some ⟨gr, 0, none⟩) n n] 83 (0, 0))) (h1 : w.heap[gr]? = some (.cells cur 3 (0, 0))) (hp : i * wide + j = p) (hn : p < n) (hc : cur.size = n) (hm : n ≤ 1000000) :
  Calls Tryd.prog 44 #[.pointer (some ⟨gt, 0, none⟩), .int .i64 I, .int .i64 J, .int .i64 v] w fun e w' => e = .returned (.tuple #[]) ∧ w' = w.drew.setCell ⟨gr, p, none⟩ (.int .i64 v) := by
 subst hI
 subst hJ
 have huT := Tryd.underlying83
 obtain ⟨m, hm_⟩ : ∃ m, i * wide = m := ⟨_, rfl⟩
 rw [hm_] at hp
 have e1 : IntKind.i64.wrap ((i : Int) * (wide : Int)) = (m : Int) := by
  have : ((i * wide : Nat) : Int) = (i : Int) * (wide : Int) := Int.natCast_mul _ _
  rw [← this, hm_, IntKind.wrap_i64]; omega
 have e2 : IntKind.i64.wrap ((m : Int) + (j : Int)) = (p : Int) := by rw [IntKind.wrap_i64]; omega
 have b0 : (0 : Int) ≤ (p : Int) := Int.natCast_nonneg _
 have b1 : (p : Int) < (n : Int) := by omega
 have HT := Aside0.mk (blk_drew h0)
 have HR := Aside0.mk (blk_drew h1)
 have HPc := Aside0.mk (show p < cur.size by omega)
 clear hm_ hp hm h0 h1 hc
 go_enter Tryd.func44, Tryd.ntmps44
 go_upto_region 0 with fail
 refine start_ (n := 15) (S := fun w' => w'.cell? ⟨gt, 0, none⟩ = some (.int .i64 (wide : Int)) ∧ w'.cell? ⟨gt, 1, none⟩ = some (.slice (some ⟨gr, 0, none⟩) n n)) (ds := [14]) #[false, false, false, false, false, false, false, false, false, false, false, false, false, false, false] (by kernel_rfl) rfl rfl ⟨(blk_cell HT.out 0).trans rfl, (blk_cell HT.out 1).trans rfl⟩ (fun hHeld => ?_)
 refine pure_ (i := 0) (N := some 8) (v := ?_) (a' := ?_) #[true, false, false, false, false, false, false, false, false, false, false, false, false, false, false] rfl rfl (by kernel_rfl) (fun _ _ _ h => h) (Or.inl ⟨by rfl, ?_⟩) ?_ ?_
 rotate_left
 ·intro w'
  go_simp
  with_reducible rfl
 rotate_left
 ·simp only [Act.put, List.setIfInBounds_toArray, List.set_cons_zero, List.set_cons_succ, i64_w, i32_w]
  rfl
 refine pure_ (i := 1) (N := some 9) (v := ?_) (a' := ?_) #[true, true, false, false, false, false, false, false, false, false, false, false, false, false, false] rfl rfl (by kernel_rfl) (fun _ _ _ h => h) (Or.inl ⟨by rfl, ?_⟩) ?_ ?_
 rotate_left
 ·intro w'
  go_simp
  with_reducible rfl
 rotate_left
 ·simp only [Act.put, List.setIfInBounds_toArray, List.set_cons_zero, List.set_cons_succ, i64_w, i32_w]
  rfl
 refine pure_ (i := 2) (N := some 10) (v := ?_) (a' := ?_) #[true, true, true, false, false, false, false, false, false, false, false, false, false, false, false] rfl rfl (by kernel_rfl) (fun _ _ _ h => h) (Or.inl ⟨by rfl, ?_⟩) ?_ ?_
 rotate_left
 ·intro w'
  go_simp
  with_reducible rfl
 rotate_left
 ·simp only [Act.put, List.setIfInBounds_toArray, List.set_cons_zero, List.set_cons_succ, i64_w, i32_w]
  rfl
 refine pure_ (i := 4) (N := some 12) (v := ?_) (a' := ?_) #[true, true, true, false, true, false, false, false, false, false, false, false, false, false, false] rfl rfl (by kernel_rfl) (fun _ _ _ h => h) (Or.inl ⟨by rfl, ?_⟩) ?_ ?_
 rotate_left
 ·intro w'
  go_simp
  with_reducible rfl
 rotate_left
 ·simp only [Act.put, List.setIfInBounds_toArray, List.set_cons_zero, List.set_cons_succ, i64_w, i32_w]
  rfl
 refine pure_ (i := 5) (N := some 13) (v := ?_) (a' := ?_) #[true, true, true, false, true, true, false, false, false, false, false, false, false, false, false] rfl rfl (by kernel_rfl) (fun _ _ _ h => h) (Or.inl ⟨by rfl, ?_⟩) ?_ ?_
 rotate_left
 ·intro w'
  go_simp
  with_reducible rfl
 rotate_left
 ·simp only [Act.put, List.setIfInBounds_toArray, List.set_cons_zero, List.set_cons_succ, i64_w, i32_w]
  rfl
 refine pure_ (i := 6) (N := some 14) (v := ?_) (a' := ?_) #[true, true, true, false, true, true, true, false, false, false, false, false, false, false, false] rfl rfl (by kernel_rfl) (fun _ _ _ h => h) (Or.inl ⟨by rfl, ?_⟩) ?_ ?_
 rotate_left
 ·intro w'
  go_simp
  with_reducible rfl
 rotate_left
 ·simp only [Act.put, List.setIfInBounds_toArray, List.set_cons_zero, List.set_cons_succ, i64_w, i32_w]
  rfl
 refine pure_ (i := 7) (N := some 15) (v := ?_) (a' := ?_) #[true, true, true, false, true, true, true, true, false, false, false, false, false, false, false] rfl rfl (by kernel_rfl) (fun _ _ _ h => h) (Or.inl ⟨by rfl, ?_⟩) ?_ ?_
 rotate_left
 ·intro w'
  go_simp
  with_reducible rfl
 rotate_left
 ·simp only [Act.put, List.setIfInBounds_toArray, List.set_cons_zero, List.set_cons_succ, i64_w, i32_w]
  rfl
 refine pure_ (i := 10) (N := some 18) (v := ?_) (a' := ?_) #[true, true, true, false, true, true, true, true, false, false, true, false, false, false, false] rfl rfl (by kernel_rfl) (fun _ _ _ h => h) (Or.inl ⟨by rfl, ?_⟩) ?_ ?_
 rotate_left
 ·intro w'
  go_simp
  with_reducible rfl
 rotate_left
 ·simp only [Act.put, List.setIfInBounds_toArray, List.set_cons_zero, List.set_cons_succ, i64_w, i32_w]
  rfl
 refine pure_ (i := 12) (N := some 20) (v := ?_) (a' := ?_) #[true, true, true, false, true, true, true, true, false, false, true, false, true, false, false] rfl rfl (by kernel_rfl) (fun _ _ _ h => h) (Or.inl ⟨by rfl, ?_⟩) ?_ ?_
 rotate_left
 ·intro w'
  go_simp
  with_reducible rfl
 rotate_left
 ·simp only [Act.put, List.setIfInBounds_toArray, List.set_cons_zero, List.set_cons_succ, i64_w, i32_w]
  rfl
 refine take_ (i := 3) (N := some 11) (v := ?_) (a' := ?_) #[true, true, true, true, true, true, true, true, false, false, true, false, true, false, false] rfl rfl (by kernel_rfl) (fun _ _ _ h => h) (Or.inl ⟨by rfl, ?_⟩) hHeld ?_ ?_
 rotate_left
 ·rintro w' ⟨s0, s1⟩
  go_simp
  with_reducible rfl
 rotate_left
 ·simp only [Act.put, List.setIfInBounds_toArray, List.set_cons_zero, List.set_cons_succ, i64_w, i32_w]
  rfl
 refine take_ (i := 8) (N := some 16) (v := ?_) (a' := ?_) #[true, true, true, true, true, true, true, true, true, false, true, false, true, false, false] rfl rfl (by kernel_rfl) (fun _ _ _ h => h) (Or.inl ⟨by rfl, ?_⟩) hHeld ?_ ?_
 rotate_left
 ·rintro w' ⟨s0, s1⟩
  go_simp
  with_reducible rfl
 rotate_left
 ·simp only [Act.put, List.setIfInBounds_toArray, List.set_cons_zero, List.set_cons_succ, i64_w, i32_w]
  rfl
 refine pure_ (i := 9) (N := some 17) (v := ?_) (a' := ?_) #[true, true, true, true, true, true, true, true, true, true, true, false, true, false, false] rfl rfl (by kernel_rfl) (fun _ _ _ h => h) (Or.inl ⟨by rfl, ?_⟩) ?_ ?_
 rotate_left
 ·intro w'
  go_simp
  with_reducible rfl
 rotate_left
 ·simp only [Act.put, List.setIfInBounds_toArray, List.set_cons_zero, List.set_cons_succ, i64_w, i32_w]
  rfl
 refine pure_ (i := 11) (N := some 19) (v := ?_) (a' := ?_) #[true, true, true, true, true, true, true, true, true, true, true, true, true, false, false] rfl rfl (by kernel_rfl) (fun _ _ _ h => h) (Or.inl ⟨by rfl, ?_⟩) ?_ ?_
 rotate_left
 ·intro w'
  go_simp
  with_reducible rfl
 rotate_left
 ·simp only [Act.put, List.setIfInBounds_toArray, List.set_cons_zero, List.set_cons_succ, i64_w, i32_w]
  rfl
 refine pure_ (i := 13) (N := some 21) (v := ?_) (a' := ?_) #[true, true, true, true, true, true, true, true, true, true, true, true, true, true, false] rfl rfl (by kernel_rfl) (fun _ _ _ h => h) (Or.inl ⟨by rfl, ?_⟩) ?_ ?_
 rotate_left
 ·intro w'
  go_simp
  with_reducible rfl
 rotate_left
 ·simp only [Act.put, List.setIfInBounds_toArray, List.set_cons_zero, List.set_cons_succ, i64_w, i32_w]
  rfl
 refine last_ (i := 14) (N := none) #[true, true, true, true, true, true, true, true, true, true, true, true, true, true, true] rfl rfl (by kernel_rfl) (by decide) (fun K hK => ?_)
 have hs_ := (blk_cell HR.out p).trans (Array.getElem?_eq_getElem HPc.out)
 have hf_ := blk_frozen HR.out p
 refine skip_ (w1 := ?_) (by rfl) rfl ?_ ?_
 rotate_left
 ·go_simp
  rfl
 refine hK.out _ _ ?_
 clear hK K
 refine done_ (by kernel_rfl) ?_
 go_end0
 exact ⟨rfl, rfl⟩
theorem tab_put (gt gr i j wide n p : Nat) (I J v : Int) (cur : Array Value) (w0 w : World) (hI : I = (i : Int)) (hJ : J = (j : Int)) (h0 : w.heap[gt]? = some (.cells #[.int .i64 (wide : Int), .slice (some ⟨gr, 0, none⟩) n n] 83 (0, 0))) (h1 : w.heap[gr]? = some (.cells cur 3 (0, 0))) (hB : Below w0.heap.size w0 w) (hg : w0.heap.size ≤ gr) (hp : i * wide + j = p) (hn : p < n) (hc : cur.size = n) (hm : n ≤ 1000000) :
  Calls Tryd.prog 44 #[.pointer (some ⟨gt, 0, none⟩), .int .i64 I, .int .i64 J, .int .i64 v] w fun e w' => e = .returned (.tuple #[]) ∧ w'.heap[gt]? = some (.cells #[.int .i64 (wide : Int), .slice (some ⟨gr, 0, none⟩) n n] 83 (0, 0)) ∧ w'.heap[gr]? = some (.cells (cur.setIfInBounds p (.int .i64 v)) 3 (0, 0)) ∧ Below w0.heap.size w0 w' := by
 refine (tab_set gt gr i j wide n p I J v cur w hI hJ h0 h1 hp hn hc hm).mono ?_
 rintro e w' ⟨rfl, rfl⟩
 exact ⟨rfl, blk_far (blk_drew h0) (blk_ne h0 h1 (by decide)) _, blk_set (blk_drew h1) _ _, (below_drew hB).setCell hg _⟩
def zeroRow (n : Nat) : Array Value := (List.replicate n (Value.int .i64 0)).toArray
theorem zero_make (n : Nat) (hn : n ≤ 1000000) (W : World) : (Instr.makeSlice 43 (.int .i64 (n : Int)) (.int .i64 (n : Int))).run Tryd.prog W = .ok (.slice (some ⟨W.heap.size, 0, none⟩) n n) (W.alloc (.cells (zeroRow n) 3)) := by
 obtain ⟨i0, hi, hzz⟩ := Option.map_eq_some_iff.1 (rep_info : (Tryd.prog.info? 3).map (fun i => (i.zero, i.size, i.bytes)) = some (some (.int .i64 0), 1, 8))
 simp only [Prod.mk.injEq] at hzz
 obtain ⟨hz0, hz1, hz2⟩ := hzz
 have h := run_makeSlice (w := W) 43 3 i0 (.int .i64 0) Tryd.underlying43 hi hz0 .i64 .i64 (n : Int) (n : Int) (by omega) (Int.le_refl _) (by rw [hz1]; omega) (by rw [hz2]; omega) (by omega)
 rw [h, hz1]
 have hc : madeCells (Value.int .i64 0).cells ((n : Int).toNat * 1) = zeroRow n := by
  rw [Int.toNat_natCast, Nat.mul_one]
  apply Array.ext
  ·rw [size_madeCells]; simp [zeroRow]
  ·intro j h1 h2
   simp [zeroRow, madeCells, Value.cells, Nat.mod_one]
 rw [hc]
 simp
/-- All is told of the rows behind i, and of row i from j on. -/
def Done (a b : List ByteArray) (i j : Nat) (cur : Array Value) : Prop :=
 cur.size = (a.length + 1) * (b.length + 1) ∧ ∀ i' j', i' ≤ a.length → j' ≤ b.length → (i < i' ∨ (i = i' ∧ j ≤ j') ∨ j' = b.length) → cur[i' * (b.length + 1) + j']? = some (.int .i64 ((lcs (a.drop i') (b.drop j') : Nat) : Int))
theorem place_lt {i j la lb : Nat} (hi : i ≤ la) (hj : j ≤ lb) : i * (lb + 1) + j < (la + 1) * (lb + 1) := by
 have h1 : (i + 1) * (lb + 1) ≤ (la + 1) * (lb + 1) := Nat.mul_le_mul_right _ (by omega)
 rw [Nat.add_mul, Nat.one_mul] at h1
 omega
theorem place_ne {i j i' j' lb : Nat} (hj : j ≤ lb) (hj' : j' ≤ lb) (h : i' * (lb + 1) + j' = i * (lb + 1) + j) : i' = i ∧ j' = j := by
 have d : ∀ x y : Nat, y ≤ lb → (x * (lb + 1) + y) / (lb + 1) = x := fun x y hy => by
  rw [Nat.add_comm, Nat.add_mul_div_right _ _ (Nat.succ_pos _), Nat.div_eq_of_lt (by omega), Nat.zero_add]
 have h1 : i' = i := by rw [← d i' j' hj', h, d i j hj]
 subst h1
 exact ⟨rfl, by omega⟩
theorem done_start (a b : List ByteArray) : Done a b a.length 0 (zeroRow ((a.length + 1) * (b.length + 1))) := by
 refine ⟨by simp [zeroRow], fun i' j' hi hj h => ?_⟩
 have hz : lcs (a.drop i') (b.drop j') = 0 := by
  rcases h with h | ⟨h, _⟩ | h
  ·omega
  ·rw [← h, List.drop_length]; exact lcs_nil _
  ·rw [h, List.drop_length]; exact lcs_end _
 have hl := place_lt hi hj
 rw [hz]
 unfold zeroRow
 rw [← Array.getElem?_toList, List.toList_toArray, List.getElem?_replicate, if_pos hl]
 rfl
theorem done_next {a b : List ByteArray} {i : Nat} {cur : Array Value} (h : Done a b (i + 1) 0 cur) : Done a b i b.length cur :=
 ⟨h.1, fun i' j' hi hj hc => h.2 i' j' hi hj (by omega)⟩
theorem done_set {a b : List ByteArray} {i j : Nat} {cur : Array Value} (h : Done a b i (j + 1) cur) (hi : i ≤ a.length) (hj : j < b.length) (v : Int) (hv : v = ((lcs (a.drop i) (b.drop j) : Nat) : Int)) : Done a b i j (cur.setIfInBounds (i * (b.length + 1) + j) (.int .i64 v)) := by
 subst hv
 refine ⟨by simpa using h.1, fun i' j' hi' hj' hc => ?_⟩
 by_cases e : i' * (b.length + 1) + j' = i * (b.length + 1) + j
 ·obtain ⟨rfl, rfl⟩ := place_ne (by omega) hj' e
  have hl := place_lt hi (Nat.le_of_lt hj)
  rw [Array.getElem?_setIfInBounds_self_of_lt (by rw [h.1]; exact hl)]
 ·rw [Array.getElem?_setIfInBounds_ne (fun z => e z.symm)]
  refine h.2 i' j' hi' hj' ?_
  rcases hc with hc | ⟨rfl, hc⟩ | hc
  ·exact .inl hc
  ·rcases Nat.eq_or_lt_of_le hc with rfl | hc
   ·exact absurd rfl e
   ·exact .inr (.inl ⟨rfl, hc⟩)
  ·exact .inr (.inr hc)
theorem lcs_step (a b : List ByteArray) (i j : Nat) (hi : i < a.length) (hj : j < b.length) : lcs (a.drop i) (b.drop j) = if rdOf ByteArray.empty a (i : Int) = rdOf ByteArray.empty b (j : Int) then lcs (a.drop (i + 1)) (b.drop (j + 1)) + 1 else max (lcs (a.drop (i + 1)) (b.drop j)) (lcs (a.drop i) (b.drop (j + 1))) := by
 have h1 : rdOf ByteArray.empty a (i : Int) = a[i] := by simp [rdOf, List.getD_eq_getElem?_getD, List.getElem?_eq_getElem hi]
 have h2 : rdOf ByteArray.empty b (j : Int) = b[j] := by simp [rdOf, List.getD_eq_getElem?_getD, List.getElem?_eq_getElem hj]
 rw [h1, h2]
 conv => lhs; rw [List.drop_eq_getElem_cons hi, List.drop_eq_getElem_cons hj, lcs_cons]
 rw [← List.drop_eq_getElem_cons hi, ← List.drop_eq_getElem_cons hj]
set_option maxHeartbeats 8000000 in
set_option maxRecDepth 100000 in
theorem hunks_reckon.own (A0 : Option Addr) (c0 la : Nat) (a : List ByteArray) (A1 : Option Addr) (c1 lb : Nat) (b : List ByteArray) (w : World) (h0 : Kd.C Kd.string w A0 la a) (h1 : Kd.C Kd.string w A1 lb b) (ha : la ≤ 200) (hb : lb ≤ 200) :
  Calls Tryd.prog 34 #[.slice A0 la c0, .slice A1 lb c1] w fun e w' => ∃ cur, e = .returned (.pointer (some ⟨w.heap.size + 1, 0, none⟩)) ∧ w'.heap[w.heap.size + 1]? = some (.cells #[.int .i64 ((lb + 1 : Nat) : Int), .slice (some ⟨w.heap.size, 0, none⟩) ((la + 1) * (lb + 1)) ((la + 1) * (lb + 1))] 83 (0, 0)) ∧ w'.heap[w.heap.size]? = some (.cells cur 3 (0, 0)) ∧ Done a b 0 0 cur ∧ Below w.heap.size w w' := by
 have huT := Tryd.underlying83
 have hla : a.length = la := h0.1
 have hlb : b.length = lb := h1.1
 have HA := Aside0.mk hla
 have HB := Aside0.mk hlb
 have HC0 := Aside0.mk h0
 have HC1 := Aside0.mk h1
 obtain ⟨n, hn⟩ : ∃ n, (la + 1) * (lb + 1) = n := ⟨_, rfl⟩
 have hm : n ≤ 40401 := by rw [← hn]; exact Nat.mul_le_mul (show la + 1 ≤ 201 by omega) (show lb + 1 ≤ 201 by omega)
 have e1 : IntKind.i64.wrap (((la : Int) + 1) * ((lb : Int) + 1)) = (n : Int) := by
  have : (((la + 1) * (lb + 1) : Nat) : Int) = ((la : Int) + 1) * ((lb : Int) + 1) := by rw [Int.natCast_mul]; rfl
  rw [← this, hn, IntKind.wrap_i64]; omega
 have e2 : wrap64 (((la : Int) + 1) * ((lb : Int) + 1)) = (n : Int) := by rw [← i64_w]; exact e1
 have hmk := zero_make n (by omega)
 have HN := Aside0.mk hn
 rw [hn]
 clear h0 h1 hla hlb hn
 go_enter Tryd.func34, Tryd.ntmps34
 go_wp2
 go_loopw [25] (fun v W => ∃ x : Nat, v = .int .i64 x ∧ x ≤ la ∧ Aside0 (∃ cur, W.heap[w.heap.size + 1]? = some (.cells #[.int .i64 ((lb : Int) + 1), .slice (some ⟨w.heap.size, 0, none⟩) n n] 83 (0, 0)) ∧ W.heap[w.heap.size]? = some (.cells cur 3 (0, 0)) ∧ Done a b (la - x) 0 cur ∧ Below w.heap.size w W)) (fun v _ => la - (intOf v).toNat)
 case atStart =>
  refine ⟨0, rfl, Nat.zero_le _, ⟨_, ?_, blk_alloc (heap_alloc_new w _) _, ?_, below_alloc (below_alloc (Below.refl _ _) _) _⟩⟩
  ·simpa using heap_alloc_new (w.alloc (.cells (zeroRow n) 3)) (.cells #[.int .i64 ((lb : Int) + 1), .slice (some ⟨w.heap.size, 0, none⟩) n n] 83)
  ·have h := done_start a b
   rw [HA.out, HB.out, HN.out] at h
   exact h
 case round =>
  obtain ⟨x, rfl, hx, HJ⟩ := hrel
  by_cases q : x < la
  ·have q0 : (x : Int) < (la : Int) := by omega
   obtain ⟨i, hi⟩ : ∃ i, i + 1 + x = la := ⟨la - 1 - x, by omega⟩
   have e3 : (la : Int) - 1 - (x : Int) = (i : Int) := by omega
   have HJ2 : Aside0 (∃ cur, wr.heap[w.heap.size + 1]? = some (.cells #[.int .i64 ((lb : Int) + 1), .slice (some ⟨w.heap.size, 0, none⟩) n n] 83 (0, 0)) ∧ wr.heap[w.heap.size]? = some (.cells cur 3 (0, 0)) ∧ Done a b i lb cur ∧ Below w.heap.size w wr) := by
    obtain ⟨cur, h1, h2, h3, h4⟩ := HJ.out
    refine ⟨cur, h1, h2, ?_, h4⟩
    rw [← HB.out]
    exact done_next (by rw [show i + 1 = la - x by omega]; exact h3)
   have HI := Aside0.mk hi
   have hil : i < la := by omega
   clear hi HJ
   go_wp2
   obtain ⟨wo, hwo⟩ : ∃ W : World, W = wr := ⟨_, rfl⟩
   subst hwo
   go_loopw [35] (fun v W => ∃ y : Nat, v = .int .i64 y ∧ y ≤ lb ∧ Aside0 (∃ cur, W.heap[w.heap.size + 1]? = some (.cells #[.int .i64 ((lb : Int) + 1), .slice (some ⟨w.heap.size, 0, none⟩) n n] 83 (0, 0)) ∧ W.heap[w.heap.size]? = some (.cells cur 3 (0, 0)) ∧ Done a b i (lb - y) cur ∧ Below w.heap.size w W)) (fun v _ => lb - (intOf v).toNat)
   case atStart => exact ⟨0, rfl, Nat.zero_le _, HJ2⟩
   case round =>
    clear HJ2
    obtain ⟨y, rfl, hy, HJ⟩ := hrel
    by_cases qy : y < lb
    ·have qy0 : (y : Int) < (lb : Int) := by omega
     obtain ⟨j, hj⟩ : ∃ j, j + 1 + y = lb := ⟨lb - 1 - y, by omega⟩
     have e4 : (lb : Int) - 1 - (y : Int) = (j : Int) := by omega
     have hjl : j < lb := by omega
     obtain ⟨cur, h1, h2, h3, h4⟩ := HJ.out
     have HD := Aside0.mk (show Done a b i (j + 1) cur by rw [show j + 1 = lb - y by omega]; exact h3)
     have HT := Aside0.mk h1
     have HR := Aside0.mk h2
     have KB := Aside0.mk h4
     have HJJ := Aside0.mk hj
     have HSz : Aside0 (cur.size = n) := ⟨by have := HD.out.1; rw [HA.out, HB.out, HN.out] at this; exact this⟩
     have HP : Aside0 (i * (lb + 1) + j < n) := ⟨by rw [← HN.out]; exact place_lt (by omega) (by omega)⟩
     have p0 : (0 : Int) ≤ (i : Int) := Int.natCast_nonneg _
     have p1 : (i : Int) < (la : Int) := by omega
     have p2 : (0 : Int) ≤ (j : Int) := Int.natCast_nonneg _
     have p3 : (j : Int) < (lb : Int) := by omega
     obtain ⟨ad0, e0, hx0⟩ := Kd.at_string (Kd.C_below HC0.out KB.out) (i : Int) p0 p1
     obtain ⟨ad1, e1_, hx1⟩ := Kd.at_string (Kd.C_below HC1.out KB.out) (j : Int) p2 p3
     cases e0
     cases e1_
     simp only [Int.toNat_natCast] at hx0 hx1
     have HL := Aside0.mk (lcs_step a b i j (by rw [HA.out]; exact hil) (by rw [HB.out]; exact hjl))
     clear h1 h2 h3 h4 hj HJ
     by_cases hq : rdOf ByteArray.empty a (i : Int) = rdOf ByteArray.empty b (j : Int)
     ·have hqb : ((rdOf ByteArray.empty a (i : Int)).toList == (rdOf ByteArray.empty b (j : Int)).toList) = true := by rw [toList_eq]; exact decide_eq_true hq
      have HQ := Aside0.mk hq
      obtain ⟨L, hL⟩ : ∃ L, lcs (a.drop (i + 1)) (b.drop (j + 1)) = L := ⟨_, rfl⟩
      have hLb : (L : Int) ≤ 200 := by have h_ := lcs_le (a.drop (i + 1)) (b.drop (j + 1)); rw [hL, List.length_drop, HA.out] at h_; omega
      have HV : Aside0 (cur[(i + 1) * (lb + 1) + (j + 1)]? = some (.int .i64 (L : Int))) := ⟨by have h_ := HD.out.2 (i + 1) (j + 1) (by rw [HA.out]; omega) (by rw [HB.out]; omega) (.inl (by omega)); rw [hL, HB.out] at h_; exact h_⟩
      have HPP : Aside0 ((i + 1) * (lb + 1) + (j + 1) < n) := ⟨by rw [← HN.out]; exact place_lt (by omega) (by omega)⟩
      have HLL := Aside0.mk hL
      clear hq hL
      go_wp2
      go_quiet (fail)
      go_wp2_with (first
       | (go_at_call 35; (with_reducible refine (tab_at (w.heap.size + 1) w.heap.size (i + 1) (j + 1) (lb + 1) n _ _ _ (L : Int) _ (by omega) (by omega) ?side1 ?side2 ?side3 rfl HPP.out (by omega)).mono ?_); (case side1 => exact (blk_cell (by (with_reducible repeat (first | refine blk_drewN ?_ _ | refine blk_drew ?_)); exact HT.out) 0).trans rfl); (case side2 => exact (blk_cell (by (with_reducible repeat (first | refine blk_drewN ?_ _ | refine blk_drew ?_)); exact HT.out) 1).trans rfl); (case side3 => exact (blk_cell (by (with_reducible repeat (first | refine blk_drewN ?_ _ | refine blk_drew ?_)); exact HR.out) _).trans HV.out); rintro e wqHV ⟨rfl, ⟨ndHV, rfl⟩⟩)
       | (go_at_call 44; (with_reducible refine (tab_put (w.heap.size + 1) w.heap.size i j (lb + 1) n _ _ _ _ cur w _ (by omega) (by omega) ?side1 ?side2 ?side4 (Nat.le_refl _) rfl HP.out HSz.out (by omega)).mono ?_); (case side1 => (with_reducible repeat (first | refine blk_drewN ?_ _ | refine blk_drew ?_)); exact HT.out); (case side2 => (with_reducible repeat (first | refine blk_drewN ?_ _ | refine blk_drew ?_)); exact HR.out); (case side4 => repeat (first | exact KB.out | apply pw_below_drewN | apply below_drew1)); rintro e w3 ⟨rfl, hT, hR, hb⟩; have HT3 := Aside0.mk hT; have HR3 := Aside0.mk hR; have KB3 := Aside0.mk hb; clear hT hR hb))
      go_roundw
      case rel => exact ⟨y + 1, by go_num, by omega, ⟨_, HT3.out, HR3.out, by rw [← HB.out, show b.length - (y + 1) = j by have := HJJ.out; rw [HB.out]; omega]; exact done_set HD.out (by rw [HA.out]; omega) (by rw [HB.out]; exact hjl) _ (by rw [HL.out, if_pos HQ.out, HLL.out]; omega), KB3.out⟩⟩
      case measure => simp [intOf]; omega
     ·have hqb : ((rdOf ByteArray.empty a (i : Int)).toList == (rdOf ByteArray.empty b (j : Int)).toList) = false := by rw [toList_eq]; exact decide_eq_false hq
      have HQ := Aside0.mk hq
      obtain ⟨L1, hL1⟩ : ∃ L, lcs (a.drop (i + 1)) (b.drop j) = L := ⟨_, rfl⟩
      obtain ⟨L2, hL2⟩ : ∃ L, lcs (a.drop i) (b.drop (j + 1)) = L := ⟨_, rfl⟩
      have HV1 : Aside0 (cur[(i + 1) * (lb + 1) + j]? = some (.int .i64 (L1 : Int))) := ⟨by have h_ := HD.out.2 (i + 1) j (by rw [HA.out]; omega) (by rw [HB.out]; omega) (.inl (by omega)); rw [hL1, HB.out] at h_; exact h_⟩
      have HV2 : Aside0 (cur[i * (lb + 1) + (j + 1)]? = some (.int .i64 (L2 : Int))) := ⟨by have h_ := HD.out.2 i (j + 1) (by rw [HA.out]; omega) (by rw [HB.out]; omega) (.inr (.inl ⟨rfl, Nat.le_refl _⟩)); rw [hL2, HB.out] at h_; exact h_⟩
      have HP1 : Aside0 ((i + 1) * (lb + 1) + j < n) := ⟨by rw [← HN.out]; exact place_lt (by omega) (by omega)⟩
      have HP2 : Aside0 (i * (lb + 1) + (j + 1) < n) := ⟨by rw [← HN.out]; exact place_lt (by omega) (by omega)⟩
      have HL1 := Aside0.mk hL1
      have HL2 := Aside0.mk hL2
      clear hq hL1 hL2
      go_wp2
      go_quiet (fail)
      go_wp2_with (first
       | (go_at_call 35; (with_reducible refine (tab_at (w.heap.size + 1) w.heap.size (i + 1) (j) (lb + 1) n _ _ _ (L1 : Int) _ (by omega) (by omega) ?side1 ?side2 ?side3 rfl HP1.out (by omega)).mono ?_); (case side1 => exact (blk_cell (by (with_reducible repeat (first | refine blk_drewN ?_ _ | refine blk_drew ?_)); exact HT.out) 0).trans rfl); (case side2 => exact (blk_cell (by (with_reducible repeat (first | refine blk_drewN ?_ _ | refine blk_drew ?_)); exact HT.out) 1).trans rfl); (case side3 => exact (blk_cell (by (with_reducible repeat (first | refine blk_drewN ?_ _ | refine blk_drew ?_)); exact HR.out) _).trans HV1.out); rintro e wqHV1 ⟨rfl, ⟨ndHV1, rfl⟩⟩)
       | (go_at_call 35; (with_reducible refine (tab_at (w.heap.size + 1) w.heap.size (i) (j + 1) (lb + 1) n _ _ _ (L2 : Int) _ (by omega) (by omega) ?side1 ?side2 ?side3 rfl HP2.out (by omega)).mono ?_); (case side1 => exact (blk_cell (by (with_reducible repeat (first | refine blk_drewN ?_ _ | refine blk_drew ?_)); exact HT.out) 0).trans rfl); (case side2 => exact (blk_cell (by (with_reducible repeat (first | refine blk_drewN ?_ _ | refine blk_drew ?_)); exact HT.out) 1).trans rfl); (case side3 => exact (blk_cell (by (with_reducible repeat (first | refine blk_drewN ?_ _ | refine blk_drew ?_)); exact HR.out) _).trans HV2.out); rintro e wqHV2 ⟨rfl, ⟨ndHV2, rfl⟩⟩)
       | (go_at_call 44; (with_reducible refine (tab_put (w.heap.size + 1) w.heap.size i j (lb + 1) n _ _ _ _ cur w _ (by omega) (by omega) ?side1 ?side2 ?side4 (Nat.le_refl _) rfl HP.out HSz.out (by omega)).mono ?_); (case side1 => (with_reducible repeat (first | refine blk_drewN ?_ _ | refine blk_drew ?_)); exact HT.out); (case side2 => (with_reducible repeat (first | refine blk_drewN ?_ _ | refine blk_drew ?_)); exact HR.out); (case side4 => repeat (first | exact KB.out | apply pw_below_drewN | apply below_drew1)); rintro e w3 ⟨rfl, hT, hR, hb⟩; have HT3 := Aside0.mk hT; have HR3 := Aside0.mk hR; have KB3 := Aside0.mk hb; clear hT hR hb))
      go_roundw
      case rel => exact ⟨y + 1, by go_num, by omega, ⟨_, HT3.out, HR3.out, by rw [← HB.out, show b.length - (y + 1) = j by have := HJJ.out; rw [HB.out]; omega]; exact done_set HD.out (by rw [HA.out]; omega) (by rw [HB.out]; exact hjl) _ (by rw [HL.out, if_neg HQ.out, HL1.out, HL2.out]; first | omega | (unfold mx; omega)), KB3.out⟩⟩
      case measure => simp [intOf]; omega
    ·obtain rfl : y = lb := by omega
     clear hy qy
     go_wp2
     go_roundw
     case rel => exact ⟨x + 1, by go_num, by omega, ⟨by obtain ⟨cur, h1, h2, h3, h4⟩ := HJ.out; exact ⟨cur, h1, h2, by rw [show la - (x + 1) = i by have := HI.out; omega]; rw [Nat.sub_self] at h3; exact h3, h4⟩⟩⟩
     case measure => simp [intOf]; omega
  ·obtain rfl : x = la := by omega
   go_wp2
   go_ret
   obtain ⟨cur, h1, h2, h3, h4⟩ := HJ.out
   rw [Nat.sub_self] at h3
   exact ⟨cur, rfl, h1, h2, h3, h4⟩
/-! ### hunks_Match: function 25 -/
def mtGo (x : ByteArray) (a : List ByteArray) (f : List ByteArray → Int → List Int) : List ByteArray → Int → List Int
 | [], j => -1 :: f [] j
 | y :: b, j => if x = y then j :: f b (j + 1) else if lcs (x :: a) b ≤ lcs a (y :: b) then -1 :: f (y :: b) j else mtGo x a f b (j + 1)
def mt : List ByteArray → List ByteArray → Int → List Int
 | [], _, _ => []
 | x :: a, b, j => mtGo x a (mt a) b j
theorem mt_end : ∀ (a : List ByteArray) (j : Int), mt a [] j = List.replicate a.length (-1)
 | [], _ => rfl
 | x :: a, j => by
  show -1 :: mt a [] j = _
  rw [mt_end a j]
  rfl
theorem mt_cons (x y : ByteArray) (a b : List ByteArray) (j : Int) : mt (x :: a) (y :: b) j = if x = y then j :: mt a b (j + 1) else if lcs (x :: a) b ≤ lcs a (y :: b) then -1 :: mt a (y :: b) j else mt (x :: a) b (j + 1) := rfl
theorem mt_step (a b : List ByteArray) (i j : Nat) (hi : i < a.length) (hj : j < b.length) : mt (a.drop i) (b.drop j) (j : Int) = if rdOf ByteArray.empty a (i : Int) = rdOf ByteArray.empty b (j : Int) then (j : Int) :: mt (a.drop (i + 1)) (b.drop (j + 1)) ((j + 1 : Nat) : Int) else if lcs (a.drop i) (b.drop (j + 1)) ≤ lcs (a.drop (i + 1)) (b.drop j) then -1 :: mt (a.drop (i + 1)) (b.drop j) (j : Int) else mt (a.drop i) (b.drop (j + 1)) ((j + 1 : Nat) : Int) := by
 have h1 : rdOf ByteArray.empty a (i : Int) = a[i] := by simp [rdOf, List.getD_eq_getElem?_getD, List.getElem?_eq_getElem hi]
 have h2 : rdOf ByteArray.empty b (j : Int) = b[j] := by simp [rdOf, List.getD_eq_getElem?_getD, List.getElem?_eq_getElem hj]
 rw [h1, h2]
 conv => lhs; rw [List.drop_eq_getElem_cons hi, List.drop_eq_getElem_cons hj, mt_cons]
 rw [← List.drop_eq_getElem_cons hi, ← List.drop_eq_getElem_cons hj]
 rfl
theorem mt_length : ∀ (a b : List ByteArray) (j : Int), (mt a b j).length = a.length
 | [], _, _ => rfl
 | x :: a, [], j => by rw [mt_end]; simp
 | x :: a, y :: b, j => by
  rw [mt_cons]
  split
  ·rw [List.length_cons, mt_length a b, List.length_cons]
  ·split
   ·rw [List.length_cons, mt_length a (y :: b), List.length_cons]
   ·exact mt_length (x :: a) b (j + 1)
/-- Where the walk stands: the row's front is told. -/
def MtAt (a b : List ByteArray) (i j : Nat) (L : List Int) : Prop := ∃ dn : List Int, dn.length = i ∧ L = dn ++ List.replicate (a.length - i) (-1) ∧ dn ++ mt (a.drop i) (b.drop j) (j : Int) = mt a b 0
theorem MtAt.start (a b : List ByteArray) : MtAt a b 0 0 (List.replicate a.length (-1)) := ⟨[], rfl, by simp, by simp⟩
theorem MtAt.len {a b : List ByteArray} {i j : Nat} {L : List Int} (h : MtAt a b i j L) (hi : i ≤ a.length) : L.length = a.length := by
 obtain ⟨dn, h1, rfl, _⟩ := h
 simp [h1]; omega
theorem MtAt.hit {a b : List ByteArray} {i j : Nat} {L : List Int} (h : MtAt a b i j L) (hi : i < a.length) (hj : j < b.length) (he : rdOf ByteArray.empty a (i : Int) = rdOf ByteArray.empty b (j : Int)) : MtAt a b (i + 1) (j + 1) (L.set i (j : Int)) := by
 obtain ⟨dn, h1, rfl, h3⟩ := h
 refine ⟨dn ++ [(j : Int)], by simp [h1], ?_, ?_⟩
 ·obtain ⟨m, hm⟩ : ∃ m, a.length - i = m + 1 := ⟨a.length - i - 1, by omega⟩
  rw [hm, List.replicate_succ, List.set_append, if_neg (by omega), h1, Nat.sub_self, List.set_cons_zero, show a.length - (i + 1) = m by omega, List.append_assoc]
  rfl
 ·rw [← h3, mt_step a b i j hi hj, if_pos he, List.append_assoc]
  rfl
theorem MtAt.gone {a b : List ByteArray} {i j : Nat} {L : List Int} (h : MtAt a b i j L) (hi : i < a.length) (hj : j < b.length) (he : ¬ rdOf ByteArray.empty a (i : Int) = rdOf ByteArray.empty b (j : Int)) (hl : lcs (a.drop i) (b.drop (j + 1)) ≤ lcs (a.drop (i + 1)) (b.drop j)) : MtAt a b (i + 1) j L := by
 obtain ⟨dn, h1, rfl, h3⟩ := h
 refine ⟨dn ++ [-1], by simp [h1], ?_, ?_⟩
 ·obtain ⟨m, hm⟩ : ∃ m, a.length - i = m + 1 := ⟨a.length - i - 1, by omega⟩
  rw [hm, List.replicate_succ, show a.length - (i + 1) = m by omega, List.append_assoc]
  rfl
 ·rw [← h3, mt_step a b i j hi hj, if_neg he, if_pos hl, List.append_assoc]
  rfl
theorem MtAt.next {a b : List ByteArray} {i j : Nat} {L : List Int} (h : MtAt a b i j L) (hi : i < a.length) (hj : j < b.length) (he : ¬ rdOf ByteArray.empty a (i : Int) = rdOf ByteArray.empty b (j : Int)) (hl : ¬ lcs (a.drop i) (b.drop (j + 1)) ≤ lcs (a.drop (i + 1)) (b.drop j)) : MtAt a b i (j + 1) L := by
 obtain ⟨dn, h1, rfl, h3⟩ := h
 exact ⟨dn, h1, rfl, by rw [← h3, mt_step a b i j hi hj, if_neg he, if_neg hl]⟩
theorem MtAt.done {a b : List ByteArray} {i j : Nat} {L : List Int} (h : MtAt a b i j L) (hc : i = a.length ∨ j = b.length) (hi : i ≤ a.length) : L = mt a b 0 := by
 obtain ⟨dn, h1, rfl, h3⟩ := h
 rw [← h3]
 congr 1
 rcases hc with rfl | rfl
 ·rw [List.drop_length, Nat.sub_self]; rfl
 ·rw [List.drop_length, mt_end, List.length_drop]
def hunks_Match.f (a b : List ByteArray) : Option (List Int) := if a.length ≤ 200 ∧ b.length ≤ 200 then some (mt a b 0) else none
set_option maxHeartbeats 16000000 in
set_option maxRecDepth 100000 in
theorem hunks_Match.own (A0 : Option Addr) (c0 la : Nat) (a : List ByteArray) (A1 : Option Addr) (c1 lb : Nat) (b : List ByteArray) (w : World) (h0 : Kd.C Kd.string w A0 la a) (h1 : Kd.C Kd.string w A1 lb b) (ha : la ≤ 200) (hb : lb ≤ 200) :
  Calls Tryd.prog 25 #[.slice A0 la c0, .slice A1 lb c1] w fun e w' => ∃ v0_ : Value, e = .returned v0_ ∧ Kd.R (Kd.int .i64) 3 w' w.heap.size (fun _ => True) v0_ (mt a b 0) ∧ Below w.heap.size w w' := by
 have HA := Aside0.mk (show a.length = la from h0.1)
 have HB := Aside0.mk (show b.length = lb from h1.1)
 have HC0 := Aside0.mk h0
 have HC1 := Aside0.mk h1
 have HLa := Aside0.mk ha
 have HLb := Aside0.mk hb
 clear h0 h1
 go_enter Tryd.func25, Tryd.ntmps25
 go_upto_region 3 with (go_at_call 32; (with_reducible refine (hunks_many.two w.heap.size A0 A1 la lb c0 c1 _ ?side1 ?side2 HLa.out HLb.out).mono ?_); (case side1 => exact (blk_cell (heap_alloc_new w _) 0).trans rfl); (case side2 => exact (blk_cell (heap_alloc_new w _) 1).trans rfl); rintro e w2 ⟨rfl, rfl⟩)
 have KB := Aside0.mk (below_alloc (Below.refl w.heap.size w) (.cells #[.slice A0 la c0, .slice A1 lb c1] 22))
 obtain ⟨Wa, hW⟩ : ∃ W : World, w.alloc (.cells #[.slice A0 la c0, .slice A1 lb c1] 22) = W := ⟨_, rfl⟩
 rw [hW] at KB ⊢
 clear hW
 go_upto_region 4 with (go_at_call 33; (with_reducible refine (slices_Repeat__int_int.own Wa.heap.size la (-1) _ (heap_alloc_new Wa _) HLa.out).mono ?_); rintro e wb ⟨v5, rfl, hR, hb_⟩; obtain ⟨A5, c5, rfl⟩ := Kd.R_slice hR; have KB5 := Aside0.mk (below_step (below_alloc KB.out _) hb_); have HR5 := Aside0.mk (Kd.R_lower hR (below_alloc KB.out (.cells #[.int .i64 (-1)] 3)).size); clear hR hb_)
 rw [List.length_replicate] at HR5
 obtain ⟨n, hn⟩ : ∃ n, (la + 1) * (lb + 1) = n := ⟨_, rfl⟩
 have HNm : Aside0 (n ≤ 40401) := ⟨by rw [← hn]; exact Nat.mul_le_mul (show la + 1 ≤ 201 by omega) (show lb + 1 ≤ 201 by omega)⟩
 have HN := Aside0.mk hn
 clear hn
 go_wp2_with (go_at_call 34; (with_reducible refine (hunks_reckon.own A0 c0 la a A1 c1 lb b _ (Kd.C_below HC0.out KB5.out) (Kd.C_below HC1.out KB5.out) HLa.out HLb.out).mono ?_); rintro e wc ⟨cur, rfl, hT, hR, hD, hb_⟩; have HS5 : Aside0 (Kd.R (Kd.int .i64) 3 wc w.heap.size (fun k => k < wb.heap.size) (.slice A5 la c5) (List.replicate la (-1))) := ⟨Kd.R_mono (Kd.R_below (Kd.R_bound HR5.out) hb_) (fun k hk => hk.2.2.1)⟩; have KBc := Aside0.mk (below_step KB5.out hb_); have HT := Aside0.mk hT; have HR := Aside0.mk hR; have HD := Aside0.mk hD; have HGE := Aside0.mk (show w.heap.size ≤ wb.heap.size from KB5.out.size); obtain ⟨gr, hgr⟩ : ∃ g, wb.heap.size = g := ⟨_, rfl⟩; rw [hgr, HN.out] at HT; rw [hgr] at HR HS5 HGE ⊢; clear hT hR hD hb_ hgr)
 go_loopw [7, 8] (fun u v W => ∃ i j : Nat, u = .int .i64 i ∧ v = .int .i64 j ∧ i ≤ la ∧ j ≤ lb ∧ Aside0 (∃ L : List Int, MtAt a b i j L ∧ Kd.R (Kd.int .i64) 3 W w.heap.size (fun k => k < gr) (.slice A5 la c5) L ∧ W.heap[gr + 1]? = some (.cells #[.int .i64 ((lb : Int) + 1), .slice (some ⟨gr, 0, none⟩) n n] 83 (0, 0)) ∧ W.heap[gr]? = some (.cells cur 3 (0, 0)) ∧ Below w.heap.size w W)) (fun u v _ => (la - (intOf u).toNat) + (lb - (intOf v).toNat))
 case atStart => exact ⟨0, 0, rfl, rfl, Nat.zero_le _, Nat.zero_le _, ⟨_, by rw [← HA.out]; exact MtAt.start a b, HS5.out, HT.out, HR.out, KBc.out⟩⟩
 case round =>
  clear HT HR HR5 HS5 KBc
  obtain ⟨i, j, rfl, rfl, hi, hj, HJ⟩ := hrel
  obtain ⟨L, hM, hL, hT, hR, hB⟩ := HJ.out
  have HM := Aside0.mk hM
  have HLr := Aside0.mk hL
  have HT := Aside0.mk hT
  have HR := Aside0.mk hR
  have KBw := Aside0.mk hB
  clear hM hL hT hR hB HJ
  by_cases qi : i < la
  ·have qi0 : (i : Int) < (la : Int) := by omega
   by_cases qj : j < lb
   ·have qj0 : (j : Int) < (lb : Int) := by omega
    have p0 : (0 : Int) ≤ (i : Int) := Int.natCast_nonneg _
    have p2 : (0 : Int) ≤ (j : Int) := Int.natCast_nonneg _
    obtain ⟨ad0, e0, hx0⟩ := Kd.at_string (Kd.C_below HC0.out KBw.out) (i : Int) p0 qi0
    obtain ⟨ad1, e1, hx1⟩ := Kd.at_string (Kd.C_below HC1.out KBw.out) (j : Int) p2 qj0
    cases e0
    cases e1
    simp only [Int.toNat_natCast] at hx0 hx1
    have HLL : Aside0 (L.length = la) := ⟨by rw [HM.out.len (by rw [HA.out]; exact hi), HA.out]⟩
    by_cases hq : rdOf ByteArray.empty a (i : Int) = rdOf ByteArray.empty b (j : Int)
    ·have hqb : ((rdOf ByteArray.empty a (i : Int)).toList == (rdOf ByteArray.empty b (j : Int)).toList) = true := by rw [toList_eq]; exact decide_eq_true hq
     have HM2 := Aside0.mk (HM.out.hit (by rw [HA.out]; exact qi) (by rw [HB.out]; exact qj) hq)
     have hown := Kd.own_of_R HLr.out
     obtain ⟨g, cap, e5, hge, hlt⟩ := (show wr.ownsRow w.heap.size 3 1 (.slice A5 la c5) la (encs (Value.int .i64) L) by rw [← HLL.out] at hown ⊢; exact hown).form (by omega)
     cases e5
     have hcell : wr.cell? ⟨g, i, none⟩ = some (.int .i64 (L[i]'(by rw [HLL.out]; exact qi))) := by
      have h_ := (show wr.ownsRow w.heap.size 3 1 (.slice (some ⟨g, 0, none⟩) L.length c5) L.length (encs (Value.int .i64) L) by rw [HLL.out]; rw [HLL.out] at hown; exact hown).cellAt i (by rw [HLL.out]; omega)
      rw [h_]
      simp [encs, List.getElem?_eq_getElem (show i < L.length by rw [HLL.out]; exact qi)]
     have hfr : wr.frozen? ⟨g, i, none⟩ = false := (show wr.ownsRow w.heap.size 3 1 (.slice (some ⟨g, 0, none⟩) L.length c5) L.length (encs (Value.int .i64) L) by rw [HLL.out]; rw [HLL.out] at hown; exact hown).frozenAt i
     have hput := Kd.R_put (xs := L) (cap := c5) (by rw [HLL.out]; exact HLr.out) (i : Int) (j : Int)
     rw [Int.toNat_natCast, HLL.out] at hput
     have HPut := Aside0.mk hput.1
     have hgl : g < gr := HLr.out.1 g rfl
     have HG1 : Aside0 (gr ≠ g) := ⟨by omega⟩
     have HG2 : Aside0 (gr + 1 ≠ g) := ⟨by omega⟩
     have HGg := Aside0.mk hge
     clear hq hput hown hgl hge hlt
     go_wp2
     go_quiet (fail)
     go_wp2_with fail
     go_roundw
     case rel => exact ⟨i + 1, j + 1, by go_num, by go_num, by omega, by omega, ⟨_, HM2.out, Kd.R_drewN HPut.out _, blk_far HT.out HG2.out _, blk_far HR.out HG1.out _, (pw_below_drewN KBw.out _).setCell HGg.out _⟩⟩
     case measure => simp [intOf]; omega
    ·have hqb : ((rdOf ByteArray.empty a (i : Int)).toList == (rdOf ByteArray.empty b (j : Int)).toList) = false := by rw [toList_eq]; exact decide_eq_false hq
     have HQ := Aside0.mk hq
     obtain ⟨L1, hL1⟩ : ∃ L, lcs (a.drop (i + 1)) (b.drop j) = L := ⟨_, rfl⟩
     obtain ⟨L2, hL2⟩ : ∃ L, lcs (a.drop i) (b.drop (j + 1)) = L := ⟨_, rfl⟩
     have HV1 : Aside0 (cur[(i + 1) * (lb + 1) + j]? = some (.int .i64 (L1 : Int))) := ⟨by have h_ := HD.out.2 (i + 1) j (by rw [HA.out]; omega) (by rw [HB.out]; omega) (.inl (by omega)); rw [hL1, HB.out] at h_; exact h_⟩
     have HV2 : Aside0 (cur[i * (lb + 1) + (j + 1)]? = some (.int .i64 (L2 : Int))) := ⟨by have h_ := HD.out.2 i (j + 1) (by rw [HA.out]; omega) (by rw [HB.out]; omega) (by omega); rw [hL2, HB.out] at h_; exact h_⟩
     have HP1 : Aside0 ((i + 1) * (lb + 1) + j < n) := ⟨by rw [← HN.out]; exact place_lt (by omega) (by omega)⟩
     have HP2 : Aside0 (i * (lb + 1) + (j + 1) < n) := ⟨by rw [← HN.out]; exact place_lt (by omega) (by omega)⟩
     have HL1 := Aside0.mk hL1
     have HL2 := Aside0.mk hL2
     clear hq hL1 hL2
     by_cases hc : L2 ≤ L1
     ·have hcb : decide ((L2 : Int) ≤ (L1 : Int)) = true := decide_eq_true (by omega)
      have hcn : decide (L2 ≤ L1) = true := decide_eq_true hc
      have HM2 := Aside0.mk (HM.out.gone (by rw [HA.out]; exact qi) (by rw [HB.out]; exact qj) HQ.out (by rw [HL1.out, HL2.out]; exact hc))
      clear hc
      go_wp2
      go_quiet (fail)
      go_wp2_with (first
       | (go_at_call 35; (with_reducible refine (tab_at (gr + 1) gr (i + 1) (j) (lb + 1) n _ _ _ (L1 : Int) _ (by omega) (by omega) ?side1 ?side2 ?side3 rfl HP1.out (by have := HNm.out; omega)).mono ?_); (case side1 => exact (blk_cell (by (with_reducible repeat (first | refine blk_drewN ?_ _ | refine blk_drew ?_)); exact HT.out) 0).trans rfl); (case side2 => exact (blk_cell (by (with_reducible repeat (first | refine blk_drewN ?_ _ | refine blk_drew ?_)); exact HT.out) 1).trans rfl); (case side3 => exact (blk_cell (by (with_reducible repeat (first | refine blk_drewN ?_ _ | refine blk_drew ?_)); exact HR.out) _).trans HV1.out); rintro e wq1 ⟨rfl, ⟨nd1, rfl⟩⟩)
       | (go_at_call 35; (with_reducible refine (tab_at (gr + 1) gr (i) (j + 1) (lb + 1) n _ _ _ (L2 : Int) _ (by omega) (by omega) ?side1 ?side2 ?side3 rfl HP2.out (by have := HNm.out; omega)).mono ?_); (case side1 => exact (blk_cell (by (with_reducible repeat (first | refine blk_drewN ?_ _ | refine blk_drew ?_)); exact HT.out) 0).trans rfl); (case side2 => exact (blk_cell (by (with_reducible repeat (first | refine blk_drewN ?_ _ | refine blk_drew ?_)); exact HT.out) 1).trans rfl); (case side3 => exact (blk_cell (by (with_reducible repeat (first | refine blk_drewN ?_ _ | refine blk_drew ?_)); exact HR.out) _).trans HV2.out); rintro e wq2 ⟨rfl, ⟨nd2, rfl⟩⟩))
      go_roundw
      case rel => exact ⟨i + 1, j, by go_num, by go_num, by omega, by omega, ⟨_, HM2.out, by (repeat (with_reducible first | refine Kd.R_drewN ?_ _ | refine Kd.R_drew ?_)); exact HLr.out, (by (with_reducible repeat (first | refine blk_drewN ?_ _ | refine blk_drew ?_)); exact HT.out), (by (with_reducible repeat (first | refine blk_drewN ?_ _ | refine blk_drew ?_)); exact HR.out), by repeat (first | exact KBw.out | apply pw_below_drewN | apply below_drew1)⟩⟩
      case measure => simp [intOf]; omega
     ·have hcb : decide ((L2 : Int) ≤ (L1 : Int)) = false := decide_eq_false (by omega)
      have hcn : decide (L2 ≤ L1) = false := decide_eq_false hc
      have HM2 := Aside0.mk (HM.out.next (by rw [HA.out]; exact qi) (by rw [HB.out]; exact qj) HQ.out (by rw [HL1.out, HL2.out]; exact hc))
      clear hc
      go_wp2
      go_quiet (fail)
      go_wp2_with (first
       | (go_at_call 35; (with_reducible refine (tab_at (gr + 1) gr (i + 1) (j) (lb + 1) n _ _ _ (L1 : Int) _ (by omega) (by omega) ?side1 ?side2 ?side3 rfl HP1.out (by have := HNm.out; omega)).mono ?_); (case side1 => exact (blk_cell (by (with_reducible repeat (first | refine blk_drewN ?_ _ | refine blk_drew ?_)); exact HT.out) 0).trans rfl); (case side2 => exact (blk_cell (by (with_reducible repeat (first | refine blk_drewN ?_ _ | refine blk_drew ?_)); exact HT.out) 1).trans rfl); (case side3 => exact (blk_cell (by (with_reducible repeat (first | refine blk_drewN ?_ _ | refine blk_drew ?_)); exact HR.out) _).trans HV1.out); rintro e wq1 ⟨rfl, ⟨nd1, rfl⟩⟩)
       | (go_at_call 35; (with_reducible refine (tab_at (gr + 1) gr (i) (j + 1) (lb + 1) n _ _ _ (L2 : Int) _ (by omega) (by omega) ?side1 ?side2 ?side3 rfl HP2.out (by have := HNm.out; omega)).mono ?_); (case side1 => exact (blk_cell (by (with_reducible repeat (first | refine blk_drewN ?_ _ | refine blk_drew ?_)); exact HT.out) 0).trans rfl); (case side2 => exact (blk_cell (by (with_reducible repeat (first | refine blk_drewN ?_ _ | refine blk_drew ?_)); exact HT.out) 1).trans rfl); (case side3 => exact (blk_cell (by (with_reducible repeat (first | refine blk_drewN ?_ _ | refine blk_drew ?_)); exact HR.out) _).trans HV2.out); rintro e wq2 ⟨rfl, ⟨nd2, rfl⟩⟩))
      go_roundw
      case rel => exact ⟨i, j + 1, by go_num, by go_num, by omega, by omega, ⟨_, HM2.out, by (repeat (with_reducible first | refine Kd.R_drewN ?_ _ | refine Kd.R_drew ?_)); exact HLr.out, (by (with_reducible repeat (first | refine blk_drewN ?_ _ | refine blk_drew ?_)); exact HT.out), (by (with_reducible repeat (first | refine blk_drewN ?_ _ | refine blk_drew ?_)); exact HR.out), by repeat (first | exact KBw.out | apply pw_below_drewN | apply below_drew1)⟩⟩
      case measure => simp [intOf]; omega
   ·obtain rfl : j = lb := by omega
    have HE : Aside0 (L = mt a b 0) := ⟨HM.out.done (.inr HB.out.symm) (by rw [HA.out]; exact hi)⟩
    go_wp2
    go_ret
    exact ⟨_, rfl, Kd.R_mono (by rw [← HE.out]; exact HLr.out) (fun _ _ => trivial), KBw.out⟩
  ·obtain rfl : i = la := by omega
   have HE : Aside0 (L = mt a b 0) := ⟨HM.out.done (.inl HA.out.symm) (by rw [HA.out]; exact hi)⟩
   go_wp2
   go_ret
   exact ⟨_, rfl, Kd.R_mono (by rw [← HE.out]; exact HLr.out) (fun _ _ => trivial), KBw.out⟩
theorem hunks_Match.calls (A0 : Option Addr) (c0 : Nat) (l0 : List ByteArray) (A1 : Option Addr) (c1 : Nat) (l1 : List ByteArray) (r : List Int) (w : World) (hr0 : Kd.C Kd.string w A0 l0.length l0) (hc0 : l0.length ≤ c0) (hr1 : Kd.C Kd.string w A1 l1.length l1) (hc1 : l1.length ≤ c1) (h : hunks_Match.f l0 l1 = some r) :
  Calls Tryd.prog 25 #[.slice A0 l0.length c0, .slice A1 l1.length c1] w fun e w' => ∃ v0_ : Value, e = .returned v0_ ∧ Kd.R (Kd.int .i64) 3 w' w.heap.size (fun _ => True) v0_ r ∧ Below w.heap.size w w' := by
 unfold hunks_Match.f at h
 by_cases hm : l0.length ≤ 200 ∧ l1.length ≤ 200
 ·rw [if_pos hm] at h
  obtain rfl := Option.some.inj h
  exact hunks_Match.own A0 c0 _ l0 A1 c1 _ l1 w hr0 hr1 hm.1 hm.2
 ·rw [if_neg hm] at h
  cases h
end Go.Proofs.YtkbhnkagiaghnaaDoor.P
