import Derived.Test.YtkbhnkagiaghnaaDoorPx0
namespace Go.Proofs.YtkbhnkagiaghnaaDoor.P
open Go.RowKit Go.Proofs.YtkbhnkagiaghnaaDoorW.PrintWords Go.Proofs.YtkbhnkagiaghnaaDoorW.PrintLast Go.Proofs.YtkbhnkagiaghnaaDoorW.PrintMore
attribute [local go_sem] max2_int min2_int max_two min_two max_three min_three max_four min_four   -- for this text's walks alone
set_option linter.unusedVariables false
set_option linter.unusedSimpArgs false
/-! ### hunks_many: function 32 -/
theorem many_one (A : Option Addr) (n c : Nat) (w : World) (hn : n ≤ 200) :
  Calls Tryd.prog 42 #[.slice A n c] w fun e w' => e = .returned (.bool false) ∧ w = w' := by
 have h : decide ((200 : Int) < (n : Int)) = false := decide_eq_false (by omega)
 have h2 : decide (200 < n) = false := decide_eq_false (by omega)
 go_enter Tryd.func42, Tryd.ntmps42
 go_wp2
 go_ret
 exact ⟨rfl, rfl⟩
set_option maxHeartbeats 4000000 in
theorem many_index (g : Nat) (A0 A1 : Option Addr) (n0 n1 c0 c1 : Nat) (w : World) (h0 : w.cell? ⟨g, 0, none⟩ = some (.slice A0 n0 c0)) (h1 : w.cell? ⟨g, 1, none⟩ = some (.slice A1 n1 c1)) (hn0 : n0 ≤ 200) (hn1 : n1 ≤ 200) :
  Calls Tryd.prog 50 #[.slice (some ⟨g, 0, none⟩) 2 2, .func (.func 42) #[] #[]] w fun e w' => e = .returned (.int .i64 (-1)) ∧ w = w' := by
 go_enter Tryd.func50, Tryd.ntmps50
 go_wp2
 go_loop [8] (fun v => ∃ i : Nat, v = .int .i64 i ∧ i ≤ 2) (fun v => 2 - (intOf v).toNat)
 case atStart => exact ⟨0, rfl, Nat.zero_le _⟩
 case round =>
  obtain ⟨i, rfl, hi⟩ := hrel
  match i, hi with
  | 0, _ =>
   go_wp2_with (go_at_call 42; (with_reducible refine (many_one A0 n0 c0 _ hn0).mono ?_); rintro e w2 ⟨rfl, rfl⟩)
   go_round
   case rel => exact ⟨1, rfl, by omega⟩
   case measure => simp [intOf]
  | 1, _ =>
   go_wp2_with (go_at_call 42; (with_reducible refine (many_one A1 n1 c1 _ hn1).mono ?_); rintro e w2 ⟨rfl, rfl⟩)
   go_round
   case rel => exact ⟨2, rfl, by omega⟩
   case measure => simp [intOf]
  | 2, _ =>
   go_wp2
   go_ret
   exact ⟨rfl, rfl⟩
theorem many_has (g : Nat) (A0 A1 : Option Addr) (n0 n1 c0 c1 : Nat) (w : World) (h0 : w.cell? ⟨g, 0, none⟩ = some (.slice A0 n0 c0)) (h1 : w.cell? ⟨g, 1, none⟩ = some (.slice A1 n1 c1)) (hn0 : n0 ≤ 200) (hn1 : n1 ≤ 200) :
  Calls Tryd.prog 41 #[.slice (some ⟨g, 0, none⟩) 2 2, .func (.func 42) #[] #[]] w fun e w' => e = .returned (.bool false) ∧ w = w' := by
 have H := Aside0.mk (many_index g A0 A1 n0 n1 c0 c1 w h0 h1 hn0 hn1)
 clear h0 h1
 go_enter Tryd.func41, Tryd.ntmps41
 go_wp2_with (go_at_call 50; refine H.out.mono ?_; rintro e w2 ⟨rfl, rfl⟩)
 go_ret
 exact ⟨rfl, rfl⟩
theorem hunks_many.two (g : Nat) (A0 A1 : Option Addr) (n0 n1 c0 c1 : Nat) (w : World) (h0 : w.cell? ⟨g, 0, none⟩ = some (.slice A0 n0 c0)) (h1 : w.cell? ⟨g, 1, none⟩ = some (.slice A1 n1 c1)) (hn0 : n0 ≤ 200) (hn1 : n1 ≤ 200) :
  Calls Tryd.prog 32 #[.slice (some ⟨g, 0, none⟩) 2 2] w fun e w' => e = .returned (.bool false) ∧ w = w' := by
 have hmf : ∀ (fn : Fn) (first cap : Array Value) (w : World), (Instr.makeFunc fn first cap).run Tryd.prog w = .ok (.func fn first cap) w := fun _ _ _ _ => rfl
 have H := Aside0.mk (many_has g A0 A1 n0 n1 c0 c1 w h0 h1 hn0 hn1)
 clear h0 h1
 go_enter Tryd.func32, Tryd.ntmps32
 go_wp2_with (go_at_call 41; refine H.out.mono ?_; rintro e w2 ⟨rfl, rfl⟩)
 go_ret
 exact ⟨rfl, rfl⟩
/-! ### bits_Mul64: function 52 -/
def bits_Mul64.f (a0 : Int) (a1 : Int) : Option (Int × Int) := some (IntKind.u64.wrap ((IntKind.u64.wrap ((IntKind.u64.wrap ((a0 / 4294967296) * (a1 / 4294967296))) + ((IntKind.u64.wrap ((IntKind.u64.wrap ((a0 / 4294967296) * (Go.bits .and .u64 a1 4294967295))) + ((IntKind.u64.wrap ((Go.bits .and .u64 a0 4294967295) * (Go.bits .and .u64 a1 4294967295))) / 4294967296))) / 4294967296))) + ((IntKind.u64.wrap ((Go.bits .and .u64 (IntKind.u64.wrap ((IntKind.u64.wrap ((a0 / 4294967296) * (Go.bits .and .u64 a1 4294967295))) + ((IntKind.u64.wrap ((Go.bits .and .u64 a0 4294967295) * (Go.bits .and .u64 a1 4294967295))) / 4294967296))) 4294967295) + (IntKind.u64.wrap ((Go.bits .and .u64 a0 4294967295) * (a1 / 4294967296))))) / 4294967296)), IntKind.u64.wrap (a0 * a1))
set_option maxHeartbeats 8000000 in
set_option maxRecDepth 100000 in
theorem bits_Mul64.calls (a0 : Int) (a1 : Int) (r1 : Int) (r2 : Int) (w : World) (h : bits_Mul64.f a0 a1 = some (r1, r2)) :
  Calls Tryd.prog 52 #[.int .u64 a0, .int .u64 a1] w fun e w' => e = .returned (.tuple #[.int .u64 r1, .int .u64 r2]) ∧ Drawn0 w w' := by
 have H : (some (IntKind.u64.wrap ((IntKind.u64.wrap ((IntKind.u64.wrap ((a0 / 4294967296) * (a1 / 4294967296))) + ((IntKind.u64.wrap ((IntKind.u64.wrap ((a0 / 4294967296) * (Go.bits .and .u64 a1 4294967295))) + ((IntKind.u64.wrap ((Go.bits .and .u64 a0 4294967295) * (Go.bits .and .u64 a1 4294967295))) / 4294967296))) / 4294967296))) + ((IntKind.u64.wrap ((Go.bits .and .u64 (IntKind.u64.wrap ((IntKind.u64.wrap ((a0 / 4294967296) * (Go.bits .and .u64 a1 4294967295))) + ((IntKind.u64.wrap ((Go.bits .and .u64 a0 4294967295) * (Go.bits .and .u64 a1 4294967295))) / 4294967296))) 4294967295) + (IntKind.u64.wrap ((Go.bits .and .u64 a0 4294967295) * (a1 / 4294967296))))) / 4294967296)), IntKind.u64.wrap (a0 * a1))) = some (r1, r2) := h
 clear h
 simp only [Option.some.injEq, Prod.mk.injEq] at H
 obtain ⟨rfl, rfl⟩ := H
 go_enter Tryd.func52, Tryd.ntmps52
 go_wp2
 go_ret2
 exact ⟨by first | rfl | (simp; done) | (simp [*]; done), by repeat (first | exact Drawn0.refl _ | apply Drawn0.step)⟩
/-! ### bits_Mul: function 43 -/
def bits_Mul.f (a0 : Int) (a1 : Int) : Option (Int × Int) := (bits_Mul64.f a0 a1).bind fun bt102 => (some (bt102.1, bt102.2))
set_option maxHeartbeats 8000000 in
set_option maxRecDepth 100000 in
theorem bits_Mul.calls (a0 : Int) (a1 : Int) (r1 : Int) (r2 : Int) (w : World) (h : bits_Mul.f a0 a1 = some (r1, r2)) :
  Calls Tryd.prog 43 #[.int .u64 a0, .int .u64 a1] w fun e w' => e = .returned (.tuple #[.int .u64 r1, .int .u64 r2]) ∧ Drawn0 w w' := by
 have H : ((bits_Mul64.f a0 a1).bind fun bt102 => (some (bt102.1, bt102.2))) = some (r1, r2) := h
 clear h
 replace H := Option.bind_eq_some_iff.mp H
 obtain ⟨⟨t102, t103⟩, A30, H⟩ := H
 replace H : (some (t102, t103)) = some (r1, r2) := H
 have A3 := Aside0.mk A30
 clear A30
 simp only [Option.some.injEq, Prod.mk.injEq] at H
 obtain ⟨rfl, rfl⟩ := H
 go_enter Tryd.func43, Tryd.ntmps43
 go_wp2_with (first | ((with_reducible refine gate_callee (f := 52) rfl ?_); refine goesL_ (some 25) rfl rfl Tryd.func52 (by kernel_rfl) rfl #[.int .u64 a0, .int .u64 a1] rfl (by (try simp only [List.map_toArray, List.map_cons, List.map_nil]); first | done | rfl | (simp only [List.length_drop, List.length_take]; rfl)) ?_; (with_reducible refine (bits_Mul64.calls a0 a1 t102 t103 _ A3.out).mono ?_); rintro e w' ⟨rfl, ⟨nd, rfl⟩⟩; refine ⟨_, rfl, ?_⟩))
 go_ret2
 exact ⟨by first | rfl | (simp; done) | (simp [*]; done), by repeat (first | exact Drawn0.refl _ | apply Drawn0.step)⟩
/-! ### slices_Repeat__int_int: function 33 -/
theorem rep_info : (Tryd.prog.info? 3).map (fun i => (i.zero, i.size, i.bytes)) = some (some (.int .i64 0), 1, 8) := by kernel_rfl
theorem copy_step {P : Program} {ops : Array Oper} {o : Oper} {a : Act} {Q : Exit → Act → World → Prop} {Kc : Act → World → Prop} {W W' : World} {so xo : Operand} {D X : Value} {t t' : TypeId} {n : Int} (hw : Region.wanted o (yielded ops a.tmps) = true)
  (ho : o.op = .call { callee := .builtin .copy, args := #[so, xo], argTypes := #[t, t'] }) (hs : a.eval so = D) (hx : a.eval xo = X) (hrun : (Builtin.copy_ #[t, t'] o.type #[D, X]).run P W = .ok (.int .i64 n) W') (h : Kc (a.put o.dst (.int .i64 n)) W') :
  if Region.wanted o (yielded ops a.tmps) = true then Oper.wp P o a W Kc Q else Kc (a.put o.dst undef) W := by
 rw [if_pos hw]
 unfold Oper.wp execOp
 simp only [ho, resolve, invoke, builtin, Sem.run_bind, Sem.run_pure, Result.andThen_ok, List.map_toArray, List.map_cons, List.map_nil, hs, hx, hrun]
 exact h
/-- The cells: so many of the number, then noughts. -/
def repCells (v : Int) (i n : Nat) : Array Value := (List.replicate i (Value.int .i64 v) ++ List.replicate (n - i) (Value.int .i64 0)).toArray
theorem repCells_size (v : Int) (i n : Nat) (h : i ≤ n) : (repCells v i n).size = n := by simp [repCells]; omega
theorem mul_one_is : ∀ n : Nat, n ≤ 200 → bits_Mul.f 1 (n : Int) = some (0, (n : Int)) := by
 intro n hn
 have h : ∀ m : Fin 201, bits_Mul.f 1 ((m : Nat) : Int) = some (0, ((m : Nat) : Int)) := by decide +kernel
 exact h ⟨n, by omega⟩
theorem rep_slice_from (W : World) (g n c i : Nat) (h : i ≤ n) (hc : n ≤ c) (hi : 0 < i) : (Instr.slice 43 (.slice (some ⟨g, 0, none⟩) n c) (some (.int .i64 (i : Int))) none none).run Tryd.prog W = .ok (.slice (some ⟨g, if c = i then 0 else i, none⟩) (n - i) (c - i)) W := by
 have hu := Tryd.underlying43
 have h2 : i ≤ c := Nat.le_trans h hc
 by_cases z : c = i <;> simp [Instr.slice, Instr.sliceBounds, Instr.sliceBound, asIntOf, hu, h, h2, z, add_plain]
theorem rep_slice_to (W : World) (g n c i : Nat) (h : i ≤ n) (hc : n ≤ c) (hi : 0 < i) : (Instr.slice 43 (.slice (some ⟨g, 0, none⟩) n c) none (some (.int .i64 (i : Int))) none).run Tryd.prog W = .ok (.slice (some ⟨g, 0, none⟩) i c) W := by
 have hu := Tryd.underlying43
 have h2 : i ≤ c := Nat.le_trans h hc
 have z : ¬ c = 0 := by omega
 simp [Instr.slice, Instr.sliceBounds, Instr.sliceBound, asIntOf, hu, h2, z, add_plain]
theorem rep_make (v : Int) (n : Nat) (hn : n ≤ 200) (W : World) : (Instr.makeSlice 43 (.int .i64 (n : Int)) (.int .i64 (n : Int))).run Tryd.prog W = .ok (.slice (some ⟨W.heap.size, 0, none⟩) n n) (W.alloc (.cells (repCells v 0 n) 3)) := by
 obtain ⟨i0, hi, hzz⟩ := Option.map_eq_some_iff.1 (rep_info : (Tryd.prog.info? 3).map (fun i => (i.zero, i.size, i.bytes)) = some (some (.int .i64 0), 1, 8))
 simp only [Prod.mk.injEq] at hzz
 obtain ⟨hz0, hz1, hz2⟩ := hzz
 have h := run_makeSlice (w := W) 43 3 i0 (.int .i64 0) Tryd.underlying43 hi hz0 .i64 .i64 (n : Int) (n : Int) (by omega) (Int.le_refl _) (by rw [hz1]; omega) (by rw [hz2]; omega) (by omega)
 rw [h, hz1]
 have hc : madeCells (Value.int .i64 0).cells ((n : Int).toNat * 1) = repCells v 0 n := by
  rw [Int.toNat_natCast, Nat.mul_one]
  apply Array.ext
  ·rw [size_madeCells, repCells_size v 0 n (Nat.zero_le _)]
  ·intro j h1 h2
   simp [repCells, madeCells, Value.cells, Nat.mod_one]
 rw [hc]
 simp
theorem rep_list (v : Int) (i n : Nat) : (repCells v i n).toList = List.replicate i (Value.int .i64 v) ++ List.replicate (n - i) (Value.int .i64 0) := rfl
theorem rep_set (v : Int) (n g i k : Nat) (W : World) (h : W.heap[g]? = some (.cells (repCells v i n) 3 (0, 0))) (hk : i + k ≤ n) : (W.setCells g i (List.replicate k (Value.int .i64 v))).heap[g]? = some (.cells (repCells v (i + k) n) 3 (0, 0)) := by
 obtain ⟨cur, h1, _, h3⟩ := setCells_row (List.replicate k (Value.int .i64 v)) i W (repCells v i n) h (by rw [List.length_replicate, repCells_size v i n (by omega)]; exact hk)
 rw [h1]
 congr 2
 apply Array.toList_inj.1
 rw [h3, rep_list, rep_list, List.length_replicate, List.take_append_of_le_length (by simp), List.drop_append]
 simp only [List.take_replicate, List.drop_replicate, List.length_replicate, List.append_nil, List.append_assoc]
 rw [← List.append_assoc, List.replicate_append_replicate, Nat.min_self, show i - (i + k) = 0 by omega, show n - i - (i + k - i) = n - (i + k) by omega]
 rfl
theorem rep_below {B g : Nat} {w W : World} (h : Below B w W) (hg : B ≤ g) (vs : List Value) (o : Nat) : Below B w (W.setCells g o vs) := by
 obtain ⟨s1, s2, s3, s4⟩ := setCells_same g vs o W
 exact ⟨s1.trans h.os, s2.trans h.tape, s3.trans h.output, by rw [s4]; exact h.size, fun k hk => (setCells_far vs o k (by omega)).trans (h.block k hk)⟩
theorem rep_cell (v : Int) (n g i j : Nat) (W : World) (h : W.heap[g]? = some (.cells (repCells v i n) 3 (0, 0))) (hj : j < i) : W.cell? ⟨g, j, none⟩ = some (.int .i64 v) := by
 refine (blk_cell h j).trans ?_
 rw [← Array.getElem?_toList, rep_list, List.getElem?_append_left (by simpa using hj), List.getElem?_replicate, if_pos hj]
theorem rep_copy (ty : TypeId) (v : Int) (n g o k sl : Nat) (W : World) (i : Nat) (a : Addr) (dc sc : Nat) (h : W.heap[g]? = some (.cells (repCells v i n) 3 (0, 0))) (hn : i ≤ n) (ho : o + k ≤ n) (hk : k = Nat.min sl (n - o)) (hs : ∀ j, j < k → W.cell? (a.add j) = some (.int .i64 v)) :
  (Builtin.copy_ #[43, 43] ty #[.slice (some ⟨g, o, none⟩) (n - o) dc, .slice (some a) sl sc]).run Tryd.prog W = .ok (.int .i64 (k : Int)) (W.setCells g o (List.replicate k (Value.int .i64 v))) := by
 have hc : ∀ j, j < k → W.cell? ⟨g, o + j, none⟩ = (repCells v i n)[o + j]? := fun j _ => blk_cell h (o + j)
 have hz : (Tryd.prog.info? 3).map (·.size) = some 1 := by
  obtain ⟨i0, hi, hzz⟩ := Option.map_eq_some_iff.1 (rep_info : (Tryd.prog.info? 3).map (fun i => (i.zero, i.size, i.bytes)) = some (some (.int .i64 0), 1, 8))
  simp only [Prod.mk.injEq] at hzz
  rw [hi]
  exact congrArg some hzz.2.1
 have hr := run_copy_cells (P := Tryd.prog) W 43 43 ty 3 g o (n - o) dc a sl sc (List.replicate k (Value.int .i64 v)) Tryd.underlying43 hz (by rw [List.length_replicate]; exact hk)
  (fun j x hx => by
   rw [List.getElem?_replicate] at hx
   split at hx
   ·rename_i hj
    cases hx
    exact hs j hj
   ·cases hx)
  (fun j hj => by
   rw [List.length_replicate] at hj
   rw [hc j hj, Array.getElem?_eq_getElem (by rw [repCells_size v i n hn]; omega)]
   rfl)
  (fun j _ => blk_frozen h (o + j)) (fun x hx => by rw [(List.mem_replicate.1 hx).2]; rfl)
 rw [hr, List.length_replicate]
 rfl
set_option maxHeartbeats 8000000 in
set_option maxRecDepth 100000 in
theorem slices_Repeat__int_int.own (b n : Nat) (v : Int) (w : World) (hb : w.heap[b]? = some (.cells #[.int .i64 v] 3 (0, 0))) (hn : n ≤ 200) :
  Calls Tryd.prog 33 #[.slice (some ⟨b, 0, none⟩) 1 1, .int .i64 (n : Int)] w fun e w' => ∃ v0_ : Value, e = .returned v0_ ∧ Kd.R (Kd.int .i64) 3 w' w.heap.size (fun _ => True) v0_ (List.replicate n v) ∧ Below w.heap.size w w' := by
 have HBL := Aside0.mk hb
 have HN := Aside0.mk hn
 have HM := Aside0.mk (mul_one_is n hn)
 have d0 : decide ((n : Int) < 0) = false := decide_eq_false (by omega)
 have w1 : IntKind.u64.wrap (n : Int) = (n : Int) := by simp [IntKind.wrap, IntKind.bits, IntKind.signed]; omega
 have wn : wrap64 (n : Int) = (n : Int) := by unfold wrap64; omega
 have d1 : decide (9223372036854775807 < (n : Int)) = false := decide_eq_false (by omega)
 have HR : ∀ W : World, (Instr.makeSlice 43 (.int .i64 (n : Int)) (.int .i64 (n : Int))).run Tryd.prog W = .ok (.slice (some ⟨W.heap.size, 0, none⟩) n n) (W.alloc (.cells (repCells v 0 n) 3)) := rep_make v n hn
 clear hb hn
 go_enter Tryd.func33, Tryd.ntmps33
 go_upto_region 6 with (go_at_call 43; (with_reducible refine (bits_Mul.calls 1 (n : Int) 0 (n : Int) _ HM.out).mono ?_); rintro e w2 ⟨rfl, ⟨nd, rfl⟩⟩)
 go_cut [7] (fun v7 wx => ∃ g, v7 = .slice (some ⟨g, 0, none⟩) n n ∧ Aside0 (w.heap.size ≤ g ∧ wx.heap[g]? = some (.cells (repCells v 0 n) 3 (0, 0)) ∧ Below w.heap.size w wx))
 case first =>
  go_wp2_with fail
  go_meet
  refine ⟨_, rfl, ⟨?_, heap_alloc_new _ _, ?_⟩⟩
  ·simp
  ·repeat (first | exact Below.refl _ _ | apply below_alloc | apply pw_below_drewN)
 obtain ⟨g, rfl, HG⟩ := hcut
 have hk1 : min 1 n ≤ n := Nat.min_le_right 1 n
 have HC := rep_copy 3 v n g 0 (min 1 n) 1 wc 0 ⟨b, 0, none⟩ n 1 HG.out.2.1 (Nat.zero_le _) (by omega) rfl (fun j hj => by
  have : j = 0 := by have := Nat.min_le_left 1 n; omega
  subst this
  exact blk_cell ((HG.out.2.2.block b (Array.getElem?_eq_some_iff.1 HBL.out).1).trans HBL.out) 0)
 have HS := rep_set v n g 0 (min 1 n) wc HG.out.2.1 (by omega)
 simp only [Nat.sub_zero, Nat.zero_add] at HC HS
 have HX : Aside0 (w.heap.size ≤ g ∧ (wc.setCells g 0 (List.replicate (min 1 n) (Value.int .i64 v))).heap[g]? = some (.cells (repCells v (min 1 n) n) 3 (0, 0)) ∧ Below w.heap.size w (wc.setCells g 0 (List.replicate (min 1 n) (Value.int .i64 v)))) := by
  obtain ⟨h1, h2, h3⟩ := HG.out
  exact ⟨h1, HS, rep_below h3 h1 _ _⟩
 generalize wc.setCells g 0 (List.replicate (min 1 n) (Value.int .i64 v)) = w3 at HC HX
 clear HS hk1
 go_wp2_with fail
 go_loopg [8] n (fun kq v8 wx => ∃ i : Nat, v8 = .int .i64 (i : Int) ∧ Aside0 (i ≤ n ∧ n ≤ kq + i ∧ (i = 0 → n = 0)) ∧ Aside0 (w.heap.size ≤ g ∧ wx.heap[g]? = some (.cells (repCells v i n) 3 (0, 0)) ∧ Below w.heap.size w wx))
 case atStart =>
  refine ⟨min 1 n, rfl, ⟨?_⟩, HX⟩
  by_cases z : n = 0
  ·simp [z]
  ·rw [Nat.min_eq_left (by omega)]
   omega
 case round =>
  obtain ⟨i, rfl, HI, HB⟩ := hrel
  by_cases c : n ≤ i
  ·obtain rfl : i = n := by have := HI.out; omega
   have c0 : decide ((i : Int) < (i : Int)) = false := decide_eq_false (by omega)
   clear HC
   go_wp2_with fail
   go_ret
   refine ⟨_, rfl, Kd.R_of_own ⟨?_, .inr ⟨g, i, repCells v i i, ?_, HB.out.1, HB.out.2.1, ?_, ?_, ?_, ?_⟩⟩ (fun _ _ => trivial), HB.out.2.2⟩
   ·simp [encs]
   ·simp only [List.length_replicate]
    rfl
   ·simp
   ·have := HN.out
    simp only [maxLen]
    omega
   ·rw [repCells_size v i i (Nat.le_refl _)]
    simp
   ·rw [rep_list]
    simp [encs]
  ·have hi : i < n := by omega
   have c0 : decide ((i : Int) < (n : Int)) = true := decide_eq_true (by omega)
   have p0 : 0 < i := by have := HI.out; omega
   have hk : i + min i (n - i) ≤ n := by omega
   have hr1 := fun W => rep_slice_from W g n n i (by omega) (Nat.le_refl _) p0
   simp only [show ¬ n = i by omega, if_false] at hr1
   have hr2 := fun W => rep_slice_to W g n n i (by omega) (Nat.le_refl _) p0
   have hrun := rep_copy 3 v n g i (min i (n - i)) i wr.drew i ⟨g, 0, none⟩ (n - i) n HB.out.2.1 (by omega) hk rfl (fun j hj => by
    have : (⟨g, 0, none⟩ : Addr).add j = ⟨g, j, none⟩ := by unfold Addr.add; split <;> simp_all
    rw [this]
    exact rep_cell v n g i j wr.drew HB.out.2.1 (by omega))
   have HS := Aside0.mk (rep_set v n g i (min i (n - i)) wr.drew HB.out.2.1 hk)
   have ws : wrap64 ((i : Int) + ((min i (n - i) : Nat) : Int)) = ((i + min i (n - i) : Nat) : Int) := by
    have := HN.out
    unfold wrap64
    omega
   have HE := Aside0.mk (rep_below (below_drew1 HB.out.2.2) HB.out.1 (List.replicate (min i (n - i)) (Value.int .i64 v)) i)
   clear HC
   go_upto_region 9 with fail
   refine start_ (n := 10) (S := fun w' => True) (ds := []) #[false, false, false, false, false, false, false, false, false, false] (by kernel_rfl) rfl rfl trivial (fun hHeld => ?_)
   refine pure_ (i := 0) (N := some 38) (v := ?_) (a' := ?_) #[true, false, false, false, false, false, false, false, false, false] rfl rfl (by kernel_rfl) (fun _ _ _ h => h) (Or.inl ⟨by rfl, ?_⟩) ?_ ?_
   rotate_left
   ·intro w'
    go_simp
    with_reducible rfl
   rotate_left
   ·simp only [Act.put, List.setIfInBounds_toArray, List.set_cons_zero, List.set_cons_succ, i64_w, i32_w]
    rfl
   refine pure_ (i := 1) (N := some 39) (v := ?_) (a' := ?_) #[true, true, false, false, false, false, false, false, false, false] rfl rfl (by kernel_rfl) (fun _ _ _ h => h) (Or.inl ⟨by rfl, ?_⟩) ?_ ?_
   rotate_left
   ·intro w'
    go_simp
    with_reducible rfl
   rotate_left
   ·simp only [Act.put, List.setIfInBounds_toArray, List.set_cons_zero, List.set_cons_succ, i64_w, i32_w]
    rfl
   refine pure_ (i := 2) (N := some 40) (v := ?_) (a' := ?_) #[true, true, true, false, false, false, false, false, false, false] rfl rfl (by kernel_rfl) (fun _ _ _ h => h) (Or.inl ⟨by rfl, ?_⟩) ?_ ?_
   rotate_left
   ·intro w'
    go_simp
    with_reducible rfl
   rotate_left
   ·simp only [Act.put, List.setIfInBounds_toArray, List.set_cons_zero, List.set_cons_succ, i64_w, i32_w]
    rfl
   refine pure_ (i := 3) (N := some 41) (v := ?_) (a' := ?_) #[true, true, true, true, false, false, false, false, false, false] rfl rfl (by kernel_rfl) (fun _ _ _ h => h) (Or.inl ⟨by rfl, ?_⟩) ?_ ?_
   rotate_left
   ·intro w'
    go_simp
    with_reducible rfl
   rotate_left
   ·simp only [Act.put, List.setIfInBounds_toArray, List.set_cons_zero, List.set_cons_succ, i64_w, i32_w]
    rfl
   refine pure_ (i := 4) (N := some 42) (v := ?_) (a' := ?_) #[true, true, true, true, true, false, false, false, false, false] rfl rfl (by kernel_rfl) (fun _ _ _ h => h) (Or.inl ⟨by rfl, ?_⟩) ?_ ?_
   rotate_left
   ·intro w'
    go_simp
    with_reducible rfl
   rotate_left
   ·simp only [Act.put, List.setIfInBounds_toArray, List.set_cons_zero, List.set_cons_succ, i64_w, i32_w]
    rfl
   refine pure_ (i := 5) (N := some 43) (v := ?_) (a' := ?_) #[true, true, true, true, true, true, false, false, false, false] rfl rfl (by kernel_rfl) (fun _ _ _ h => h) (Or.inl ⟨by rfl, ?_⟩) ?_ ?_
   rotate_left
   ·intro w'
    go_simp
    with_reducible rfl
   rotate_left
   ·simp only [Act.put, List.setIfInBounds_toArray, List.set_cons_zero, List.set_cons_succ, i64_w, i32_w]
    rfl
   refine pure_ (i := 6) (N := some 44) (v := ?_) (a' := ?_) #[true, true, true, true, true, true, true, false, false, false] rfl rfl (by kernel_rfl) (fun _ _ _ h => h) (Or.inl ⟨by rfl, ?_⟩) ?_ ?_
   rotate_left
   ·intro w'
    go_simp
    with_reducible rfl
   rotate_left
   ·simp only [Act.put, List.setIfInBounds_toArray, List.set_cons_zero, List.set_cons_succ, i64_w, i32_w]
    rfl
   refine one_ (i := 7) (N := some 45) #[true, true, true, true, true, true, true, true, false, false] rfl rfl (by kernel_rfl) (by decide) (fun K hK => ?_)
   refine copy_step (so := .tmp 41) (xo := .tmp 44) (by rfl) rfl rfl rfl hrun ?_
   refine hK.out _ _ trivial (fun hHeld => ?_)
   clear hK K
   refine norm_ (a' := ?_) ?_ ?_
   rotate_left
   ·show Act.put _ (some 45) _ = _
    simp only [Act.put, List.setIfInBounds_toArray, List.set_cons_zero, List.set_cons_succ, i64_w, i32_w]
    rfl
   refine pure_ (i := 8) (N := some 46) (v := ?_) (a' := ?_) #[true, true, true, true, true, true, true, true, true, false] rfl rfl (by kernel_rfl) (fun _ _ _ h => h) (Or.inl ⟨by rfl, ?_⟩) ?_ ?_
   rotate_left
   ·intro w'
    go_simp
    with_reducible rfl
   rotate_left
   ·simp only [Act.put, List.setIfInBounds_toArray, List.set_cons_zero, List.set_cons_succ, i64_w, i32_w]
    rfl
   refine pure_ (i := 9) (N := some 8) (v := ?_) (a' := ?_) #[true, true, true, true, true, true, true, true, true, true] rfl rfl (by kernel_rfl) (fun _ _ _ h => h) (Or.inl ⟨by rfl, ?_⟩) ?_ ?_
   rotate_left
   ·intro w'
    go_simp
    with_reducible rfl
   rotate_left
   ·simp only [Act.put, List.setIfInBounds_toArray, List.set_cons_zero, List.set_cons_succ, i64_w, i32_w]
    rfl
   refine done_ (by kernel_rfl) ?_
   have hgk : 0 < gk := by have := HI.out; omega
   obtain ⟨k1, rfl⟩ : ∃ k1, gk = k1 + 1 := ⟨gk - 1, by omega⟩
   go_wp2_with fail
   go_roundg k1
   case measure => omega
   case rel =>
    refine ⟨i + min i (n - i), ?_, ⟨hk, ?_, by omega⟩, HB.out.1, HS.out, HE.out⟩
    ·rw [Int.natCast_add]
    ·have := HI.out
     omega
/-- A state of type 83 at block g of W; what its slices lead to came in by w0. -/
def IsS83 (w0 W : World) (g : Nat) (f0 : Int) (f1 : List Int) : Prop := ∃ A1 c1, W.heap[g]? = some (.cells #[.int .i64 f0, .slice A1 f1.length c1] 83 (0, 0)) ∧ w0.heap.size ≤ g ∧ Kd.C (Kd.int .i64) w0 A1 f1.length f1
theorem IsS83.grown {w0 W : World} {g : Nat} {f0 : Int} {f1 : List Int} {W1 : World} {row : Option Nat} (h : IsS83 w0 W g f0 f1) (hw : W.grownBy W1 row) (hne : some g ≠ row) : IsS83 w0 W1 g f0 f1 := by
 obtain ⟨A1, c1, hb, hg, hr1⟩ := h
 exact ⟨A1, c1, blk_grown hb hw hne, hg, hr1⟩
theorem IsS83.kept {w0 W : World} {g : Nat} {f0 : Int} {f1 : List Int} {W1 : World} {S : Nat → Prop} (h : IsS83 w0 W g f0 f1) (hk : Kept W W1 S) (hne : ¬ S g) : IsS83 w0 W1 g f0 f1 := by
 obtain ⟨A1, c1, hb, hg, hr1⟩ := h
 exact ⟨A1, c1, blk_kept hb hk hne, hg, hr1⟩
theorem IsS83.below {w0 W : World} {g : Nat} {f0 : Int} {f1 : List Int} {W1 : World} (h : IsS83 w0 W g f0 f1) (hw : Below W.heap.size W W1) : IsS83 w0 W1 g f0 f1 := h.grown (grown_of_below hw none) (by simp)
theorem IsS83.alloc {w0 W : World} {g : Nat} {f0 : Int} {f1 : List Int} (h : IsS83 w0 W g f0 f1) (o : Obj) : IsS83 w0 (W.alloc o) g f0 f1 := h.below (below_alloc (Below.refl _ _) o)
theorem IsS83.drewN {w0 W : World} {g : Nat} {f0 : Int} {f1 : List Int} (h : IsS83 w0 W g f0 f1) (m : Nat) : IsS83 w0 (W.drewN m) g f0 f1 := h
theorem IsS83.drew {w0 W : World} {g : Nat} {f0 : Int} {f1 : List Int} (h : IsS83 w0 W g f0 f1) : IsS83 w0 W.drew g f0 f1 := h
theorem IsS83.at_ {w0 W : World} {g : Nat} {f0 : Int} {f1 : List Int} {w' : World} {m : Nat} (hq : W.drewN m = w') (h : IsS83 w0 W g f0 f1) : IsS83 w0 w' g f0 f1 := by subst hq; exact IsS83.drewN h m
theorem IsS83.apart {w0 W : World} {g : Nat} {f0 : Int} {f1 : List Int} {α : Type} {d : Kd α} {e : Nat} {base : Nat} {ok : Nat → Prop} {v : Value} {xs : List α} (h : IsS83 w0 W g f0 f1) (ho : d.R e W base ok v xs) (ht : ∀ q, q ∈ e :: d.E → q ≠ 83) : d.R e W base (fun k => ok k ∧ k ≠ g) v xs := by
 obtain ⟨A1, c1, hb, hg, hr1⟩ := h
 exact Kd.R_types ho hb ht
theorem IsS83.own_ne {w0 W : World} {g : Nat} {f0 : Int} {f1 : List Int} {α : Type} {d : Kd α} {e : Nat} {base : Nat} {ok : Nat → Prop} {v : Value} {xs : List α} (h : IsS83 w0 W g f0 f1) (ho : d.R e W base ok v xs) (ht : e ≠ 83) : some g ≠ v.ownBlock := by
 obtain ⟨A1, c1, hb, hg, hr1⟩ := h
 exact Kd.R_ne ho hb ht
theorem IsS83.lt {w0 W : World} {g : Nat} {f0 : Int} {f1 : List Int} (h : IsS83 w0 W g f0 f1) : g < W.heap.size := by
 obtain ⟨A1, c1, hb, hg, hr1⟩ := h
 exact blk_lt hb
theorem IsS83.far {w0 W : World} {g : Nat} {f0 : Int} {f1 : List Int} {p : Addr} (h : IsS83 w0 W g f0 f1) (hne : g ≠ p.block) (u : Value) : IsS83 w0 (W.setCell p u) g f0 f1 := by
 obtain ⟨A1, c1, hb, hg, hr1⟩ := h
 exact ⟨A1, c1, blk_far hb hne u, hg, hr1⟩
theorem IsS83.new (w0 W : World) (A1 : Option Addr) (c1 : Nat) (f0 : Int) (f1 : List Int) (hB : Below w0.heap.size w0 W) (hr1 : Kd.C (Kd.int .i64) w0 A1 f1.length f1) : IsS83 w0 (W.alloc (.cells #[.int .i64 f0, .slice A1 f1.length c1] 83)) W.heap.size f0 f1 := ⟨A1, c1, by simpa using heap_alloc_new W _, hB.size, hr1⟩
end Go.Proofs.YtkbhnkagiaghnaaDoor.P
