import Derived.Test.YtfhafkfcedghkaaPx0
import Derived.Lib.Builder
import Derived.Test.YtfhafkfcedghkaaShelf
import Derived.Test.YtfhafkfcedghkaaPx8
namespace Go.Proofs.Ytfhafkfcedghkaa.P
open Go.RowKit Go.Proofs.YtfhafkfcedghkaaW.PrintWords Go.Proofs.YtfhafkfcedghkaaW.PrintLast Go.Proofs.YtfhafkfcedghkaaW.PrintMore
attribute [local go_sem] max2_int min2_int max_two min_two max_three min_three max_four min_four   -- for this text's walks alone
set_option linter.unusedVariables false
set_option linter.unusedSimpArgs false
/-! ### state_digits: function 37 -/
def state_digits.f (k : Nat) (a0 : Int) : Option (ByteArray) := if a0 < 0 then ((state_natural.f k (IntKind.u64.wrap (-(IntKind.u64.wrap (a0))))).bind fun t165 => (if 1 + t165.size ≤ 9223372036854775807 then (some ((⟨#[45]⟩ : ByteArray) ++ t165)) else (none))) else ((state_natural.f k (IntKind.u64.wrap (a0))).bind fun t166 => (some t166))
theorem state_digits.mono : ∀ a0 k, LeO (state_digits.f k a0) (state_digits.f (k + 1) a0) := by
 intro a0 k
 unfold state_digits.f
 repeat' first
   | (with_reducible exact state_natural.mono _ _)
   | (with_reducible exact LeO.refl _)
   | (with_reducible exact LeO.none _)
   | (with_reducible refine LeO.ite ?_ ?_)
   | (with_reducible refine LeO.bind ?_ (fun _ => ?_))
   | exact state_natural.mono _ _
   | exact LeO.none _
   | refine LeO.ite ?_ ?_
   | refine LeO.bind ?_ (fun _ => ?_)
set_option maxHeartbeats 8000000 in
set_option maxRecDepth 100000 in
theorem state_digits.calls (k : Nat) (a0 : Int) (r : ByteArray) (w : World) (h : state_digits.f k a0 = some r) :
  Calls Try.prog 37 #[.int .i64 a0] w fun e w' => e = .returned (.string r) ∧ Below w.heap.size w w' := by
 have HB := Aside0.mk (Below.refl w.heap.size w)
 have H : (if a0 < 0 then ((state_natural.f k (IntKind.u64.wrap (-(IntKind.u64.wrap (a0))))).bind fun t165 => (if 1 + t165.size ≤ 9223372036854775807 then (some ((⟨#[45]⟩ : ByteArray) ++ t165)) else (none))) else ((state_natural.f k (IntKind.u64.wrap (a0))).bind fun t166 => (some t166))) = some r := h
 clear h
 by_cases c2 : a0 < 0
 ·rw [if_pos c2] at H
  have c2b0 : decide (a0 < 0) = true := decide_eq_true c2
  clear c2
  replace H := Option.bind_eq_some_iff.mp H
  obtain ⟨t165, A30, H⟩ := H
  replace H : (if 1 + t165.size ≤ 9223372036854775807 then (some ((⟨#[45]⟩ : ByteArray) ++ t165)) else (none)) = some r := H
  have A3 := Aside0.mk A30
  clear A30
  by_cases c4 : 1 + t165.size ≤ 9223372036854775807
  ·rw [if_pos c4] at H
   have c4b0 := eq_true c4
   have c4b1 : decide (1 + t165.size ≤ 9223372036854775807) = true := decide_eq_true c4
   try have c4b2 : (9223372036854775807 < 1 + t165.size) = False := eq_false (Nat.not_lt.2 c4)
   obtain rfl := Option.some.inj H
   go_enter Try.func37, Try.ntmps37
   go_wp2_with (first | ((with_reducible refine gate_callee (f := 68) rfl ?_); refine goesL_ (some 8) rfl rfl Try.func68 (by kernel_rfl) rfl #[.int .u64 (IntKind.u64.wrap (-(IntKind.u64.wrap (a0))))] rfl (by (try simp only [List.map_toArray, List.map_cons, List.map_nil]); first | done | rfl | (simp only [List.length_drop, List.length_take]; rfl)) ?_; (with_reducible refine (state_natural.calls k (IntKind.u64.wrap (-(IntKind.u64.wrap (a0)))) t165 _ A3.out).mono ?_); rintro e w5 ⟨rfl, hb⟩; refine ⟨_, rfl, ?_⟩; have n0_ := Aside0.mk (below_step (by repeat (first | (with_reducible first | exact HB.out | apply below_alloc | apply pw_below_drewN | apply below_drew1) | exact HB.out)) hb); clear HB; have HB := n0_; clear n0_; (try clear hb); (try clear hb2); (try clear hk); (try clear hi)))
   go_ret
   exact ⟨by first | rfl | (simp [errW_none, errW_some] <;> rfl) | (simp [*, errW_none, errW_some] <;> rfl), by repeat (first | (with_reducible first | exact HB.out | apply below_alloc | apply pw_below_drewN | apply below_drew1) | exact HB.out)⟩
  ·rw [if_neg c4] at H
   exact absurd H (by simp)
 ·rw [if_neg c2] at H
  have c2b0 : decide (a0 < 0) = false := decide_eq_false c2
  clear c2
  replace H := Option.bind_eq_some_iff.mp H
  obtain ⟨t166, A60, H⟩ := H
  replace H : (some t166) = some r := H
  have A6 := Aside0.mk A60
  clear A60
  obtain rfl := Option.some.inj H
  go_enter Try.func37, Try.ntmps37
  go_wp2_with (first | ((with_reducible refine gate_callee (f := 68) rfl ?_); refine goesL_ (some 12) rfl rfl Try.func68 (by kernel_rfl) rfl #[.int .u64 (IntKind.u64.wrap (a0))] rfl (by (try simp only [List.map_toArray, List.map_cons, List.map_nil]); first | done | rfl | (simp only [List.length_drop, List.length_take]; rfl)) ?_; (with_reducible refine (state_natural.calls k (IntKind.u64.wrap (a0)) t166 _ A6.out).mono ?_); rintro e w7 ⟨rfl, hb⟩; refine ⟨_, rfl, ?_⟩; have n0_ := Aside0.mk (below_step (by repeat (first | (with_reducible first | exact HB.out | apply below_alloc | apply pw_below_drewN | apply below_drew1) | exact HB.out)) hb); clear HB; have HB := n0_; clear n0_; (try clear hb); (try clear hb2); (try clear hk); (try clear hi)))
  go_ret
  exact ⟨by first | rfl | (simp [errW_none, errW_some] <;> rfl) | (simp [*, errW_none, errW_some] <;> rfl), by repeat (first | (with_reducible first | exact HB.out | apply below_alloc | apply pw_below_drewN | apply below_drew1) | exact HB.out)⟩
/-! ### strings_Builder_copyCheck: function 66 -/
theorem bld_size : ∃ j, Try.prog.info? 54 = some j ∧ j.size = 2 := by
 have h : (Try.prog.info? 54).map (·.size) = some 2 := by kernel_rfl
 obtain ⟨j, hj, hs⟩ := Option.map_eq_some_iff.1 h
 exact ⟨j, hj, hs⟩
theorem bld_byte : ∃ j, Try.prog.info? 5 = some j ∧ j.zero = some (.int .u8 0) ∧ j.size = 1 ∧ j.bytes = 1 := by
 have h : (Try.prog.info? 5).map (fun i => (i.zero, i.size, i.bytes)) = some (some (.int .u8 0), 1, 1) := by kernel_rfl
 obtain ⟨j, hj, hs⟩ := Option.map_eq_some_iff.1 h
 simp only [Prod.mk.injEq] at hs
 exact ⟨j, hj, hs.1, hs.2.1, hs.2.2⟩
set_option maxHeartbeats 2000000 in
set_option maxRecDepth 100000 in
theorem bld_check (B b : Nat) (bs : List Value) (w : World) (h : Lib.IsBuilder 54 5 B b bs w) :
  Calls Try.prog 66 #[.pointer (some ⟨b, 0, none⟩)] w fun e w' => e = .returned (.tuple #[]) ∧ Lib.BuilderAt 54 5 B b (.pointer (some ⟨b, 0, none⟩)) bs w' ∧ Below B w w' := by
 obtain ⟨j, hj, hs⟩ := bld_size
 rcases h with h | h
 ·have c0 := h.cell0
  have z0 := h.frozen0
  have hto := Lib.run_to_unsafe (P := Try.prog) w ⟨b, 0, none⟩ Try.underlying51 Try.underlying92 hj (by rw [hs]; decide) h.shape (Nat.zero_lt_succ 1)
  have hfrom := Lib.run_from_unsafe (P := Try.prog) w ⟨b, 0, none⟩ Try.underlying92 Try.underlying51 hj h.shape (by kernel_rfl)
  have HB := Aside0.mk h
  clear h
  go_enter Try.func66, Try.ntmps66
  go_wp2
  rw [run_callFunc_extern Try.func81 (by kernel_rfl) (by kernel_rfl) (by kernel_rfl) (e := Extern.AbiNoEscape.same) (by kernel_rfl), Lib.run_noEscape]
  simp only [Result.andThen]
  rw [Oper.upon_value]
  go_wp2
  go_end0
  exact ⟨rfl, HB.out.used _, (Below.refl B w).setCell (p := ⟨b, 0, none⟩) HB.out.1 _⟩
 ·have c0 := h.cell0
  have hne := Lib.run_neq_ptr_same (P := Try.prog) w ⟨b, 0, none⟩ Try.underlying51 hj
  have HB := Aside0.mk h
  clear h
  go_enter Try.func66, Try.ntmps66
  go_wp2
  go_end0
  exact ⟨rfl, HB.out, Below.refl B _⟩
theorem bld_cells {B b : Nat} {bs : List Value} {w : World} (h : Lib.BuilderAt 54 5 B b (.pointer (some ⟨b, 0, none⟩)) bs w) :
  ∃ v, w.heap[b]? = some (.cells #[.pointer (some ⟨b, 0, none⟩), v] 54 (0, 0)) ∧ w.ownsRow B 5 1 v bs.length bs ∧ v.ownBlock ≠ some b ∧ B ≤ b := by
 obtain ⟨hB, v, hb, ho, hn⟩ := h
 exact ⟨v, hb, ho, hn, hB⟩
theorem bld_slice {w : World} {B n : Nat} {v : Value} {xs : List Value} (h : w.ownsRow B 5 1 v n xs) : ∃ A m c, v = .slice A m c := by
 rcases h.2 with ⟨hv, _⟩ | ⟨g, cap, cur, hv, _⟩
 ·exact ⟨_, _, _, hv⟩
 ·exact ⟨_, _, _, hv⟩
set_option maxHeartbeats 4000000 in
set_option maxRecDepth 100000 in
theorem bld_text (B b : Nat) (bs : List Value) (s : ByteArray) (w : World) (h : Lib.IsBuilder 54 5 B b bs w) (hl : bs.length + s.size ≤ 140737488355328) (hw : B ≤ w.heap.size) :
  Calls Try.prog 34 #[.pointer (some ⟨b, 0, none⟩), .string s] w fun e w' => e = .returned (.tuple #[.int .i64 s.size, .nilIface]) ∧ Lib.BuilderAt 54 5 B b (.pointer (some ⟨b, 0, none⟩)) (bs ++ Lib.strCells s) w' ∧ Below B w w' := by
 obtain ⟨i, hi, hi0, hi1, hi2⟩ := bld_byte
 go_enter Try.func34, Try.ntmps34
 go_wp2_with (go_at_call 66; refine (bld_check B b bs _ h).mono ?_)
 rintro e w1 ⟨rfl, h1, hb1⟩
 obtain ⟨v, hg, ho, hn, hB⟩ := bld_cells h1
 have q0 := (blk_cell hg 0).trans rfl
 have q1 := (blk_cell hg 1).trans rfl
 have hsz := hb1.size
 go_wp2_with (at_builtin; refine Lib.wpList_append_own_string _ rfl _ _ 52 9 rfl B 5 i Try.underlying52 Try.underlying9 hi hi0 hi1 hi2 _ _ _ rfl ho s rfl ?cm ?cl ?cb ?_)
 case cm => unfold maxLen; omega
 case cl => omega
 case cb => omega
 intro v2 w2 ho2 hgr _
 have hg2 : w2.heap[b]? = some (.cells #[.pointer (some ⟨b, 0, none⟩), v] 54 (0, 0)) := (hgr.block b (blk_lt hg) (fun e => hn e.symm)).trans hg
 have p1 := (blk_cell hg2 1).trans rfl
 have f1 := blk_frozen hg2 1
 obtain ⟨A2, n2, c2, rfl⟩ := bld_slice ho2
 go_wp2
 go_ret2
 refine ⟨rfl, Lib.BuilderAt.put hB hg2 (bs' := bs ++ Lib.strCells s) (by simpa [Lib.strCells_length] using ho2) (by decide), ?_⟩
 exact (hb1.grown hgr (by omega) (fun k hk => (ho.lt k hk).1)).setCell (p := ⟨b, 1, none⟩) hB _
set_option maxHeartbeats 4000000 in
set_option maxRecDepth 100000 in
theorem bld_one (B b : Nat) (bs : List Value) (c : Int) (w : World) (h : Lib.IsBuilder 54 5 B b bs w) (hl : bs.length + 1 ≤ 140737488355328) (hw : B ≤ w.heap.size) :
  Calls Try.prog 36 #[.pointer (some ⟨b, 0, none⟩), .int .u8 c] w fun e w' => e = .returned .nilIface ∧ Lib.BuilderAt 54 5 B b (.pointer (some ⟨b, 0, none⟩)) (bs ++ [.int .u8 c]) w' ∧ Below B w w' := by
 obtain ⟨i, hi, hi0, hi1, hi2⟩ := bld_byte
 go_enter Try.func36, Try.ntmps36
 go_wp2_with (go_at_call 66; refine (bld_check B b bs _ h).mono ?_)
 rintro e w1 ⟨rfl, h1, hb1⟩
 obtain ⟨v, hg, ho, hn, hB⟩ := bld_cells h1
 have q0 := (blk_cell hg 0).trans rfl
 have q1 := (blk_cell hg 1).trans rfl
 have hsz := hb1.size
 go_wp2_with (at_builtin; refine wpList_append_own _ rfl _ _ 52 rfl B 5 i (.int .u8 0) 1 1 Try.underlying52 hi hi0 hi1 hi2 rfl (by decide) _ _ _ rfl (ho.alloc _) ⟨w1.heap.size, 0, none⟩ 1 1 [.int .u8 c] rfl rfl ?ca ?co ?cm ?cl ?cb ?_)
 case ca =>
  intro j u hj
  cases j with
  | zero =>
   obtain rfl := Option.some.inj hj
   exact (blk_cell (heap_alloc_new w1 (.cells #[.int .u8 c] 5)) 0).trans rfl
  | succ j => cases hj
 case co =>
  intro u hu
  rcases List.mem_singleton.1 hu with rfl
  rfl
 case cm => unfold maxLen; omega
 case cl => omega
 case cb => simp; omega
 intro v2 w2 ho2 hgr _
 have hg2 : w2.heap[b]? = some (.cells #[.pointer (some ⟨b, 0, none⟩), v] 54 (0, 0)) := (hgr.block b (by have := blk_lt hg; simp; omega) (fun e => hn e.symm)).trans (blk_alloc hg _)
 have p1 := (blk_cell hg2 1).trans rfl
 have f1 := blk_frozen hg2 1
 obtain ⟨A2, n2, c2, rfl⟩ := bld_slice ho2
 go_wp2
 go_ret
 refine ⟨rfl, Lib.BuilderAt.put hB hg2 (bs' := bs ++ [.int .u8 c]) (by simpa using ho2) (by decide), ?_⟩
 exact ((hb1.alloc (by omega) _).grown hgr (by simp; omega) (fun k hk => (ho.lt k hk).1)).setCell (p := ⟨b, 1, none⟩) hB _
/-! ### state_Show: function 10 -/
theorem show_keep {B b : Nat} {bs : List Value} {w w2 : World} (h : Lib.IsBuilder 54 5 B b bs w) (hb : Below w.heap.size w w2) : Lib.IsBuilder 54 5 B b bs w2 :=
 h.imp (fun ⟨h1, v, h2, h3, h4⟩ => ⟨h1, v, (hb.block _ (blk_lt h2)).trans h2, pw_own_below h3 hb, h4⟩) (fun ⟨h1, v, h2, h3, h4⟩ => ⟨h1, v, (hb.block _ (blk_lt h2)).trans h2, pw_own_below h3 hb, h4⟩)
set_option maxHeartbeats 4000000 in
set_option maxRecDepth 100000 in
theorem show_line (B b g n : Nat) (words : List ByteArray) (l : List UInt8) (w : World) (h : Lib.IsBuilder 54 5 B b (Lib.byteCells l) w) (hw : B ≤ w.heap.size)
  (hg : w.heap[g]? = some (.cells (words.map Value.string).toArray 9 (0, 0))) (hn : words.length = n) (hs : n ≤ 8) (hl : l.length + (Lib.join (words.map (·.data.toList)) [32]).length ≤ 1099511627776) :
  Calls Try.prog 33 #[.slice (some ⟨g, 0, none⟩) n n, .pointer (some ⟨b, 0, none⟩)] w fun e w' => e = .returned (.tuple #[]) ∧ Lib.BuilderAt 54 5 B b (.pointer (some ⟨b, 0, none⟩)) (Lib.byteCells (l ++ Lib.join (words.map (·.data.toList)) [32] ++ [10])) w' ∧ Below B w w' := by
 subst hn
 have hcells : ∀ (j : Nat) x, words[j]? = some x → w.cell? ⟨g, 0 + j, none⟩ = some (.string x) := fun j x hx => by
  refine (blk_cell hg (0 + j)).trans ?_
  rw [Nat.zero_add, ← Array.getElem?_toList, List.getElem?_map, hx]
  rfl
 have hjoin := Try.strings_Join g 0 words.length words (⟨#[32]⟩ : ByteArray) w hcells (blk_lt hg) (by omega) (Nat.le_refl _) (by simp only [Array.toList]; omega)
 have HJ := Aside0.mk hjoin
 have HB := Aside0.mk h
 have HW := Aside0.mk hw
 have HL := Aside0.mk hl
 clear hjoin h hw hl hcells hg
 go_enter Try.func33, Try.ntmps33
 go_wp2_with (first
  | (go_at_call 35; refine HJ.out.mono ?_; rintro e w2 ⟨rfl, hb⟩; have KB := Aside0.mk hb; clear hb)
  | (go_at_call 34; refine (bld_text B b (Lib.byteCells l) _ _ (show_keep HB.out KB.out) (by have := HL.out; rw [Lib.byteCells_length, ← ByteArray.size_data, List.size_toArray]; omega) (Nat.le_trans HW.out KB.out.size)).mono ?_; rintro e w3 ⟨rfl, hi, hb⟩; have HI := Aside0.mk hi; have KB3 := Aside0.mk ((KB.out.mono HW.out).trans hb); clear hi hb))
 go_wp2_with (go_at_call 36; refine (bld_one B b _ 10 _ (Or.inr HI.out) (by have := HL.out; rw [List.length_append, Lib.byteCells_length, Lib.strCells_length, ← ByteArray.size_data, List.size_toArray]; omega) (Nat.le_trans HW.out KB3.out.size)).mono ?_; rintro e w4 ⟨rfl, hi, hb⟩; have HI4 := Aside0.mk hi; have KB4 := Aside0.mk (KB3.out.trans hb); clear hi hb)
 go_end0
 refine ⟨rfl, ?_, KB4.out⟩
 have := HI4.out
 rw [Lib.byteCells_append, Lib.byteCells_append]
 exact this
/-- What holds between two lines: the state's box, the builder with what was written, and nothing below. -/
def show_st (w : World) (cs : Array Value) (o : List UInt8) (W : World) : Prop :=
 W.heap[w.heap.size]? = some (.cells cs 26 (0, 0)) ∧ Lib.IsBuilder 54 5 (w.heap.size + 1) (w.heap.size + 1) (Lib.byteCells o) W ∧ Below w.heap.size w W
theorem show_lt {w W : World} {cs : Array Value} {o : List UInt8} (h : show_st w cs o W) : w.heap.size + 1 ≤ W.heap.size := blk_lt h.1
theorem show_below {w W W' : World} {cs : Array Value} {o : List UInt8} (h : show_st w cs o W) (hb : Below W.heap.size W W') : show_st w cs o W' :=
 ⟨(hb.block _ (show_lt h)).trans h.1, show_keep h.2.1 hb, h.2.2.trans (hb.mono (Nat.le_of_succ_le (show_lt h)))⟩
theorem show_alloc {w W : World} {cs : Array Value} {o : List UInt8} (h : show_st w cs o W) (x : Obj) : show_st w cs o (W.alloc x) := show_below h (below_alloc (Below.refl _ _) x)
def show_add (o : List UInt8) (ws : List ByteArray) : Option (List UInt8) := if o.length + (Lib.join (ws.map (·.data.toList)) [32]).length ≤ 1099511627776 then some (o ++ Lib.join (ws.map (·.data.toList)) [32] ++ [10]) else none
theorem show_call {w W : World} {cs : Array Value} {o o' : List UInt8} (g n : Nat) (words : List ByteArray) (h : show_st w cs o W) (hg : W.heap[g]? = some (.cells (words.map Value.string).toArray 9 (0, 0))) (hn : words.length = n) (hs : n ≤ 8) (ha : show_add o words = some o') :
  Calls Try.prog 33 #[.slice (some ⟨g, 0, none⟩) n n, .pointer (some ⟨w.heap.size + 1, 0, none⟩)] W fun e w' => e = .returned (.tuple #[]) ∧ show_st w cs o' w' ∧ W.heap.size ≤ w'.heap.size := by
 unfold show_add at ha
 split at ha
 ·rename_i hl
  obtain rfl := Option.some.inj ha
  refine (show_line (w.heap.size + 1) (w.heap.size + 1) g n words o W h.2.1 (show_lt h) hg hn hs hl).mono ?_
  rintro e w' ⟨rfl, hi, hb⟩
  exact ⟨rfl, ⟨(hb.block _ (Nat.lt_succ_self _)).trans h.1, Or.inr hi, h.2.2.trans (hb.mono (Nat.le_succ _))⟩, hb.size⟩
 ·cases ha
theorem show_start (w : World) (cs : Array Value) : show_st w cs [] ((w.alloc (.cells cs 26)).alloc (.cells #[.pointer none, .slice none 0 0] 54)) := by
 have h := Lib.fresh_isBuilder 54 5 (w.alloc (.cells cs 26))
 simp only [World.size_alloc] at h
 exact ⟨blk_alloc (heap_alloc_new w _) _, h, below_alloc (below_alloc (Below.refl _ _) _) _⟩
theorem show_drew {w W : World} {cs : Array Value} {o : List UInt8} (h : show_st w cs o W) : show_st w cs o W.drew := show_below h (below_drew (Below.refl _ _))
theorem show_drop (l : List S34) (i : Nat) (h : i < l.length) : l.drop i = rd_T34 l (i : Int) :: l.drop (i + 1) := by
 rw [List.drop_eq_getElem_cons h]
 simp [rd_T34, List.getD_eq_getElem?_getD, List.getElem?_eq_getElem h]
theorem show_goes {P : Program} {ops : Array Oper} {Q : Exit → Act → World → Prop} {oi : Oper} {N : Option Tmp} {a : Act} {w : World} {K : Act → World → Prop} {f : FuncId} {fn : Func} {tt : Operand} {xs_ : Array Operand} {ts : Array TypeId} {cap : Array Value} (hf : P.funcs[f]? = some fn) (hname : (fn.name == "runtime.NumGoroutine") = false) (hb : fn.body.isSome = true) (args : Array Value)
  (hw : Region.wanted oi (yielded ops a.tmps) = true) (hN : oi.dst = N) (hop : oi.op = .call { callee := .value tt, args := xs_, argTypes := ts }) (hv : a.eval tt = .func (.func f) #[] cap) (hargs : xs_.map a.eval ++ cap = args)
  (h : Calls P f args w fun e w' => ∃ v, e = .returned v ∧ K (a.put N v) w') : if Region.wanted oi (yielded ops a.tmps) = true then Oper.wp P oi a w K Q else K (a.put N undef) w := by
 refine call_ f args hw hN ?_ h
 have he := enters_ hf hname hb args w
 unfold execOp
 subst hargs
 simp [hop, resolve, Deferred.ofValue, invoke, hv] at he ⊢
 simp [he]
def show_marks (k : Nat) : List S34 → List UInt8 → Option (List UInt8)
 | [], o => some o
 | m :: r, o => (state_digits.f k m.f1).bind fun d => (show_add o [(⟨#[109, 97, 114, 107]⟩ : ByteArray), m.f0, d]).bind fun o => show_marks k r o
theorem show_marks.mono (k : Nat) : ∀ l o, LeO (show_marks k l o) (show_marks (k + 1) l o)
 | [], _ => LeO.refl _
 | _ :: r, _ => LeO.bind (state_digits.mono _ _) fun _ => LeO.bind (LeO.refl _) fun _ => show_marks.mono k r _
def state_Show.f (k : Nat) (a0_0 : ByteArray) (l0_1 : List S34) (l0_2 l0_3 : List S38) (a0_4 : Bool) (l0_5 : List S36) : Option ByteArray :=
 if 1000 < l0_1.length then none else (show_add [] [(⟨#[116, 101, 120, 116]⟩ : ByteArray), a0_0]).bind fun o => (show_marks k l0_1 o).bind fun o => (state_digits.f k (l0_2.length : Int)).bind fun d => (show_add o [(⟨#[117, 110, 100, 111]⟩ : ByteArray), d]).bind fun o => (state_digits.f k (l0_3.length : Int)).bind fun d => (show_add o [(⟨#[114, 101, 100, 111]⟩ : ByteArray), d]).bind fun o => if a0_4 = true then ((state_digits.f k (l0_5.length : Int)).bind fun d => (show_add o [(⟨#[111, 112, 101, 110]⟩ : ByteArray), d]).bind fun o => some ⟨o.toArray⟩) else some ⟨o.toArray⟩
theorem state_Show.mono : ∀ a0_0 l0_1 l0_2 l0_3 a0_4 l0_5 k, LeO (state_Show.f k a0_0 l0_1 l0_2 l0_3 a0_4 l0_5) (state_Show.f (k + 1) a0_0 l0_1 l0_2 l0_3 a0_4 l0_5) := fun a0_0 l0_1 l0_2 l0_3 a0_4 l0_5 k =>
 LeO.ite (LeO.refl _) <| LeO.bind (LeO.refl _) fun _ => LeO.bind (show_marks.mono k _ _) fun _ => LeO.bind (state_digits.mono _ _) fun _ => LeO.bind (LeO.refl _) fun _ => LeO.bind (state_digits.mono _ _) fun _ => LeO.bind (LeO.refl _) fun _ => LeO.ite (LeO.bind (state_digits.mono _ _) fun _ => LeO.bind (LeO.refl _) fun _ => LeO.refl _) (LeO.refl _)
set_option maxHeartbeats 16000000 in
set_option maxRecDepth 100000 in
theorem state_Show.calls (k : Nat) (a0_0 : ByteArray) (A0_1 : Option Addr) (c0_1 : Nat) (l0_1 : List S34) (A0_2 : Option Addr) (c0_2 : Nat) (l0_2 : List S38) (A0_3 : Option Addr) (c0_3 : Nat) (l0_3 : List S38) (a0_4 : Bool) (A0_5 : Option Addr) (c0_5 : Nat) (l0_5 : List S36) (r : ByteArray) (w : World) (hr0_1 : Kd.C k34 w A0_1 l0_1.length l0_1) (hc0_1 : l0_1.length ≤ c0_1) (hr0_2 : Kd.C k38 w A0_2 l0_2.length l0_2) (hc0_2 : l0_2.length ≤ c0_2) (hr0_3 : Kd.C k38 w A0_3 l0_3.length l0_3) (hc0_3 : l0_3.length ≤ c0_3) (hr0_5 : Kd.C k36 w A0_5 l0_5.length l0_5) (hc0_5 : l0_5.length ≤ c0_5) (h : state_Show.f k a0_0 l0_1 l0_2 l0_3 a0_4 l0_5 = some r) :
  Calls Try.prog 10 #[.agg #[.string a0_0, .slice A0_1 l0_1.length c0_1, .slice A0_2 l0_2.length c0_2, .slice A0_3 l0_3.length c0_3, .bool a0_4, .slice A0_5 l0_5.length c0_5]] w fun e w' => e = .returned (.string r) ∧ Below w.heap.size w w' := by
 have hmf : ∀ (fn : Fn) (first cap : Array Value) (w : World), (Instr.makeFunc fn first cap).run Try.prog w = .ok (.func fn first cap) w := fun _ _ _ _ => rfl
 have HC1 := Aside0.mk hr0_1
 have Hc1 := Aside0.mk hc0_1
 have HC2 := Aside0.mk hr0_2
 have Hc2 := Aside0.mk hc0_2
 have HC3 := Aside0.mk hr0_3
 have Hc3 := Aside0.mk hc0_3
 have HC5 := Aside0.mk hr0_5
 have Hc5 := Aside0.mk hc0_5
 have H := Aside0.mk h
 clear h hr0_1 hr0_2 hr0_3 hr0_5 hc0_1 hc0_2 hc0_3 hc0_5
 skip
 replace H := H.out
 unfold state_Show.f at H
 have hln : ¬ 1000 < l0_1.length := fun c => by rw [if_pos c] at H; cases H
 rw [if_neg hln] at H
 have HLN := Aside0.mk hln
 clear hln
 obtain ⟨o1, hA, H⟩ := Option.bind_eq_some_iff.mp H
 have HA1 := Aside0.mk hA
 clear hA
 obtain ⟨o2, hA, H⟩ := Option.bind_eq_some_iff.mp H
 have HA2 := Aside0.mk hA
 clear hA
 obtain ⟨d2, hA, H⟩ := Option.bind_eq_some_iff.mp H
 have HD2 := Aside0.mk hA
 clear hA
 obtain ⟨o3, hA, H⟩ := Option.bind_eq_some_iff.mp H
 have HA3 := Aside0.mk hA
 clear hA
 obtain ⟨d3, hA, H⟩ := Option.bind_eq_some_iff.mp H
 have HD3 := Aside0.mk hA
 clear hA
 obtain ⟨o4, hA, H⟩ := Option.bind_eq_some_iff.mp H
 have HA4 := Aside0.mk hA
 have HF := Aside0.mk H
 clear hA H
 have HS0 := Aside0.mk (show_start w #[.string a0_0, .slice A0_1 l0_1.length c0_1, .slice A0_2 l0_2.length c0_2, .slice A0_3 l0_3.length c0_3, .bool a0_4, .slice A0_5 l0_5.length c0_5])
 have hg0 : (((w.alloc (.cells #[.string a0_0, .slice A0_1 l0_1.length c0_1, .slice A0_2 l0_2.length c0_2, .slice A0_3 l0_3.length c0_3, .bool a0_4, .slice A0_5 l0_5.length c0_5] 26)).alloc (.cells #[.pointer none, .slice none 0 0] 54)).alloc (.cells #[.string (⟨#[116, 101, 120, 116]⟩ : ByteArray), .string a0_0] 9)).heap[w.heap.size + 1 + 1]? = some (.cells #[.string (⟨#[116, 101, 120, 116]⟩ : ByteArray), .string a0_0] 9 (0, 0)) := by simpa using heap_alloc_new ((w.alloc (.cells #[.string a0_0, .slice A0_1 l0_1.length c0_1, .slice A0_2 l0_2.length c0_2, .slice A0_3 l0_3.length c0_3, .bool a0_4, .slice A0_5 l0_5.length c0_5] 26)).alloc (.cells #[.pointer none, .slice none 0 0] 54)) (.cells #[.string (⟨#[116, 101, 120, 116]⟩ : ByteArray), .string a0_0] 9)
 replace hg0 := Aside0.mk hg0
 go_enter Try.func10, Try.ntmps10
 go_upto_region 4 with (go_at_call 33; refine (show_call (w.heap.size + 1 + 1) 2 [(⟨#[116, 101, 120, 116]⟩ : ByteArray), a0_0] (show_alloc HS0.out _) hg0.out rfl (by decide) HA1.out).mono ?_; rintro e w2 ⟨rfl, hs, _⟩; have HS1 := Aside0.mk hs; clear hs)
 have z1 := (blk_cell HS1.out.1 1).trans rfl
 go_wp2_with fail
 clear z1
 go_loopg [16] l0_1.length (fun kq v16 wx => ∃ (i : Nat) (oq : List UInt8), v16 = .int .i64 (i : Int) ∧ Aside0 (i + kq = l0_1.length) ∧ Aside0 (show_marks k (l0_1.drop i) oq = some o2) ∧ Aside0 (show_st w #[.string a0_0, .slice A0_1 l0_1.length c0_1, .slice A0_2 l0_2.length c0_2, .slice A0_3 l0_3.length c0_3, .bool a0_4, .slice A0_5 l0_5.length c0_5] oq wx))
 case atStart => exact ⟨0, o1, rfl, ⟨Nat.zero_add _⟩, HA2, HS1⟩
 case round =>
  obtain ⟨i, oq, rfl, HI, HQ, HS⟩ := hrel
  cases gk with
  | zero =>
   obtain rfl : i = l0_1.length := by have := HI.out; omega
   have c0 : decide ((l0_1.length : Int) < (l0_1.length : Int)) = false := decide_eq_false (by omega)
   have hq := HQ.out
   rw [List.drop_length] at hq
   obtain rfl := Option.some.inj hq
   clear hq HQ
   have z2 := (blk_cell HS.out.1 2).trans rfl
   have hF := HF.out
   cases a0_4 with
   | false =>
    obtain rfl := Option.some.inj hF
    clear hF HF
    go_wp2_with (first | (go_at_call 37; (with_reducible refine (state_digits.calls k (l0_2.length : Int) d2 _ HD2.out).mono ?_); rintro e w5 ⟨rfl, hb⟩; replace HS := Aside0.mk (show_below HS.out hb); clear hb) | (go_at_call 37; (with_reducible refine (state_digits.calls k (l0_3.length : Int) d3 _ HD3.out).mono ?_); rintro e w5 ⟨rfl, hb⟩; replace HS := Aside0.mk (show_below HS.out hb); clear hb) | (go_at_call 33; (refine (show_call _ 2 [(⟨#[117, 110, 100, 111]⟩ : ByteArray), d2] (show_alloc HS.out (.cells #[.string (⟨#[117, 110, 100, 111]⟩ : ByteArray), .string d2] 9)) (heap_alloc_new _ (.cells #[.string (⟨#[117, 110, 100, 111]⟩ : ByteArray), .string d2] 9)) rfl (by decide) HA3.out).mono ?_); rintro e w6 ⟨rfl, hs, _⟩; replace HS := Aside0.mk hs; clear hs; have zz3 := (blk_cell HS.out.1 3).trans rfl; have zy3 := (blk_cell HS.out.1 5).trans rfl) | (go_at_call 33; (refine (show_call _ 2 [(⟨#[114, 101, 100, 111]⟩ : ByteArray), d3] (show_alloc HS.out (.cells #[.string (⟨#[114, 101, 100, 111]⟩ : ByteArray), .string d3] 9)) (heap_alloc_new _ (.cells #[.string (⟨#[114, 101, 100, 111]⟩ : ByteArray), .string d3] 9)) rfl (by decide) HA4.out).mono ?_); rintro e w6 ⟨rfl, hs, _⟩; replace HS := Aside0.mk hs; clear hs; have zz4 := (blk_cell HS.out.1 4).trans rfl; have zy4 := (blk_cell HS.out.1 5).trans rfl) | (go_at_call 38; (refine (Try.Builder_String_any (w.heap.size + 1) (w.heap.size + 1) o4 _ HS.out.2.1 (show_lt HS.out)).mono ?_); rintro e w7 ⟨rfl, hb⟩; have KE := Aside0.mk (HS.out.2.2.trans (hb.mono (Nat.le_succ _))); clear hb))
    go_ret
    exact ⟨rfl, KE.out⟩
   | true =>
    rw [if_pos rfl] at hF
    obtain ⟨d5, hA, hF⟩ := Option.bind_eq_some_iff.mp hF
    have HD5 := Aside0.mk hA
    obtain ⟨o5, hA5, hF⟩ := Option.bind_eq_some_iff.mp hF
    have HA5 := Aside0.mk hA5
    obtain rfl := Option.some.inj hF
    clear hA hA5 hF HF
    go_wp2_with (first | (go_at_call 37; (with_reducible refine (state_digits.calls k (l0_2.length : Int) d2 _ HD2.out).mono ?_); rintro e w5 ⟨rfl, hb⟩; replace HS := Aside0.mk (show_below HS.out hb); clear hb) | (go_at_call 37; (with_reducible refine (state_digits.calls k (l0_3.length : Int) d3 _ HD3.out).mono ?_); rintro e w5 ⟨rfl, hb⟩; replace HS := Aside0.mk (show_below HS.out hb); clear hb) | (go_at_call 37; (with_reducible refine (state_digits.calls k (l0_5.length : Int) d5 _ HD5.out).mono ?_); rintro e w5 ⟨rfl, hb⟩; replace HS := Aside0.mk (show_below HS.out hb); clear hb) | (go_at_call 33; (refine (show_call _ 2 [(⟨#[117, 110, 100, 111]⟩ : ByteArray), d2] (show_alloc HS.out (.cells #[.string (⟨#[117, 110, 100, 111]⟩ : ByteArray), .string d2] 9)) (heap_alloc_new _ (.cells #[.string (⟨#[117, 110, 100, 111]⟩ : ByteArray), .string d2] 9)) rfl (by decide) HA3.out).mono ?_); rintro e w6 ⟨rfl, hs, _⟩; replace HS := Aside0.mk hs; clear hs; have zz3 := (blk_cell HS.out.1 3).trans rfl; have zy3 := (blk_cell HS.out.1 5).trans rfl) | (go_at_call 33; (refine (show_call _ 2 [(⟨#[114, 101, 100, 111]⟩ : ByteArray), d3] (show_alloc HS.out (.cells #[.string (⟨#[114, 101, 100, 111]⟩ : ByteArray), .string d3] 9)) (heap_alloc_new _ (.cells #[.string (⟨#[114, 101, 100, 111]⟩ : ByteArray), .string d3] 9)) rfl (by decide) HA4.out).mono ?_); rintro e w6 ⟨rfl, hs, _⟩; replace HS := Aside0.mk hs; clear hs; have zz4 := (blk_cell HS.out.1 4).trans rfl; have zy4 := (blk_cell HS.out.1 5).trans rfl) | (go_at_call 33; (refine (show_call _ 2 [(⟨#[111, 112, 101, 110]⟩ : ByteArray), d5] (show_alloc HS.out (.cells #[.string (⟨#[111, 112, 101, 110]⟩ : ByteArray), .string d5] 9)) (heap_alloc_new _ (.cells #[.string (⟨#[111, 112, 101, 110]⟩ : ByteArray), .string d5] 9)) rfl (by decide) HA5.out).mono ?_); rintro e w6 ⟨rfl, hs, _⟩; replace HS := Aside0.mk hs; clear hs; have zz0 := (blk_cell HS.out.1 0).trans rfl; have zy0 := (blk_cell HS.out.1 5).trans rfl) | (go_at_call 38; (refine (Try.Builder_String_any (w.heap.size + 1) (w.heap.size + 1) o5 _ HS.out.2.1 (show_lt HS.out)).mono ?_); rintro e w7 ⟨rfl, hb⟩; have KE := Aside0.mk (HS.out.2.2.trans (hb.mono (Nat.le_succ _))); clear hb))
    go_ret
    exact ⟨rfl, KE.out⟩
  | succ k1 =>
   have hi : i < l0_1.length := by have := HI.out; omega
   have c0 : decide ((i : Int) < (l0_1.length : Int)) = true := decide_eq_true (by omega)
   have hq := HQ.out
   rw [show_drop l0_1 i hi] at hq
   have p0 : (0 : Int) ≤ (i : Int) := by omega
   have q0 : (i : Int) < (l0_1.length : Int) := by omega
   obtain ⟨ad, e0, hx0, hx1⟩ := at_T34 (Kd.C_below HC1.out HS.out.2.2) (i : Int) p0 q0
   cases e0
   obtain ⟨⟨nm, at_⟩, hx⟩ : ∃ x, rd_T34 l0_1 (i : Int) = x := ⟨_, rfl⟩
   rw [hx] at hq hx0 hx1
   simp only [Int.toNat_natCast] at hx0 hx1
   clear hx
   obtain ⟨d, hd, hq⟩ := Option.bind_eq_some_iff.mp hq
   obtain ⟨oz, ha, hq⟩ := Option.bind_eq_some_iff.mp hq
   have HD := Aside0.mk hd
   have HA := Aside0.mk ha
   have HZ := Aside0.mk hq
   clear hd ha hq HQ
   have p0 := eq_true p0
   have q0 := eq_true q0
   go_upto_region 7 with fail
   obtain ⟨wc, hwc⟩ : ∃ x : World, wr.alloc (.cells #[.string nm, .int .i64 at_] 34) = x := ⟨_, rfl⟩
   rw [hwc]
   have KM : wc.heap[wr.heap.size]? = some (.cells #[.string nm, .int .i64 at_] 34 (0, 0)) := by rw [← hwc]; exact heap_alloc_new wr _
   replace KM := Aside0.mk KM
   replace HS := Aside0.mk (show_alloc HS.out (.cells #[.string nm, .int .i64 at_] 34))
   rw [hwc] at HS
   clear hwc
   refine start_ (n := 8) (S := fun w' => w'.cell? ⟨wr.heap.size, 0, none⟩ = some (.string nm) ∧ w'.cell? ⟨wr.heap.size, 1, none⟩ = some (.int .i64 at_)) (ds := [7]) #[false, false, false, false, false, false, false, false] (by kernel_rfl) rfl rfl ⟨(blk_cell (blk_drew KM.out) 0).trans rfl, (blk_cell (blk_drew KM.out) 1).trans rfl⟩ (fun hHeld => ?_)
   refine pure_ (i := 0) (N := some 20) (v := ?_) (a' := ?_) #[true, false, false, false, false, false, false, false] rfl rfl (by kernel_rfl) (fun _ _ _ h => h) (Or.inl ⟨by rfl, ?_⟩) ?_ ?_
   rotate_left
   ·intro w'
    go_simp
    with_reducible rfl
   rotate_left
   ·simp only [Act.put, List.setIfInBounds_toArray, List.set_cons_zero, List.set_cons_succ, i64_w, i32_w]
    rfl
   refine pure_ (i := 1) (N := some 21) (v := ?_) (a' := ?_) #[true, true, false, false, false, false, false, false] rfl rfl (by kernel_rfl) (fun _ _ _ h => h) (Or.inl ⟨by rfl, ?_⟩) ?_ ?_
   rotate_left
   ·intro w'
    go_simp
    with_reducible rfl
   rotate_left
   ·simp only [Act.put, List.setIfInBounds_toArray, List.set_cons_zero, List.set_cons_succ, i64_w, i32_w]
    rfl
   refine pure_ (i := 3) (N := some 23) (v := ?_) (a' := ?_) #[true, true, false, true, false, false, false, false] rfl rfl (by kernel_rfl) (fun _ _ _ h => h) (Or.inl ⟨by rfl, ?_⟩) ?_ ?_
   rotate_left
   ·intro w'
    go_simp
    with_reducible rfl
   rotate_left
   ·simp only [Act.put, List.setIfInBounds_toArray, List.set_cons_zero, List.set_cons_succ, i64_w, i32_w]
    rfl
   refine take_ (i := 2) (N := some 22) (v := ?_) (a' := ?_) #[true, true, true, true, false, false, false, false] rfl rfl (by kernel_rfl) (fun _ _ _ h => h) (Or.inl ⟨by rfl, ?_⟩) hHeld ?_ ?_
   rotate_left
   ·rintro w' ⟨s0, s1⟩
    go_simp
    with_reducible rfl
   rotate_left
   ·simp only [Act.put, List.setIfInBounds_toArray, List.set_cons_zero, List.set_cons_succ, i64_w, i32_w]
    rfl
   refine take_ (i := 4) (N := some 24) (v := ?_) (a' := ?_) #[true, true, true, true, true, false, false, false] rfl rfl (by kernel_rfl) (fun _ _ _ h => h) (Or.inl ⟨by rfl, ?_⟩) hHeld ?_ ?_
   rotate_left
   ·rintro w' ⟨s0, s1⟩
    go_simp
    with_reducible rfl
   rotate_left
   ·simp only [Act.put, List.setIfInBounds_toArray, List.set_cons_zero, List.set_cons_succ, i64_w, i32_w]
    rfl
   refine one_ (i := 5) (N := some 25) #[true, true, true, true, true, true, false, false] rfl rfl (by kernel_rfl) (by decide) (fun K hK => ?_)
   refine goes_ Try.func37 (by kernel_rfl) rfl #[.int .i64 at_] (by rfl) rfl rfl (by (try simp only [List.map_toArray, List.map_cons, List.map_nil]); first | done | rfl) ?_
   with_reducible refine (state_digits.calls k at_ d _ HD.out).mono ?_
   rintro e w5 ⟨rfl, hb⟩
   refine ⟨_, rfl, ?_⟩
   have KM := Aside0.mk (blk_below (blk_drew KM.out) hb)
   have HS := Aside0.mk (show_below (show_drew HS.out) hb)
   clear hb
   refine hK.out _ _ ⟨(blk_cell (KM.out) 0).trans rfl, (blk_cell (KM.out) 1).trans rfl⟩ (fun hHeld => ?_)
   clear hK K
   refine norm_ (a' := ?_) ?_ ?_
   rotate_left
   ·show Act.put _ (some 25) _ = _
    simp only [Act.put, List.setIfInBounds_toArray, List.set_cons_zero, List.set_cons_succ, i64_w, i32_w]
    rfl
   refine one_ (i := 6) (N := some 26) #[true, true, true, true, true, true, true, false] rfl rfl (by kernel_rfl) (by decide) (fun K hK => ?_)
   refine value_ (w1 := ?_) (v := ?_) (by rfl) rfl ?_ ?_
   rotate_left 2
   ·go_simp
    constructor
    ·rfl
    ·rfl
   refine hK.out _ _ ⟨(blk_cell (blk_alloc KM.out _) 0).trans rfl, (blk_cell (blk_alloc KM.out _) 1).trans rfl⟩ (fun hHeld => ?_)
   clear hK K
   refine norm_ (a' := ?_) ?_ ?_
   rotate_left
   ·show Act.put _ (some 26) _ = _
    simp only [Act.put, List.setIfInBounds_toArray, List.set_cons_zero, List.set_cons_succ, i64_w, i32_w]
    rfl
   refine last_ (i := 7) (N := some 27) #[true, true, true, true, true, true, true, true] rfl rfl (by kernel_rfl) (by decide) (fun K hK => ?_)
   refine show_goes (cap := #[.pointer (some ⟨w.heap.size + 1, 0, none⟩)]) Try.func33 (by kernel_rfl) rfl #[.slice (some ⟨w5.heap.size, 0, none⟩) 3 3, .pointer (some ⟨w.heap.size + 1, 0, none⟩)] (by rfl) rfl rfl rfl (by simp [Act.eval]) ?_
   refine (show_call w5.heap.size 3 [(⟨#[109, 97, 114, 107]⟩ : ByteArray), nm, d] (show_alloc HS.out (.cells #[.string (⟨#[109, 97, 114, 107]⟩ : ByteArray), .string nm, .string d] 9)) (heap_alloc_new w5 (.cells #[.string (⟨#[109, 97, 114, 107]⟩ : ByteArray), .string nm, .string d] 9)) rfl (by decide) HA.out).mono ?_
   rintro e w6 ⟨rfl, hs, _⟩
   refine ⟨_, rfl, ?_⟩
   have HS6 := Aside0.mk hs
   clear hs
   refine hK.out _ _ ?_
   clear hK K
   refine norm_ (a' := ?_) ?_ ?_
   rotate_left
   ·show Act.put _ (some 27) _ = _
    simp only [Act.put, List.setIfInBounds_toArray, List.set_cons_zero, List.set_cons_succ, i64_w, i32_w]
    rfl
   refine done_ (by kernel_rfl) ?_
   have ws : wrap64 ((i : Int) + 1) = ((i + 1 : Nat) : Int) := by
    have := HI.out
    have := HLN.out
    unfold wrap64
    omega
   go_wp2_with fail
   go_roundg k1
   case measure => omega
   case rel => exact ⟨i + 1, oz, rfl, ⟨by have := HI.out; omega⟩, HZ, HS6⟩
/-! ### styluslaw25_lives: function 7 -/
def lives25_U : List S38 := [⟨[⟨0, ⟨#[]⟩, ⟨#[97]⟩⟩]⟩]
def lives25_T : ByteArray := ⟨#[116, 101, 120, 116, 32, 10, 117, 110, 100, 111, 32, 48, 10, 114, 101, 100, 111, 32, 48, 10]⟩
def styluslaw25_lives.f (k : Nat) : Option Bool := (state_Show.f k (⟨#[]⟩ : ByteArray) [] [] [] false []).bind fun t => if t = lives25_T then ((state_Right.f k (⟨#[97]⟩ : ByteArray) [] lives25_U [] false []).bind fun a => if a = true then ((state_Right.f k (⟨#[255]⟩ : ByteArray) [] [] [] false []).bind fun b => if b = false then some true else none) else none) else none
theorem styluslaw25_lives.mono : ∀ k, LeO (styluslaw25_lives.f k) (styluslaw25_lives.f (k + 1)) := fun k =>
 LeO.bind (state_Show.mono _ _ _ _ _ _ k) fun _ => LeO.ite (LeO.bind (state_Right.mono _ _ _ _ _ _ k) fun _ => LeO.ite (LeO.bind (state_Right.mono _ _ _ _ _ _ k) fun _ => LeO.refl _) (LeO.refl _)) (LeO.refl _)
theorem lives25_C1 {W : World} {g : Nat} {a : Int} {b c : ByteArray} (h : W.heap[g]? = some (.cells #[.int .i64 a, .string b, .string c] 36 (0, 0))) : Kd.C k36 W (some ⟨g, 0, none⟩) 1 [⟨a, b, c⟩] := by
 refine ⟨rfl, by decide, fun _ => ⟨_, rfl, fun j p hj => ?_⟩⟩
 cases j with
 | succ j => simp at hj
 | zero =>
  simp only [List.getElem?_cons_zero, Option.some.injEq] at hj
  subst hj
  refine ⟨[.int .i64 a, .string b, .string c], rfl, k36.K_of_M (k36_mkM W 0 (fun _ => True) ⟨a, b, c⟩), fun i u hi => ?_⟩
  rw [add_plain]
  simp only [Nat.zero_mul, Nat.zero_add]
  rw [blk_cell h i]
  simpa using hi
theorem lives25_C2 {W : World} {g : Nat} {A : Option Addr} {c : Nat} {l : List S36} (h : W.heap[g]? = some (.cells #[.slice A l.length c] 38 (0, 0))) (hc : l.length ≤ c) (hl : Kd.C k36 W A l.length l) : Kd.C k38 W (some ⟨g, 0, none⟩) 1 [⟨l⟩] := by
 refine ⟨rfl, by decide, fun _ => ⟨_, rfl, fun j p hj => ?_⟩⟩
 cases j with
 | succ j => simp at hj
 | zero =>
  simp only [List.getElem?_cons_zero, Option.some.injEq] at hj
  subst hj
  refine ⟨[.slice A l.length c], rfl, ⟨A, c, rfl, hc, hl⟩, fun i u hi => ?_⟩
  rw [add_plain]
  simp only [Nat.zero_mul, Nat.zero_add]
  rw [blk_cell h i]
  simpa using hi
theorem lives25_show (k : Nat) (w : World) (h : state_Show.f k (⟨#[]⟩ : ByteArray) [] [] [] false [] = some lives25_T) :
  Calls Try.prog 10 #[.agg #[.string (⟨#[]⟩ : ByteArray), .slice none 0 0, .slice none 0 0, .slice none 0 0, .bool false, .slice none 0 0]] w fun e w' => e = .returned (.string lives25_T) ∧ Below w.heap.size w w' :=
 state_Show.calls k (⟨#[]⟩ : ByteArray) none 0 [] none 0 [] none 0 [] false none 0 [] lives25_T w (Kd.C_nil _ _) (Nat.le_refl _) (Kd.C_nil _ _) (Nat.le_refl _) (Kd.C_nil _ _) (Nat.le_refl _) (Kd.C_nil _ _) (Nat.le_refl _) h
theorem lives25_bad (k : Nat) (w : World) (h : state_Right.f k (⟨#[255]⟩ : ByteArray) [] [] [] false [] = some false) :
  Calls Try.prog 8 #[.agg #[.string (⟨#[255]⟩ : ByteArray), .slice none 0 0, .slice none 0 0, .slice none 0 0, .bool false, .slice none 0 0]] w fun e w' => e = .returned (.bool false) ∧ Below w.heap.size w w' :=
 state_Right.calls k (⟨#[255]⟩ : ByteArray) none 0 [] none 0 [] none 0 [] false none 0 [] false w (Kd.C_nil _ _) (Nat.le_refl _) (Kd.C_nil _ _) (Nat.le_refl _) (Kd.C_nil _ _) (Nat.le_refl _) (Kd.C_nil _ _) (Nat.le_refl _) h
theorem lives25_good (k : Nat) (w : World) (h : state_Right.f k (⟨#[97]⟩ : ByteArray) [] lives25_U [] false [] = some true) :
  Calls Try.prog 8 #[.agg #[.string (⟨#[97]⟩ : ByteArray), .slice none 0 0, .slice (some ⟨w.heap.size + 1, 0, none⟩) 1 1, .slice none 0 0, .bool false, .slice none 0 0]] ((w.alloc (.cells #[.int .i64 0, .string ⟨#[]⟩, .string ⟨#[97]⟩] 36)).alloc (.cells #[.slice (some ⟨w.heap.size, 0, none⟩) 1 1] 38)) fun e w' => e = .returned (.bool true) ∧ Below w.heap.size w w' := by
 have h1 : ((w.alloc (.cells #[.int .i64 0, .string ⟨#[]⟩, .string ⟨#[97]⟩] 36)).alloc (.cells #[.slice (some ⟨w.heap.size, 0, none⟩) 1 1] 38)).heap[w.heap.size + 1]? = some (.cells #[.slice (some ⟨w.heap.size, 0, none⟩) 1 1] 38 (0, 0)) := by
  simpa using heap_alloc_new (w.alloc (.cells #[.int .i64 0, .string ⟨#[]⟩, .string ⟨#[97]⟩] 36)) (.cells #[.slice (some ⟨w.heap.size, 0, none⟩) 1 1] 38)
 refine (state_Right.calls k (⟨#[97]⟩ : ByteArray) none 0 [] (some ⟨w.heap.size + 1, 0, none⟩) 1 lives25_U none 0 [] false none 0 [] true _ (Kd.C_nil _ _) (Nat.le_refl _) (lives25_C2 (l := [⟨0, ⟨#[]⟩, ⟨#[97]⟩⟩]) h1 (Nat.le_refl _) (lives25_C1 (blk_alloc (heap_alloc_new w _) _))) (Nat.le_refl _) (Kd.C_nil _ _) (Nat.le_refl _) (Kd.C_nil _ _) (Nat.le_refl _) h).mono ?_
 rintro e w' ⟨rfl, hb⟩
 exact ⟨rfl, below_step (below_alloc (below_alloc (Below.refl _ _) _) _) hb⟩
set_option maxHeartbeats 8000000 in
set_option maxRecDepth 100000 in
theorem styluslaw25_lives.calls (k : Nat) (r : Bool) (w : World) (h : styluslaw25_lives.f k = some r) :
  Calls Try.prog 7 #[] w fun e w' => e = .returned (.bool r) ∧ Below w.heap.size w w' := by
 have huS := Try.underlying38
 have huE := Try.underlying36
 have huT := Try.underlying26
 unfold styluslaw25_lives.f at h
 obtain ⟨t, A1, h⟩ := Option.bind_eq_some_iff.mp h
 by_cases ht : t = lives25_T
 ·rw [if_pos ht] at h
  subst ht
  obtain ⟨a, A2, h⟩ := Option.bind_eq_some_iff.mp h
  cases a with
  | false => exact absurd h (by simp)
  | true =>
   rw [if_pos rfl] at h
   obtain ⟨b, A3, h⟩ := Option.bind_eq_some_iff.mp h
   cases b with
   | true => exact absurd h (by simp)
   | false =>
    rw [if_pos rfl] at h
    obtain rfl := Option.some.inj h
    have HA1 := Aside0.mk A1
    have HA2 := Aside0.mk A2
    have HA3 := Aside0.mk A3
    clear A1 A2 A3 h
    have heq : (lives25_T.toList == ([116, 101, 120, 116, 32, 10, 117, 110, 100, 111, 32, 48, 10, 114, 101, 100, 111, 32, 48, 10] : List UInt8)) = true := by decide +kernel
    go_enter Try.func7, Try.ntmps7
    go_wp2_with (first
     | (go_at_call 10; (with_reducible refine (lives25_show k _ HA1.out).mono ?_); rintro e w2 ⟨rfl, hb⟩; have KB := Aside0.mk hb; clear hb)
     | (go_at_call 8; (with_reducible refine (lives25_bad k _ HA3.out).mono ?_); rintro e w4 ⟨rfl, hb⟩; have KB4 := Aside0.mk (below_step KB3.out hb); clear hb)
     | (go_at_call 8; (with_reducible refine (lives25_good k _ HA2.out).mono ?_); rintro e w3 ⟨rfl, hb⟩; have KB3 := Aside0.mk (below_step KB.out hb); clear hb))
    go_ret
    exact ⟨rfl, KB4.out⟩
 ·rw [if_neg ht] at h
  cases h
/-! ### stylusref01_number: function 88 -/
mutual
def stylusref01_number.j0 : Nat → ByteArray → Int → Option (Int)
 | 0, _, _ => none
 | k + 1, x0, x3 => if x3 < 0 then (some (-1)) else (stylusref01_number.l0 k x0 x3 1)
def stylusref01_number.l0 : Nat → ByteArray → Int → Int → Option (Int)
 | 0, _, _, _ => none
 | k + 1, x0, x3, x4 => if x4 < (x0.size : Int) then (if 0 ≤ x4 then (stylusref01_number.l0 k x0 (wrap64 ((wrap64 (64 * x3)) + (Int.tmod (wrap64 (bt x0 x4)) 64))) (wrap64 (x4 + 1))) else (none)) else (some x3)
end
def stylusref01_number.f (k : Nat) (a0 : ByteArray) : Option (Int) := if 0 < (a0.size : Int) then (if (a0.size : Int) = 1 then (some (wrap64 (bt a0 0))) else (if (a0.size : Int) = 2 then (stylusref01_number.j0 k a0 (wrap64 ((wrap64 (bt a0 0)) - 192))) else (if (a0.size : Int) = 3 then (stylusref01_number.j0 k a0 (wrap64 ((wrap64 (bt a0 0)) - 224))) else (stylusref01_number.j0 k a0 (wrap64 ((wrap64 (bt a0 0)) - 240)))))) else (none)
set_option maxHeartbeats 8000000 in
set_option maxRecDepth 100000 in
theorem stylusref01_number.calls (k : Nat) (a0 : ByteArray) (r : Int) (w : World) (h : stylusref01_number.f k a0 = some r) :
  Calls Try.prog 88 #[.string a0] w fun e w' => e = .returned (.int .i64 r) ∧ Drawn0 w w' := by
 have H : (if 0 < (a0.size : Int) then (if (a0.size : Int) = 1 then (some (wrap64 (bt a0 0))) else (if (a0.size : Int) = 2 then (stylusref01_number.j0 k a0 (wrap64 ((wrap64 (bt a0 0)) - 192))) else (if (a0.size : Int) = 3 then (stylusref01_number.j0 k a0 (wrap64 ((wrap64 (bt a0 0)) - 224))) else (stylusref01_number.j0 k a0 (wrap64 ((wrap64 (bt a0 0)) - 240)))))) else (none)) = some r := h
 clear h
 by_cases c2 : 0 < (a0.size : Int)
 ·rw [if_pos c2] at H
  have c2b0 : decide (0 < (a0.size : Int)) = true := decide_eq_true c2
  have c2b1 : decide (0 < a0.size) = true := decide_eq_true (by omega)
  clear c2
  have HC4 := Aside0.mk H
  clear H
  have p3 : 0 ≤ (0 : Int) := (by omega)
  have q3 : 0 < a0.size := (by have : (0 : Int) < (a0.size : Int) := of_decide_eq_true (by first | (with_reducible assumption) | assumption); omega)
  have hx3 : ∀ h : 0 < a0.size, ((a0[0]'h).toNat : Int) = bt a0 0 := bt_at a0 0
  clear p3
  have qi3 : (0 < (a0.size : Int)) = True := eq_true (of_decide_eq_true (by first | (with_reducible assumption) | assumption))
  replace q3 := eq_true q3
  go_enter Try.func88, Try.ntmps88
  go_upto_block 0 with (fail)
  go_cut [3] (fun v3 wc => ∃ (kq : Nat) (x3_3 : Int), v3 = .int .i64 x3_3 ∧ Aside0 (stylusref01_number.j0 kq a0 x3_3 = some r) ∧ Aside0 (kq ≤ k) ∧ Drawn0 w wc)
  case first =>
   have H := HC4.out
   clear HC4
   by_cases c5 : (a0.size : Int) = 1
   ·rw [if_pos c5] at H
    have c5b0 : ((a0.size : Int) == 1) = true := beq_iff_eq.mpr c5
    have c5b1 : ((a0.size : Int) != 1) = false := bne_eq_false_iff_eq.mpr c5
    clear c5
    (first | rw [c5b0] | (simp only [i64_w, i32_w]; rw [c5b0]) | skip)
    obtain rfl := Option.some.inj H
    go_wp2
    go_ret
    exact ⟨by first | rfl | (simp; done) | (simp [*]; done), by repeat (first | exact Drawn0.refl _ | apply Drawn0.step)⟩
   ·rw [if_neg c5] at H
    have c5b0 : ((a0.size : Int) == 1) = false := beq_eq_false_iff_ne.mpr c5
    have c5b1 : ((a0.size : Int) != 1) = true := bne_iff_ne.mpr c5
    (first | rw [c5b0] | (simp only [i64_w, i32_w]; rw [c5b0]) | skip)
    by_cases c6 : (a0.size : Int) = 2
    ·rw [if_pos c6] at H
     have c6b0 : ((a0.size : Int) == 2) = true := beq_iff_eq.mpr c6
     have c6b1 : ((a0.size : Int) != 2) = false := bne_eq_false_iff_eq.mpr c6
     clear c6
     have H' := Aside0.mk H
     clear H
     go_wp2
     go_meet
     case rel => exact ⟨_, (wrap64 ((wrap64 (bt a0 0)) - 192)), (by first | rfl | (simp; done) | (simp [*]; done)), H', ⟨by first | omega | exact Nat.le_refl _⟩, by repeat (first | exact Drawn0.refl _ | apply Drawn0.step)⟩
    ·rw [if_neg c6] at H
     have c6b0 : ((a0.size : Int) == 2) = false := beq_eq_false_iff_ne.mpr c6
     have c6b1 : ((a0.size : Int) != 2) = true := bne_iff_ne.mpr c6
     by_cases c7 : (a0.size : Int) = 3
     ·rw [if_pos c7] at H
      have c7b0 : ((a0.size : Int) == 3) = true := beq_iff_eq.mpr c7
      have c7b1 : ((a0.size : Int) != 3) = false := bne_eq_false_iff_eq.mpr c7
      clear c7
      have H' := Aside0.mk H
      clear H
      go_wp2
      go_meet
      case rel => exact ⟨_, (wrap64 ((wrap64 (bt a0 0)) - 224)), (by first | rfl | (simp; done) | (simp [*]; done)), H', ⟨by first | omega | exact Nat.le_refl _⟩, by repeat (first | exact Drawn0.refl _ | apply Drawn0.step)⟩
     ·rw [if_neg c7] at H
      have c7b0 : ((a0.size : Int) == 3) = false := beq_eq_false_iff_ne.mpr c7
      have c7b1 : ((a0.size : Int) != 3) = true := bne_iff_ne.mpr c7
      have H' := Aside0.mk H
      clear H
      go_wp2
      go_meet
      case rel => exact ⟨_, (wrap64 ((wrap64 (bt a0 0)) - 240)), (by first | rfl | (simp; done) | (simp [*]; done)), H', ⟨by first | omega | exact Nat.le_refl _⟩, by repeat (first | exact Drawn0.refl _ | apply Drawn0.step)⟩
  case rest =>
   clear HC4
   try clear c2
   try clear c2b0
   try clear c2b1
   try clear p2
   try clear p3
   try clear q3
   try clear hx3
   try clear qi3
   try clear c5
   try clear c5b0
   try clear c5b1
   try clear c6
   try clear c6b0
   try clear c6b1
   try clear p6
   try clear c7
   try clear c7b0
   try clear c7b1
   try clear p3
   try clear q3
   obtain ⟨kq, x3_3, rfl, HA, HJ3, ⟨mc3, rfl⟩⟩ := hcut
   cases kq with
   | zero => exact absurd HA.out (by simp [stylusref01_number.j0])
   | succ kj3 =>
    have H := HA.out
    clear HA
    simp only [stylusref01_number.j0] at H
    by_cases c8 : x3_3 < 0
    ·rw [if_pos c8] at H
     have c8b0 : decide (x3_3 < 0) = true := decide_eq_true c8
     clear c8
     obtain rfl := Option.some.inj H
     go_wp2
     go_ret
     exact ⟨by first | rfl | (simp; done) | (simp [*]; done), by repeat (first | exact Drawn0.refl _ | apply Drawn0.step)⟩
    ·rw [if_neg c8] at H
     have c8b0 : decide (x3_3 < 0) = false := decide_eq_false c8
     clear c8
     have H' := Aside0.mk H
     clear H
     go_wp2
     go_loopg [3, 4] kj3 (fun kq v3 v4 w' => ∃ (x3_2 : Int) (x4_2 : Int), v3 = .int .i64 x3_2 ∧ v4 = .int .i64 x4_2 ∧ Aside0 (stylusref01_number.l0 kq a0 x3_2 x4_2 = some r) ∧ Aside0 (kq ≤ kj3) ∧ Drawn0 w w')
     case atStart => exact ⟨(x3_3), (1), (by first | rfl | (simp; done) | (simp [*]; done)), (by first | rfl | (simp; done) | (simp [*]; done)), H', ⟨Nat.le_refl _⟩, by repeat (first | exact Drawn0.refl _ | apply Drawn0.step)⟩
     case round =>
      clear H'
      try clear c2
      try clear c2b0
      try clear c2b1
      try clear p2
      try clear c3
      try clear p3
      try clear q3
      try clear hx3
      try clear qi3
      try clear c5
      try clear c5b0
      try clear c5b1
      try clear c6
      try clear c6b0
      try clear c6b1
      try clear p6
      try clear c7
      try clear c7b0
      try clear c7b1
      try clear c8
      try clear c8b0
      try clear p2
      try clear p3
      try clear p6
      try clear q3
      obtain ⟨x3_2, x4_2, rfl, rfl, HA, HK2, ⟨m2, rfl⟩⟩ := hrel
      cases gk with
      | zero => exact absurd HA.out (by simp [stylusref01_number.l0])
      | succ k2 =>
       have H := HA.out
       clear HA
       simp only [stylusref01_number.l0] at H
       by_cases c9 : x4_2 < (a0.size : Int)
       ·rw [if_pos c9] at H
        have c9b0 : decide (x4_2 < (a0.size : Int)) = true := decide_eq_true c9
        clear c9
        by_cases c10 : 0 ≤ x4_2
        ·rw [if_pos c10] at H
         have c10b0 : decide (0 ≤ x4_2) = true := decide_eq_true c10
         clear c10
         have H' := Aside0.mk H
         clear H
         have p11 : 0 ≤ (x4_2 : Int) := of_decide_eq_true (by first | (with_reducible assumption) | assumption)
         have q11 : x4_2 < (a0.size : Int) := of_decide_eq_true (by first | (with_reducible assumption) | assumption)
         have hx11 := bt_at a0 x4_2
         replace p11 := eq_true p11
         replace q11 := eq_true q11
         go_wp2
         go_roundg k2
         case measure => have := HJ3.out; have := HK2.out; omega
         case rel => exact ⟨(wrap64 ((wrap64 (64 * x3_2)) + (Int.tmod (wrap64 (bt a0 x4_2)) 64))), (wrap64 (x4_2 + 1)), (by first | rfl | (simp; done) | (simp [*]; done)), (by first | rfl | (simp; done) | (simp [*]; done)), H', ⟨by have := HJ3.out; have := HK2.out; omega⟩, by repeat (first | exact Drawn0.refl _ | apply Drawn0.step)⟩
        ·rw [if_neg c10] at H
         exact absurd H (by simp)
       ·rw [if_neg c9] at H
        have c9b0 : decide (x4_2 < (a0.size : Int)) = false := decide_eq_false c9
        clear c9
        obtain rfl := Option.some.inj H
        go_wp2
        go_ret
        exact ⟨by first | rfl | (simp; done) | (simp [*]; done), by repeat (first | exact Drawn0.refl _ | apply Drawn0.step)⟩
 ·rw [if_neg c2] at H
  exact absurd H (by simp)
/-! ### stylusref01_ok: function 91 -/
def stylusref01_ok.f (a0 : Int) : Option (Bool) := if a0 ≥ 0 then (if a0 ≤ 1114111 then (if a0 ≥ 55296 then (some (!(decide (a0 ≤ 57343)))) else (some (!false))) else (some false)) else (some false)
set_option maxHeartbeats 8000000 in
set_option maxRecDepth 100000 in
theorem stylusref01_ok.calls (a0 : Int) (r : Bool) (w : World) (h : stylusref01_ok.f a0 = some r) :
  Calls Try.prog 91 #[.int .i64 a0] w fun e w' => e = .returned (.bool r) ∧ Drawn0 w w' := by
 have H : (if a0 ≥ 0 then (if a0 ≤ 1114111 then (if a0 ≥ 55296 then (some (!(decide (a0 ≤ 57343)))) else (some (!false))) else (some false)) else (some false)) = some r := h
 clear h
 by_cases c2 : a0 ≥ 0
 ·rw [if_pos c2] at H
  have c2b0 : decide (0 ≤ a0) = true := decide_eq_true c2
  clear c2
  by_cases c3 : a0 ≤ 1114111
  ·rw [if_pos c3] at H
   have c3b0 : decide (a0 ≤ 1114111) = true := decide_eq_true c3
   clear c3
   by_cases c4 : a0 ≥ 55296
   ·rw [if_pos c4] at H
    have c4b0 : decide (55296 ≤ a0) = true := decide_eq_true c4
    clear c4
    obtain rfl := Option.some.inj H
    go_enter Try.func91, Try.ntmps91
    go_wp2
    go_ret
    exact ⟨by first | rfl | (simp; done) | (simp [*]; done), by repeat (first | exact Drawn0.refl _ | apply Drawn0.step)⟩
   ·rw [if_neg c4] at H
    have c4b0 : decide (55296 ≤ a0) = false := decide_eq_false c4
    clear c4
    obtain rfl := Option.some.inj H
    go_enter Try.func91, Try.ntmps91
    go_wp2
    go_ret
    exact ⟨by first | rfl | (simp; done) | (simp [*]; done), by repeat (first | exact Drawn0.refl _ | apply Drawn0.step)⟩
  ·rw [if_neg c3] at H
   have c3b0 : decide (a0 ≤ 1114111) = false := decide_eq_false c3
   clear c3
   obtain rfl := Option.some.inj H
   go_enter Try.func91, Try.ntmps91
   go_wp2
   go_ret
   exact ⟨by first | rfl | (simp; done) | (simp [*]; done), by repeat (first | exact Drawn0.refl _ | apply Drawn0.step)⟩
 ·rw [if_neg c2] at H
  have c2b0 : decide (0 ≤ a0) = false := decide_eq_false c2
  clear c2
  obtain rfl := Option.some.inj H
  go_enter Try.func91, Try.ntmps91
  go_wp2
  go_ret
  exact ⟨by first | rfl | (simp; done) | (simp [*]; done), by repeat (first | exact Drawn0.refl _ | apply Drawn0.step)⟩
/-! ### stylusref01_octets: function 92 -/
def stylusref01_octets.f (a0 : Int) : Option (Int) := if a0 < 128 then (some 1) else (if a0 < 2048 then (some 2) else (if a0 < 65536 then (some 3) else (some 4)))
set_option maxHeartbeats 8000000 in
set_option maxRecDepth 100000 in
theorem stylusref01_octets.calls (a0 : Int) (r : Int) (w : World) (h : stylusref01_octets.f a0 = some r) :
  Calls Try.prog 92 #[.int .i64 a0] w fun e w' => e = .returned (.int .i64 r) ∧ Drawn0 w w' := by
 have H : (if a0 < 128 then (some 1) else (if a0 < 2048 then (some 2) else (if a0 < 65536 then (some 3) else (some 4)))) = some r := h
 clear h
 by_cases c2 : a0 < 128
 ·rw [if_pos c2] at H
  have c2b0 : decide (a0 < 128) = true := decide_eq_true c2
  clear c2
  obtain rfl := Option.some.inj H
  go_enter Try.func92, Try.ntmps92
  go_wp2
  go_ret
  exact ⟨by first | rfl | (simp; done) | (simp [*]; done), by repeat (first | exact Drawn0.refl _ | apply Drawn0.step)⟩
 ·rw [if_neg c2] at H
  have c2b0 : decide (a0 < 128) = false := decide_eq_false c2
  clear c2
  by_cases c3 : a0 < 2048
  ·rw [if_pos c3] at H
   have c3b0 : decide (a0 < 2048) = true := decide_eq_true c3
   clear c3
   obtain rfl := Option.some.inj H
   go_enter Try.func92, Try.ntmps92
   go_wp2
   go_ret
   exact ⟨by first | rfl | (simp; done) | (simp [*]; done), by repeat (first | exact Drawn0.refl _ | apply Drawn0.step)⟩
  ·rw [if_neg c3] at H
   have c3b0 : decide (a0 < 2048) = false := decide_eq_false c3
   clear c3
   by_cases c4 : a0 < 65536
   ·rw [if_pos c4] at H
    have c4b0 : decide (a0 < 65536) = true := decide_eq_true c4
    clear c4
    obtain rfl := Option.some.inj H
    go_enter Try.func92, Try.ntmps92
    go_wp2
    go_ret
    exact ⟨by first | rfl | (simp; done) | (simp [*]; done), by repeat (first | exact Drawn0.refl _ | apply Drawn0.step)⟩
   ·rw [if_neg c4] at H
    have c4b0 : decide (a0 < 65536) = false := decide_eq_false c4
    clear c4
    obtain rfl := Option.some.inj H
    go_enter Try.func92, Try.ntmps92
    go_wp2
    go_ret
    exact ⟨by first | rfl | (simp; done) | (simp [*]; done), by repeat (first | exact Drawn0.refl _ | apply Drawn0.step)⟩
end Go.Proofs.Ytfhafkfcedghkaa.P
