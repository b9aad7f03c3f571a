-- Laid by a program of this session (wip/tools/fork_print.py over the kit's print) out of Lean's print of the translation. Lean checks it.
import Derived.Test.YtmgnbnkifofleaaPx0
namespace Go.Proofs.Ytmgnbnkifofleaa.P
open Go.RowKit Go.Proofs.YtmgnbnkifofleaaW.PrintWords Go.Proofs.YtmgnbnkifofleaaW.PrintLast Go.Proofs.YtmgnbnkifofleaaW.PrintMore
attribute [local go_sem] max2_int min2_int max_two min_two max_three min_three max_four min_four   -- for this text's walks alone
set_option linter.unusedVariables false
set_option linter.unusedSimpArgs false

/-! ### frame_head_may: function 14 -/
def frame_head_may.f (a0_0 : Int) (a0_1 : Int) (a0_2 : Int) : Option (Bool) := if a0_1 ≥ 0 then (if a0_1 ≤ 999999 then (if a0_2 ≥ 0 then (some (decide (a0_2 ≤ 2147483647))) else (some false)) else (some false)) else (some false)
set_option maxHeartbeats 8000000 in
set_option maxRecDepth 100000 in
theorem frame_head_may.calls (a0_0 : Int) (a0_1 : Int) (a0_2 : Int) (r : Bool) (w : World) (h : frame_head_may.f a0_0 a0_1 a0_2 = some r) :
    Calls Try.prog 14 #[.agg #[.int .i64 a0_0, .int .i64 a0_1, .int .i64 a0_2]] w fun e w' => e = .returned (.bool r) ∧ Below w.heap.size w w' := by
  have hu39 := Try.underlying39
  have HB := Aside0.mk (Below.refl w.heap.size w)
  have H : (if a0_1 ≥ 0 then (if a0_1 ≤ 999999 then (if a0_2 ≥ 0 then (some (decide (a0_2 ≤ 2147483647))) else (some false)) else (some false)) else (some false)) = some r := h
  clear h
  by_cases c2 : a0_1 ≥ 0
  · rw [if_pos c2] at H
    have c2b0 : decide (0 ≤ a0_1) = true := decide_eq_true c2
    clear c2
    by_cases c3 : a0_1 ≤ 999999
    · rw [if_pos c3] at H
      have c3b0 : decide (a0_1 ≤ 999999) = true := decide_eq_true c3
      clear c3
      by_cases c4 : a0_2 ≥ 0
      · rw [if_pos c4] at H
        have c4b0 : decide (0 ≤ a0_2) = true := decide_eq_true c4
        clear c4
        obtain rfl := Option.some.inj H
        go_enter Try.func14, Try.ntmps14
        go_wp2_with (first | ((with_reducible refine gate_dst (N := 1) rfl ?_); refine box_event ?hg (N := 1) ?hd (cs := #[.int .i64 a0_0, .int .i64 a0_1, .int .i64 a0_2]) (t := 39) ?hr ?_; (case hd => rfl); (case hg => rfl); (case hr => first | (go_simp; done) | (go_simp; rfl)); intro gb101 hg w5 hbox hb; have n0_ := Aside0.mk (below_step (by repeat (first | (with_reducible first | exact HB.out | apply below_alloc | apply pw_below_drewN | apply below_drew1) | exact HB.out)) hb); have n1_ := Aside0.mk (hbox); have n2_ := Aside0.mk ((by rw [hg]; exact (below_size (by repeat (first | (with_reducible first | exact HB.out | apply below_alloc | apply pw_below_drewN | apply below_drew1) | exact HB.out))) : w.heap.size ≤ gb101)); have n3_ := Aside0.mk ((by rw [hg]; exact (below_size (by repeat (first | (with_reducible first | exact HB.out | apply below_alloc | apply pw_below_drewN | apply below_drew1) | exact HB.out))) : w.heap.size ≤ gb101)); clear HB; have HB := n0_; have BK101 := n1_; have GW101 := n2_; have GE101 := n3_; clear n0_ n1_ n2_ n3_; clear hb hbox hg; have hcz6_0 : w5.cell? ⟨gb101, 0, none⟩ = some (.int .i64 a0_0) := (blk_cell BK101.out 0).trans rfl; have hcz6_1 : w5.cell? ⟨gb101, 1, none⟩ = some (.int .i64 a0_1) := (blk_cell BK101.out 1).trans rfl; have hcz6_2 : w5.cell? ⟨gb101, 2, none⟩ = some (.int .i64 a0_2) := (blk_cell BK101.out 2).trans rfl; have hfz6_0 := blk_frozen BK101.out 0; have hfz6_1 := blk_frozen BK101.out 1; have hfz6_2 := blk_frozen BK101.out 2))
        go_ret
        exact ⟨by first | rfl | (simp [errW_none, errW_some] <;> rfl) | (simp [*, errW_none, errW_some] <;> rfl), by repeat (first | (with_reducible first | exact HB.out | apply below_alloc | apply pw_below_drewN | apply below_drew1 | refine below_set ?_ GE101.out) | exact HB.out)⟩
      · rw [if_neg c4] at H
        have c4b0 : decide (0 ≤ a0_2) = false := decide_eq_false c4
        clear c4
        obtain rfl := Option.some.inj H
        go_enter Try.func14, Try.ntmps14
        go_wp2_with (first | ((with_reducible refine gate_dst (N := 1) rfl ?_); refine box_event ?hg (N := 1) ?hd (cs := #[.int .i64 a0_0, .int .i64 a0_1, .int .i64 a0_2]) (t := 39) ?hr ?_; (case hd => rfl); (case hg => rfl); (case hr => first | (go_simp; done) | (go_simp; rfl)); intro gb101 hg w7 hbox hb; have n0_ := Aside0.mk (below_step (by repeat (first | (with_reducible first | exact HB.out | apply below_alloc | apply pw_below_drewN | apply below_drew1) | exact HB.out)) hb); have n1_ := Aside0.mk (hbox); have n2_ := Aside0.mk ((by rw [hg]; exact (below_size (by repeat (first | (with_reducible first | exact HB.out | apply below_alloc | apply pw_below_drewN | apply below_drew1) | exact HB.out))) : w.heap.size ≤ gb101)); have n3_ := Aside0.mk ((by rw [hg]; exact (below_size (by repeat (first | (with_reducible first | exact HB.out | apply below_alloc | apply pw_below_drewN | apply below_drew1) | exact HB.out))) : w.heap.size ≤ gb101)); clear HB; have HB := n0_; have BK101 := n1_; have GW101 := n2_; have GE101 := n3_; clear n0_ n1_ n2_ n3_; clear hb hbox hg; have hcz8_0 : w7.cell? ⟨gb101, 0, none⟩ = some (.int .i64 a0_0) := (blk_cell BK101.out 0).trans rfl; have hcz8_1 : w7.cell? ⟨gb101, 1, none⟩ = some (.int .i64 a0_1) := (blk_cell BK101.out 1).trans rfl; have hcz8_2 : w7.cell? ⟨gb101, 2, none⟩ = some (.int .i64 a0_2) := (blk_cell BK101.out 2).trans rfl; have hfz8_0 := blk_frozen BK101.out 0; have hfz8_1 := blk_frozen BK101.out 1; have hfz8_2 := blk_frozen BK101.out 2))
        go_ret
        exact ⟨by first | rfl | (simp [errW_none, errW_some] <;> rfl) | (simp [*, errW_none, errW_some] <;> rfl), by repeat (first | (with_reducible first | exact HB.out | apply below_alloc | apply pw_below_drewN | apply below_drew1 | refine below_set ?_ GE101.out) | exact HB.out)⟩
    · rw [if_neg c3] at H
      have c3b0 : decide (a0_1 ≤ 999999) = false := decide_eq_false c3
      clear c3
      obtain rfl := Option.some.inj H
      go_enter Try.func14, Try.ntmps14
      go_wp2_with (first | ((with_reducible refine gate_dst (N := 1) rfl ?_); refine box_event ?hg (N := 1) ?hd (cs := #[.int .i64 a0_0, .int .i64 a0_1, .int .i64 a0_2]) (t := 39) ?hr ?_; (case hd => rfl); (case hg => rfl); (case hr => first | (go_simp; done) | (go_simp; rfl)); intro gb101 hg w9 hbox hb; have n0_ := Aside0.mk (below_step (by repeat (first | (with_reducible first | exact HB.out | apply below_alloc | apply pw_below_drewN | apply below_drew1) | exact HB.out)) hb); have n1_ := Aside0.mk (hbox); have n2_ := Aside0.mk ((by rw [hg]; exact (below_size (by repeat (first | (with_reducible first | exact HB.out | apply below_alloc | apply pw_below_drewN | apply below_drew1) | exact HB.out))) : w.heap.size ≤ gb101)); have n3_ := Aside0.mk ((by rw [hg]; exact (below_size (by repeat (first | (with_reducible first | exact HB.out | apply below_alloc | apply pw_below_drewN | apply below_drew1) | exact HB.out))) : w.heap.size ≤ gb101)); clear HB; have HB := n0_; have BK101 := n1_; have GW101 := n2_; have GE101 := n3_; clear n0_ n1_ n2_ n3_; clear hb hbox hg; have hcz10_0 : w9.cell? ⟨gb101, 0, none⟩ = some (.int .i64 a0_0) := (blk_cell BK101.out 0).trans rfl; have hcz10_1 : w9.cell? ⟨gb101, 1, none⟩ = some (.int .i64 a0_1) := (blk_cell BK101.out 1).trans rfl; have hcz10_2 : w9.cell? ⟨gb101, 2, none⟩ = some (.int .i64 a0_2) := (blk_cell BK101.out 2).trans rfl; have hfz10_0 := blk_frozen BK101.out 0; have hfz10_1 := blk_frozen BK101.out 1; have hfz10_2 := blk_frozen BK101.out 2))
      go_ret
      exact ⟨by first | rfl | (simp [errW_none, errW_some] <;> rfl) | (simp [*, errW_none, errW_some] <;> rfl), by repeat (first | (with_reducible first | exact HB.out | apply below_alloc | apply pw_below_drewN | apply below_drew1 | refine below_set ?_ GE101.out) | exact HB.out)⟩
  · rw [if_neg c2] at H
    have c2b0 : decide (0 ≤ a0_1) = false := decide_eq_false c2
    clear c2
    obtain rfl := Option.some.inj H
    go_enter Try.func14, Try.ntmps14
    go_wp2_with (first | ((with_reducible refine gate_dst (N := 1) rfl ?_); refine box_event ?hg (N := 1) ?hd (cs := #[.int .i64 a0_0, .int .i64 a0_1, .int .i64 a0_2]) (t := 39) ?hr ?_; (case hd => rfl); (case hg => rfl); (case hr => first | (go_simp; done) | (go_simp; rfl)); intro gb101 hg w11 hbox hb; have n0_ := Aside0.mk (below_step (by repeat (first | (with_reducible first | exact HB.out | apply below_alloc | apply pw_below_drewN | apply below_drew1) | exact HB.out)) hb); have n1_ := Aside0.mk (hbox); have n2_ := Aside0.mk ((by rw [hg]; exact (below_size (by repeat (first | (with_reducible first | exact HB.out | apply below_alloc | apply pw_below_drewN | apply below_drew1) | exact HB.out))) : w.heap.size ≤ gb101)); have n3_ := Aside0.mk ((by rw [hg]; exact (below_size (by repeat (first | (with_reducible first | exact HB.out | apply below_alloc | apply pw_below_drewN | apply below_drew1) | exact HB.out))) : w.heap.size ≤ gb101)); clear HB; have HB := n0_; have BK101 := n1_; have GW101 := n2_; have GE101 := n3_; clear n0_ n1_ n2_ n3_; clear hb hbox hg; have hcz12_0 : w11.cell? ⟨gb101, 0, none⟩ = some (.int .i64 a0_0) := (blk_cell BK101.out 0).trans rfl; have hcz12_1 : w11.cell? ⟨gb101, 1, none⟩ = some (.int .i64 a0_1) := (blk_cell BK101.out 1).trans rfl; have hcz12_2 : w11.cell? ⟨gb101, 2, none⟩ = some (.int .i64 a0_2) := (blk_cell BK101.out 2).trans rfl; have hfz12_0 := blk_frozen BK101.out 0; have hfz12_1 := blk_frozen BK101.out 1; have hfz12_2 := blk_frozen BK101.out 2))
    go_ret
    exact ⟨by first | rfl | (simp [errW_none, errW_some] <;> rfl) | (simp [*, errW_none, errW_some] <;> rfl), by repeat (first | (with_reducible first | exact HB.out | apply below_alloc | apply pw_below_drewN | apply below_drew1 | refine below_set ?_ GE101.out) | exact HB.out)⟩

/-! ### frame_magic: function 15 -/
def frame_magic.f  : Option (Int × Int) := some (83, 74)
set_option maxHeartbeats 8000000 in
set_option maxRecDepth 100000 in
theorem frame_magic.calls  (r1 : Int) (r2 : Int) (w : World) (h : frame_magic.f  = some (r1, r2)) :
    Calls Try.prog 15 #[] w fun e w' => e = .returned (.agg #[.int .u8 r1, .int .u8 r2]) ∧ Below w.heap.size w w' := by
  have hu42 := Try.underlying42
  have HB := Aside0.mk (Below.refl w.heap.size w)
  have H : (some (83, 74)) = some (r1, r2) := h
  clear h
  simp only [Option.some.injEq, Prod.mk.injEq] at H
  obtain ⟨rfl, rfl⟩ := H
  go_enter Try.func15, Try.ntmps15
  go_wp2_with (first | ((with_reducible refine gate_dst (N := 0) rfl ?_); refine box_event ?hg (N := 0) ?hd (cs := #[.int .u8 0, .int .u8 0]) (t := 42) ?hr ?_; (case hd => rfl); (case hg => rfl); (case hr => first | (go_simp; done) | (go_simp; rfl)); intro gb102 hg w1 hbox hb; have n0_ := Aside0.mk (below_step (by repeat (first | (with_reducible first | exact HB.out | apply below_alloc | apply pw_below_drewN | apply below_drew1) | exact HB.out)) hb); have n1_ := Aside0.mk (hbox); have n2_ := Aside0.mk ((by rw [hg]; exact (below_size (by repeat (first | (with_reducible first | exact HB.out | apply below_alloc | apply pw_below_drewN | apply below_drew1) | exact HB.out))) : w.heap.size ≤ gb102)); have n3_ := Aside0.mk ((by rw [hg]; exact (below_size (by repeat (first | (with_reducible first | exact HB.out | apply below_alloc | apply pw_below_drewN | apply below_drew1) | exact HB.out))) : w.heap.size ≤ gb102)); clear HB; have HB := n0_; have BK102 := n1_; have GW102 := n2_; have GE102 := n3_; clear n0_ n1_ n2_ n3_; clear hb hbox hg; have hcz2_0 : w1.cell? ⟨gb102, 0, none⟩ = some (.int .u8 0) := (blk_cell BK102.out 0).trans rfl; have hcz2_1 : w1.cell? ⟨gb102, 1, none⟩ = some (.int .u8 0) := (blk_cell BK102.out 1).trans rfl; have hfz2_0 := blk_frozen BK102.out 0; have hfz2_1 := blk_frozen BK102.out 1))
  refine bodyPost_ret (results_cell_row rfl _ _ gb102 42 #[.int .u8 83, .int .u8 74] (0, 0) _ rfl (by (with_reducible repeat (first | refine blk_drewN ?_ _ | refine blk_drew ?_ | refine blk_alloc ?_ _)); refine blk_put (cs := #[.int .u8 83, .int .u8 0]) ?_ 1 _ rfl; (with_reducible repeat (first | refine blk_drewN ?_ _ | refine blk_drew ?_ | refine blk_alloc ?_ _)); refine blk_put (cs := #[.int .u8 0, .int .u8 0]) ?_ 0 _ rfl; (with_reducible repeat (first | refine blk_drewN ?_ _ | refine blk_drew ?_ | refine blk_alloc ?_ _)); exact BK102.out) Try.underlying42 rfl (by kernel_rfl)) rfl ?_
  exact ⟨by first | rfl | (simp [errW_none, errW_some] <;> rfl) | (simp [*, errW_none, errW_some] <;> rfl), by repeat (first | (with_reducible first | exact HB.out | apply below_alloc | apply pw_below_drewN | apply below_drew1 | refine below_set ?_ GE102.out) | exact HB.out)⟩

/-! ### num_join: function 28 -/
def num_join.f (l0 : List Int) : Option (ByteArray) := some (strOfNums l0)
set_option maxHeartbeats 8000000 in
set_option maxRecDepth 100000 in
theorem num_join.calls (A0 : Option Addr) (c0 : Nat) (l0 : List Int) (r : ByteArray) (w : World) (hr0 : Kd.C (Kd.int .u8) w A0 l0.length l0) (hc0 : l0.length ≤ c0) (h : num_join.f l0 = some r) :
    Calls Try.prog 28 #[.slice A0 l0.length c0] w fun e w' => e = .returned (.string r) ∧ Drawn0 w w' := by
  have HR0 := Aside0.mk hr0
  have HC0 := Aside0.mk hc0
  clear hr0 hc0
  have H : (some (strOfNums l0)) = some r := h
  clear h
  obtain rfl := Option.some.inj H
  have hcv2 := Kd.C_string (P := Try.prog) (A := A0) (c := c0) Try.underlying36 Try.underlying5 Try.underlying9 HR0.out
  go_enter Try.func28, Try.ntmps28
  go_wp2
  go_ret
  exact ⟨by first | rfl | (simp; done) | (simp [*]; done), by repeat (first | exact Drawn0.refl _ | apply Drawn0.step)⟩

/-! ### num_Put32: function 17 -/
def num_Put32.f (a0 : Int) : Option (ByteArray) := (num_join.f (([(a0) % 256, (a0 / 256) % 256, (a0 / 65536) % 256, (a0 / 16777216) % 256] : List Int))).bind fun t106 => (some t106)
set_option maxHeartbeats 8000000 in
set_option maxRecDepth 100000 in
theorem num_Put32.calls (a0 : Int) (r : ByteArray) (w : World) (h : num_Put32.f a0 = some r) :
    Calls Try.prog 17 #[.int .i64 a0] w fun e w' => e = .returned (.string r) ∧ Below w.heap.size w w' := by
  have HB := Aside0.mk (Below.refl w.heap.size w)
  have H : ((num_join.f (([(a0) % 256, (a0 / 256) % 256, (a0 / 65536) % 256, (a0 / 16777216) % 256] : List Int))).bind fun t106 => (some t106)) = some r := h
  clear h
  obtain ⟨y103, hy103⟩ : ∃ y_ : List Int, y_ = (([(a0) % 256, (a0 / 256) % 256, (a0 / 65536) % 256, (a0 / 16777216) % 256] : List Int)) := ⟨_, rfl⟩
  replace H : ((num_join.f y103).bind fun t106 => (some t106)) = some r := by first | (rw [hy103]; with_reducible exact H) | (have H2_ := (Option.bind_some _ _).symm.trans H; rw [hy103]; with_reducible exact H2_) | (have H2_ := (Option.bind_some _ _).symm.trans H; with_reducible exact H2_) | with_reducible exact H | (rw [hy103]; exact H) | exact H
  have Ny103 := Aside0.mk hy103
  clear hy103
  replace H := Option.bind_eq_some_iff.mp H
  obtain ⟨t106, A20, H⟩ := H
  replace H : (some t106) = some r := H
  have A2 := Aside0.mk A20
  clear A20
  obtain rfl := Option.some.inj H
  go_enter Try.func17, Try.ntmps17
  go_wp2_with (first | ((with_reducible refine gate_dst (N := 14) rfl ?_); refine Kd.R_lit (Kd.int .u8) _ 5 ?hg (N := 14) ?hd (xs := ([(a0) % 256, (a0 / 256) % 256, (a0 / 65536) % 256, (a0 / 16777216) % 256] : List Int)) (inner := [.int .u8 ((a0) % 256), .int .u8 ((a0 / 256) % 256), .int .u8 ((a0 / 65536) % 256), .int .u8 ((a0 / 16777216) % 256)]) (ok := fun _ => True) (okp := fun _ => True) ?hr ?hp (fun _ hk => hk) trivial (Below.refl _ _) (Nat.le_refl _) (by simp) ?_; (case hd => rfl); (case hg => rfl); (case hr => first | (go_simp; done) | (go_simp; rfl)); (case hp => exact (Reps.one (show Kd.M (Kd.int .u8) _ _ _ ((a0) % 256) [.int .u8 ((a0) % 256)] from rfl) (Reps.one (show Kd.M (Kd.int .u8) _ _ _ ((a0 / 256) % 256) [.int .u8 ((a0 / 256) % 256)] from rfl) (Reps.one (show Kd.M (Kd.int .u8) _ _ _ ((a0 / 65536) % 256) [.int .u8 ((a0 / 65536) % 256)] from rfl) (Reps.one (show Kd.M (Kd.int .u8) _ _ _ ((a0 / 16777216) % 256) [.int .u8 ((a0 / 16777216) % 256)] from rfl) (Reps.none _ _)))))); intro v104 w3 ho4 hb hg_ hnew_; clear hg_ hnew_; (first | rw [← Ny103.out] at ho4 | (simp only [Int.reduceToNat] at ho4; rw [← Ny103.out] at ho4)); have n0_ := Aside0.mk (Kd.R_lower ho4 (below_size (by repeat (first | (with_reducible first | exact HB.out | apply below_alloc | apply pw_below_drewN | apply below_drew1) | exact HB.out)))); have n1_ := Aside0.mk (below_step (by repeat (first | (with_reducible first | exact HB.out | apply below_alloc | apply pw_below_drewN | apply below_drew1) | exact HB.out)) hb); clear HB; have HO105 := n0_; have HB := n1_; clear n0_ n1_; clear hb ho4; obtain ⟨Ao5, co5, eo5⟩ := Kd.R_slice HO105.out; subst eo5) | ((with_reducible refine gate_callee (f := 28) rfl ?_); refine goesL_ (some 15) rfl rfl Try.func28 (by kernel_rfl) rfl #[.slice Ao5 y103.length co5] rfl (by (try simp only [List.map_toArray, List.map_cons, List.map_nil]); first | done | rfl | (simp only [List.length_drop, List.length_take]; rfl)) ?_; (with_reducible refine (num_join.calls _ _ y103 t106 _ ?side1 ?side2 A2.out).mono ?_); (case side1 => repeat (first | exact (Kd.R_reads' HO105.out).2.2 | (with_reducible refine Kd.C_alloc ?_ _) | (with_reducible refine Kd.C_drewN ?_ _) | (with_reducible refine Kd.C_drew ?_))); (case side2 => exact (Kd.R_reads' HO105.out).2.1); rintro e w' ⟨rfl, ⟨nd, rfl⟩⟩; refine ⟨_, rfl, ?_⟩))
  go_ret
  exact ⟨by first | rfl | (simp [errW_none, errW_some] <;> rfl) | (simp [*, errW_none, errW_some] <;> rfl), by repeat (first | (with_reducible first | exact HB.out | apply below_alloc | apply pw_below_drewN | apply below_drew1) | exact HB.out)⟩

/-! ### num_Put16: function 27 -/
def num_Put16.f (a0 : Int) : Option (ByteArray) := (num_join.f (([(a0) % 256, (a0 / 256) % 256] : List Int))).bind fun t110 => (some t110)
set_option maxHeartbeats 8000000 in
set_option maxRecDepth 100000 in
theorem num_Put16.calls (a0 : Int) (r : ByteArray) (w : World) (h : num_Put16.f a0 = some r) :
    Calls Try.prog 27 #[.int .i64 a0] w fun e w' => e = .returned (.string r) ∧ Below w.heap.size w w' := by
  have HB := Aside0.mk (Below.refl w.heap.size w)
  have H : ((num_join.f (([(a0) % 256, (a0 / 256) % 256] : List Int))).bind fun t110 => (some t110)) = some r := h
  clear h
  obtain ⟨y107, hy107⟩ : ∃ y_ : List Int, y_ = (([(a0) % 256, (a0 / 256) % 256] : List Int)) := ⟨_, rfl⟩
  replace H : ((num_join.f y107).bind fun t110 => (some t110)) = some r := by first | (rw [hy107]; with_reducible exact H) | (have H2_ := (Option.bind_some _ _).symm.trans H; rw [hy107]; with_reducible exact H2_) | (have H2_ := (Option.bind_some _ _).symm.trans H; with_reducible exact H2_) | with_reducible exact H | (rw [hy107]; exact H) | exact H
  have Ny107 := Aside0.mk hy107
  clear hy107
  replace H := Option.bind_eq_some_iff.mp H
  obtain ⟨t110, A20, H⟩ := H
  replace H : (some t110) = some r := H
  have A2 := Aside0.mk A20
  clear A20
  obtain rfl := Option.some.inj H
  go_enter Try.func27, Try.ntmps27
  go_wp2_with (first | ((with_reducible refine gate_dst (N := 8) rfl ?_); refine Kd.R_lit (Kd.int .u8) _ 5 ?hg (N := 8) ?hd (xs := ([(a0) % 256, (a0 / 256) % 256] : List Int)) (inner := [.int .u8 ((a0) % 256), .int .u8 ((a0 / 256) % 256)]) (ok := fun _ => True) (okp := fun _ => True) ?hr ?hp (fun _ hk => hk) trivial (Below.refl _ _) (Nat.le_refl _) (by simp) ?_; (case hd => rfl); (case hg => rfl); (case hr => first | (go_simp; done) | (go_simp; rfl)); (case hp => exact (Reps.one (show Kd.M (Kd.int .u8) _ _ _ ((a0) % 256) [.int .u8 ((a0) % 256)] from rfl) (Reps.one (show Kd.M (Kd.int .u8) _ _ _ ((a0 / 256) % 256) [.int .u8 ((a0 / 256) % 256)] from rfl) (Reps.none _ _)))); intro v108 w3 ho4 hb hg_ hnew_; clear hg_ hnew_; (first | rw [← Ny107.out] at ho4 | (simp only [Int.reduceToNat] at ho4; rw [← Ny107.out] at ho4)); have n0_ := Aside0.mk (Kd.R_lower ho4 (below_size (by repeat (first | (with_reducible first | exact HB.out | apply below_alloc | apply pw_below_drewN | apply below_drew1) | exact HB.out)))); have n1_ := Aside0.mk (below_step (by repeat (first | (with_reducible first | exact HB.out | apply below_alloc | apply pw_below_drewN | apply below_drew1) | exact HB.out)) hb); clear HB; have HO109 := n0_; have HB := n1_; clear n0_ n1_; clear hb ho4; obtain ⟨Ao5, co5, eo5⟩ := Kd.R_slice HO109.out; subst eo5) | ((with_reducible refine gate_callee (f := 28) rfl ?_); refine goesL_ (some 9) rfl rfl Try.func28 (by kernel_rfl) rfl #[.slice Ao5 y107.length co5] rfl (by (try simp only [List.map_toArray, List.map_cons, List.map_nil]); first | done | rfl | (simp only [List.length_drop, List.length_take]; rfl)) ?_; (with_reducible refine (num_join.calls _ _ y107 t110 _ ?side1 ?side2 A2.out).mono ?_); (case side1 => repeat (first | exact (Kd.R_reads' HO109.out).2.2 | (with_reducible refine Kd.C_alloc ?_ _) | (with_reducible refine Kd.C_drewN ?_ _) | (with_reducible refine Kd.C_drew ?_))); (case side2 => exact (Kd.R_reads' HO109.out).2.1); rintro e w' ⟨rfl, ⟨nd, rfl⟩⟩; refine ⟨_, rfl, ?_⟩))
  go_ret
  exact ⟨by first | rfl | (simp [errW_none, errW_some] <;> rfl) | (simp [*, errW_none, errW_some] <;> rfl), by repeat (first | (with_reducible first | exact HB.out | apply below_alloc | apply pw_below_drewN | apply below_drew1) | exact HB.out)⟩

/-! ### frame_head_bytes: function 16 -/
def frame_head_bytes.f (a0_0 : Int) (a0_1 : Int) (a0_2 : Int) : Option (ByteArray) := (num_Put16.f a0_0).bind fun t112 => ((num_Put32.f a0_1).bind fun t113 => (if t112.size + t113.size ≤ 9223372036854775807 then ((num_Put32.f a0_2).bind fun t114 => (if (t112 ++ t113).size + t114.size ≤ 9223372036854775807 then (some ((t112 ++ t113) ++ t114)) else (none))) else (none)))
def frame_head_bytes.T1 : Bool × List (List Nat × List Nat) := (true, [([], []), ([0], [0]), ([1], [1]), ([], []), ([3], [3]), ([4, 2], [4]), ([2, 5], [2, 5]), ([], []), ([7], [7]), ([8, 5], [8]), ([6, 9], [6, 9]), ([10, 9, 0, 1, 2, 3, 4, 5, 6, 7, 8, 9, 10], [10])])
def frame_head_bytes.B1 : List Nat := [0, 1, 3, 0, 8, 31, 63, 0, 128, 447, 1023, 2047]
theorem frame_head_bytes.tab1 : rtab .any (opsOf Try.f16 1) = frame_head_bytes.T1 := by kernel_rfl
theorem frame_head_bytes.bits1 : waitsOk frame_head_bytes.T1.2 frame_head_bytes.B1 = true := by kernel_rfl
set_option maxHeartbeats 8000000 in
set_option maxRecDepth 100000 in
theorem frame_head_bytes.calls (a0_0 : Int) (a0_1 : Int) (a0_2 : Int) (r : ByteArray) (w : World) (h : frame_head_bytes.f a0_0 a0_1 a0_2 = some r) :
    Calls Try.prog 16 #[.agg #[.int .i64 a0_0, .int .i64 a0_1, .int .i64 a0_2]] w fun e w' => e = .returned (.string r) ∧ Below w.heap.size w w' := by
  have hu39 := Try.underlying39
  have HB := Aside0.mk (Below.refl w.heap.size w)
  have H : ((num_Put16.f a0_0).bind fun t112 => ((num_Put32.f a0_1).bind fun t113 => (if t112.size + t113.size ≤ 9223372036854775807 then ((num_Put32.f a0_2).bind fun t114 => (if (t112 ++ t113).size + t114.size ≤ 9223372036854775807 then (some ((t112 ++ t113) ++ t114)) else (none))) else (none)))) = some r := h
  clear h
  replace H := Option.bind_eq_some_iff.mp H
  obtain ⟨t112, A20, H⟩ := H
  replace H : ((num_Put32.f a0_1).bind fun t113 => (if t112.size + t113.size ≤ 9223372036854775807 then ((num_Put32.f a0_2).bind fun t114 => (if (t112 ++ t113).size + t114.size ≤ 9223372036854775807 then (some ((t112 ++ t113) ++ t114)) else (none))) else (none))) = some r := H
  have A2 := Aside0.mk A20
  clear A20
  replace H := Option.bind_eq_some_iff.mp H
  obtain ⟨t113, A30, H⟩ := H
  replace H : (if t112.size + t113.size ≤ 9223372036854775807 then ((num_Put32.f a0_2).bind fun t114 => (if (t112 ++ t113).size + t114.size ≤ 9223372036854775807 then (some ((t112 ++ t113) ++ t114)) else (none))) else (none)) = some r := H
  have A3 := Aside0.mk A30
  clear A30
  by_cases c4 : t112.size + t113.size ≤ 9223372036854775807
  · rw [if_pos c4] at H
    have c4b0 := eq_true c4
    have c4b1 : decide (t112.size + t113.size ≤ 9223372036854775807) = true := decide_eq_true c4
    try have c4b2 : (9223372036854775807 < t112.size + t113.size) = False := eq_false (Nat.not_lt.2 c4)
    replace H := Option.bind_eq_some_iff.mp H
    obtain ⟨t114, A50, H⟩ := H
    replace H : (if (t112 ++ t113).size + t114.size ≤ 9223372036854775807 then (some ((t112 ++ t113) ++ t114)) else (none)) = some r := H
    have A5 := Aside0.mk A50
    clear A50
    by_cases c6 : (t112 ++ t113).size + t114.size ≤ 9223372036854775807
    · rw [if_pos c6] at H
      have c6b0 := eq_true c6
      have c6b1 : decide ((t112 ++ t113).size + t114.size ≤ 9223372036854775807) = true := decide_eq_true c6
      try have c6b2 : (9223372036854775807 < (t112 ++ t113).size + t114.size) = False := eq_false (Nat.not_lt.2 c6)
      try have c6b3 : (9223372036854775807 < t112.size + t113.size + t114.size) = False := eq_false (by have h_ := c6; simp only [ByteArray.size_append] at h_; omega)
      obtain rfl := Option.some.inj H
      go_enter Try.func16, Try.ntmps16
      try go_wp2_with (first | ((with_reducible refine gate_dst (N := 1) rfl ?_); refine box_event ?hg (N := 1) ?hd (cs := #[.int .i64 a0_0, .int .i64 a0_1, .int .i64 a0_2]) (t := 39) ?hr ?_; (case hd => rfl); (case hg => rfl); (case hr => first | (go_simp; done) | (go_simp; rfl)); intro gb111 hg w7 hbox hb; have n0_ := Aside0.mk (below_step (by repeat (first | (with_reducible first | exact HB.out | apply below_alloc | apply pw_below_drewN | apply below_drew1) | exact HB.out)) hb); have n1_ := Aside0.mk (hbox); have n2_ := Aside0.mk ((by rw [hg]; exact (below_size (by repeat (first | (with_reducible first | exact HB.out | apply below_alloc | apply pw_below_drewN | apply below_drew1) | exact HB.out))) : w.heap.size ≤ gb111)); have n3_ := Aside0.mk ((by rw [hg]; exact (below_size (by repeat (first | (with_reducible first | exact HB.out | apply below_alloc | apply pw_below_drewN | apply below_drew1) | exact HB.out))) : w.heap.size ≤ gb111)); clear HB; have HB := n0_; have BK111 := n1_; have GW111 := n2_; have GE111 := n3_; clear n0_ n1_ n2_ n3_; clear hb hbox hg))
      have n0_ := Aside0.mk (blk_drew BK111.out)
      have n1_ := Aside0.mk (below_drew1 HB.out)
      clear BK111
      clear HB
      have BK111 := n0_
      have HB := n1_
      clear n0_ n1_
      refine start_ (n := 12) (S := fun w' => w'.cell? ⟨gb111, 0, none⟩ = some (.int .i64 a0_0) ∧ w'.cell? ⟨gb111, 1, none⟩ = some (.int .i64 a0_1) ∧ w'.cell? ⟨gb111, 2, none⟩ = some (.int .i64 a0_2)) (ds := []) #[false, false, false, false, false, false, false, false, false, false, false, false] (by kernel_rfl) rfl rfl ⟨(blk_cell BK111.out 0).trans rfl, (blk_cell BK111.out 1).trans rfl, (blk_cell BK111.out 2).trans rfl⟩ (fun hHeld => ?_); refine with_tabW frame_head_bytes.tab1 frame_head_bytes.bits1 (fun HT_ HW_ => ?_)
      generalize w7.drew = w8 at BK111 HB hHeld ⊢
      refine pure_ (i := 0) (N := some 3) (v := ?_) (a' := ?_) #[true, false, false, false, false, false, false, false, false, false, false, false] rfl rfl (any_of HT_.out (by kernel_rfl)) (fun _ _ _ h => h) (Or.inl ⟨by rfl, ?_⟩) ?_ ?_
      rotate_left
      · intro w'
        go_simp
        with_reducible rfl
      rotate_left
      · simp only [Act.put, List.setIfInBounds_toArray, List.set_cons_zero, List.set_cons_succ, i64_w, i32_w]
        rfl
      refine pure_ (i := 3) (N := some 6) (v := ?_) (a' := ?_) #[true, false, false, true, false, false, false, false, false, false, false, false] rfl rfl (any_of HT_.out (by kernel_rfl)) (fun _ _ _ h => h) (Or.inl ⟨by rfl, ?_⟩) ?_ ?_
      rotate_left
      · intro w'
        go_simp
        with_reducible rfl
      rotate_left
      · simp only [Act.put, List.setIfInBounds_toArray, List.set_cons_zero, List.set_cons_succ, i64_w, i32_w]
        rfl
      refine pure_ (i := 7) (N := some 10) (v := ?_) (a' := ?_) #[true, false, false, true, false, false, false, true, false, false, false, false] rfl rfl (any_of HT_.out (by kernel_rfl)) (fun _ _ _ h => h) (Or.inl ⟨by rfl, ?_⟩) ?_ ?_
      rotate_left
      · intro w'
        go_simp
        with_reducible rfl
      rotate_left
      · simp only [Act.put, List.setIfInBounds_toArray, List.set_cons_zero, List.set_cons_succ, i64_w, i32_w]
        rfl
      refine take_ (i := 1) (N := some 4) (v := ?_) (a' := ?_) #[true, true, false, true, false, false, false, true, false, false, false, false] rfl rfl (take_ofW HT_.out HW_.out (by kernel_rfl)) (fun _ _ _ h => h) (Or.inl ⟨by rfl, ?_⟩) hHeld ?_ ?_
      rotate_left
      · rintro w' ⟨s0, s1, s2⟩
        go_simp
        with_reducible rfl
      rotate_left
      · simp only [Act.put, List.setIfInBounds_toArray, List.set_cons_zero, List.set_cons_succ, i64_w, i32_w]
        rfl
      refine take_ (i := 4) (N := some 7) (v := ?_) (a' := ?_) #[true, true, false, true, true, false, false, true, false, false, false, false] rfl rfl (take_ofW HT_.out HW_.out (by kernel_rfl)) (fun _ _ _ h => h) (Or.inl ⟨by rfl, ?_⟩) hHeld ?_ ?_
      rotate_left
      · rintro w' ⟨s0, s1, s2⟩
        go_simp
        with_reducible rfl
      rotate_left
      · simp only [Act.put, List.setIfInBounds_toArray, List.set_cons_zero, List.set_cons_succ, i64_w, i32_w]
        rfl
      refine take_ (i := 8) (N := some 11) (v := ?_) (a' := ?_) #[true, true, false, true, true, false, false, true, true, false, false, false] rfl rfl (take_ofW HT_.out HW_.out (by kernel_rfl)) (fun _ _ _ h => h) (Or.inl ⟨by rfl, ?_⟩) hHeld ?_ ?_
      rotate_left
      · rintro w' ⟨s0, s1, s2⟩
        go_simp
        with_reducible rfl
      rotate_left
      · simp only [Act.put, List.setIfInBounds_toArray, List.set_cons_zero, List.set_cons_succ, i64_w, i32_w]
        rfl
      refine one_ (i := 2) (N := some 5) #[true, true, true, true, true, false, false, true, true, false, false, false] rfl rfl (one_of HT_.out (by kernel_rfl)) (by decide) (fun K hK => ?_)
      refine goes_ Try.func27 (by kernel_rfl) rfl #[.int .i64 a0_0] (by rfl) rfl rfl (by (try simp only [List.map_toArray, List.map_cons, List.map_nil]); first | done | rfl | (simp only [List.length_drop, List.length_take]; rfl)) ?_
      with_reducible refine (num_Put16.calls a0_0 t112 _ A2.out).mono ?_
      rintro e w9 ⟨rfl, hb⟩
      refine ⟨_, rfl, ?_⟩
      have n0_ := Aside0.mk (blk_below (g := gb111) (o := .cells #[.int .i64 a0_0, .int .i64 a0_1, .int .i64 a0_2] 39 (0, 0)) (by (with_reducible repeat (first | refine blk_drewN ?_ _ | refine blk_drew ?_ | refine blk_alloc ?_ _)); exact BK111.out) hb)
      have n1_ := Aside0.mk (below_step (by repeat (first | (with_reducible first | exact HB.out | apply below_alloc | apply pw_below_drewN | apply below_drew1 | refine below_set ?_ GE111.out) | exact HB.out)) hb)
      clear BK111
      clear HB
      have BK111 := n0_
      have HB := n1_
      clear n0_ n1_
      (try clear hb)
      (try clear hb2)
      (try clear hk)
      (try clear hi)
      refine hK.out _ _ ⟨(blk_cell BK111.out 0).trans rfl, (blk_cell BK111.out 1).trans rfl, (blk_cell BK111.out 2).trans rfl⟩ (fun hHeld => ?_)
      clear hK K
      refine norm_ (a' := ?_) ?_ ?_
      rotate_left
      · show Act.put _ (some 5) _ = _
        simp only [Act.put, List.setIfInBounds_toArray, List.set_cons_zero, List.set_cons_succ, i64_w, i32_w]
        rfl
      refine one_ (i := 5) (N := some 8) #[true, true, true, true, true, true, false, true, true, false, false, false] rfl rfl (one_of HT_.out (by kernel_rfl)) (by decide) (fun K hK => ?_)
      refine goes_ Try.func17 (by kernel_rfl) rfl #[.int .i64 a0_1] (by rfl) rfl rfl (by (try simp only [List.map_toArray, List.map_cons, List.map_nil]); first | done | rfl | (simp only [List.length_drop, List.length_take]; rfl)) ?_
      with_reducible refine (num_Put32.calls a0_1 t113 _ A3.out).mono ?_
      rintro e w10 ⟨rfl, hb⟩
      refine ⟨_, rfl, ?_⟩
      have n0_ := Aside0.mk (blk_below (g := gb111) (o := .cells #[.int .i64 a0_0, .int .i64 a0_1, .int .i64 a0_2] 39 (0, 0)) (by (with_reducible repeat (first | refine blk_drewN ?_ _ | refine blk_drew ?_ | refine blk_alloc ?_ _)); exact BK111.out) hb)
      have n1_ := Aside0.mk (below_step (by repeat (first | (with_reducible first | exact HB.out | apply below_alloc | apply pw_below_drewN | apply below_drew1 | refine below_set ?_ GE111.out) | exact HB.out)) hb)
      clear BK111
      clear HB
      have BK111 := n0_
      have HB := n1_
      clear n0_ n1_
      (try clear hb)
      (try clear hb2)
      (try clear hk)
      (try clear hi)
      refine hK.out _ _ ⟨(blk_cell BK111.out 0).trans rfl, (blk_cell BK111.out 1).trans rfl, (blk_cell BK111.out 2).trans rfl⟩ (fun hHeld => ?_)
      clear hK K
      refine norm_ (a' := ?_) ?_ ?_
      rotate_left
      · show Act.put _ (some 8) _ = _
        simp only [Act.put, List.setIfInBounds_toArray, List.set_cons_zero, List.set_cons_succ, i64_w, i32_w]
        rfl
      refine pure_ (i := 6) (N := some 9) (v := ?_) (a' := ?_) #[true, true, true, true, true, true, true, true, true, false, false, false] rfl rfl (any_of HT_.out (by kernel_rfl)) (fun _ _ _ h => h) (Or.inl ⟨by rfl, ?_⟩) ?_ ?_
      rotate_left
      · intro w'
        go_simp
        with_reducible rfl
      rotate_left
      · simp only [Act.put, List.setIfInBounds_toArray, List.set_cons_zero, List.set_cons_succ, i64_w, i32_w]
        rfl
      refine one_ (i := 9) (N := some 12) #[true, true, true, true, true, true, true, true, true, true, false, false] rfl rfl (one_of HT_.out (by kernel_rfl)) (by decide) (fun K hK => ?_)
      refine goes_ Try.func17 (by kernel_rfl) rfl #[.int .i64 a0_2] (by rfl) rfl rfl (by (try simp only [List.map_toArray, List.map_cons, List.map_nil]); first | done | rfl | (simp only [List.length_drop, List.length_take]; rfl)) ?_
      with_reducible refine (num_Put32.calls a0_2 t114 _ A5.out).mono ?_
      rintro e w11 ⟨rfl, hb⟩
      refine ⟨_, rfl, ?_⟩
      have n0_ := Aside0.mk (blk_below (g := gb111) (o := .cells #[.int .i64 a0_0, .int .i64 a0_1, .int .i64 a0_2] 39 (0, 0)) (by (with_reducible repeat (first | refine blk_drewN ?_ _ | refine blk_drew ?_ | refine blk_alloc ?_ _)); exact BK111.out) hb)
      have n1_ := Aside0.mk (below_step (by repeat (first | (with_reducible first | exact HB.out | apply below_alloc | apply pw_below_drewN | apply below_drew1 | refine below_set ?_ GE111.out) | exact HB.out)) hb)
      clear BK111
      clear HB
      have BK111 := n0_
      have HB := n1_
      clear n0_ n1_
      (try clear hb)
      (try clear hb2)
      (try clear hk)
      (try clear hi)
      refine hK.out _ _ ⟨(blk_cell BK111.out 0).trans rfl, (blk_cell BK111.out 1).trans rfl, (blk_cell BK111.out 2).trans rfl⟩ (fun hHeld => ?_)
      clear hK K
      refine norm_ (a' := ?_) ?_ ?_
      rotate_left
      · show Act.put _ (some 12) _ = _
        simp only [Act.put, List.setIfInBounds_toArray, List.set_cons_zero, List.set_cons_succ, i64_w, i32_w]
        rfl
      refine pure_ (i := 10) (N := some 13) (v := ?_) (a' := ?_) #[true, true, true, true, true, true, true, true, true, true, true, false] rfl rfl (any_of HT_.out (by kernel_rfl)) (fun _ _ _ h => h) (Or.inl ⟨by rfl, ?_⟩) ?_ ?_
      rotate_left
      · intro w'
        go_simp
        with_reducible rfl
      rotate_left
      · simp only [Act.put, List.setIfInBounds_toArray, List.set_cons_zero, List.set_cons_succ, i64_w, i32_w]
        rfl
      refine pure_ (i := 11) (N := some 2) (v := ?_) (a' := ?_) #[true, true, true, true, true, true, true, true, true, true, true, true] rfl rfl (any_of HT_.out (by kernel_rfl)) (fun _ _ _ h => h) (Or.inl ⟨by rfl, ?_⟩) ?_ ?_
      rotate_left
      · intro w'
        go_simp
        with_reducible rfl
      rotate_left
      · simp only [Act.put, List.setIfInBounds_toArray, List.set_cons_zero, List.set_cons_succ, i64_w, i32_w]
        rfl
      refine done_ (done_of HT_.out (by kernel_rfl)) ?_
      try go_wp2
      go_ret
      exact ⟨by first | rfl | (simp [errW_none, errW_some] <;> rfl) | (simp [*, errW_none, errW_some] <;> rfl), by repeat (first | (with_reducible first | exact HB.out | apply below_alloc | apply pw_below_drewN | apply below_drew1 | refine below_set ?_ GE111.out) | exact HB.out)⟩
    · rw [if_neg c6] at H
      exact absurd H (by simp)
  · rw [if_neg c4] at H
    exact absurd H (by simp)

/-! ### sum_shift: function 41 -/
def sum_shift.f (a0 : Int) : Option (Int) := if (Go.bits .and .u32 a0 1) = 0 then (some (a0 / 2)) else (some (Go.bits .xor .u32 (a0 / 2) 3988292384))
set_option maxHeartbeats 8000000 in
set_option maxRecDepth 100000 in
theorem sum_shift.calls (a0 : Int) (r : Int) (w : World) (h : sum_shift.f a0 = some r) :
    Calls Try.prog 41 #[.int .u32 a0] w fun e w' => e = .returned (.int .u32 r) ∧ Drawn0 w w' := by
  have H : (if (Go.bits .and .u32 a0 1) = 0 then (some (a0 / 2)) else (some (Go.bits .xor .u32 (a0 / 2) 3988292384))) = some r := h
  clear h
  by_cases c2 : (Go.bits .and .u32 a0 1) = 0
  · rw [if_pos c2] at H
    have c2b0 : ((Go.bits .and .u32 a0 1) == 0) = true := beq_iff_eq.mpr c2
    have c2b1 : ((Go.bits .and .u32 a0 1) != 0) = false := bne_eq_false_iff_eq.mpr c2
    clear c2
    obtain rfl := Option.some.inj H
    go_enter Try.func41, Try.ntmps41
    go_wp2
    go_ret
    exact ⟨by first | rfl | (simp; done) | (simp [*]; done), by repeat (first | exact Drawn0.refl _ | apply Drawn0.step)⟩
  · rw [if_neg c2] at H
    have c2b0 : ((Go.bits .and .u32 a0 1) == 0) = false := beq_eq_false_iff_ne.mpr c2
    have c2b1 : ((Go.bits .and .u32 a0 1) != 0) = true := bne_iff_ne.mpr c2
    obtain rfl := Option.some.inj H
    go_enter Try.func41, Try.ntmps41
    go_wp2
    go_ret
    exact ⟨by first | rfl | (simp; done) | (simp [*]; done), by repeat (first | exact Drawn0.refl _ | apply Drawn0.step)⟩

/-! ### sum_Step: function 40 -/
def sum_Step.l0 : Nat → Int → Int → Option (Int)
  | 0, _, _ => none
  | k + 1, x0, x9 => if x9 < 8 then ((sum_shift.f x0).bind fun t115 => (sum_Step.l0 k t115 (wrap64 (x9 + 1)))) else (some x0)
def sum_Step.f (k : Nat) (a0 : Int) (a1 : Int) : Option (Int) := sum_Step.l0 k (Go.bits .xor .u32 a0 ((a1) % 4294967296)) 0
theorem sum_Step.mono_l : ∀ k, (∀ y0 y1, LeO (sum_Step.l0 k y0 y1) (sum_Step.l0 (k + 1) y0 y1))
  | 0 => fun _ _ r h => by simp [sum_Step.l0] at h
  | k + 1 => by
    have ih0 := sum_Step.mono_l k
    · intro y0 y1
      unfold sum_Step.l0
      repeat' first
      | (with_reducible exact ih0 _ _)
      | (with_reducible exact LeO.refl _)
      | (with_reducible exact LeO.none _)
      | (with_reducible refine LeO.ite ?_ ?_)
      | (with_reducible refine LeO.bind ?_ (fun _ => ?_))
      | exact ih0 _ _
      | exact LeO.none _
      | refine LeO.ite ?_ ?_
      | refine LeO.bind ?_ (fun _ => ?_)
theorem sum_Step.mono : ∀ a0 a1 k, LeO (sum_Step.f k a0 a1) (sum_Step.f (k + 1) a0 a1) := by
  intro a0 a1 k
  have ih0 := sum_Step.mono_l k
  unfold sum_Step.f
  repeat' first
      | (with_reducible exact ih0 _ _)
      | (with_reducible exact LeO.refl _)
      | (with_reducible exact LeO.none _)
      | (with_reducible refine LeO.ite ?_ ?_)
      | (with_reducible refine LeO.bind ?_ (fun _ => ?_))
      | exact ih0 _ _
      | exact LeO.none _
      | refine LeO.ite ?_ ?_
      | refine LeO.bind ?_ (fun _ => ?_)
set_option maxHeartbeats 8000000 in
set_option maxRecDepth 100000 in
theorem sum_Step.calls (k : Nat) (a0 : Int) (a1 : Int) (r : Int) (w : World) (h : sum_Step.f k a0 a1 = some r) :
    Calls Try.prog 40 #[.int .u32 a0, .int .u8 a1] w fun e w' => e = .returned (.int .u32 r) ∧ Drawn0 w w' := by
  have H : (sum_Step.l0 k (Go.bits .xor .u32 a0 ((a1) % 4294967296)) 0) = some r := h
  clear h
  have H' := Aside0.mk H
  clear H
  go_enter Try.func40, Try.ntmps40
  go_wp2
  go_loopg [0, 9] k (fun kq v0 v9 w' => ∃ (x0_1 : Int) (x9_1 : Int), v0 = .int .u32 x0_1 ∧ v9 = .int .i64 x9_1 ∧ Aside0 (sum_Step.l0 kq x0_1 x9_1 = some r) ∧ Aside0 (kq ≤ k) ∧ Drawn0 w w')
  case atStart => exact ⟨(Go.bits .xor .u32 a0 ((a1) % 4294967296)), (0), (by first | rfl | (simp; done) | (simp [*]; done)), (by first | rfl | (simp; done) | (simp [*]; done)), H', ⟨Nat.le_refl _⟩, by repeat (first | exact Drawn0.refl _ | apply Drawn0.step)⟩
  case round =>
    clear H'
    try clear p2
    obtain ⟨x0_1, x9_1, rfl, rfl, HA, HK1, ⟨m1, rfl⟩⟩ := hrel
    cases gk with
    | zero => exact absurd HA.out (by simp [sum_Step.l0])
    | succ k1 =>
      have H := HA.out
      clear HA
      simp only [sum_Step.l0] at H
      by_cases c3 : x9_1 < 8
      · rw [if_pos c3] at H
        have c3b0 : decide (x9_1 < 8) = true := decide_eq_true c3
        clear c3
        replace H := Option.bind_eq_some_iff.mp H
        obtain ⟨t115, A40, H⟩ := H
        replace H : (sum_Step.l0 k1 t115 (wrap64 (x9_1 + 1))) = some r := H
        have A4 := Aside0.mk A40
        clear A40
        have H' := Aside0.mk H
        clear H
        go_wp2_with (first | ((with_reducible refine gate_callee (f := 41) rfl ?_); refine goesL_ (some 12) rfl rfl Try.func41 (by kernel_rfl) rfl #[.int .u32 x0_1] rfl (by (try simp only [List.map_toArray, List.map_cons, List.map_nil]); first | done | rfl | (simp only [List.length_drop, List.length_take]; rfl)) ?_; (with_reducible refine (sum_shift.calls x0_1 t115 _ A4.out).mono ?_); rintro e w' ⟨rfl, ⟨nd, rfl⟩⟩; refine ⟨_, rfl, ?_⟩))
        go_roundg k1
        case measure => have := HK1.out; omega
        case rel => exact ⟨(t115), (wrap64 (x9_1 + 1)), (by first | rfl | (simp; done) | (simp [*]; done)), (by first | rfl | (simp; done) | (simp [*]; done)), H', ⟨by have := HK1.out; omega⟩, by repeat (first | exact Drawn0.refl _ | apply Drawn0.step)⟩
      · rw [if_neg c3] at H
        have c3b0 : decide (x9_1 < 8) = false := decide_eq_false c3
        clear c3
        obtain rfl := Option.some.inj H
        go_wp2
        go_ret
        exact ⟨by first | rfl | (simp; done) | (simp [*]; done), by repeat (first | exact Drawn0.refl _ | apply Drawn0.step)⟩

/-! ### sum_Add: function 29 -/
-- NEEDS stylus/sum.Step
-- register hands back a function that holds a cell; each of its calls goes on by a byte and leaves the register in the cell.
def sum_Add.l0 : Nat → ByteArray → Int → Int → Option (Int)
  | 0, _, _, _ => none
  | k + 1, x1, x5, x16 => if x16 < (x1.size : Int) then (if 0 ≤ x16 then ((sum_Step.f k x5 (bt x1 x16)).bind fun t => (sum_Add.l0 k x1 t (wrap64 (x16 + 1)))) else (none)) else (some (Go.bits .xor .u32 x5 4294967295))
def sum_Add.f (k : Nat) (a0 : Int) (a1 : ByteArray) : Option (Int) := sum_Add.l0 k a1 (Go.bits .xor .u32 a0 4294967295) 0
theorem sum_Add.mono_l : ∀ k, (∀ y0 y1 y2, LeO (sum_Add.l0 k y0 y1 y2) (sum_Add.l0 (k + 1) y0 y1 y2))
  | 0 => fun _ _ _ r h => by simp [sum_Add.l0] at h
  | k + 1 => by
    have ih0 := sum_Add.mono_l k
    intro y0 y1 y2
    unfold sum_Add.l0
    exact LeO.ite (LeO.ite (LeO.bind (sum_Step.mono _ _ _) (fun _ => ih0 _ _ _)) (LeO.none _)) (LeO.refl _)
theorem sum_Add.mono : ∀ a0 a1 k, LeO (sum_Add.f k a0 a1) (sum_Add.f (k + 1) a0 a1) := by
  intro a0 a1 k
  exact sum_Add.mono_l k _ _ _
theorem sum_Add.reg (a : Int) (w : World) :
    Calls Try.prog 37 #[.int .u32 a] w fun e w' => e = .returned (.func (.func 39) #[] #[.pointer (some ⟨w.heap.size, 0, none⟩)]) ∧ w' = w.alloc (.cells #[.int .u32 a] 48) := by
  have hmf : ∀ (fn : Fn) (first cap : Array Value) (w : World), (Instr.makeFunc fn first cap).run Try.prog w = .ok (.func fn first cap) w := fun _ _ _ _ => rfl
  go_enter Try.func37, Try.ntmps37
  go_wp2
  go_ret
  exact ⟨rfl, rfl⟩
def sum_Add.Took (w : World) (g : Nat) (t : Int) (w' : World) : Prop := ∃ n, w' = (w.drewN n).setCell ⟨g, 0, none⟩ (.int .u32 t)
theorem sum_Add.take (k : Nat) (g : Nat) (x b t : Int) (w : World) (hg : w.heap[g]? = some (.cells #[.int .u32 x] 48 (0, 0))) (h : sum_Step.f k x b = some t) :
    Calls Try.prog 39 #[.int .u8 b, .pointer (some ⟨g, 0, none⟩)] w fun e w' => e = .returned (.int .u32 t) ∧ sum_Add.Took w g t w' := by
  have hc := (blk_cell hg 0)
  have hf := (blk_frozen hg 0)
  simp at hc
  have A6 := Aside0.mk h
  have HG := Aside0.mk hg
  clear h hg
  go_enter Try.func39, Try.ntmps39
  go_wp2_with ((with_reducible refine gate_callee (f := 40) rfl ?_); refine goesL_ (some 6) rfl rfl Try.func40 (by kernel_rfl) rfl #[.int .u32 x, .int .u8 b] rfl (by (try simp only [List.map_toArray, List.map_cons, List.map_nil]); first | done | rfl) ?_; (with_reducible refine (sum_Step.calls k x b t _ A6.out).mono ?_); rintro e w' ⟨rfl, ⟨nd, rfl⟩⟩; refine ⟨_, rfl, ?_⟩)
  go_ret
  exact ⟨rfl, nd, rfl⟩
theorem sum_Add.took {w w' W : World} {g : Nat} {x t : Int} (h : sum_Add.Took W g t w') (hb : Below w.heap.size w W) (hw : w.heap.size ≤ g) (hg : W.heap[g]? = some (.cells #[.int .u32 x] 48 (0, 0))) :
    w'.heap[g]? = some (.cells #[.int .u32 t] 48 (0, 0)) ∧ Below w.heap.size w w' ∧ ∀ a : Addr, a.block ≠ g → w'.cell? a = W.cell? a := by
  obtain ⟨n, rfl⟩ := h
  refine ⟨by simpa using blk_set (blk_drewN hg n) 0 (.int .u32 t), below_set (pw_below_drewN hb n) hw, fun a ha => ?_⟩
  simp only [World.cell?]
  rw [Below.heap_setCell _ _ _ _ ha]
  rfl
def sum_Add.Cells (w : World) (g : Nat) (s : ByteArray) : Prop := ∀ j : Nat, j < s.size → w.cell? ⟨g, j, none⟩ = some (.int .u8 (bt s (j : Int)))
theorem sum_Add.cells_bytes (W : World) (s : ByteArray) (e : TypeId) : sum_Add.Cells (Lib.bytesWorld W e s) W.heap.size s := by
  intro j hj
  rw [Lib.bytesWorld_cell W e s j hj]
  have h' : j < s.data.toList.length := by rw [data_length]; exact hj
  unfold bt
  rw [dif_pos (by simpa using hj)]
  simp [List.getD_eq_getElem?_getD, List.getElem?_eq_getElem h']
  rfl
set_option maxHeartbeats 8000000 in
set_option maxRecDepth 100000 in
theorem sum_Add.calls (k : Nat) (a0 : Int) (a1 : ByteArray) (r : Int) (w : World) (h : sum_Add.f k a0 a1 = some r) :
    Calls Try.prog 29 #[.int .u32 a0, .string a1] w fun e w' => e = .returned (.int .u32 r) ∧ Below w.heap.size w w' := by
  have H : (sum_Add.l0 k a1 (Go.bits .xor .u32 a0 4294967295) 0) = some r := h
  clear h
  have H' := Aside0.mk H
  clear H
  have kb := fun W => print_bytes (P := Try.prog) 9 36 5 Try.underlying9 Try.underlying36 Try.underlying5 a1 W
  go_enter Try.func29, Try.ntmps29
  go_wp2_with ((with_reducible refine gate_callee (f := 37) rfl ?_); refine goesL_ (some 12) rfl rfl Try.func37 (by kernel_rfl) rfl #[.int .u32 (Go.bits .xor .u32 a0 4294967295)] rfl (by (try simp only [List.map_toArray, List.map_cons, List.map_nil]); first | done | rfl) ?_; (with_reducible refine (sum_Add.reg (Go.bits .xor .u32 a0 4294967295) _).mono ?_); rintro e w' ⟨rfl, rfl⟩; refine ⟨_, rfl, ?_⟩)
  go_loopg [5, 16] k (fun kq v5 v16 w' => ∃ (x5 : Int) (x16 : Int), v5 = .int .u32 x5 ∧ v16 = .int .i64 x16 ∧ Aside0 (sum_Add.l0 kq a1 x5 x16 = some r) ∧ Aside0 (kq ≤ k) ∧ Aside0 (w'.heap[w.heap.size]? = some (.cells #[.int .u32 x5] 48 (0, 0))) ∧ Aside0 (sum_Add.Cells w' (w.heap.size + 1) a1) ∧ Aside0 (Below w.heap.size w w'))
  case atStart =>
    refine ⟨_, 0, rfl, rfl, H', ⟨Nat.le_refl _⟩, ⟨?_⟩, ⟨?_⟩, ⟨?_⟩⟩
    · rw [Lib.bytesWorld_at_old _ _ _ _ (by simp)]
      exact heap_alloc_new w _
    · have := sum_Add.cells_bytes (w.alloc (.cells #[.int .u32 (Go.bits .xor .u32 a0 4294967295)] 48)) a1 5
      simpa using this
    · exact bytes_below (below_alloc (Below.refl _ _) _) (by simp) _ _
  case round =>
    clear H' kb
    obtain ⟨x5, x16, rfl, rfl, HA, HK1, HG, HC, HB⟩ := hrel
    cases gk with
    | zero => exact absurd HA.out (by simp [sum_Add.l0])
    | succ k1 =>
      have H := HA.out
      clear HA
      simp only [sum_Add.l0] at H
      by_cases c3 : x16 < (a1.size : Int)
      · rw [if_pos c3] at H
        have c3b0 : decide (x16 < (a1.size : Int)) = true := decide_eq_true c3
        by_cases c4 : 0 ≤ x16
        · rw [if_pos c4] at H
          replace H := Option.bind_eq_some_iff.mp H
          obtain ⟨t, A60, H⟩ := H
          replace H : sum_Add.l0 k1 a1 t (wrap64 (x16 + 1)) = some r := H
          have A6 := Aside0.mk A60
          have H' := Aside0.mk H
          clear A60 H
          have hc := HC.out x16.toNat (by omega)
          rw [show ((x16.toNat : Nat) : Int) = x16 from by omega] at hc
          have hlt : w.heap.size < wr.heap.size := blk_lt HG.out
          replace HK1 := Aside0.mk (Nat.le_of_succ_le HK1.out)
          replace hlt := Aside0.mk hlt
          replace c4 := eq_true c4
          replace c3 := eq_true c3
          go_wp2_with (first | (go_at_call 39; refine (sum_Add.take k1 w.heap.size x5 (bt a1 x16) t _ HG.out A6.out).mono ?_; rintro e w2 ⟨rfl, HT⟩; have HT' := Aside0.mk HT; clear HT))
          obtain ⟨hg2, hb2, hc2⟩ := sum_Add.took HT'.out HB.out (Nat.le_refl _) HG.out
          go_roundg k1
          case measure => omega
          case rel => exact ⟨t, wrap64 (x16 + 1), rfl, rfl, H', HK1, ⟨hg2⟩, ⟨fun j hj => (hc2 _ (by simp)).trans (HC.out j hj)⟩, ⟨hb2⟩⟩
        · rw [if_neg c4] at H
          exact absurd H (by simp)
      · rw [if_neg c3] at H
        have c3b0 : decide (x16 < (a1.size : Int)) = false := decide_eq_false c3
        clear c3
        obtain rfl := Option.some.inj H
        clear H
        go_wp2
        go_ret
        exact ⟨rfl, HB.out⟩

/-! ### sum_Of: function 30 -/
def sum_Of.f (k : Nat) (a0 : ByteArray) : Option (Int) := (sum_Add.f k 0 a0).bind fun t116 => (some t116)
theorem sum_Of.mono : ∀ a0 k, LeO (sum_Of.f k a0) (sum_Of.f (k + 1) a0) := by
  intro a0 k
  unfold sum_Of.f
  repeat' first
      | (with_reducible exact sum_Add.mono _ _ _)
      | (with_reducible exact LeO.refl _)
      | (with_reducible exact LeO.none _)
      | (with_reducible refine LeO.ite ?_ ?_)
      | (with_reducible refine LeO.bind ?_ (fun _ => ?_))
      | exact sum_Add.mono _ _ _
      | exact LeO.none _
      | refine LeO.ite ?_ ?_
      | refine LeO.bind ?_ (fun _ => ?_)
set_option maxHeartbeats 8000000 in
set_option maxRecDepth 100000 in
theorem sum_Of.calls (k : Nat) (a0 : ByteArray) (r : Int) (w : World) (h : sum_Of.f k a0 = some r) :
    Calls Try.prog 30 #[.string a0] w fun e w' => e = .returned (.int .u32 r) ∧ Below w.heap.size w w' := by
  have HB := Aside0.mk (Below.refl w.heap.size w)
  have H : ((sum_Add.f k 0 a0).bind fun t116 => (some t116)) = some r := h
  clear h
  replace H := Option.bind_eq_some_iff.mp H
  obtain ⟨t116, A20, H⟩ := H
  replace H : (some t116) = some r := H
  have A2 := Aside0.mk A20
  clear A20
  obtain rfl := Option.some.inj H
  go_enter Try.func30, Try.ntmps30
  go_wp2_with (first | ((with_reducible refine gate_callee (f := 29) rfl ?_); refine goesL_ (some 4) rfl rfl Try.func29 (by kernel_rfl) rfl #[.int .u32 0, .string a0] rfl (by (try simp only [List.map_toArray, List.map_cons, List.map_nil]); first | done | rfl | (simp only [List.length_drop, List.length_take]; rfl)) ?_; (with_reducible refine (sum_Add.calls k 0 a0 t116 _ A2.out).mono ?_); rintro e w3 ⟨rfl, hb⟩; refine ⟨_, rfl, ?_⟩; have n0_ := Aside0.mk (below_step (by repeat (first | (with_reducible first | exact HB.out | apply below_alloc | apply pw_below_drewN | apply below_drew1) | exact HB.out)) hb); clear HB; have HB := n0_; clear n0_; (try clear hb); (try clear hb2); (try clear hk); (try clear hi)))
  go_ret
  exact ⟨by first | rfl | (simp [errW_none, errW_some] <;> rfl) | (simp [*, errW_none, errW_some] <;> rfl), by repeat (first | (with_reducible first | exact HB.out | apply below_alloc | apply pw_below_drewN | apply below_drew1) | exact HB.out)⟩

/-! ### frame_seal: function 18 -/
def frame_seal.f (k : Nat) (a0 : ByteArray) (a1 : ByteArray) : Option (Int) := (sum_Of.f k a0).bind fun t117 => ((sum_Add.f k t117 a1).bind fun t118 => (some (wrap64 (t118))))
theorem frame_seal.mono : ∀ a0 a1 k, LeO (frame_seal.f k a0 a1) (frame_seal.f (k + 1) a0 a1) := by
  intro a0 a1 k
  unfold frame_seal.f
  repeat' first
      | (with_reducible exact sum_Add.mono _ _ _)
      | (with_reducible exact sum_Of.mono _ _)
      | (with_reducible exact LeO.refl _)
      | (with_reducible exact LeO.none _)
      | (with_reducible refine LeO.ite ?_ ?_)
      | (with_reducible refine LeO.bind ?_ (fun _ => ?_))
      | exact sum_Add.mono _ _ _
      | exact sum_Of.mono _ _
      | exact LeO.none _
      | refine LeO.ite ?_ ?_
      | refine LeO.bind ?_ (fun _ => ?_)
set_option maxHeartbeats 8000000 in
set_option maxRecDepth 100000 in
theorem frame_seal.calls (k : Nat) (a0 : ByteArray) (a1 : ByteArray) (r : Int) (w : World) (h : frame_seal.f k a0 a1 = some r) :
    Calls Try.prog 18 #[.string a0, .string a1] w fun e w' => e = .returned (.int .i64 r) ∧ Below w.heap.size w w' := by
  have HB := Aside0.mk (Below.refl w.heap.size w)
  have H : ((sum_Of.f k a0).bind fun t117 => ((sum_Add.f k t117 a1).bind fun t118 => (some (wrap64 (t118))))) = some r := h
  clear h
  replace H := Option.bind_eq_some_iff.mp H
  obtain ⟨t117, A30, H⟩ := H
  replace H : ((sum_Add.f k t117 a1).bind fun t118 => (some (wrap64 (t118)))) = some r := H
  have A3 := Aside0.mk A30
  clear A30
  replace H := Option.bind_eq_some_iff.mp H
  obtain ⟨t118, A40, H⟩ := H
  replace H : (some (wrap64 (t118))) = some r := H
  have A4 := Aside0.mk A40
  clear A40
  obtain rfl := Option.some.inj H
  go_enter Try.func18, Try.ntmps18
  go_wp2_with (first | ((with_reducible refine gate_callee (f := 30) rfl ?_); refine goesL_ (some 6) rfl rfl Try.func30 (by kernel_rfl) rfl #[.string a0] rfl (by (try simp only [List.map_toArray, List.map_cons, List.map_nil]); first | done | rfl | (simp only [List.length_drop, List.length_take]; rfl)) ?_; (with_reducible refine (sum_Of.calls k a0 t117 _ A3.out).mono ?_); rintro e w5 ⟨rfl, hb⟩; refine ⟨_, rfl, ?_⟩; have n0_ := Aside0.mk (below_step (by repeat (first | (with_reducible first | exact HB.out | apply below_alloc | apply pw_below_drewN | apply below_drew1) | exact HB.out)) hb); clear HB; have HB := n0_; clear n0_; (try clear hb); (try clear hb2); (try clear hk); (try clear hi)) | ((with_reducible refine gate_callee (f := 29) rfl ?_); refine goesL_ (some 8) rfl rfl Try.func29 (by kernel_rfl) rfl #[.int .u32 t117, .string a1] rfl (by (try simp only [List.map_toArray, List.map_cons, List.map_nil]); first | done | rfl | (simp only [List.length_drop, List.length_take]; rfl)) ?_; (with_reducible refine (sum_Add.calls k t117 a1 t118 _ A4.out).mono ?_); rintro e w6 ⟨rfl, hb⟩; refine ⟨_, rfl, ?_⟩; have n0_ := Aside0.mk (below_step (by repeat (first | (with_reducible first | exact HB.out | apply below_alloc | apply pw_below_drewN | apply below_drew1) | exact HB.out)) hb); clear HB; have HB := n0_; clear n0_; (try clear hb); (try clear hb2); (try clear hk); (try clear hi)))
  go_ret
  exact ⟨by first | rfl | (simp [errW_none, errW_some] <;> rfl) | (simp [*, errW_none, errW_some] <;> rfl), by repeat (first | (with_reducible first | exact HB.out | apply below_alloc | apply pw_below_drewN | apply below_drew1) | exact HB.out)⟩

/-! ### frame_Lay: function 8 -/
-- NEEDS (stylus/frame.head).may stylus/frame.magic (stylus/frame.head).bytes stylus/frame.seal stylus/num.Put32
-- string(m[:]): an array's bytes as a text
def frame_Lay.f (k : Nat) (a0_0 : Int) (a0_1 : Int) (a0_2 : ByteArray) : Option (ByteArray × Int) :=
  (frame_head_may.f (a0_2.size : Int) a0_0 a0_1).bind fun m => (if m = true then (if (a0_2.size : Int) > 1024 then (some ((⟨#[]⟩ : ByteArray), 6)) else
    ((frame_head_bytes.f (a0_2.size : Int) a0_0 a0_1).bind fun t => ((frame_seal.f k t a0_2).bind fun u => ((num_Put32.f u).bind fun p =>
      (if t.size + p.size ≤ 1000 then (some ((((⟨#[83, 74]⟩ : ByteArray) ++ t) ++ p) ++ a0_2, 0)) else (none)))))) else (some ((⟨#[]⟩ : ByteArray), 3)))
theorem frame_Lay.mono : ∀ a0 a1 a2 k, LeO (frame_Lay.f k a0 a1 a2) (frame_Lay.f (k + 1) a0 a1 a2) := by
  intro a0 a1 a2 k
  unfold frame_Lay.f
  exact LeO.bind (LeO.refl _) fun _ => LeO.ite (LeO.ite (LeO.refl _) (LeO.bind (LeO.refl _) fun _ => LeO.bind (frame_seal.mono _ _ _) fun _ => LeO.refl _)) (LeO.refl _)
/-- The array's bytes as a text, wherever its block stands. -/
theorem frame_Lay.held {g5 : Nat} {w : World} (h : w.heap[g5]? = some (.cells #[.int .u8 83, .int .u8 74] 42 (0, 0))) :
    (convert 36 9 (.slice (some ⟨g5, 0, none⟩) 2 2)).run Try.prog w = .ok (.string (⟨#[83, 74]⟩ : ByteArray)) w := by
  have hr : ReadsInt w .u8 (some ⟨g5, 0, none⟩) 2 [83, 74] := by
    refine ⟨rfl, by decide, fun _ => ⟨_, rfl, fun j hj => ?_⟩⟩
    rw [add_plain, blk_cell h j]
    match j, hj with
    | 0, _ => rfl
    | 1, _ => rfl
  exact string_of_reads (P := Try.prog) Try.underlying36 Try.underlying5 Try.underlying9 hr
theorem frame_Lay.keep0 {a0_0 a0_1 : Int} {a0_2 : ByteArray} {g5 g1 : Nat} {w w3 : World} (h5 : w3.heap[g5]? = some (.cells #[.int .u8 83, .int .u8 74] 42 (0, 0))) (h1 : w3.heap[g1]? = some (.cells #[.int .i64 a0_0, .int .i64 a0_1, .string a0_2] 23 (0, 0))) (hb : Below w.heap.size w w3) :
    w3.drew.heap[g5]? = some (.cells #[.int .u8 83, .int .u8 74] 42 (0, 0)) ∧ (convert 36 9 (.slice (some ⟨g5, 0, none⟩) 2 2)).run Try.prog w3.drew = .ok (.string (⟨#[83, 74]⟩ : ByteArray)) w3.drew ∧ w3.drew.heap[g1]? = some (.cells #[.int .i64 a0_0, .int .i64 a0_1, .string a0_2] 23 (0, 0)) ∧ w3.drew.cell? ⟨g1, 2, none⟩ = some (.string a0_2) ∧ Below w.heap.size w w3.drew :=
  ⟨blk_drew h5, frame_Lay.held (blk_drew h5), blk_drew h1, (blk_cell (blk_drew h1) 2).trans rfl, below_drew1 hb⟩
theorem frame_Lay.keep1 {a0_0 a0_1 : Int} {a0_2 : ByteArray} {g5 g1 : Nat} {w w1 w4 : World} (hb : Below w1.heap.size w1 w4) (h : w1.heap[g5]? = some (.cells #[.int .u8 83, .int .u8 74] 42 (0, 0)) ∧ (convert 36 9 (.slice (some ⟨g5, 0, none⟩) 2 2)).run Try.prog w1 = .ok (.string (⟨#[83, 74]⟩ : ByteArray)) w1 ∧ w1.heap[g1]? = some (.cells #[.int .i64 a0_0, .int .i64 a0_1, .string a0_2] 23 (0, 0)) ∧ w1.cell? ⟨g1, 2, none⟩ = some (.string a0_2) ∧ Below w.heap.size w w1) :
    w4.heap[g5]? = some (.cells #[.int .u8 83, .int .u8 74] 42 (0, 0)) ∧ (convert 36 9 (.slice (some ⟨g5, 0, none⟩) 2 2)).run Try.prog w4 = .ok (.string (⟨#[83, 74]⟩ : ByteArray)) w4 ∧ w4.heap[g1]? = some (.cells #[.int .i64 a0_0, .int .i64 a0_1, .string a0_2] 23 (0, 0)) ∧ w4.cell? ⟨g1, 2, none⟩ = some (.string a0_2) ∧ Below w.heap.size w w4 :=
  ⟨blk_below h.1 hb, frame_Lay.held (blk_below h.1 hb), blk_below h.2.2.1 hb, (blk_cell (blk_below h.2.2.1 hb) 2).trans rfl, below_step h.2.2.2.2 hb⟩
set_option maxHeartbeats 8000000 in
set_option maxRecDepth 100000 in
theorem frame_Lay.calls (k : Nat) (a0_0 : Int) (a0_1 : Int) (a0_2 : ByteArray) (r1 : ByteArray) (r2 : Int) (w : World) (h : frame_Lay.f k a0_0 a0_1 a0_2 = some (r1, r2)) :
    Calls Try.prog 8 #[.agg #[.int .i64 a0_0, .int .i64 a0_1, .string a0_2]] w fun e w' => e = .returned (.tuple #[.string r1, .int .i64 r2]) ∧ Below w.heap.size w w' := by
  unfold frame_Lay.f at h
  have hu23 := Try.underlying23
  have hu39 := Try.underlying39
  replace h := Option.bind_eq_some_iff.mp h
  obtain ⟨m, A0, h⟩ := h
  have HA0 := Aside0.mk A0
  clear A0
  cases m with
  | false =>
    rw [if_neg Bool.false_ne_true] at h
    simp only [Option.some.injEq, Prod.mk.injEq] at h
    obtain ⟨rfl, rfl⟩ := h
    go_enter Try.func8, Try.ntmps8
    go_upto_region 1 with fail
    go_cut [4] (fun v4 wx => v4 = .pointer (some ⟨w.heap.size + 1, 0, none⟩) ∧ (wx.cell? ⟨w.heap.size + 1, 0, none⟩ = some (.int .i64 (a0_2.size : Int)) ∧ wx.cell? ⟨w.heap.size + 1, 1, none⟩ = some (.int .i64 a0_0) ∧ wx.cell? ⟨w.heap.size + 1, 2, none⟩ = some (.int .i64 a0_1)) ∧ Aside0 (wx.heap[w.heap.size]? = some (.cells #[.int .i64 a0_0, .int .i64 a0_1, .string a0_2] 23 (0, 0)) ∧ wx.heap[w.heap.size + 1]? = some (.cells #[.int .i64 (a0_2.size : Int), .int .i64 a0_0, .int .i64 a0_1] 39 (0, 0)) ∧ Below w.heap.size w wx))
    case first =>
      go_wp2_with fail
      go_meet
      have k1_ : ((w.alloc (.cells #[.int .i64 a0_0, .int .i64 a0_1, .string a0_2] 23)).alloc (.cells #[.int .i64 (a0_2.size : Int), .int .i64 a0_0, .int .i64 a0_1] 39)).heap[w.heap.size + 1]? = some (.cells #[.int .i64 (a0_2.size : Int), .int .i64 a0_0, .int .i64 a0_1] 39 (0, 0)) := by simpa using heap_alloc_new (w.alloc (.cells #[.int .i64 a0_0, .int .i64 a0_1, .string a0_2] 23)) (.cells #[.int .i64 (a0_2.size : Int), .int .i64 a0_0, .int .i64 a0_1] 39)
      exact ⟨rfl, ⟨(blk_cell k1_ 0).trans rfl, (blk_cell k1_ 1).trans rfl, (blk_cell k1_ 2).trans rfl⟩, ⟨blk_alloc (heap_alloc_new w _) _, k1_, below_alloc (below_alloc (Below.refl _ _) _) _⟩⟩
    obtain ⟨rfl, ⟨hx0, hx1, hx2⟩, BK⟩ := hcut
    go_wp2_with (go_at_call 14; (with_reducible refine (frame_head_may.calls (a0_2.size : Int) a0_0 a0_1 _ _ HA0.out).mono ?_); rintro e w1 ⟨rfl, hb0⟩; have K0 := Aside0.mk (blk_below BK.out.1 hb0); have K1 := Aside0.mk (blk_below BK.out.2.1 hb0); have K2 := Aside0.mk (below_step BK.out.2.2 hb0); have hd0 : w1.cell? ⟨w.heap.size + 1, 0, none⟩ = some (.int .i64 (a0_2.size : Int)) := (blk_cell K1.out 0).trans rfl; clear hb0)
    go_ret2
    exact ⟨rfl, K2.out⟩
  | true =>
  rw [if_pos rfl] at h
  by_cases c3 : (a0_2.size : Int) > 1024
  · rw [if_pos c3] at h
    have c3b : decide (1024 < (a0_2.size : Int)) = true := decide_eq_true c3
    have c3c : decide (1024 < a0_2.size) = true := decide_eq_true (by omega)
    simp only [Option.some.injEq, Prod.mk.injEq] at h
    obtain ⟨rfl, rfl⟩ := h
    clear c3
    go_enter Try.func8, Try.ntmps8
    go_upto_region 1 with fail
    go_cut [4] (fun v4 wx => v4 = .pointer (some ⟨w.heap.size + 1, 0, none⟩) ∧ (wx.cell? ⟨w.heap.size + 1, 0, none⟩ = some (.int .i64 (a0_2.size : Int)) ∧ wx.cell? ⟨w.heap.size + 1, 1, none⟩ = some (.int .i64 a0_0) ∧ wx.cell? ⟨w.heap.size + 1, 2, none⟩ = some (.int .i64 a0_1)) ∧ Aside0 (wx.heap[w.heap.size]? = some (.cells #[.int .i64 a0_0, .int .i64 a0_1, .string a0_2] 23 (0, 0)) ∧ wx.heap[w.heap.size + 1]? = some (.cells #[.int .i64 (a0_2.size : Int), .int .i64 a0_0, .int .i64 a0_1] 39 (0, 0)) ∧ Below w.heap.size w wx))
    case first =>
      go_wp2_with fail
      go_meet
      have k1_ : ((w.alloc (.cells #[.int .i64 a0_0, .int .i64 a0_1, .string a0_2] 23)).alloc (.cells #[.int .i64 (a0_2.size : Int), .int .i64 a0_0, .int .i64 a0_1] 39)).heap[w.heap.size + 1]? = some (.cells #[.int .i64 (a0_2.size : Int), .int .i64 a0_0, .int .i64 a0_1] 39 (0, 0)) := by simpa using heap_alloc_new (w.alloc (.cells #[.int .i64 a0_0, .int .i64 a0_1, .string a0_2] 23)) (.cells #[.int .i64 (a0_2.size : Int), .int .i64 a0_0, .int .i64 a0_1] 39)
      exact ⟨rfl, ⟨(blk_cell k1_ 0).trans rfl, (blk_cell k1_ 1).trans rfl, (blk_cell k1_ 2).trans rfl⟩, ⟨blk_alloc (heap_alloc_new w _) _, k1_, below_alloc (below_alloc (Below.refl _ _) _) _⟩⟩
    obtain ⟨rfl, ⟨hx0, hx1, hx2⟩, BK⟩ := hcut
    go_wp2_with (go_at_call 14; (with_reducible refine (frame_head_may.calls (a0_2.size : Int) a0_0 a0_1 _ _ HA0.out).mono ?_); rintro e w1 ⟨rfl, hb0⟩; have K0 := Aside0.mk (blk_below BK.out.1 hb0); have K1 := Aside0.mk (blk_below BK.out.2.1 hb0); have K2 := Aside0.mk (below_step BK.out.2.2 hb0); have hd0 : w1.cell? ⟨w.heap.size + 1, 0, none⟩ = some (.int .i64 (a0_2.size : Int)) := (blk_cell K1.out 0).trans rfl; clear hb0)
    go_ret2
    exact ⟨rfl, K2.out⟩
  rw [if_neg c3] at h
  have c3b : decide (1024 < (a0_2.size : Int)) = false := decide_eq_false c3
  have c3c : decide (1024 < a0_2.size) = false := decide_eq_false (by omega)
  have c3d : a0_2.size ≤ 1024 := by omega
  clear c3
  replace h := Option.bind_eq_some_iff.mp h
  obtain ⟨t, A1, h⟩ := h
  replace h := Option.bind_eq_some_iff.mp h
  obtain ⟨u, A2, h⟩ := h
  replace h := Option.bind_eq_some_iff.mp h
  obtain ⟨p, A3, h⟩ := h
  have HA1 := Aside0.mk A1
  have HA2 := Aside0.mk A2
  have HA3 := Aside0.mk A3
  clear A1 A2 A3
  by_cases c4 : t.size + p.size ≤ 1000
  · rw [if_pos c4] at h
    have s1 : t.size ≤ 1000 := by omega
    have s2 : p.size ≤ 1000 := by omega
    clear c4
    simp only [Option.some.injEq, Prod.mk.injEq] at h
    obtain ⟨rfl, rfl⟩ := h
    go_enter Try.func8, Try.ntmps8
    go_upto_region 1 with fail
    go_cut [4] (fun v4 wx => v4 = .pointer (some ⟨w.heap.size + 1, 0, none⟩) ∧ (wx.cell? ⟨w.heap.size + 1, 0, none⟩ = some (.int .i64 (a0_2.size : Int)) ∧ wx.cell? ⟨w.heap.size + 1, 1, none⟩ = some (.int .i64 a0_0) ∧ wx.cell? ⟨w.heap.size + 1, 2, none⟩ = some (.int .i64 a0_1)) ∧ Aside0 (wx.heap[w.heap.size]? = some (.cells #[.int .i64 a0_0, .int .i64 a0_1, .string a0_2] 23 (0, 0)) ∧ wx.heap[w.heap.size + 1]? = some (.cells #[.int .i64 (a0_2.size : Int), .int .i64 a0_0, .int .i64 a0_1] 39 (0, 0)) ∧ Below w.heap.size w wx))
    case first =>
      go_wp2_with fail
      go_meet
      have k1_ : ((w.alloc (.cells #[.int .i64 a0_0, .int .i64 a0_1, .string a0_2] 23)).alloc (.cells #[.int .i64 (a0_2.size : Int), .int .i64 a0_0, .int .i64 a0_1] 39)).heap[w.heap.size + 1]? = some (.cells #[.int .i64 (a0_2.size : Int), .int .i64 a0_0, .int .i64 a0_1] 39 (0, 0)) := by simpa using heap_alloc_new (w.alloc (.cells #[.int .i64 a0_0, .int .i64 a0_1, .string a0_2] 23)) (.cells #[.int .i64 (a0_2.size : Int), .int .i64 a0_0, .int .i64 a0_1] 39)
      exact ⟨rfl, ⟨(blk_cell k1_ 0).trans rfl, (blk_cell k1_ 1).trans rfl, (blk_cell k1_ 2).trans rfl⟩, ⟨blk_alloc (heap_alloc_new w _) _, k1_, below_alloc (below_alloc (Below.refl _ _) _) _⟩⟩
    obtain ⟨rfl, ⟨hx0, hx1, hx2⟩, BK⟩ := hcut
    go_upto_region 6 with (go_at_call 14; (with_reducible refine (frame_head_may.calls (a0_2.size : Int) a0_0 a0_1 _ _ HA0.out).mono ?_); rintro e w1 ⟨rfl, hb0⟩; have K0 := Aside0.mk (blk_below BK.out.1 hb0); have K1 := Aside0.mk (blk_below BK.out.2.1 hb0); have K2 := Aside0.mk (below_step BK.out.2.2 hb0); have hd0 : w1.cell? ⟨w.heap.size + 1, 0, none⟩ = some (.int .i64 (a0_2.size : Int)) := (blk_cell K1.out 0).trans rfl; clear hb0)
    clear hx0 hx1 hx2 hd0
    go_cut [5] (fun v5 wy => ∃ g5 : Nat, v5 = .pointer (some ⟨g5, 0, none⟩) ∧ (wy.cell? ⟨w.heap.size + 1, 0, none⟩ = some (.int .i64 (a0_2.size : Int)) ∧ wy.cell? ⟨w.heap.size + 1, 1, none⟩ = some (.int .i64 a0_0) ∧ wy.cell? ⟨w.heap.size + 1, 2, none⟩ = some (.int .i64 a0_1)) ∧ Aside0 (wy.heap[w.heap.size]? = some (.cells #[.int .i64 a0_0, .int .i64 a0_1, .string a0_2] 23 (0, 0)) ∧ wy.heap[w.heap.size + 1]? = some (.cells #[.int .i64 (a0_2.size : Int), .int .i64 a0_0, .int .i64 a0_1] 39 (0, 0)) ∧ wy.heap[g5]? = some (.cells #[.int .u8 83, .int .u8 74] 42 (0, 0)) ∧ Below w.heap.size w wy))
    case first =>
      go_wp2_with (go_at_call 15; (with_reducible refine (frame_magic.calls 83 74 _ rfl).mono ?_); rintro e w2 ⟨rfl, hb1⟩; have L0 := Aside0.mk (blk_below K0.out hb1); have L1 := Aside0.mk (blk_below K1.out hb1); have L2 := Aside0.mk (below_step K2.out hb1); clear hb1)
      go_meet
      have k1_ := blk_alloc L1.out (.cells #[.int .u8 83, .int .u8 74] 42)
      exact ⟨_, rfl, ⟨(blk_cell k1_ 0).trans rfl, (blk_cell k1_ 1).trans rfl, (blk_cell k1_ 2).trans rfl⟩, ⟨blk_alloc L0.out _, k1_, heap_alloc_new _ _, below_alloc L2.out _⟩⟩
    obtain ⟨g5, rfl, ⟨hy0, hy1, hy2⟩, BY⟩ := hcut
    clear BK K0 K1 K2
    go_upto_region 8 with (go_at_call 16; (with_reducible refine (frame_head_bytes.calls (a0_2.size : Int) a0_0 a0_1 t _ HA1.out).mono ?_); rintro e w3 ⟨rfl, hb2⟩; have H5 := Aside0.mk (blk_below BY.out.2.2.1 hb2); have H1 := Aside0.mk (blk_below BY.out.1 hb2); have HB := Aside0.mk (below_step BY.out.2.2.2 hb2); clear hb2)
    clear hy0 hy1 hy2 BY
    have l1 : (9223372036854775807 < t.size + a0_2.size) = False := eq_false (by omega)
    have l2 : (9223372036854775807 < 2 + t.size) = False := eq_false (by omega)
    have l3 : (9223372036854775807 < 2 + t.size + p.size) = False := eq_false (by omega)
    have l4 : (9223372036854775807 < 2 + t.size + p.size + a0_2.size) = False := eq_false (by omega)
    go_region_held3 (fun w' => w'.heap[g5]? = some (.cells #[.int .u8 83, .int .u8 74] 42 (0, 0)) ∧ (convert 36 9 (.slice (some ⟨g5, 0, none⟩) 2 2)).run Try.prog w' = .ok (.string (⟨#[83, 74]⟩ : ByteArray)) w' ∧ w'.heap[w.heap.size]? = some (.cells #[.int .i64 a0_0, .int .i64 a0_1, .string a0_2] 23 (0, 0)) ∧ w'.cell? ⟨w.heap.size, 2, none⟩ = some (.string a0_2) ∧ Below w.heap.size w w') ((first | exact frame_Lay.keep0 H5.out H1.out HB.out | exact frame_Lay.keep1 (by assumption) (by assumption)))
      (first | (go_at_call 18; (with_reducible refine (frame_seal.calls k t a0_2 u _ HA2.out).mono ?_); rintro e w4 ⟨rfl, hb⟩) | (go_at_call 17; (with_reducible refine (num_Put32.calls u p _ HA3.out).mono ?_); rintro e w5 ⟨rfl, hb⟩))
    rename_i hS
    have hB := hS.2.2.2.2
    clear hS
    go_wp2
    go_ret2
    exact ⟨rfl, hB⟩
  · rw [if_neg c4] at h
    exact absurd h (by simp)

/-! ### frame_Size: function 10 -/
def frame_Size.f (a0 : Int) : Option (Int) := if a0 < 0 then (some 16) else (some (wrap64 (16 + a0)))
set_option maxHeartbeats 8000000 in
set_option maxRecDepth 100000 in
theorem frame_Size.calls (a0 : Int) (r : Int) (w : World) (h : frame_Size.f a0 = some r) :
    Calls Try.prog 10 #[.int .i64 a0] w fun e w' => e = .returned (.int .i64 r) ∧ Drawn0 w w' := by
  have H : (if a0 < 0 then (some 16) else (some (wrap64 (16 + a0)))) = some r := h
  clear h
  by_cases c2 : a0 < 0
  · rw [if_pos c2] at H
    have c2b0 : decide (a0 < 0) = true := decide_eq_true c2
    clear c2
    obtain rfl := Option.some.inj H
    go_enter Try.func10, Try.ntmps10
    go_wp2
    go_ret
    exact ⟨by first | rfl | (simp; done) | (simp [*]; done), by repeat (first | exact Drawn0.refl _ | apply Drawn0.step)⟩
  · rw [if_neg c2] at H
    have c2b0 : decide (a0 < 0) = false := decide_eq_false c2
    clear c2
    obtain rfl := Option.some.inj H
    go_enter Try.func10, Try.ntmps10
    go_wp2
    go_ret
    exact ⟨by first | rfl | (simp; done) | (simp [*]; done), by repeat (first | exact Drawn0.refl _ | apply Drawn0.step)⟩

/-! ### frame_starts: function 22 -/
-- NEEDS stylus/frame.magic
-- copy(got[:], s) and got == m: a text's first bytes over an array's, and two arrays side by side
def frame_starts.f (a0 : ByteArray) : Option Bool := some ((if 0 < a0.size then bt a0 0 else 83) == 83 && ((if 1 < a0.size then bt a0 1 else 74) == 74))
theorem frame_starts.eqArr (x0 x1 y0 y1 : Int) (W : World) : (Op.equalIn 10000 42 (.agg #[.int .u8 x0, .int .u8 x1]) (.agg #[.int .u8 y0, .int .u8 y1])).run Try.prog W = .ok (x0 == y0 && x1 == y1) W := by
  have hu37 := Try.underlying42
  have hu5 := Try.underlying5
  have ha : ∀ W, (isAgg 5).run Try.prog W = .ok false W := fun W => by kernel_rfl
  unfold Op.equalIn
  go_simp
  rw [show List.range' 0 2 = [0, 1] from rfl]
  simp only [List.forIn_cons, List.forIn_nil]
  cases h0 : (x0 == y0) <;> cases h1 : (x1 == y1) <;> go_simp <;> simp [ha, h0, h1, Sem.run_bind]
theorem frame_starts.first (s : ByteArray) : ((s.extract 0 (Nat.min s.size 2)).data.map fun b => Value.int .u8 b.toNat).toList = (if 0 < s.size then [Value.int .u8 (bt s 0)] else []) ++ (if 1 < s.size then [Value.int .u8 (bt s 1)] else []) := by
  have hl : ((s.extract 0 (Nat.min s.size 2)).data.map fun b => Value.int .u8 b.toNat).toList.length = Nat.min s.size 2 := by
    rw [Array.toList_map, List.length_map, Array.length_toList]
    show (s.extract 0 (Nat.min s.size 2)).size = _
    rw [ByteArray.size_extract]
    simp only [Nat.min_def]
    split <;> split <;> omega
  have hg : ∀ j : Nat, j < Nat.min s.size 2 → ((s.extract 0 (Nat.min s.size 2)).data.map fun b => Value.int .u8 b.toNat).toList[j]? = some (Value.int .u8 (bt s (j : Int))) := by
    intro j hj
    have hs : j < s.size := Nat.lt_of_lt_of_le hj (Nat.min_le_left _ _)
    rw [Array.toList_map, List.getElem?_map]
    have : (s.extract 0 (Nat.min s.size 2)).data.toList[j]? = some (s[j]'hs) := by
      rw [Array.getElem?_toList]
      have e : (s.extract 0 (Nat.min s.size 2)).data[j]? = some ((s.extract 0 (Nat.min s.size 2))[j]'(by rw [ByteArray.size_extract]; have := Nat.min_le_left s.size 2; simp only [Nat.min_eq_left (show Nat.min s.size 2 ≤ s.size from this)]; omega)) := by
        rw [ByteArray.getElem_eq_getElem_data]
        exact Array.getElem?_eq_getElem _
      rw [e, ByteArray.getElem_extract]
      simp
    rw [this]
    simp only [Option.map_some]
    congr 2
    exact bt_at s (j : Int) hs
  apply List.ext_getElem?
  intro j
  by_cases h0 : 0 < s.size
  · by_cases h1 : 1 < s.size
    · have hm : Nat.min s.size 2 = 2 := by simp only [Nat.min_def]; split <;> omega
      rw [if_pos h0, if_pos h1]
      match j with
      | 0 => exact hg 0 (by omega)
      | 1 => exact hg 1 (by omega)
      | j + 2 => rw [List.getElem?_eq_none (by omega)]; rfl
    · have hm : Nat.min s.size 2 = 1 := by simp only [Nat.min_def]; split <;> omega
      rw [if_pos h0, if_neg h1]
      match j with
      | 0 => exact hg 0 (by omega)
      | j + 1 => rw [List.getElem?_eq_none (by omega)]; rfl
  · have hm : Nat.min s.size 2 = 0 := by simp only [Nat.min_def]; split <;> omega
    rw [if_neg h0, if_neg (by omega), List.getElem?_eq_none (by omega)]
    rfl
theorem frame_starts.belowRow {B g : Nat} {w0 w : World} (hb : Below B w0 w) (hBg : B ≤ g) (cs : Array Value) : Below B w0 (w.setRow g cs) :=
  ⟨hb.os, hb.tape, hb.output, by simpa using hb.size, fun i hi => by rw [setRow_other _ _ _ _ (by omega)]; exact hb.block i hi⟩
theorem frame_starts.copied (W : World) (g : Nat) (s : ByteArray) (x0 x1 : Int) (ty : TypeId) (hg : W.heap[g]? = some (.cells #[.int .u8 x0, .int .u8 x1] 42 (0, 0))) :
    (Builtin.copy_ #[36, 9] ty #[.slice (some ⟨g, 0, none⟩) 2 2, .string s]).run Try.prog W =
      .ok (goInt (Nat.min s.size 2)) (W.setRow g #[.int .u8 (if 0 < s.size then bt s 0 else x0), .int .u8 (if 1 < s.size then bt s 1 else x1)]) := by
  have hf := frame_starts.first s
  have hl : ((if 0 < s.size then [Value.int .u8 (bt s 0)] else []) ++ (if 1 < s.size then [Value.int .u8 (bt s 1)] else [])).length ≤ 2 := by split <;> split <;> simp
  have h1 : ∀ v ∈ (if 0 < s.size then [Value.int .u8 (bt s 0)] else []) ++ (if 1 < s.size then [Value.int .u8 (bt s 1)] else []), v.oneCell' = true := by
    intro v hv
    rw [List.mem_append] at hv
    rcases hv with hv | hv
    · split at hv
      · rw [List.mem_singleton] at hv; rw [hv]; rfl
      · simp at hv
    · split at hv
      · rw [List.mem_singleton] at hv; rw [hv]; rfl
      · simp at hv
  have hst := run_storeCells_at Try.prog g 0 42 _ 0 _ W hg (by simpa using hl) h1
  have hz : ∀ W : World, (sizeOf 5).run Try.prog W = .ok 1 W := fun W => by kernel_rfl
  simp only [Builtin.copy_, List.getElem?_toArray, List.getElem?_cons_zero, List.getElem?_cons_succ, run_underlying Try.underlying36, Builtin.lenOf, Builtin.firstCells, Sem.run_bind, Sem.run_pure, Result.andThen_ok, hz, hf, hst]
  congr 2
  by_cases c0 : 0 < s.size
  · by_cases c1 : 1 < s.size
    · simp [if_pos c0, if_pos c1]
    · simp [if_pos c0, if_neg c1]
  · have c1 : ¬ 1 < s.size := by omega
    simp [if_neg c0, if_neg c1]
set_option maxHeartbeats 8000000 in
set_option maxRecDepth 100000 in
theorem frame_starts.calls (a0 : ByteArray) (r : Bool) (w : World) (h : frame_starts.f a0 = some r) :
    Calls Try.prog 22 #[.string a0] w fun e w' => e = .returned (.bool r) ∧ Below w.heap.size w w' := by
  obtain rfl := Option.some.inj h
  clear h
  obtain ⟨y0, hy0⟩ : ∃ y0 : Int, (if 0 < a0.size then bt a0 0 else 83) = y0 := ⟨_, rfl⟩
  obtain ⟨y1, hy1⟩ : ∃ y1 : Int, (if 1 < a0.size then bt a0 1 else 74) = y1 := ⟨_, rfl⟩
  rw [hy0, hy1]
  have HY0 := Aside0.mk hy0
  have HY1 := Aside0.mk hy1
  clear hy0 hy1
  have heq := frame_starts.eqArr
  have hu37 := Try.underlying42
  go_enter Try.func22, Try.ntmps22
  go_upto_region 3 with (first | (go_at_call 15; (with_reducible refine (frame_magic.calls 83 74 _ rfl).mono ?_); rintro e w2 ⟨rfl, hb1⟩))
  have HB1 := Aside0.mk hb1
  clear hb1
  have hg : ((w2.alloc (.cells #[.int .u8 83, .int .u8 74] 42)).alloc (.cells #[.int .u8 83, .int .u8 74] 42)).heap[w2.heap.size + 1]? = some (.cells #[.int .u8 83, .int .u8 74] 42 (0, 0)) := by
    simpa using heap_alloc_new (w2.alloc (.cells #[.int .u8 83, .int .u8 74] 42)) (.cells #[.int .u8 83, .int .u8 74] 42)
  have hcopy := fun ty => frame_starts.copied _ (w2.heap.size + 1) a0 83 74 ty hg
  have HG := Aside0.mk hg
  clear hg
  rw [HY0.out, HY1.out] at hcopy
  go_cut [] (fun wx => (wx.cell? ⟨w2.heap.size, 0, none⟩ = some (.int .u8 83) ∧ wx.cell? ⟨w2.heap.size, 1, none⟩ = some (.int .u8 74) ∧ wx.cell? ⟨w2.heap.size + 1, 0, none⟩ = some (.int .u8 y0) ∧ wx.cell? ⟨w2.heap.size + 1, 1, none⟩ = some (.int .u8 y1)) ∧ Aside0 (Below w.heap.size w wx))
  case first =>
    go_wp2_with fail
    go_meet
    have s1 := setRow_heap _ _ _ #[.int .u8 y0, .int .u8 y1] _ _ HG.out
    have hne : w2.heap.size ≠ w2.heap.size + 1 := by omega
    have s0 := (setRow_other ((w2.alloc (.cells #[.int .u8 83, .int .u8 74] 42)).alloc (.cells #[.int .u8 83, .int .u8 74] 42)) (w2.heap.size + 1) w2.heap.size #[.int .u8 y0, .int .u8 y1] hne).trans (blk_alloc (heap_alloc_new w2 _) _)
    exact ⟨⟨(blk_cell s0 0).trans rfl, (blk_cell s0 1).trans rfl, (blk_cell s1 0).trans rfl, (blk_cell s1 1).trans rfl⟩, ⟨frame_starts.belowRow (below_alloc (below_alloc HB1.out _) _) (by have := HB1.out.size; omega) _⟩⟩
  case rest =>
    obtain ⟨⟨hx0, hx1, hx2, hx3⟩, HB⟩ := hcut
    clear hcopy
    go_wp2
    go_ret
    exact ⟨rfl, HB.out⟩

end Go.Proofs.Ytmgnbnkifofleaa.P
