import Derived.Test.YtfhafkfcedghkaaPx0
import Derived.Defers
import Derived.Test.YtfhafkfcedghkaaPx4
import Derived.Test.YtfhafkfcedghkaaPx5
import Derived.Test.YtfhafkfcedghkaaPx6
import Derived.Test.YtfhafkfcedghkaaPx7
namespace Go.Proofs.Ytfhafkfcedghkaa.P
open Go.RowKit Go.Proofs.YtfhafkfcedghkaaW.PrintWords Go.Proofs.YtfhafkfcedghkaaW.PrintLast Go.Proofs.YtfhafkfcedghkaaW.PrintMore
attribute [local go_sem] max2_int min2_int max_two min_two max_three min_three max_four min_four   -- for this text's walks alone
set_option linter.unusedVariables false
set_option linter.unusedSimpArgs false
/-! ### state_edits: function 22 -/
def state_edits.l0 : Nat → List (S36) → Int → Int → Option (Bool)
 | 0, _, _, _ => none
 | k + 1, x5, x6, x7 => if x7 < x6 then (if 0 ≤ x7 then (if x7 < (x5.length : Int) then (if (((rd_T36 x5 x7).f1).size : Int) > 512 then (some false) else (if (((rd_T36 x5 x7).f2).size : Int) > 512 then (some false) else (if ((rd_T36 x5 x7).f1).toList = ((rd_T36 x5 x7).f2).toList then (if ((rd_T36 x5 x7).f1).toList = ([] : List UInt8) then (some false) else (state_edits.l0 k x5 x6 (wrap64 (x7 + 1)))) else (state_edits.l0 k x5 x6 (wrap64 (x7 + 1)))))) else (none)) else (none)) else (some true)
def state_edits.f (k : Nat) (l0 : List (S36)) : Option (Bool) := state_edits.l0 k l0 (l0.length : Int) 0
theorem state_edits.mono_l : ∀ k, (∀ y0 y1 y2, LeO (state_edits.l0 k y0 y1 y2) (state_edits.l0 (k + 1) y0 y1 y2))
 | 0 => fun _ _ _ r h => by simp [state_edits.l0] at h
 | k + 1 => by
  have ih0 := state_edits.mono_l k
  ·intro y0 y1 y2
   unfold state_edits.l0
   repeat' first
   | (with_reducible exact ih0 _ _ _)
   | (with_reducible exact LeO.refl _)
   | (with_reducible exact LeO.none _)
   | (with_reducible refine LeO.ite ?_ ?_)
   | (with_reducible refine LeO.bind ?_ (fun _ => ?_))
   | exact ih0 _ _ _
   | exact LeO.none _
   | refine LeO.ite ?_ ?_
   | refine LeO.bind ?_ (fun _ => ?_)
theorem state_edits.mono : ∀ a0 k, LeO (state_edits.f k a0) (state_edits.f (k + 1) a0) := by
 intro a0 k
 have ih0 := state_edits.mono_l k
 unfold state_edits.f
 repeat' first
   | (with_reducible exact ih0 _ _ _)
   | (with_reducible exact LeO.refl _)
   | (with_reducible exact LeO.none _)
   | (with_reducible refine LeO.ite ?_ ?_)
   | (with_reducible refine LeO.bind ?_ (fun _ => ?_))
   | exact ih0 _ _ _
   | exact LeO.none _
   | refine LeO.ite ?_ ?_
   | refine LeO.bind ?_ (fun _ => ?_)
set_option maxHeartbeats 8000000 in
set_option maxRecDepth 100000 in
theorem state_edits.calls (k : Nat) (A0 : Option Addr) (c0 : Nat) (l0 : List (S36)) (r : Bool) (w : World) (hr0 : Kd.C k36 w A0 l0.length l0) (hc0 : l0.length ≤ c0) (h : state_edits.f k l0 = some r) :
  Calls Try.prog 22 #[.slice A0 l0.length c0] w fun e w' => e = .returned (.bool r) ∧ Below w.heap.size w w' := by
 have hu36 := Try.underlying36
 have HR0 := Aside0.mk hr0
 have HC0 := Aside0.mk hc0
 clear hr0 hc0
 have HB := Aside0.mk (Below.refl w.heap.size w)
 have H : (state_edits.l0 k l0 (l0.length : Int) 0) = some r := h
 clear h
 have H' := Aside0.mk H
 clear H
 go_enter Try.func22, Try.ntmps22
 go_wp2
 go_loopg [7] k (fun kq v7 w' => ∃ (x7_1 : Int), v7 = .int .i64 x7_1 ∧ Aside0 (state_edits.l0 kq l0 (l0.length : Int) x7_1 = some r) ∧ Aside0 (kq ≤ k) ∧ Aside0 (Below w.heap.size w w'))
 case atStart => exact ⟨(0), (by first | rfl | (simp; done) | (simp [*]; done)), H', ⟨Nat.le_refl _⟩, ⟨by repeat (first | (with_reducible first | exact HB.out | apply below_alloc | apply pw_below_drewN | apply below_drew1) | exact HB.out)⟩⟩
 case round =>
  clear H'
  obtain ⟨x7_1, rfl, HA, HK1, HB⟩ := hrel
  cases gk with
  | zero => exact absurd HA.out (by simp [state_edits.l0])
  | succ k1 =>
   have H := HA.out
   clear HA
   simp only [state_edits.l0] at H
   by_cases c2 : x7_1 < (l0.length : Int)
   ·rw [if_pos c2] at H
    have c2b0 : decide (x7_1 < (l0.length : Int)) = true := decide_eq_true c2
    clear c2
    by_cases c3 : 0 ≤ x7_1
    ·rw [if_pos c3] at H
     have c3b0 : decide (0 ≤ x7_1) = true := decide_eq_true c3
     clear c3
     by_cases c4 : x7_1 < (l0.length : Int)
     ·rw [if_pos c4] at H
      have c4b0 : decide (x7_1 < (l0.length : Int)) = true := decide_eq_true c4
      clear c4
      by_cases c5 : (((rd_T36 l0 x7_1).f1).size : Int) > 512
      ·rw [if_pos c5] at H
       have c5b0 : decide (512 < (((rd_T36 l0 x7_1).f1).size : Int)) = true := decide_eq_true c5
       have c5b1 : decide (512 < ((rd_T36 l0 x7_1).f1).size) = true := decide_eq_true (by omega)
       clear c5
       obtain rfl := Option.some.inj H
       have p148 : 0 ≤ (x7_1 : Int) := of_decide_eq_true (by first | (with_reducible assumption) | assumption)
       have q148 : x7_1 < (l0.length : Int) := of_decide_eq_true (by first | (with_reducible assumption) | assumption)
       obtain ⟨ad148, e148, hx148_0, hx148_1, hx148_2⟩ := at_T36 HR0.out x7_1 p148 q148
       cases e148
       replace hx148_0 := (HB.out.cell (World.block_lt_of_cell? w _ hx148_0)).trans hx148_0
       replace hx148_1 := (HB.out.cell (World.block_lt_of_cell? w _ hx148_1)).trans hx148_1
       replace hx148_2 := (HB.out.cell (World.block_lt_of_cell? w _ hx148_2)).trans hx148_2
       replace p148 := eq_true p148
       replace q148 := eq_true q148
       go_wp2_with (first | ((with_reducible refine gate_dst (N := 4) rfl ?_); (try (refine gate_guard (by rfl) ?_; dsimp only)); refine box_event ?hg (N := 4) ?hd (cs := #[.int .i64 0, .string (⟨#[]⟩ : ByteArray), .string (⟨#[]⟩ : ByteArray)]) (t := 36) ?hr ?_; (case hd => rfl); (case hg => rfl); (case hr => first | (go_simp; done) | (go_simp; rfl)); intro gb149 hg w6 hbox hb; have n0_ := Aside0.mk (below_step (by repeat (first | (with_reducible first | exact HB.out | apply below_alloc | apply pw_below_drewN | apply below_drew1) | exact HB.out)) hb); have n1_ := Aside0.mk (hbox); have n2_ := Aside0.mk ((by rw [hg]; exact (below_size (by repeat (first | (with_reducible first | exact HB.out | apply below_alloc | apply pw_below_drewN | apply below_drew1) | exact HB.out))) : w.heap.size ≤ gb149)); have n3_ := Aside0.mk ((by rw [hg]; exact (below_size (by repeat (first | (with_reducible first | exact HB.out | apply below_alloc | apply pw_below_drewN | apply below_drew1) | exact HB.out))) : w.heap.size ≤ gb149)); clear HB; have HB := n0_; have BK149 := n1_; have GW149 := n2_; have GE149 := n3_; clear n0_ n1_ n2_ n3_; clear hb hbox hg; have hcz7_0 : w6.cell? ⟨gb149, 0, none⟩ = some (.int .i64 0) := (blk_cell BK149.out 0).trans rfl; have hcz7_1 : w6.cell? ⟨gb149, 1, none⟩ = some (.string (⟨#[]⟩ : ByteArray)) := (blk_cell BK149.out 1).trans rfl; have hcz7_2 : w6.cell? ⟨gb149, 2, none⟩ = some (.string (⟨#[]⟩ : ByteArray)) := (blk_cell BK149.out 2).trans rfl; have hfz7_0 := blk_frozen BK149.out 0; have hfz7_1 := blk_frozen BK149.out 1; have hfz7_2 := blk_frozen BK149.out 2))
       go_ret
       exact ⟨by first | rfl | (simp [errW_none, errW_some] <;> rfl) | (simp [*, errW_none, errW_some] <;> rfl), by repeat (first | (with_reducible first | exact HB.out | apply below_alloc | apply pw_below_drewN | apply below_drew1 | refine below_set ?_ GE149.out) | exact HB.out)⟩
      ·rw [if_neg c5] at H
       have c5b0 : decide (512 < (((rd_T36 l0 x7_1).f1).size : Int)) = false := decide_eq_false c5
       have c5b1 : decide (512 < ((rd_T36 l0 x7_1).f1).size) = false := decide_eq_false (by omega)
       clear c5
       by_cases c8 : (((rd_T36 l0 x7_1).f2).size : Int) > 512
       ·rw [if_pos c8] at H
        have c8b0 : decide (512 < (((rd_T36 l0 x7_1).f2).size : Int)) = true := decide_eq_true c8
        have c8b1 : decide (512 < ((rd_T36 l0 x7_1).f2).size) = true := decide_eq_true (by omega)
        clear c8
        obtain rfl := Option.some.inj H
        have p148 : 0 ≤ (x7_1 : Int) := of_decide_eq_true (by first | (with_reducible assumption) | assumption)
        have q148 : x7_1 < (l0.length : Int) := of_decide_eq_true (by first | (with_reducible assumption) | assumption)
        obtain ⟨ad148, e148, hx148_0, hx148_1, hx148_2⟩ := at_T36 HR0.out x7_1 p148 q148
        cases e148
        replace hx148_0 := (HB.out.cell (World.block_lt_of_cell? w _ hx148_0)).trans hx148_0
        replace hx148_1 := (HB.out.cell (World.block_lt_of_cell? w _ hx148_1)).trans hx148_1
        replace hx148_2 := (HB.out.cell (World.block_lt_of_cell? w _ hx148_2)).trans hx148_2
        replace p148 := eq_true p148
        replace q148 := eq_true q148
        go_wp2_with (first | ((with_reducible refine gate_dst (N := 4) rfl ?_); (try (refine gate_guard (by rfl) ?_; dsimp only)); refine box_event ?hg (N := 4) ?hd (cs := #[.int .i64 0, .string (⟨#[]⟩ : ByteArray), .string (⟨#[]⟩ : ByteArray)]) (t := 36) ?hr ?_; (case hd => rfl); (case hg => rfl); (case hr => first | (go_simp; done) | (go_simp; rfl)); intro gb149 hg w9 hbox hb; have n0_ := Aside0.mk (below_step (by repeat (first | (with_reducible first | exact HB.out | apply below_alloc | apply pw_below_drewN | apply below_drew1) | exact HB.out)) hb); have n1_ := Aside0.mk (hbox); have n2_ := Aside0.mk ((by rw [hg]; exact (below_size (by repeat (first | (with_reducible first | exact HB.out | apply below_alloc | apply pw_below_drewN | apply below_drew1) | exact HB.out))) : w.heap.size ≤ gb149)); have n3_ := Aside0.mk ((by rw [hg]; exact (below_size (by repeat (first | (with_reducible first | exact HB.out | apply below_alloc | apply pw_below_drewN | apply below_drew1) | exact HB.out))) : w.heap.size ≤ gb149)); clear HB; have HB := n0_; have BK149 := n1_; have GW149 := n2_; have GE149 := n3_; clear n0_ n1_ n2_ n3_; clear hb hbox hg; have hcz10_0 : w9.cell? ⟨gb149, 0, none⟩ = some (.int .i64 0) := (blk_cell BK149.out 0).trans rfl; have hcz10_1 : w9.cell? ⟨gb149, 1, none⟩ = some (.string (⟨#[]⟩ : ByteArray)) := (blk_cell BK149.out 1).trans rfl; have hcz10_2 : w9.cell? ⟨gb149, 2, none⟩ = some (.string (⟨#[]⟩ : ByteArray)) := (blk_cell BK149.out 2).trans rfl; have hfz10_0 := blk_frozen BK149.out 0; have hfz10_1 := blk_frozen BK149.out 1; have hfz10_2 := blk_frozen BK149.out 2))
        go_ret
        exact ⟨by first | rfl | (simp [errW_none, errW_some] <;> rfl) | (simp [*, errW_none, errW_some] <;> rfl), by repeat (first | (with_reducible first | exact HB.out | apply below_alloc | apply pw_below_drewN | apply below_drew1 | refine below_set ?_ GE149.out) | exact HB.out)⟩
       ·rw [if_neg c8] at H
        have c8b0 : decide (512 < (((rd_T36 l0 x7_1).f2).size : Int)) = false := decide_eq_false c8
        have c8b1 : decide (512 < ((rd_T36 l0 x7_1).f2).size) = false := decide_eq_false (by omega)
        clear c8
        by_cases c11 : ((rd_T36 l0 x7_1).f1).toList = ((rd_T36 l0 x7_1).f2).toList
        ·rw [if_pos c11] at H
         have c11b0 : (((rd_T36 l0 x7_1).f1).toList == ((rd_T36 l0 x7_1).f2).toList) = true := beq_iff_eq.mpr c11
         have c11b1 : (((rd_T36 l0 x7_1).f1).toList != ((rd_T36 l0 x7_1).f2).toList) = false := bne_eq_false_iff_eq.mpr c11
         clear c11
         by_cases c12 : ((rd_T36 l0 x7_1).f1).toList = ([] : List UInt8)
         ·rw [if_pos c12] at H
          have c12b0 : (((rd_T36 l0 x7_1).f1).toList == ([] : List UInt8)) = true := beq_iff_eq.mpr c12
          have c12b1 : (((rd_T36 l0 x7_1).f1).toList != ([] : List UInt8)) = false := bne_eq_false_iff_eq.mpr c12
          clear c12
          obtain rfl := Option.some.inj H
          have p148 : 0 ≤ (x7_1 : Int) := of_decide_eq_true (by first | (with_reducible assumption) | assumption)
          have q148 : x7_1 < (l0.length : Int) := of_decide_eq_true (by first | (with_reducible assumption) | assumption)
          obtain ⟨ad148, e148, hx148_0, hx148_1, hx148_2⟩ := at_T36 HR0.out x7_1 p148 q148
          cases e148
          replace hx148_0 := (HB.out.cell (World.block_lt_of_cell? w _ hx148_0)).trans hx148_0
          replace hx148_1 := (HB.out.cell (World.block_lt_of_cell? w _ hx148_1)).trans hx148_1
          replace hx148_2 := (HB.out.cell (World.block_lt_of_cell? w _ hx148_2)).trans hx148_2
          replace p148 := eq_true p148
          replace q148 := eq_true q148
          go_wp2_with (first | ((with_reducible refine gate_dst (N := 4) rfl ?_); (try (refine gate_guard (by rfl) ?_; dsimp only)); refine box_event ?hg (N := 4) ?hd (cs := #[.int .i64 0, .string (⟨#[]⟩ : ByteArray), .string (⟨#[]⟩ : ByteArray)]) (t := 36) ?hr ?_; (case hd => rfl); (case hg => rfl); (case hr => first | (go_simp; done) | (go_simp; rfl)); intro gb149 hg w13 hbox hb; have n0_ := Aside0.mk (below_step (by repeat (first | (with_reducible first | exact HB.out | apply below_alloc | apply pw_below_drewN | apply below_drew1) | exact HB.out)) hb); have n1_ := Aside0.mk (hbox); have n2_ := Aside0.mk ((by rw [hg]; exact (below_size (by repeat (first | (with_reducible first | exact HB.out | apply below_alloc | apply pw_below_drewN | apply below_drew1) | exact HB.out))) : w.heap.size ≤ gb149)); have n3_ := Aside0.mk ((by rw [hg]; exact (below_size (by repeat (first | (with_reducible first | exact HB.out | apply below_alloc | apply pw_below_drewN | apply below_drew1) | exact HB.out))) : w.heap.size ≤ gb149)); clear HB; have HB := n0_; have BK149 := n1_; have GW149 := n2_; have GE149 := n3_; clear n0_ n1_ n2_ n3_; clear hb hbox hg; have hcz14_0 : w13.cell? ⟨gb149, 0, none⟩ = some (.int .i64 0) := (blk_cell BK149.out 0).trans rfl; have hcz14_1 : w13.cell? ⟨gb149, 1, none⟩ = some (.string (⟨#[]⟩ : ByteArray)) := (blk_cell BK149.out 1).trans rfl; have hcz14_2 : w13.cell? ⟨gb149, 2, none⟩ = some (.string (⟨#[]⟩ : ByteArray)) := (blk_cell BK149.out 2).trans rfl; have hfz14_0 := blk_frozen BK149.out 0; have hfz14_1 := blk_frozen BK149.out 1; have hfz14_2 := blk_frozen BK149.out 2))
          go_ret
          exact ⟨by first | rfl | (simp [errW_none, errW_some] <;> rfl) | (simp [*, errW_none, errW_some] <;> rfl), by repeat (first | (with_reducible first | exact HB.out | apply below_alloc | apply pw_below_drewN | apply below_drew1 | refine below_set ?_ GE149.out) | exact HB.out)⟩
         ·rw [if_neg c12] at H
          have c12b0 : (((rd_T36 l0 x7_1).f1).toList == ([] : List UInt8)) = false := beq_eq_false_iff_ne.mpr c12
          have c12b1 : (((rd_T36 l0 x7_1).f1).toList != ([] : List UInt8)) = true := bne_iff_ne.mpr c12
          have H' := Aside0.mk H
          clear H
          have p148 : 0 ≤ (x7_1 : Int) := of_decide_eq_true (by first | (with_reducible assumption) | assumption)
          have q148 : x7_1 < (l0.length : Int) := of_decide_eq_true (by first | (with_reducible assumption) | assumption)
          obtain ⟨ad148, e148, hx148_0, hx148_1, hx148_2⟩ := at_T36 HR0.out x7_1 p148 q148
          cases e148
          replace hx148_0 := (HB.out.cell (World.block_lt_of_cell? w _ hx148_0)).trans hx148_0
          replace hx148_1 := (HB.out.cell (World.block_lt_of_cell? w _ hx148_1)).trans hx148_1
          replace hx148_2 := (HB.out.cell (World.block_lt_of_cell? w _ hx148_2)).trans hx148_2
          replace p148 := eq_true p148
          replace q148 := eq_true q148
          go_wp2_with (first | ((with_reducible refine gate_dst (N := 4) rfl ?_); (try (refine gate_guard (by rfl) ?_; dsimp only)); refine box_event ?hg (N := 4) ?hd (cs := #[.int .i64 0, .string (⟨#[]⟩ : ByteArray), .string (⟨#[]⟩ : ByteArray)]) (t := 36) ?hr ?_; (case hd => rfl); (case hg => rfl); (case hr => first | (go_simp; done) | (go_simp; rfl)); intro gb149 hg w15 hbox hb; have n0_ := Aside0.mk (below_step (by repeat (first | (with_reducible first | exact HB.out | apply below_alloc | apply pw_below_drewN | apply below_drew1) | exact HB.out)) hb); have n1_ := Aside0.mk (hbox); have n2_ := Aside0.mk ((by rw [hg]; exact (below_size (by repeat (first | (with_reducible first | exact HB.out | apply below_alloc | apply pw_below_drewN | apply below_drew1) | exact HB.out))) : w.heap.size ≤ gb149)); have n3_ := Aside0.mk ((by rw [hg]; exact (below_size (by repeat (first | (with_reducible first | exact HB.out | apply below_alloc | apply pw_below_drewN | apply below_drew1) | exact HB.out))) : w.heap.size ≤ gb149)); clear HB; have HB := n0_; have BK149 := n1_; have GW149 := n2_; have GE149 := n3_; clear n0_ n1_ n2_ n3_; clear hb hbox hg; have hcz16_0 : w15.cell? ⟨gb149, 0, none⟩ = some (.int .i64 0) := (blk_cell BK149.out 0).trans rfl; have hcz16_1 : w15.cell? ⟨gb149, 1, none⟩ = some (.string (⟨#[]⟩ : ByteArray)) := (blk_cell BK149.out 1).trans rfl; have hcz16_2 : w15.cell? ⟨gb149, 2, none⟩ = some (.string (⟨#[]⟩ : ByteArray)) := (blk_cell BK149.out 2).trans rfl; have hfz16_0 := blk_frozen BK149.out 0; have hfz16_1 := blk_frozen BK149.out 1; have hfz16_2 := blk_frozen BK149.out 2))
          go_roundg k1
          case measure => have := HK1.out; omega
          case rel => exact ⟨(wrap64 (x7_1 + 1)), (by first | rfl | (simp; done) | (simp [*]; done)), H', ⟨by have := HK1.out; omega⟩, ⟨by repeat (first | (with_reducible first | exact HB.out | apply below_alloc | apply pw_below_drewN | apply below_drew1 | refine below_set ?_ GE149.out) | exact HB.out)⟩⟩
        ·rw [if_neg c11] at H
         have c11b0 : (((rd_T36 l0 x7_1).f1).toList == ((rd_T36 l0 x7_1).f2).toList) = false := beq_eq_false_iff_ne.mpr c11
         have c11b1 : (((rd_T36 l0 x7_1).f1).toList != ((rd_T36 l0 x7_1).f2).toList) = true := bne_iff_ne.mpr c11
         have H' := Aside0.mk H
         clear H
         have p148 : 0 ≤ (x7_1 : Int) := of_decide_eq_true (by first | (with_reducible assumption) | assumption)
         have q148 : x7_1 < (l0.length : Int) := of_decide_eq_true (by first | (with_reducible assumption) | assumption)
         obtain ⟨ad148, e148, hx148_0, hx148_1, hx148_2⟩ := at_T36 HR0.out x7_1 p148 q148
         cases e148
         replace hx148_0 := (HB.out.cell (World.block_lt_of_cell? w _ hx148_0)).trans hx148_0
         replace hx148_1 := (HB.out.cell (World.block_lt_of_cell? w _ hx148_1)).trans hx148_1
         replace hx148_2 := (HB.out.cell (World.block_lt_of_cell? w _ hx148_2)).trans hx148_2
         replace p148 := eq_true p148
         replace q148 := eq_true q148
         go_wp2_with (first | ((with_reducible refine gate_dst (N := 4) rfl ?_); (try (refine gate_guard (by rfl) ?_; dsimp only)); refine box_event ?hg (N := 4) ?hd (cs := #[.int .i64 0, .string (⟨#[]⟩ : ByteArray), .string (⟨#[]⟩ : ByteArray)]) (t := 36) ?hr ?_; (case hd => rfl); (case hg => rfl); (case hr => first | (go_simp; done) | (go_simp; rfl)); intro gb149 hg w17 hbox hb; have n0_ := Aside0.mk (below_step (by repeat (first | (with_reducible first | exact HB.out | apply below_alloc | apply pw_below_drewN | apply below_drew1) | exact HB.out)) hb); have n1_ := Aside0.mk (hbox); have n2_ := Aside0.mk ((by rw [hg]; exact (below_size (by repeat (first | (with_reducible first | exact HB.out | apply below_alloc | apply pw_below_drewN | apply below_drew1) | exact HB.out))) : w.heap.size ≤ gb149)); have n3_ := Aside0.mk ((by rw [hg]; exact (below_size (by repeat (first | (with_reducible first | exact HB.out | apply below_alloc | apply pw_below_drewN | apply below_drew1) | exact HB.out))) : w.heap.size ≤ gb149)); clear HB; have HB := n0_; have BK149 := n1_; have GW149 := n2_; have GE149 := n3_; clear n0_ n1_ n2_ n3_; clear hb hbox hg; have hcz18_0 : w17.cell? ⟨gb149, 0, none⟩ = some (.int .i64 0) := (blk_cell BK149.out 0).trans rfl; have hcz18_1 : w17.cell? ⟨gb149, 1, none⟩ = some (.string (⟨#[]⟩ : ByteArray)) := (blk_cell BK149.out 1).trans rfl; have hcz18_2 : w17.cell? ⟨gb149, 2, none⟩ = some (.string (⟨#[]⟩ : ByteArray)) := (blk_cell BK149.out 2).trans rfl; have hfz18_0 := blk_frozen BK149.out 0; have hfz18_1 := blk_frozen BK149.out 1; have hfz18_2 := blk_frozen BK149.out 2))
         go_roundg k1
         case measure => have := HK1.out; omega
         case rel => exact ⟨(wrap64 (x7_1 + 1)), (by first | rfl | (simp; done) | (simp [*]; done)), H', ⟨by have := HK1.out; omega⟩, ⟨by repeat (first | (with_reducible first | exact HB.out | apply below_alloc | apply pw_below_drewN | apply below_drew1 | refine below_set ?_ GE149.out) | exact HB.out)⟩⟩
     ·rw [if_neg c4] at H
      exact absurd H (by simp)
    ·rw [if_neg c3] at H
     exact absurd H (by simp)
   ·rw [if_neg c2] at H
    have c2b0 : decide (x7_1 < (l0.length : Int)) = false := decide_eq_false c2
    clear c2
    obtain rfl := Option.some.inj H
    go_wp2
    go_ret
    exact ⟨by first | rfl | (simp [errW_none, errW_some] <;> rfl) | (simp [*, errW_none, errW_some] <;> rfl), by repeat (first | (with_reducible first | exact HB.out | apply below_alloc | apply pw_below_drewN | apply below_drew1) | exact HB.out)⟩
/-! ### state_steps: function 23 -/
def state_steps.l0 : Nat → List (S38) → Int → Int → Option (Bool)
 | 0, _, _, _ => none
 | k + 1, x5, x6, x7 => if x7 < x6 then (if 0 ≤ x7 then (if x7 < (x5.length : Int) then ((state_edits.f k ((rd_T38 x5 x7).f0)).bind fun t152 => (if t152 = true then (state_steps.l0 k x5 x6 (wrap64 (x7 + 1))) else (some false))) else (none)) else (none)) else (some true)
def state_steps.f (k : Nat) (l0 : List (S38)) : Option (Bool) := state_steps.l0 k l0 (l0.length : Int) 0
theorem state_steps.mono_l : ∀ k, (∀ y0 y1 y2, LeO (state_steps.l0 k y0 y1 y2) (state_steps.l0 (k + 1) y0 y1 y2))
 | 0 => fun _ _ _ r h => by simp [state_steps.l0] at h
 | k + 1 => by
  have ih0 := state_steps.mono_l k
  ·intro y0 y1 y2
   unfold state_steps.l0
   repeat' first
   | (with_reducible exact ih0 _ _ _)
   | (with_reducible exact state_edits.mono _ _)
   | (with_reducible exact LeO.refl _)
   | (with_reducible exact LeO.none _)
   | (with_reducible refine LeO.ite ?_ ?_)
   | (with_reducible refine LeO.bind ?_ (fun _ => ?_))
   | exact ih0 _ _ _
   | exact state_edits.mono _ _
   | exact LeO.none _
   | refine LeO.ite ?_ ?_
   | refine LeO.bind ?_ (fun _ => ?_)
theorem state_steps.mono : ∀ a0 k, LeO (state_steps.f k a0) (state_steps.f (k + 1) a0) := by
 intro a0 k
 have ih0 := state_steps.mono_l k
 unfold state_steps.f
 repeat' first
   | (with_reducible exact ih0 _ _ _)
   | (with_reducible exact state_edits.mono _ _)
   | (with_reducible exact LeO.refl _)
   | (with_reducible exact LeO.none _)
   | (with_reducible refine LeO.ite ?_ ?_)
   | (with_reducible refine LeO.bind ?_ (fun _ => ?_))
   | exact ih0 _ _ _
   | exact state_edits.mono _ _
   | exact LeO.none _
   | refine LeO.ite ?_ ?_
   | refine LeO.bind ?_ (fun _ => ?_)
set_option maxHeartbeats 8000000 in
set_option maxRecDepth 100000 in
theorem state_steps.calls (k : Nat) (A0 : Option Addr) (c0 : Nat) (l0 : List (S38)) (r : Bool) (w : World) (hr0 : Kd.C k38 w A0 l0.length l0) (hc0 : l0.length ≤ c0) (h : state_steps.f k l0 = some r) :
  Calls Try.prog 23 #[.slice A0 l0.length c0] w fun e w' => e = .returned (.bool r) ∧ Below w.heap.size w w' := by
 have hu38 := Try.underlying38
 have HR0 := Aside0.mk hr0
 have HC0 := Aside0.mk hc0
 clear hr0 hc0
 have HB := Aside0.mk (Below.refl w.heap.size w)
 have H : (state_steps.l0 k l0 (l0.length : Int) 0) = some r := h
 clear h
 have H' := Aside0.mk H
 clear H
 go_enter Try.func23, Try.ntmps23
 go_wp2
 go_loopg [7] k (fun kq v7 w' => ∃ (x7_1 : Int), v7 = .int .i64 x7_1 ∧ Aside0 (state_steps.l0 kq l0 (l0.length : Int) x7_1 = some r) ∧ Aside0 (kq ≤ k) ∧ Aside0 (Below w.heap.size w w'))
 case atStart => exact ⟨(0), (by first | rfl | (simp; done) | (simp [*]; done)), H', ⟨Nat.le_refl _⟩, ⟨by repeat (first | (with_reducible first | exact HB.out | apply below_alloc | apply pw_below_drewN | apply below_drew1) | exact HB.out)⟩⟩
 case round =>
  clear H'
  obtain ⟨x7_1, rfl, HA, HK1, HB⟩ := hrel
  cases gk with
  | zero => exact absurd HA.out (by simp [state_steps.l0])
  | succ k1 =>
   have H := HA.out
   clear HA
   simp only [state_steps.l0] at H
   by_cases c2 : x7_1 < (l0.length : Int)
   ·rw [if_pos c2] at H
    have c2b0 : decide (x7_1 < (l0.length : Int)) = true := decide_eq_true c2
    clear c2
    by_cases c3 : 0 ≤ x7_1
    ·rw [if_pos c3] at H
     have c3b0 : decide (0 ≤ x7_1) = true := decide_eq_true c3
     clear c3
     by_cases c4 : x7_1 < (l0.length : Int)
     ·rw [if_pos c4] at H
      have c4b0 : decide (x7_1 < (l0.length : Int)) = true := decide_eq_true c4
      clear c4
      replace H := Option.bind_eq_some_iff.mp H
      obtain ⟨t152, A50, H⟩ := H
      replace H : (if t152 = true then (state_steps.l0 k1 l0 (l0.length : Int) (wrap64 (x7_1 + 1))) else (some false)) = some r := H
      have A5 := Aside0.mk A50
      clear A50
      by_cases c6 : t152 = true
      ·subst c6
       have H1 : (state_steps.l0 k1 l0 (l0.length : Int) (wrap64 (x7_1 + 1))) = some r := by rw [if_pos rfl] at H; exact H
       clear H
       have H := H1
       clear H1
       have H' := Aside0.mk H
       clear H
       have p150 : 0 ≤ (x7_1 : Int) := of_decide_eq_true (by first | (with_reducible assumption) | assumption)
       have q150 : x7_1 < (l0.length : Int) := of_decide_eq_true (by first | (with_reducible assumption) | assumption)
       obtain ⟨ad150, A150_0, c150_0, e150, hx150_0, hl150_0, hi150_0⟩ := at_T38 HR0.out x7_1 p150 q150
       cases e150
       replace hx150_0 := (HB.out.cell (World.block_lt_of_cell? w _ hx150_0)).trans hx150_0
       have HR150_0 := Aside0.mk hi150_0
       have HC150_0 := Aside0.mk hl150_0
       clear hi150_0 hl150_0
       replace p150 := eq_true p150
       replace q150 := eq_true q150
       go_wp2_with (first | ((with_reducible refine gate_dst (N := 4) rfl ?_); refine box_event ?hg (N := 4) ?hd (cs := #[.slice none 0 0]) (t := 38) ?hr ?_; (case hd => rfl); (case hg => rfl); (case hr => first | (go_simp; done) | (go_simp; rfl)); intro gb151 hg w7 hbox hb; have n0_ := Aside0.mk (below_step (by repeat (first | (with_reducible first | exact HB.out | apply below_alloc | apply pw_below_drewN | apply below_drew1) | exact HB.out)) hb); have n1_ := Aside0.mk (hbox); have n2_ := Aside0.mk ((by rw [hg]; exact (below_size (by repeat (first | (with_reducible first | exact HB.out | apply below_alloc | apply pw_below_drewN | apply below_drew1) | exact HB.out))) : w.heap.size ≤ gb151)); have n3_ := Aside0.mk ((by rw [hg]; exact (below_size (by repeat (first | (with_reducible first | exact HB.out | apply below_alloc | apply pw_below_drewN | apply below_drew1) | exact HB.out))) : w.heap.size ≤ gb151)); clear HB; have HB := n0_; have BK151 := n1_; have GW151 := n2_; have GE151 := n3_; clear n0_ n1_ n2_ n3_; clear hb hbox hg; have hcz8_0 : w7.cell? ⟨gb151, 0, none⟩ = some (.slice none 0 0) := (blk_cell BK151.out 0).trans rfl; have hfz8_0 := blk_frozen BK151.out 0) | ((with_reducible refine gate_callee (f := 22) rfl ?_); refine goesL_ (some 13) rfl rfl Try.func22 (by kernel_rfl) rfl #[.slice A150_0 ((rd_T38 l0 x7_1).f0).length c150_0] rfl (by (try simp only [List.map_toArray, List.map_cons, List.map_nil]); first | done | rfl | (simp only [List.length_drop, List.length_take]; rfl)) ?_; (with_reducible refine (state_edits.calls k1 _ _ ((rd_T38 l0 x7_1).f0) true _ ?side1 ?side2 A5.out).mono ?_); (case side1 => exact Kd.C_below HR150_0.out (by repeat (first | (with_reducible first | exact HB.out | apply below_alloc | apply pw_below_drewN | apply below_drew1 | refine below_set ?_ GE151.out) | exact HB.out))); (case side2 => exact HC150_0.out); rintro e w9 ⟨rfl, hb⟩; refine ⟨_, rfl, ?_⟩; have n0_ := Aside0.mk (blk_below (g := gb151) (o := .cells #[.slice A150_0 ((rd_T38 l0 x7_1).f0).length c150_0] 38 (0, 0)) (by (with_reducible repeat (first | refine blk_drewN ?_ _ | refine blk_drew ?_ | refine blk_alloc ?_ _)); refine blk_put (cs := #[.slice none 0 0]) ?_ 0 _ rfl; (with_reducible repeat (first | refine blk_drewN ?_ _ | refine blk_drew ?_ | refine blk_alloc ?_ _)); exact BK151.out) hb); have n1_ := Aside0.mk (below_step (by repeat (first | (with_reducible first | exact HB.out | apply below_alloc | apply pw_below_drewN | apply below_drew1 | refine below_set ?_ GE151.out) | exact HB.out)) hb); clear BK151; clear HB; have BK151 := n0_; have HB := n1_; clear n0_ n1_; (try clear hb); (try clear hb2); (try clear hk); (try clear hi)))
       go_roundg k1
       case measure => have := HK1.out; omega
       case rel => exact ⟨(wrap64 (x7_1 + 1)), (by first | rfl | (simp; done) | (simp [*]; done)), H', ⟨by have := HK1.out; omega⟩, ⟨by repeat (first | (with_reducible first | exact HB.out | apply below_alloc | apply pw_below_drewN | apply below_drew1 | refine below_set ?_ GE151.out) | exact HB.out)⟩⟩
      ·replace c6 := Bool.eq_false_iff.mpr c6
       subst c6
       have H1 : (some false) = some r := by rw [if_neg (show ¬ (false = true) by decide)] at H; exact H
       clear H
       have H := H1
       clear H1
       obtain rfl := Option.some.inj H
       have p150 : 0 ≤ (x7_1 : Int) := of_decide_eq_true (by first | (with_reducible assumption) | assumption)
       have q150 : x7_1 < (l0.length : Int) := of_decide_eq_true (by first | (with_reducible assumption) | assumption)
       obtain ⟨ad150, A150_0, c150_0, e150, hx150_0, hl150_0, hi150_0⟩ := at_T38 HR0.out x7_1 p150 q150
       cases e150
       replace hx150_0 := (HB.out.cell (World.block_lt_of_cell? w _ hx150_0)).trans hx150_0
       have HR150_0 := Aside0.mk hi150_0
       have HC150_0 := Aside0.mk hl150_0
       clear hi150_0 hl150_0
       replace p150 := eq_true p150
       replace q150 := eq_true q150
       go_wp2_with (first | ((with_reducible refine gate_dst (N := 4) rfl ?_); refine box_event ?hg (N := 4) ?hd (cs := #[.slice none 0 0]) (t := 38) ?hr ?_; (case hd => rfl); (case hg => rfl); (case hr => first | (go_simp; done) | (go_simp; rfl)); intro gb151 hg w10 hbox hb; have n0_ := Aside0.mk (below_step (by repeat (first | (with_reducible first | exact HB.out | apply below_alloc | apply pw_below_drewN | apply below_drew1) | exact HB.out)) hb); have n1_ := Aside0.mk (hbox); have n2_ := Aside0.mk ((by rw [hg]; exact (below_size (by repeat (first | (with_reducible first | exact HB.out | apply below_alloc | apply pw_below_drewN | apply below_drew1) | exact HB.out))) : w.heap.size ≤ gb151)); have n3_ := Aside0.mk ((by rw [hg]; exact (below_size (by repeat (first | (with_reducible first | exact HB.out | apply below_alloc | apply pw_below_drewN | apply below_drew1) | exact HB.out))) : w.heap.size ≤ gb151)); clear HB; have HB := n0_; have BK151 := n1_; have GW151 := n2_; have GE151 := n3_; clear n0_ n1_ n2_ n3_; clear hb hbox hg; have hcz11_0 : w10.cell? ⟨gb151, 0, none⟩ = some (.slice none 0 0) := (blk_cell BK151.out 0).trans rfl; have hfz11_0 := blk_frozen BK151.out 0) | ((with_reducible refine gate_callee (f := 22) rfl ?_); refine goesL_ (some 13) rfl rfl Try.func22 (by kernel_rfl) rfl #[.slice A150_0 ((rd_T38 l0 x7_1).f0).length c150_0] rfl (by (try simp only [List.map_toArray, List.map_cons, List.map_nil]); first | done | rfl | (simp only [List.length_drop, List.length_take]; rfl)) ?_; (with_reducible refine (state_edits.calls k1 _ _ ((rd_T38 l0 x7_1).f0) false _ ?side1 ?side2 A5.out).mono ?_); (case side1 => exact Kd.C_below HR150_0.out (by repeat (first | (with_reducible first | exact HB.out | apply below_alloc | apply pw_below_drewN | apply below_drew1 | refine below_set ?_ GE151.out) | exact HB.out))); (case side2 => exact HC150_0.out); rintro e w12 ⟨rfl, hb⟩; refine ⟨_, rfl, ?_⟩; have n0_ := Aside0.mk (blk_below (g := gb151) (o := .cells #[.slice A150_0 ((rd_T38 l0 x7_1).f0).length c150_0] 38 (0, 0)) (by (with_reducible repeat (first | refine blk_drewN ?_ _ | refine blk_drew ?_ | refine blk_alloc ?_ _)); refine blk_put (cs := #[.slice none 0 0]) ?_ 0 _ rfl; (with_reducible repeat (first | refine blk_drewN ?_ _ | refine blk_drew ?_ | refine blk_alloc ?_ _)); exact BK151.out) hb); have n1_ := Aside0.mk (below_step (by repeat (first | (with_reducible first | exact HB.out | apply below_alloc | apply pw_below_drewN | apply below_drew1 | refine below_set ?_ GE151.out) | exact HB.out)) hb); clear BK151; clear HB; have BK151 := n0_; have HB := n1_; clear n0_ n1_; (try clear hb); (try clear hb2); (try clear hk); (try clear hi)))
       go_ret
       exact ⟨by first | rfl | (simp [errW_none, errW_some] <;> rfl) | (simp [*, errW_none, errW_some] <;> rfl), by repeat (first | (with_reducible first | exact HB.out | apply below_alloc | apply pw_below_drewN | apply below_drew1 | refine below_set ?_ GE151.out) | exact HB.out)⟩
     ·rw [if_neg c4] at H
      exact absurd H (by simp)
    ·rw [if_neg c3] at H
     exact absurd H (by simp)
   ·rw [if_neg c2] at H
    have c2b0 : decide (x7_1 < (l0.length : Int)) = false := decide_eq_false c2
    clear c2
    obtain rfl := Option.some.inj H
    go_wp2
    go_ret
    exact ⟨by first | rfl | (simp [errW_none, errW_some] <;> rfl) | (simp [*, errW_none, errW_some] <;> rfl), by repeat (first | (with_reducible first | exact HB.out | apply below_alloc | apply pw_below_drewN | apply below_drew1) | exact HB.out)⟩
/-! ### state_ahead: function 24 -/
def state_ahead.j0 : Nat → Bool → ByteArray → List (S34) → List (S38) → List (S38) → Bool → List (S36) → Option (ByteArray × Bool)
 | 0, _, _, _, _, _, _, _ => none
 | k + 1, x21, x154000, x154001, x154002, x154003, x154004, x154005 => if x21 = true then (some ((⟨#[]⟩ : ByteArray), false)) else ((step_Inverse.f k x154005).bind fun t154 => ((step_Right.f k x154000 t154).bind fun t158 => (if t158 = true then ((step_Run.f k x154000 t154).bind fun bt159 => (some (bt159.1, (bt159.2 == 0)))) else (some ((⟨#[]⟩ : ByteArray), false)))))
def state_ahead.f (k : Nat) (a0_0 : ByteArray) (l0_1 : List (S34)) (l0_2 : List (S38)) (l0_3 : List (S38)) (a0_4 : Bool) (l0_5 : List (S36)) : Option (ByteArray × Bool) := if (l0_5.length : Int) = 0 then (some (a0_0, true)) else (if a0_4 = true then (state_ahead.j0 k (decide ((l0_3.length : Int) > 0)) a0_0 l0_1 l0_2 l0_3 a0_4 l0_5) else (state_ahead.j0 k true a0_0 l0_1 l0_2 l0_3 a0_4 l0_5))
theorem state_ahead.mono_l : ∀ k, (∀ y0 y1 y2 y3 y4 y5 y6, LeO (state_ahead.j0 k y0 y1 y2 y3 y4 y5 y6) (state_ahead.j0 (k + 1) y0 y1 y2 y3 y4 y5 y6))
 | 0 => fun _ _ _ _ _ _ _ r h => by simp [state_ahead.j0] at h
 | k + 1 => by
  have ih0 := state_ahead.mono_l k
  ·intro y0 y1 y2 y3 y4 y5 y6
   unfold state_ahead.j0
   repeat' first
   | (with_reducible exact ih0 _ _ _ _ _ _ _)
   | (with_reducible exact step_Inverse.mono _ _)
   | (with_reducible exact step_Right.mono _ _ _)
   | (with_reducible exact step_Run.mono _ _ _)
   | (with_reducible exact LeO.refl _)
   | (with_reducible exact LeO.none _)
   | (with_reducible refine LeO.ite ?_ ?_)
   | (with_reducible refine LeO.bind ?_ (fun _ => ?_))
   | exact ih0 _ _ _ _ _ _ _
   | exact step_Inverse.mono _ _
   | exact step_Right.mono _ _ _
   | exact step_Run.mono _ _ _
   | exact LeO.none _
   | refine LeO.ite ?_ ?_
   | refine LeO.bind ?_ (fun _ => ?_)
theorem state_ahead.mono : ∀ a0 a1 a2 a3 a4 a5 k, LeO (state_ahead.f k a0 a1 a2 a3 a4 a5) (state_ahead.f (k + 1) a0 a1 a2 a3 a4 a5) := by
 intro a0 a1 a2 a3 a4 a5 k
 have ih0 := state_ahead.mono_l k
 unfold state_ahead.f
 repeat' first
   | (with_reducible exact ih0 _ _ _ _ _ _ _)
   | (with_reducible exact step_Inverse.mono _ _)
   | (with_reducible exact step_Right.mono _ _ _)
   | (with_reducible exact step_Run.mono _ _ _)
   | (with_reducible exact LeO.refl _)
   | (with_reducible exact LeO.none _)
   | (with_reducible refine LeO.ite ?_ ?_)
   | (with_reducible refine LeO.bind ?_ (fun _ => ?_))
   | exact ih0 _ _ _ _ _ _ _
   | exact step_Inverse.mono _ _
   | exact step_Right.mono _ _ _
   | exact step_Run.mono _ _ _
   | exact LeO.none _
   | refine LeO.ite ?_ ?_
   | refine LeO.bind ?_ (fun _ => ?_)
set_option maxHeartbeats 8000000 in
set_option maxRecDepth 100000 in
theorem state_ahead.calls (k : Nat) (a0_0 : ByteArray) (A0_1 : Option Addr) (c0_1 : Nat) (l0_1 : List (S34)) (A0_2 : Option Addr) (c0_2 : Nat) (l0_2 : List (S38)) (A0_3 : Option Addr) (c0_3 : Nat) (l0_3 : List (S38)) (a0_4 : Bool) (A0_5 : Option Addr) (c0_5 : Nat) (l0_5 : List (S36)) (r1 : ByteArray) (r2 : Bool) (w : World) (hr0_1 : Kd.C k34 w A0_1 l0_1.length l0_1) (hc0_1 : l0_1.length ≤ c0_1) (hr0_2 : Kd.C k38 w A0_2 l0_2.length l0_2) (hc0_2 : l0_2.length ≤ c0_2) (hr0_3 : Kd.C k38 w A0_3 l0_3.length l0_3) (hc0_3 : l0_3.length ≤ c0_3) (hr0_5 : Kd.C k36 w A0_5 l0_5.length l0_5) (hc0_5 : l0_5.length ≤ c0_5) (h : state_ahead.f k a0_0 l0_1 l0_2 l0_3 a0_4 l0_5 = some (r1, r2)) :
  Calls Try.prog 24 #[.agg #[.string a0_0, .slice A0_1 l0_1.length c0_1, .slice A0_2 l0_2.length c0_2, .slice A0_3 l0_3.length c0_3, .bool a0_4, .slice A0_5 l0_5.length c0_5]] w fun e w' => e = .returned (.tuple #[.string r1, .bool r2]) ∧ Below w.heap.size w w' := by
 have hu26 := Try.underlying26
 have hu38 := Try.underlying38
 have HR0_1 := Aside0.mk hr0_1
 have HC0_1 := Aside0.mk hc0_1
 clear hr0_1 hc0_1
 have HR0_2 := Aside0.mk hr0_2
 have HC0_2 := Aside0.mk hc0_2
 clear hr0_2 hc0_2
 have HR0_3 := Aside0.mk hr0_3
 have HC0_3 := Aside0.mk hc0_3
 clear hr0_3 hc0_3
 have HR0_5 := Aside0.mk hr0_5
 have HC0_5 := Aside0.mk hc0_5
 clear hr0_5 hc0_5
 have HB := Aside0.mk (Below.refl w.heap.size w)
 have H : (if (l0_5.length : Int) = 0 then (some (a0_0, true)) else (if a0_4 = true then (state_ahead.j0 k (decide ((l0_3.length : Int) > 0)) a0_0 l0_1 l0_2 l0_3 a0_4 l0_5) else (state_ahead.j0 k true a0_0 l0_1 l0_2 l0_3 a0_4 l0_5))) = some (r1, r2) := h
 clear h
 by_cases c2 : (l0_5.length : Int) = 0
 ·rw [if_pos c2] at H
  have c2b0 : ((l0_5.length : Int) == 0) = true := beq_iff_eq.mpr c2
  have c2b1 : ((l0_5.length : Int) != 0) = false := bne_eq_false_iff_eq.mpr c2
  clear c2
  simp only [Option.some.injEq, Prod.mk.injEq] at H
  obtain ⟨rfl, rfl⟩ := H
  go_enter Try.func24, Try.ntmps24
  go_wp2_with (first | ((with_reducible refine gate_dst (N := 1) rfl ?_); (try (refine gate_guard (by rfl) ?_; dsimp only)); refine box_event ?hg (N := 1) ?hd (cs := #[.string a0_0, .slice A0_1 l0_1.length c0_1, .slice A0_2 l0_2.length c0_2, .slice A0_3 l0_3.length c0_3, .bool a0_4, .slice A0_5 l0_5.length c0_5]) (t := 26) ?hr ?_; (case hd => rfl); (case hg => rfl); (case hr => first | (go_simp; done) | (go_simp; rfl)); intro gb153 hg w3 hbox hb; have n0_ := Aside0.mk (below_step (by repeat (first | (with_reducible first | exact HB.out | apply below_alloc | apply pw_below_drewN | apply below_drew1) | exact HB.out)) hb); have n1_ := Aside0.mk (hbox); have n2_ := Aside0.mk ((by rw [hg]; exact (below_size (by repeat (first | (with_reducible first | exact HB.out | apply below_alloc | apply pw_below_drewN | apply below_drew1) | exact HB.out))) : w.heap.size ≤ gb153)); have n3_ := Aside0.mk ((by rw [hg]; exact (below_size (by repeat (first | (with_reducible first | exact HB.out | apply below_alloc | apply pw_below_drewN | apply below_drew1) | exact HB.out))) : w.heap.size ≤ gb153)); clear HB; have HB := n0_; have BK153 := n1_; have GW153 := n2_; have GE153 := n3_; clear n0_ n1_ n2_ n3_; clear hb hbox hg; have hcz4_0 : w3.cell? ⟨gb153, 0, none⟩ = some (.string a0_0) := (blk_cell BK153.out 0).trans rfl; have hcz4_1 : w3.cell? ⟨gb153, 1, none⟩ = some (.slice A0_1 l0_1.length c0_1) := (blk_cell BK153.out 1).trans rfl; have hcz4_2 : w3.cell? ⟨gb153, 2, none⟩ = some (.slice A0_2 l0_2.length c0_2) := (blk_cell BK153.out 2).trans rfl; have hcz4_3 : w3.cell? ⟨gb153, 3, none⟩ = some (.slice A0_3 l0_3.length c0_3) := (blk_cell BK153.out 3).trans rfl; have hcz4_4 : w3.cell? ⟨gb153, 4, none⟩ = some (.bool a0_4) := (blk_cell BK153.out 4).trans rfl; have hcz4_5 : w3.cell? ⟨gb153, 5, none⟩ = some (.slice A0_5 l0_5.length c0_5) := (blk_cell BK153.out 5).trans rfl; have hfz4_0 := blk_frozen BK153.out 0; have hfz4_1 := blk_frozen BK153.out 1; have hfz4_2 := blk_frozen BK153.out 2; have hfz4_3 := blk_frozen BK153.out 3; have hfz4_4 := blk_frozen BK153.out 4; have hfz4_5 := blk_frozen BK153.out 5))
  go_ret2
  exact ⟨by first | rfl | (simp [errW_none, errW_some] <;> rfl) | (simp [*, errW_none, errW_some] <;> rfl), by repeat (first | (with_reducible first | exact HB.out | apply below_alloc | apply pw_below_drewN | apply below_drew1 | refine below_set ?_ GE153.out) | exact HB.out)⟩
 ·rw [if_neg c2] at H
  have c2b0 : ((l0_5.length : Int) == 0) = false := beq_eq_false_iff_ne.mpr c2
  have c2b1 : ((l0_5.length : Int) != 0) = true := bne_iff_ne.mpr c2
  have c2b2 : ¬ (l0_5 = []) := fun h_ => c2 (by rw [h_]; rfl)
  have HC5 := Aside0.mk H
  clear H
  go_enter Try.func24, Try.ntmps24
  go_upto_region 3 with (first | ((with_reducible refine gate_dst (N := 1) rfl ?_); (try (refine gate_guard (by rfl) ?_; dsimp only)); refine box_event ?hg (N := 1) ?hd (cs := #[.string a0_0, .slice A0_1 l0_1.length c0_1, .slice A0_2 l0_2.length c0_2, .slice A0_3 l0_3.length c0_3, .bool a0_4, .slice A0_5 l0_5.length c0_5]) (t := 26) ?hr ?_; (case hd => rfl); (case hg => rfl); (case hr => first | (go_simp; done) | (go_simp; rfl)); intro gb153 hg w6 hbox hb; have n0_ := Aside0.mk (below_step (by repeat (first | (with_reducible first | exact HB.out | apply below_alloc | apply pw_below_drewN | apply below_drew1) | exact HB.out)) hb); have n1_ := Aside0.mk (hbox); have n2_ := Aside0.mk ((by rw [hg]; exact (below_size (by repeat (first | (with_reducible first | exact HB.out | apply below_alloc | apply pw_below_drewN | apply below_drew1) | exact HB.out))) : w.heap.size ≤ gb153)); have n3_ := Aside0.mk ((by rw [hg]; exact (below_size (by repeat (first | (with_reducible first | exact HB.out | apply below_alloc | apply pw_below_drewN | apply below_drew1) | exact HB.out))) : w.heap.size ≤ gb153)); clear HB; have HB := n0_; have BK153 := n1_; have GW153 := n2_; have GE153 := n3_; clear n0_ n1_ n2_ n3_; clear hb hbox hg; have hcz7_0 : w6.cell? ⟨gb153, 0, none⟩ = some (.string a0_0) := (blk_cell BK153.out 0).trans rfl; have hcz7_1 : w6.cell? ⟨gb153, 1, none⟩ = some (.slice A0_1 l0_1.length c0_1) := (blk_cell BK153.out 1).trans rfl; have hcz7_2 : w6.cell? ⟨gb153, 2, none⟩ = some (.slice A0_2 l0_2.length c0_2) := (blk_cell BK153.out 2).trans rfl; have hcz7_3 : w6.cell? ⟨gb153, 3, none⟩ = some (.slice A0_3 l0_3.length c0_3) := (blk_cell BK153.out 3).trans rfl; have hcz7_4 : w6.cell? ⟨gb153, 4, none⟩ = some (.bool a0_4) := (blk_cell BK153.out 4).trans rfl; have hcz7_5 : w6.cell? ⟨gb153, 5, none⟩ = some (.slice A0_5 l0_5.length c0_5) := (blk_cell BK153.out 5).trans rfl; have hfz7_0 := blk_frozen BK153.out 0; have hfz7_1 := blk_frozen BK153.out 1; have hfz7_2 := blk_frozen BK153.out 2; have hfz7_3 := blk_frozen BK153.out 3; have hfz7_4 := blk_frozen BK153.out 4; have hfz7_5 := blk_frozen BK153.out 5))
  (try simp only [Act.put, List.setIfInBounds_toArray, List.set_cons_zero, List.set_cons_succ])
  go_cut [21] (fun v21 wc => ∃ (kq : Nat) (x21_4 : Bool), v21 = .bool x21_4 ∧ Aside0 (state_ahead.j0 kq x21_4 a0_0 l0_1 l0_2 l0_3 a0_4 l0_5 = some (r1, r2)) ∧ Aside0 (kq ≤ k) ∧ Aside0 (wc.heap[gb153]? = some (.cells #[.string a0_0, (.slice A0_1 l0_1.length c0_1), (.slice A0_2 l0_2.length c0_2), (.slice A0_3 l0_3.length c0_3), .bool a0_4, (.slice A0_5 l0_5.length c0_5)] 26 (0, 0))) ∧ Aside0 (Below w.heap.size w wc))
  case first =>
   have H := HC5.out
   clear HC5
   by_cases c8 : a0_4 = true
   ·subst c8
    have H1 : (state_ahead.j0 k (decide ((l0_3.length : Int) > 0)) a0_0 l0_1 l0_2 l0_3 true l0_5) = some (r1, r2) := by rw [if_pos rfl] at H; exact H
    clear H
    have H := H1
    clear H1
    have H' := Aside0.mk H
    clear H
    have hcz9_0 : w6.cell? ⟨gb153, 0, none⟩ = some (.string a0_0) := (blk_cell BK153.out 0).trans rfl
    have hcz9_1 : w6.cell? ⟨gb153, 1, none⟩ = some (.slice A0_1 l0_1.length c0_1) := (blk_cell BK153.out 1).trans rfl
    have hcz9_2 : w6.cell? ⟨gb153, 2, none⟩ = some (.slice A0_2 l0_2.length c0_2) := (blk_cell BK153.out 2).trans rfl
    have hcz9_3 : w6.cell? ⟨gb153, 3, none⟩ = some (.slice A0_3 l0_3.length c0_3) := (blk_cell BK153.out 3).trans rfl
    have hcz9_4 : w6.cell? ⟨gb153, 4, none⟩ = some (.bool true) := (blk_cell BK153.out 4).trans rfl
    have hcz9_5 : w6.cell? ⟨gb153, 5, none⟩ = some (.slice A0_5 l0_5.length c0_5) := (blk_cell BK153.out 5).trans rfl
    have hfz9_0 := blk_frozen BK153.out 0
    have hfz9_1 := blk_frozen BK153.out 1
    have hfz9_2 := blk_frozen BK153.out 2
    have hfz9_3 := blk_frozen BK153.out 3
    have hfz9_4 := blk_frozen BK153.out 4
    have hfz9_5 := blk_frozen BK153.out 5
    go_wp2
    go_meet
    case rel => exact ⟨_, (decide ((l0_3.length : Int) > 0)), (by first | rfl | (simp; done) | (simp [*]; done)), H', ⟨by first | omega | exact Nat.le_refl _⟩, ⟨by (with_reducible repeat (first | refine blk_drewN ?_ _ | refine blk_drew ?_ | refine blk_alloc ?_ _)); exact BK153.out⟩, ⟨by repeat (first | (with_reducible first | exact HB.out | apply below_alloc | apply pw_below_drewN | apply below_drew1 | refine below_set ?_ GE153.out) | exact HB.out)⟩⟩
   ·replace c8 := Bool.eq_false_iff.mpr c8
    subst c8
    have H1 : (state_ahead.j0 k true a0_0 l0_1 l0_2 l0_3 false l0_5) = some (r1, r2) := by rw [if_neg (show ¬ (false = true) by decide)] at H; exact H
    clear H
    have H := H1
    clear H1
    have H' := Aside0.mk H
    clear H
    have hcz10_0 : w6.cell? ⟨gb153, 0, none⟩ = some (.string a0_0) := (blk_cell BK153.out 0).trans rfl
    have hcz10_1 : w6.cell? ⟨gb153, 1, none⟩ = some (.slice A0_1 l0_1.length c0_1) := (blk_cell BK153.out 1).trans rfl
    have hcz10_2 : w6.cell? ⟨gb153, 2, none⟩ = some (.slice A0_2 l0_2.length c0_2) := (blk_cell BK153.out 2).trans rfl
    have hcz10_3 : w6.cell? ⟨gb153, 3, none⟩ = some (.slice A0_3 l0_3.length c0_3) := (blk_cell BK153.out 3).trans rfl
    have hcz10_4 : w6.cell? ⟨gb153, 4, none⟩ = some (.bool false) := (blk_cell BK153.out 4).trans rfl
    have hcz10_5 : w6.cell? ⟨gb153, 5, none⟩ = some (.slice A0_5 l0_5.length c0_5) := (blk_cell BK153.out 5).trans rfl
    have hfz10_0 := blk_frozen BK153.out 0
    have hfz10_1 := blk_frozen BK153.out 1
    have hfz10_2 := blk_frozen BK153.out 2
    have hfz10_3 := blk_frozen BK153.out 3
    have hfz10_4 := blk_frozen BK153.out 4
    have hfz10_5 := blk_frozen BK153.out 5
    go_wp2
    go_meet
    case rel => exact ⟨_, (true), (by first | rfl | (simp; done) | (simp [*]; done)), H', ⟨by first | omega | exact Nat.le_refl _⟩, ⟨by (with_reducible repeat (first | refine blk_drewN ?_ _ | refine blk_drew ?_ | refine blk_alloc ?_ _)); exact BK153.out⟩, ⟨by repeat (first | (with_reducible first | exact HB.out | apply below_alloc | apply pw_below_drewN | apply below_drew1 | refine below_set ?_ GE153.out) | exact HB.out)⟩⟩
  case rest =>
   clear HC5
   try clear c2
   try clear c2b0
   try clear c2b1
   try clear c2b2
   try clear p2
   try clear c8
   try clear hcz10_0
   try clear hcz10_1
   try clear hcz10_2
   try clear hcz10_3
   try clear hcz10_4
   try clear hcz10_5
   try clear hcz4_0
   try clear hcz4_1
   try clear hcz4_2
   try clear hcz4_3
   try clear hcz4_4
   try clear hcz4_5
   try clear hcz7_0
   try clear hcz7_1
   try clear hcz7_2
   try clear hcz7_3
   try clear hcz7_4
   try clear hcz7_5
   try clear hcz9_0
   try clear hcz9_1
   try clear hcz9_2
   try clear hcz9_3
   try clear hcz9_4
   try clear hcz9_5
   try clear hfz10_0
   try clear hfz10_1
   try clear hfz10_2
   try clear hfz10_3
   try clear hfz10_4
   try clear hfz10_5
   try clear hfz4_0
   try clear hfz4_1
   try clear hfz4_2
   try clear hfz4_3
   try clear hfz4_4
   try clear hfz4_5
   try clear hfz7_0
   try clear hfz7_1
   try clear hfz7_2
   try clear hfz7_3
   try clear hfz7_4
   try clear hfz7_5
   try clear hfz9_0
   try clear hfz9_1
   try clear hfz9_2
   try clear hfz9_3
   try clear hfz9_4
   try clear hfz9_5
   obtain ⟨kq, x21_4, rfl, HA, HJ4, BK153, HB⟩ := hcut
   cases kq with
   | zero => exact absurd HA.out (by simp [state_ahead.j0])
   | succ kj4 =>
    have H := HA.out
    clear HA
    simp only [state_ahead.j0] at H
    by_cases c11 : x21_4 = true
    ·subst c11
     have H1 : (some ((⟨#[]⟩ : ByteArray), false)) = some (r1, r2) := by rw [if_pos rfl] at H; exact H
     clear H
     have H := H1
     clear H1
     simp only [Option.some.injEq, Prod.mk.injEq] at H
     obtain ⟨rfl, rfl⟩ := H
     go_wp2
     go_ret2
     exact ⟨by first | rfl | (simp [errW_none, errW_some] <;> rfl) | (simp [*, errW_none, errW_some] <;> rfl), by repeat (first | (with_reducible first | exact HB.out | apply below_alloc | apply pw_below_drewN | apply below_drew1 | refine below_set ?_ GE153.out) | exact HB.out)⟩
    ·replace c11 := Bool.eq_false_iff.mpr c11
     subst c11
     have H1 : ((step_Inverse.f kj4 l0_5).bind fun t154 => ((step_Right.f kj4 a0_0 t154).bind fun t158 => (if t158 = true then ((step_Run.f kj4 a0_0 t154).bind fun bt159 => (some (bt159.1, (bt159.2 == 0)))) else (some ((⟨#[]⟩ : ByteArray), false))))) = some (r1, r2) := by rw [if_neg (show ¬ (false = true) by decide)] at H; exact H
     clear H
     have H := H1
     clear H1
     replace H := Option.bind_eq_some_iff.mp H
     obtain ⟨t154, A120, H⟩ := H
     replace H : ((step_Right.f kj4 a0_0 t154).bind fun t158 => (if t158 = true then ((step_Run.f kj4 a0_0 t154).bind fun bt159 => (some (bt159.1, (bt159.2 == 0)))) else (some ((⟨#[]⟩ : ByteArray), false)))) = some (r1, r2) := H
     have A12 := Aside0.mk A120
     clear A120
     replace H := Option.bind_eq_some_iff.mp H
     obtain ⟨t158, A130, H⟩ := H
     replace H : (if t158 = true then ((step_Run.f kj4 a0_0 t154).bind fun bt159 => (some (bt159.1, (bt159.2 == 0)))) else (some ((⟨#[]⟩ : ByteArray), false))) = some (r1, r2) := H
     have A13 := Aside0.mk A130
     clear A130
     by_cases c14 : t158 = true
     ·subst c14
      have H1 : ((step_Run.f kj4 a0_0 t154).bind fun bt159 => (some (bt159.1, (bt159.2 == 0)))) = some (r1, r2) := by rw [if_pos rfl] at H; exact H
      clear H
      have H := H1
      clear H1
      replace H := Option.bind_eq_some_iff.mp H
      obtain ⟨⟨t159, t160⟩, A150, H⟩ := H
      replace H : (some (t159, (t160 == 0))) = some (r1, r2) := H
      have A15 := Aside0.mk A150
      clear A150
      simp only [Option.some.injEq, Prod.mk.injEq] at H
      obtain ⟨rfl, rfl⟩ := H
      have hcz16_0 : wc.cell? ⟨gb153, 0, none⟩ = some (.string a0_0) := (blk_cell BK153.out 0).trans rfl
      have hcz16_1 : wc.cell? ⟨gb153, 1, none⟩ = some (.slice A0_1 l0_1.length c0_1) := (blk_cell BK153.out 1).trans rfl
      have hcz16_2 : wc.cell? ⟨gb153, 2, none⟩ = some (.slice A0_2 l0_2.length c0_2) := (blk_cell BK153.out 2).trans rfl
      have hcz16_3 : wc.cell? ⟨gb153, 3, none⟩ = some (.slice A0_3 l0_3.length c0_3) := (blk_cell BK153.out 3).trans rfl
      have hcz16_4 : wc.cell? ⟨gb153, 4, none⟩ = some (.bool a0_4) := (blk_cell BK153.out 4).trans rfl
      have hcz16_5 : wc.cell? ⟨gb153, 5, none⟩ = some (.slice A0_5 l0_5.length c0_5) := (blk_cell BK153.out 5).trans rfl
      have hfz16_0 := blk_frozen BK153.out 0
      have hfz16_1 := blk_frozen BK153.out 1
      have hfz16_2 := blk_frozen BK153.out 2
      have hfz16_3 := blk_frozen BK153.out 3
      have hfz16_4 := blk_frozen BK153.out 4
      have hfz16_5 := blk_frozen BK153.out 5
      go_wp2_with (first | ((with_reducible refine gate_callee (f := 52) rfl ?_); refine goesL_ (some 25) rfl rfl Try.func52 (by kernel_rfl) rfl #[.agg #[.slice A0_5 l0_5.length c0_5]] rfl (by (try simp only [List.map_toArray, List.map_cons, List.map_nil]); first | done | rfl | (simp only [List.length_drop, List.length_take]; rfl)) ?_; (with_reducible refine (step_Inverse.calls kj4 _ _ l0_5 t154 _ ?side1 ?side2 A12.out).mono ?_); (case side1 => repeat (first | exact (Kd.C_below HR0_5.out HB.out) | (with_reducible refine Kd.C_alloc ?_ _) | (with_reducible refine Kd.C_drewN ?_ _) | (with_reducible refine Kd.C_drew ?_))); (case side2 => exact HC0_5.out); rintro e w17 ⟨v155, rfl, ho0, hb⟩; refine ⟨_, rfl, ?_⟩; have n0_ := Aside0.mk (Kd.R_lower ho0 (below_size (by repeat (first | (with_reducible first | exact HB.out | apply below_alloc | apply pw_below_drewN | apply below_drew1 | refine below_set ?_ GE153.out) | exact HB.out)))); have n1_ := Aside0.mk (blk_below (g := gb153) (o := .cells #[.string a0_0, .slice A0_1 l0_1.length c0_1, .slice A0_2 l0_2.length c0_2, .slice A0_3 l0_3.length c0_3, .bool a0_4, .slice A0_5 l0_5.length c0_5] 26 (0, 0)) (by (with_reducible repeat (first | refine blk_drewN ?_ _ | refine blk_drew ?_ | refine blk_alloc ?_ _)); exact BK153.out) hb); have n2_ := Aside0.mk (below_step (by repeat (first | (with_reducible first | exact HB.out | apply below_alloc | apply pw_below_drewN | apply below_drew1 | refine below_set ?_ GE153.out) | exact HB.out)) hb); clear BK153; clear HB; have HO156 := n0_; have BK153 := n1_; have HB := n2_; clear n0_ n1_ n2_; (try clear hb); (try clear hb2); (try clear hk); (try clear hi); (try clear ho0)) | ((with_reducible refine gate_dst (N := 4) rfl ?_); (try (refine gate_guard (by rfl) ?_; dsimp only)); refine box_event ?hg (N := 4) ?hd (cs := #[.slice none 0 0]) (t := 38) ?hr ?_; (case hd => rfl); (case hg => rfl); (case hr => first | (go_simp; done) | (go_simp; rfl)); intro gb157 hg w18 hbox hb; have n0_ := Aside0.mk (Kd.R_below (by (with_reducible repeat (first | apply Kd.R_alloc | apply Kd.R_drewN | apply Kd.R_drew)); exact HO156.out) hb); have n1_ := Aside0.mk (blk_below (g := gb153) (o := .cells #[.string a0_0, .slice A0_1 l0_1.length c0_1, .slice A0_2 l0_2.length c0_2, .slice A0_3 l0_3.length c0_3, .bool a0_4, .slice A0_5 l0_5.length c0_5] 26 (0, 0)) (by (with_reducible repeat (first | refine blk_drewN ?_ _ | refine blk_drew ?_ | refine blk_alloc ?_ _)); exact BK153.out) hb); have n2_ := Aside0.mk (below_step (by repeat (first | (with_reducible first | exact HB.out | apply below_alloc | apply pw_below_drewN | apply below_drew1 | refine below_set ?_ GE153.out) | exact HB.out)) hb); have n3_ := Aside0.mk (hbox); have n4_ := Aside0.mk ((by rw [hg]; exact (below_size (by repeat (first | (with_reducible first | exact HB.out | apply below_alloc | apply pw_below_drewN | apply below_drew1 | refine below_set ?_ GE153.out) | exact HB.out))) : w.heap.size ≤ gb157)); have n5_ := Aside0.mk ((by rw [hg]; exact (below_size (by repeat (first | (with_reducible first | exact HB.out | apply below_alloc | apply pw_below_drewN | apply below_drew1 | refine below_set ?_ GE153.out) | exact HB.out))) : w.heap.size ≤ gb157)); have n6_ := Aside0.mk ((by rw [hg]; exact Nat.ne_of_lt (blk_lt (g := gb153) (o := .cells #[.string a0_0, .slice A0_1 l0_1.length c0_1, .slice A0_2 l0_2.length c0_2, .slice A0_3 l0_3.length c0_3, .bool a0_4, .slice A0_5 l0_5.length c0_5] 26 (0, 0)) (by (with_reducible repeat (first | refine blk_drewN ?_ _ | refine blk_drew ?_ | refine blk_alloc ?_ _)); exact BK153.out)) : gb153 ≠ gb157)); have n7_ := Aside0.mk ((by rw [hg]; exact Nat.ne_of_gt (blk_lt (g := gb153) (o := .cells #[.string a0_0, .slice A0_1 l0_1.length c0_1, .slice A0_2 l0_2.length c0_2, .slice A0_3 l0_3.length c0_3, .bool a0_4, .slice A0_5 l0_5.length c0_5] 26 (0, 0)) (by (with_reducible repeat (first | refine blk_drewN ?_ _ | refine blk_drew ?_ | refine blk_alloc ?_ _)); exact BK153.out)) : gb157 ≠ gb153)); clear HO156; clear BK153; clear HB; have HO156 := n0_; have BK153 := n1_; have HB := n2_; have BK157 := n3_; have GW157 := n4_; have GE157 := n5_; have NB153_157 := n6_; have NB157_153 := n7_; clear n0_ n1_ n2_ n3_ n4_ n5_ n6_ n7_; clear hb hbox hg; obtain ⟨Ao19, co19, eo19⟩ := Kd.R_slice HO156.out; subst eo19; have hnb20 := NB157_153.out; have hnc20 := NB153_157.out; have hcz21_0 : w18.cell? ⟨gb157, 0, none⟩ = some (.slice none 0 0) := (blk_cell BK157.out 0).trans rfl; have hfz21_0 := blk_frozen BK157.out 0; have hcz22_0 : w18.cell? ⟨gb153, 0, none⟩ = some (.string a0_0) := (blk_cell BK153.out 0).trans rfl; have hcz22_1 : w18.cell? ⟨gb153, 1, none⟩ = some (.slice A0_1 l0_1.length c0_1) := (blk_cell BK153.out 1).trans rfl; have hcz22_2 : w18.cell? ⟨gb153, 2, none⟩ = some (.slice A0_2 l0_2.length c0_2) := (blk_cell BK153.out 2).trans rfl; have hcz22_3 : w18.cell? ⟨gb153, 3, none⟩ = some (.slice A0_3 l0_3.length c0_3) := (blk_cell BK153.out 3).trans rfl; have hcz22_4 : w18.cell? ⟨gb153, 4, none⟩ = some (.bool a0_4) := (blk_cell BK153.out 4).trans rfl; have hcz22_5 : w18.cell? ⟨gb153, 5, none⟩ = some (.slice A0_5 l0_5.length c0_5) := (blk_cell BK153.out 5).trans rfl; have hfz22_0 := blk_frozen BK153.out 0; have hfz22_1 := blk_frozen BK153.out 1; have hfz22_2 := blk_frozen BK153.out 2; have hfz22_3 := blk_frozen BK153.out 3; have hfz22_4 := blk_frozen BK153.out 4; have hfz22_5 := blk_frozen BK153.out 5) | ((with_reducible refine gate_callee (f := 58) rfl ?_); refine goesL_ (some 29) rfl rfl Try.func58 (by kernel_rfl) rfl #[.string a0_0, .agg #[.slice Ao19 t154.length co19]] rfl (by (try simp only [List.map_toArray, List.map_cons, List.map_nil]); first | done | rfl | (simp only [List.length_drop, List.length_take]; rfl)) ?_; (with_reducible refine (step_Right.calls kj4 a0_0 _ _ t154 true _ ?side1 ?side2 A13.out).mono ?_); (case side1 => refine (Kd.R_reads' (e := 36) (base := w.heap.size) (ok := fun k_ => True) (n := t154.length) (c := co19) ?_).2.2; exact (by (with_reducible repeat (first | apply Kd.R_alloc | apply Kd.R_drewN | apply Kd.R_drew)); exact (Kd.R_mono (Kd.R_far (p := ⟨gb157, 0, none⟩) (Kd.R_types HO156.out BK157.out (by decide)) (fun _ hk => hk.2) (.slice Ao19 t154.length co19)) (fun _ h_ => h_.1)))); (case side2 => exact (Kd.R_reads' HO156.out).2.1); rintro e w23 ⟨rfl, hb⟩; refine ⟨_, rfl, ?_⟩; have n0_ := Aside0.mk (Kd.R_below (by (with_reducible repeat (first | apply Kd.R_alloc | apply Kd.R_drewN | apply Kd.R_drew)); exact (Kd.R_mono (Kd.R_far (p := ⟨gb157, 0, none⟩) (Kd.R_types HO156.out BK157.out (by decide)) (fun _ hk => hk.2) (.slice Ao19 t154.length co19)) (fun _ h_ => h_.1))) hb); have n1_ := Aside0.mk (blk_below (g := gb153) (o := .cells #[.string a0_0, .slice A0_1 l0_1.length c0_1, .slice A0_2 l0_2.length c0_2, .slice A0_3 l0_3.length c0_3, .bool a0_4, .slice A0_5 l0_5.length c0_5] 26 (0, 0)) (by (with_reducible repeat (first | refine blk_drewN ?_ _ | refine blk_drew ?_ | refine blk_alloc ?_ _)); refine blk_far ?_ NB153_157.out _; (with_reducible repeat (first | refine blk_drewN ?_ _ | refine blk_drew ?_ | refine blk_alloc ?_ _)); exact BK153.out) hb); have n2_ := Aside0.mk (blk_below (g := gb157) (o := .cells #[.slice Ao19 t154.length co19] 38 (0, 0)) (by (with_reducible repeat (first | refine blk_drewN ?_ _ | refine blk_drew ?_ | refine blk_alloc ?_ _)); refine blk_put (cs := #[.slice none 0 0]) ?_ 0 _ rfl; (with_reducible repeat (first | refine blk_drewN ?_ _ | refine blk_drew ?_ | refine blk_alloc ?_ _)); exact BK157.out) hb); have n3_ := Aside0.mk (below_step (by repeat (first | (with_reducible first | exact HB.out | apply below_alloc | apply pw_below_drewN | apply below_drew1 | refine below_set ?_ GE153.out | refine below_set ?_ GE157.out) | exact HB.out)) hb); clear HO156; clear BK153; clear BK157; clear HB; have HO156 := n0_; have BK153 := n1_; have BK157 := n2_; have HB := n3_; clear n0_ n1_ n2_ n3_; (try clear hb); (try clear hb2); (try clear hk); (try clear hi); have hcz24_0 : w23.cell? ⟨gb153, 0, none⟩ = some (.string a0_0) := (blk_cell BK153.out 0).trans rfl; have hcz24_1 : w23.cell? ⟨gb153, 1, none⟩ = some (.slice A0_1 l0_1.length c0_1) := (blk_cell BK153.out 1).trans rfl; have hcz24_2 : w23.cell? ⟨gb153, 2, none⟩ = some (.slice A0_2 l0_2.length c0_2) := (blk_cell BK153.out 2).trans rfl; have hcz24_3 : w23.cell? ⟨gb153, 3, none⟩ = some (.slice A0_3 l0_3.length c0_3) := (blk_cell BK153.out 3).trans rfl; have hcz24_4 : w23.cell? ⟨gb153, 4, none⟩ = some (.bool a0_4) := (blk_cell BK153.out 4).trans rfl; have hcz24_5 : w23.cell? ⟨gb153, 5, none⟩ = some (.slice A0_5 l0_5.length c0_5) := (blk_cell BK153.out 5).trans rfl; have hfz24_0 := blk_frozen BK153.out 0; have hfz24_1 := blk_frozen BK153.out 1; have hfz24_2 := blk_frozen BK153.out 2; have hfz24_3 := blk_frozen BK153.out 3; have hfz24_4 := blk_frozen BK153.out 4; have hfz24_5 := blk_frozen BK153.out 5; have hcz25_0 : w23.cell? ⟨gb157, 0, none⟩ = some (.slice Ao19 t154.length co19) := (blk_cell BK157.out 0).trans rfl; have hfz25_0 := blk_frozen BK157.out 0) | ((with_reducible refine gate_callee (f := 59) rfl ?_); refine goesL_ (some 35) rfl rfl Try.func59 (by kernel_rfl) rfl #[.string a0_0, .agg #[.slice Ao19 t154.length co19]] rfl (by (try simp only [List.map_toArray, List.map_cons, List.map_nil]); first | done | rfl | (simp only [List.length_drop, List.length_take]; rfl)) ?_; (with_reducible refine (step_Run.calls kj4 a0_0 _ _ t154 t159 t160 _ ?side1 ?side2 A15.out).mono ?_); (case side1 => repeat (first | exact (Kd.R_reads' HO156.out).2.2 | (with_reducible refine Kd.C_alloc ?_ _) | (with_reducible refine Kd.C_drewN ?_ _) | (with_reducible refine Kd.C_drew ?_))); (case side2 => exact (Kd.R_reads' HO156.out).2.1); rintro e w26 ⟨rfl, hb⟩; refine ⟨_, rfl, ?_⟩; have n0_ := Aside0.mk (Kd.R_below (by (with_reducible repeat (first | apply Kd.R_alloc | apply Kd.R_drewN | apply Kd.R_drew)); exact HO156.out) hb); have n1_ := Aside0.mk (blk_below (g := gb153) (o := .cells #[.string a0_0, .slice A0_1 l0_1.length c0_1, .slice A0_2 l0_2.length c0_2, .slice A0_3 l0_3.length c0_3, .bool a0_4, .slice A0_5 l0_5.length c0_5] 26 (0, 0)) (by (with_reducible repeat (first | refine blk_drewN ?_ _ | refine blk_drew ?_ | refine blk_alloc ?_ _)); exact BK153.out) hb); have n2_ := Aside0.mk (blk_below (g := gb157) (o := .cells #[.slice Ao19 t154.length co19] 38 (0, 0)) (by (with_reducible repeat (first | refine blk_drewN ?_ _ | refine blk_drew ?_ | refine blk_alloc ?_ _)); exact BK157.out) hb); have n3_ := Aside0.mk (below_step (by repeat (first | (with_reducible first | exact HB.out | apply below_alloc | apply pw_below_drewN | apply below_drew1 | refine below_set ?_ GE153.out | refine below_set ?_ GE157.out) | exact HB.out)) hb); clear HO156; clear BK153; clear BK157; clear HB; have HO156 := n0_; have BK153 := n1_; have BK157 := n2_; have HB := n3_; clear n0_ n1_ n2_ n3_; (try clear hb); (try clear hb2); (try clear hk); (try clear hi)))
      go_ret2
      exact ⟨by first | rfl | (simp [errW_none, errW_some] <;> rfl) | (simp [*, errW_none, errW_some] <;> rfl), by repeat (first | (with_reducible first | exact HB.out | apply below_alloc | apply pw_below_drewN | apply below_drew1 | refine below_set ?_ GE153.out | refine below_set ?_ GE157.out) | exact HB.out)⟩
     ·replace c14 := Bool.eq_false_iff.mpr c14
      subst c14
      have H1 : (some ((⟨#[]⟩ : ByteArray), false)) = some (r1, r2) := by rw [if_neg (show ¬ (false = true) by decide)] at H; exact H
      clear H
      have H := H1
      clear H1
      simp only [Option.some.injEq, Prod.mk.injEq] at H
      obtain ⟨rfl, rfl⟩ := H
      have hcz27_0 : wc.cell? ⟨gb153, 0, none⟩ = some (.string a0_0) := (blk_cell BK153.out 0).trans rfl
      have hcz27_1 : wc.cell? ⟨gb153, 1, none⟩ = some (.slice A0_1 l0_1.length c0_1) := (blk_cell BK153.out 1).trans rfl
      have hcz27_2 : wc.cell? ⟨gb153, 2, none⟩ = some (.slice A0_2 l0_2.length c0_2) := (blk_cell BK153.out 2).trans rfl
      have hcz27_3 : wc.cell? ⟨gb153, 3, none⟩ = some (.slice A0_3 l0_3.length c0_3) := (blk_cell BK153.out 3).trans rfl
      have hcz27_4 : wc.cell? ⟨gb153, 4, none⟩ = some (.bool a0_4) := (blk_cell BK153.out 4).trans rfl
      have hcz27_5 : wc.cell? ⟨gb153, 5, none⟩ = some (.slice A0_5 l0_5.length c0_5) := (blk_cell BK153.out 5).trans rfl
      have hfz27_0 := blk_frozen BK153.out 0
      have hfz27_1 := blk_frozen BK153.out 1
      have hfz27_2 := blk_frozen BK153.out 2
      have hfz27_3 := blk_frozen BK153.out 3
      have hfz27_4 := blk_frozen BK153.out 4
      have hfz27_5 := blk_frozen BK153.out 5
      go_wp2_with (first | ((with_reducible refine gate_callee (f := 52) rfl ?_); refine goesL_ (some 25) rfl rfl Try.func52 (by kernel_rfl) rfl #[.agg #[.slice A0_5 l0_5.length c0_5]] rfl (by (try simp only [List.map_toArray, List.map_cons, List.map_nil]); first | done | rfl | (simp only [List.length_drop, List.length_take]; rfl)) ?_; (with_reducible refine (step_Inverse.calls kj4 _ _ l0_5 t154 _ ?side1 ?side2 A12.out).mono ?_); (case side1 => repeat (first | exact (Kd.C_below HR0_5.out HB.out) | (with_reducible refine Kd.C_alloc ?_ _) | (with_reducible refine Kd.C_drewN ?_ _) | (with_reducible refine Kd.C_drew ?_))); (case side2 => exact HC0_5.out); rintro e w28 ⟨v155, rfl, ho0, hb⟩; refine ⟨_, rfl, ?_⟩; have n0_ := Aside0.mk (Kd.R_lower ho0 (below_size (by repeat (first | (with_reducible first | exact HB.out | apply below_alloc | apply pw_below_drewN | apply below_drew1 | refine below_set ?_ GE153.out) | exact HB.out)))); have n1_ := Aside0.mk (blk_below (g := gb153) (o := .cells #[.string a0_0, .slice A0_1 l0_1.length c0_1, .slice A0_2 l0_2.length c0_2, .slice A0_3 l0_3.length c0_3, .bool a0_4, .slice A0_5 l0_5.length c0_5] 26 (0, 0)) (by (with_reducible repeat (first | refine blk_drewN ?_ _ | refine blk_drew ?_ | refine blk_alloc ?_ _)); exact BK153.out) hb); have n2_ := Aside0.mk (below_step (by repeat (first | (with_reducible first | exact HB.out | apply below_alloc | apply pw_below_drewN | apply below_drew1 | refine below_set ?_ GE153.out) | exact HB.out)) hb); clear BK153; clear HB; have HO156 := n0_; have BK153 := n1_; have HB := n2_; clear n0_ n1_ n2_; (try clear hb); (try clear hb2); (try clear hk); (try clear hi); (try clear ho0)) | ((with_reducible refine gate_dst (N := 4) rfl ?_); (try (refine gate_guard (by rfl) ?_; dsimp only)); refine box_event ?hg (N := 4) ?hd (cs := #[.slice none 0 0]) (t := 38) ?hr ?_; (case hd => rfl); (case hg => rfl); (case hr => first | (go_simp; done) | (go_simp; rfl)); intro gb157 hg w29 hbox hb; have n0_ := Aside0.mk (Kd.R_below (by (with_reducible repeat (first | apply Kd.R_alloc | apply Kd.R_drewN | apply Kd.R_drew)); exact HO156.out) hb); have n1_ := Aside0.mk (blk_below (g := gb153) (o := .cells #[.string a0_0, .slice A0_1 l0_1.length c0_1, .slice A0_2 l0_2.length c0_2, .slice A0_3 l0_3.length c0_3, .bool a0_4, .slice A0_5 l0_5.length c0_5] 26 (0, 0)) (by (with_reducible repeat (first | refine blk_drewN ?_ _ | refine blk_drew ?_ | refine blk_alloc ?_ _)); exact BK153.out) hb); have n2_ := Aside0.mk (below_step (by repeat (first | (with_reducible first | exact HB.out | apply below_alloc | apply pw_below_drewN | apply below_drew1 | refine below_set ?_ GE153.out) | exact HB.out)) hb); have n3_ := Aside0.mk (hbox); have n4_ := Aside0.mk ((by rw [hg]; exact (below_size (by repeat (first | (with_reducible first | exact HB.out | apply below_alloc | apply pw_below_drewN | apply below_drew1 | refine below_set ?_ GE153.out) | exact HB.out))) : w.heap.size ≤ gb157)); have n5_ := Aside0.mk ((by rw [hg]; exact (below_size (by repeat (first | (with_reducible first | exact HB.out | apply below_alloc | apply pw_below_drewN | apply below_drew1 | refine below_set ?_ GE153.out) | exact HB.out))) : w.heap.size ≤ gb157)); have n6_ := Aside0.mk ((by rw [hg]; exact Nat.ne_of_lt (blk_lt (g := gb153) (o := .cells #[.string a0_0, .slice A0_1 l0_1.length c0_1, .slice A0_2 l0_2.length c0_2, .slice A0_3 l0_3.length c0_3, .bool a0_4, .slice A0_5 l0_5.length c0_5] 26 (0, 0)) (by (with_reducible repeat (first | refine blk_drewN ?_ _ | refine blk_drew ?_ | refine blk_alloc ?_ _)); exact BK153.out)) : gb153 ≠ gb157)); have n7_ := Aside0.mk ((by rw [hg]; exact Nat.ne_of_gt (blk_lt (g := gb153) (o := .cells #[.string a0_0, .slice A0_1 l0_1.length c0_1, .slice A0_2 l0_2.length c0_2, .slice A0_3 l0_3.length c0_3, .bool a0_4, .slice A0_5 l0_5.length c0_5] 26 (0, 0)) (by (with_reducible repeat (first | refine blk_drewN ?_ _ | refine blk_drew ?_ | refine blk_alloc ?_ _)); exact BK153.out)) : gb157 ≠ gb153)); clear HO156; clear BK153; clear HB; have HO156 := n0_; have BK153 := n1_; have HB := n2_; have BK157 := n3_; have GW157 := n4_; have GE157 := n5_; have NB153_157 := n6_; have NB157_153 := n7_; clear n0_ n1_ n2_ n3_ n4_ n5_ n6_ n7_; clear hb hbox hg; obtain ⟨Ao30, co30, eo30⟩ := Kd.R_slice HO156.out; subst eo30; have hnb31 := NB157_153.out; have hnc31 := NB153_157.out; have hcz32_0 : w29.cell? ⟨gb157, 0, none⟩ = some (.slice none 0 0) := (blk_cell BK157.out 0).trans rfl; have hfz32_0 := blk_frozen BK157.out 0; have hcz33_0 : w29.cell? ⟨gb153, 0, none⟩ = some (.string a0_0) := (blk_cell BK153.out 0).trans rfl; have hcz33_1 : w29.cell? ⟨gb153, 1, none⟩ = some (.slice A0_1 l0_1.length c0_1) := (blk_cell BK153.out 1).trans rfl; have hcz33_2 : w29.cell? ⟨gb153, 2, none⟩ = some (.slice A0_2 l0_2.length c0_2) := (blk_cell BK153.out 2).trans rfl; have hcz33_3 : w29.cell? ⟨gb153, 3, none⟩ = some (.slice A0_3 l0_3.length c0_3) := (blk_cell BK153.out 3).trans rfl; have hcz33_4 : w29.cell? ⟨gb153, 4, none⟩ = some (.bool a0_4) := (blk_cell BK153.out 4).trans rfl; have hcz33_5 : w29.cell? ⟨gb153, 5, none⟩ = some (.slice A0_5 l0_5.length c0_5) := (blk_cell BK153.out 5).trans rfl; have hfz33_0 := blk_frozen BK153.out 0; have hfz33_1 := blk_frozen BK153.out 1; have hfz33_2 := blk_frozen BK153.out 2; have hfz33_3 := blk_frozen BK153.out 3; have hfz33_4 := blk_frozen BK153.out 4; have hfz33_5 := blk_frozen BK153.out 5) | ((with_reducible refine gate_callee (f := 58) rfl ?_); refine goesL_ (some 29) rfl rfl Try.func58 (by kernel_rfl) rfl #[.string a0_0, .agg #[.slice Ao30 t154.length co30]] rfl (by (try simp only [List.map_toArray, List.map_cons, List.map_nil]); first | done | rfl | (simp only [List.length_drop, List.length_take]; rfl)) ?_; (with_reducible refine (step_Right.calls kj4 a0_0 _ _ t154 false _ ?side1 ?side2 A13.out).mono ?_); (case side1 => refine (Kd.R_reads' (e := 36) (base := w.heap.size) (ok := fun k_ => True) (n := t154.length) (c := co30) ?_).2.2; exact (by (with_reducible repeat (first | apply Kd.R_alloc | apply Kd.R_drewN | apply Kd.R_drew)); exact (Kd.R_mono (Kd.R_far (p := ⟨gb157, 0, none⟩) (Kd.R_types HO156.out BK157.out (by decide)) (fun _ hk => hk.2) (.slice Ao30 t154.length co30)) (fun _ h_ => h_.1)))); (case side2 => exact (Kd.R_reads' HO156.out).2.1); rintro e w34 ⟨rfl, hb⟩; refine ⟨_, rfl, ?_⟩; have n0_ := Aside0.mk (Kd.R_below (by (with_reducible repeat (first | apply Kd.R_alloc | apply Kd.R_drewN | apply Kd.R_drew)); exact (Kd.R_mono (Kd.R_far (p := ⟨gb157, 0, none⟩) (Kd.R_types HO156.out BK157.out (by decide)) (fun _ hk => hk.2) (.slice Ao30 t154.length co30)) (fun _ h_ => h_.1))) hb); have n1_ := Aside0.mk (blk_below (g := gb153) (o := .cells #[.string a0_0, .slice A0_1 l0_1.length c0_1, .slice A0_2 l0_2.length c0_2, .slice A0_3 l0_3.length c0_3, .bool a0_4, .slice A0_5 l0_5.length c0_5] 26 (0, 0)) (by (with_reducible repeat (first | refine blk_drewN ?_ _ | refine blk_drew ?_ | refine blk_alloc ?_ _)); refine blk_far ?_ NB153_157.out _; (with_reducible repeat (first | refine blk_drewN ?_ _ | refine blk_drew ?_ | refine blk_alloc ?_ _)); exact BK153.out) hb); have n2_ := Aside0.mk (blk_below (g := gb157) (o := .cells #[.slice Ao30 t154.length co30] 38 (0, 0)) (by (with_reducible repeat (first | refine blk_drewN ?_ _ | refine blk_drew ?_ | refine blk_alloc ?_ _)); refine blk_put (cs := #[.slice none 0 0]) ?_ 0 _ rfl; (with_reducible repeat (first | refine blk_drewN ?_ _ | refine blk_drew ?_ | refine blk_alloc ?_ _)); exact BK157.out) hb); have n3_ := Aside0.mk (below_step (by repeat (first | (with_reducible first | exact HB.out | apply below_alloc | apply pw_below_drewN | apply below_drew1 | refine below_set ?_ GE153.out | refine below_set ?_ GE157.out) | exact HB.out)) hb); clear HO156; clear BK153; clear BK157; clear HB; have HO156 := n0_; have BK153 := n1_; have BK157 := n2_; have HB := n3_; clear n0_ n1_ n2_ n3_; (try clear hb); (try clear hb2); (try clear hk); (try clear hi)))
      go_ret2
      exact ⟨by first | rfl | (simp [errW_none, errW_some] <;> rfl) | (simp [*, errW_none, errW_some] <;> rfl), by repeat (first | (with_reducible first | exact HB.out | apply below_alloc | apply pw_below_drewN | apply below_drew1 | refine below_set ?_ GE153.out | refine below_set ?_ GE157.out) | exact HB.out)⟩
/-! ### state_Right: function 8 -/
def state_Right.last (k : Nat) (b : Bool) (base : ByteArray) (text : ByteArray) (l2 l3 : List S38) : Option Bool :=
 if b = true then ((stack_Undoes.f k base l2).bind fun u => if u = true then stack_Redoes.f k text l3 else some false) else some false
theorem state_Right.mono_last (k : Nat) (b : Bool) (base text : ByteArray) (l2 l3 : List S38) : LeO (state_Right.last k b base text l2 l3) (state_Right.last (k + 1) b base text l2 l3) :=
 LeO.ite (LeO.bind (stack_Undoes.mono _ _ _) fun _ => LeO.ite (stack_Redoes.mono _ _ _) (LeO.refl _)) (LeO.refl _)
set_option maxHeartbeats 8000000 in
set_option maxRecDepth 100000 in
theorem state_Right.door (k : Nat) (u : FrameMode) (B g0 : Nat) (a0 : ByteArray) (A1 : Option Addr) (n1 c1 : Nat) (A2 : Option Addr) (c2 : Nat) (l2 : List S38) (A3 : Option Addr) (c3 : Nat) (l3 : List S38) (op : Bool) (A5 : Option Addr) (n5 c5 : Nat) (b : Bool) (base : ByteArray) (r : Bool) (w : World)
  (hB : B ≤ g0) (h0 : w.heap[g0]? = some (.cells #[.string a0, .slice A1 n1 c1, .slice A2 l2.length c2, .slice A3 l3.length c3, .bool op, .slice A5 n5 c5] 26 (0, 0)))
  (h1 : w.heap[g0 + 1]? = some (.cells #[.bool b] 4 (0, 0))) (h2 : w.heap[g0 + 1 + 1]? = some (.cells #[.string base] 9 (0, 0)))
  (hr2 : Kd.C k38 w A2 l2.length l2) (hc2 : l2.length ≤ c2) (hr3 : Kd.C k38 w A3 l3.length l3) (hc3 : l3.length ≤ c3) (h : state_Right.last k b base a0 l2 l3 = some r) :
  CallsD Try.prog 17 #[.pointer (some ⟨g0 + 1, 0, none⟩), .pointer (some ⟨g0 + 1 + 1, 0, none⟩), .pointer (some ⟨g0, 0, none⟩)] u w fun e u' w' => u' = u ∧ (e = .returned (.tuple #[]) ∧ w'.heap[g0 + 1]? = some (.cells #[.bool r] 4 (0, 0)) ∧ Below B w w') := by
 have q1 := (blk_cell h1 0).trans rfl
 have f1 := blk_frozen h1 0
 have hB1 := Aside0.mk hB
 have q2 := (blk_cell h2 0).trans rfl
 have q00 := (blk_cell h0 0).trans rfl
 have q02 := (blk_cell h0 2).trans rfl
 have q03 := (blk_cell h0 3).trans rfl
 have H0 := Aside0.mk h0
 have H1 := Aside0.mk h1
 have HC2 := Aside0.mk hr2
 have Hc2 := Aside0.mk hc2
 have HC3 := Aside0.mk hr3
 have Hc3 := Aside0.mk hc3
 clear h0 h1 h2 hr2 hc2 hr3 hc3 hB
 unfold state_Right.last at h
 cases b with
 | false =>
  obtain rfl := Option.some.inj h
  clear h
  go_enter_d Try.func17, Try.ntmps17
  go_wp2_with fail
  go_end0
  exact ⟨rfl, blk_put H1.out 0 _ rfl, (Below.refl _ _).setCell (p := ⟨g0 + 1, 0, none⟩) (Nat.le_succ_of_le hB1.out) _⟩
 | true =>
  rw [if_pos rfl] at h
  obtain ⟨y, hA, h⟩ := Option.bind_eq_some_iff.mp h
  have HA := Aside0.mk hA
  clear hA
  have K : ∀ w2, Below w.heap.size w w2 → w2.heap[g0 + 1]? = some (.cells #[.bool true] 4 (0, 0)) ∧ w2.heap[g0]? = some (.cells #[.string a0, .slice A1 n1 c1, .slice A2 l2.length c2, .slice A3 l3.length c3, .bool op, .slice A5 n5 c5] 26 (0, 0)) := fun w2 hb =>
   ⟨(hb.block _ (blk_lt H1.out)).trans H1.out, (hb.block _ (blk_lt H0.out)).trans H0.out⟩
  replace K := Aside0.mk K
  have hBw : B ≤ w.heap.size := Nat.le_of_lt (Nat.lt_of_le_of_lt hB1.out (blk_lt H0.out))
  replace hBw := Aside0.mk hBw
  cases y with
  | false =>
   obtain rfl := Option.some.inj h
   clear h
   go_enter_d Try.func17, Try.ntmps17
   go_wp2_with (go_at_call 18; (refine (stack_Undoes.calls k base A2 c2 l2 false _ HC2.out Hc2.out HA.out).mono ?_); rintro e w2 ⟨rfl, hb⟩; have KB := Aside0.mk hb; have z1 := (blk_cell (K.out w2 hb).1 0).trans rfl; have z2 := blk_frozen (K.out w2 hb).1 0; clear hb)
   go_end0
   exact ⟨rfl, blk_put (K.out _ KB.out).1 0 _ rfl, (KB.out.mono hBw.out).setCell (p := ⟨g0 + 1, 0, none⟩) (Nat.le_succ_of_le hB1.out) _⟩
  | true =>
   replace h : stack_Redoes.f k a0 l3 = some r := h
   have HA2 := Aside0.mk h
   clear h
   go_enter_d Try.func17, Try.ntmps17
   go_wp2_with (first
    | (go_at_call 18; (refine (stack_Undoes.calls k base A2 c2 l2 true _ HC2.out Hc2.out HA.out).mono ?_); rintro e w2 ⟨rfl, hb⟩; have KB := Aside0.mk hb; have z1 := (blk_cell (K.out w2 hb).2 0).trans rfl; have z2 := (blk_cell (K.out w2 hb).2 3).trans rfl; clear hb)
    | (go_at_call 19; (refine (stack_Redoes.calls k a0 A3 c3 l3 r _ (Kd.C_below HC3.out KB.out) Hc3.out HA2.out).mono ?_); rintro e w3 ⟨rfl, hb3⟩; have KB3 := Aside0.mk (KB.out.trans (hb3.mono KB.out.size)); have z3 := (blk_cell (K.out w3 KB3.out).1 0).trans rfl; have z4 := blk_frozen (K.out w3 KB3.out).1 0; clear hb3))
   go_end0
   exact ⟨rfl, blk_put (K.out _ KB3.out).1 0 _ rfl, (KB3.out.mono hBw.out).setCell (p := ⟨g0 + 1, 0, none⟩) (Nat.le_succ_of_le hB1.out) _⟩
def state_Right.f (k : Nat) (a0_0 : ByteArray) (l0_1 : List S34) (l0_2 l0_3 : List S38) (a0_4 : Bool) (l0_5 : List S36) : Option Bool :=
 if 4096 < a0_0.size then some false else ((utf_Valid.f k a0_0).bind fun v => if v = true then ((marks_Right.f k l0_1 a0_0).bind fun m => if m = true then ((state_edits.f k l0_5).bind fun e => if e = true then ((state_steps.f k l0_2).bind fun s => if s = true then ((state_steps.f k l0_3).bind fun t => if t = true then ((state_ahead.f k a0_0 l0_1 l0_2 l0_3 a0_4 l0_5).bind fun o => state_Right.last k o.2 o.1 a0_0 l0_2 l0_3) else some false) else some false) else some false) else some false) else some false)
theorem state_Right.mono : ∀ a0_0 l0_1 l0_2 l0_3 a0_4 l0_5 k, LeO (state_Right.f k a0_0 l0_1 l0_2 l0_3 a0_4 l0_5) (state_Right.f (k + 1) a0_0 l0_1 l0_2 l0_3 a0_4 l0_5) := by
 intro a0_0 l0_1 l0_2 l0_3 a0_4 l0_5 k
 unfold state_Right.f
 refine LeO.ite (LeO.refl _) (LeO.bind (utf_Valid.mono _ _) fun _ => LeO.ite (LeO.bind (marks_Right.mono _ _ _) fun _ => LeO.ite (LeO.bind (state_edits.mono _ _) fun _ => LeO.ite (LeO.bind (state_steps.mono _ _) fun _ => LeO.ite (LeO.bind (state_steps.mono _ _) fun _ => LeO.ite (LeO.bind (state_ahead.mono _ _ _ _ _ _ _) fun _ => state_Right.mono_last _ _ _ _ _ _) (LeO.refl _)) (LeO.refl _)) (LeO.refl _)) (LeO.refl _)) (LeO.refl _))
theorem state_Right.result (tm : Array Value) (g : Nat) (r : Bool) (w : World) (ht : tm.getD 2 undef = .pointer (some ⟨g, 0, none⟩)) (hg : w.heap[g]? = some (.cells #[.bool r] 4 (0, 0))) : (results Try.f8 tm).run Try.prog w = .ok (.bool r) w := by
 have hu := Try.underlying4
 have ht' : tm[2]?.getD undef = .pointer (some ⟨g, 0, none⟩) := by simpa using ht
 have hc := (blk_cell hg 0).trans rfl
 have hr : Try.f8.results = #[.cell 2 4] := rfl
 simp [results, hr, ht', asAddr, loadVar, go_sem, hu, hc]
theorem state_Right.at_door {R : Ending → World → Prop} (k : Nat) (B g0 : Nat) (tm : Array Value) (a0 : ByteArray) (A1 : Option Addr) (n1 c1 : Nat) (A2 : Option Addr) (c2 : Nat) (l2 : List S38) (A3 : Option Addr) (c3 : Nat) (l3 : List S38) (op : Bool) (A5 : Option Addr) (n5 c5 : Nat) (b : Bool) (base : ByteArray) (r : Bool) (w : World)
  (ht : tm.getD 2 undef = .pointer (some ⟨g0 + 1, 0, none⟩)) (hB : B ≤ g0) (h0 : w.heap[g0]? = some (.cells #[.string a0, .slice A1 n1 c1, .slice A2 l2.length c2, .slice A3 l3.length c3, .bool op, .slice A5 n5 c5] 26 (0, 0)))
  (h1 : w.heap[g0 + 1]? = some (.cells #[.bool b] 4 (0, 0))) (h2 : w.heap[g0 + 1 + 1]? = some (.cells #[.string base] 9 (0, 0)))
  (hr2 : Kd.C k38 w A2 l2.length l2) (hc2 : l2.length ≤ c2) (hr3 : Kd.C k38 w A3 l3.length l3) (hc3 : l3.length ≤ c3) (h : state_Right.last k b base a0 l2 l3 = some r)
  (hR : ∀ w', Below B w w' → R (.returned (.bool r)) w') :
  Leaves Try.prog Try.f8 tm R [{ target := .fn (.func 17) #[.pointer (some ⟨g0 + 1, 0, none⟩), .pointer (some ⟨g0 + 1 + 1, 0, none⟩), .pointer (some ⟨g0, 0, none⟩)], args := #[] }] .returning w := by
 refine leaves_cons (f := 17) (args := #[.pointer (some ⟨g0 + 1, 0, none⟩), .pointer (some ⟨g0 + 1 + 1, 0, none⟩), .pointer (some ⟨g0, 0, none⟩)]) (by simp) (by simp [go_sem]) ?_
 refine (state_Right.door k .returning B g0 a0 A1 n1 c1 A2 c2 l2 A3 c3 l3 op A5 n5 c5 b base r w hB h0 h1 h2 hr2 hc2 hr3 hc3 h).mono ?_
 rintro e u' w' ⟨rfl, rfl, hg, hb⟩
 exact ⟨_, state_Right.result tm (g0 + 1) r w' ht hg, hR w' hb⟩
theorem state_Right.keep {cs : Array Value} {t : ByteArray} {wc : World} {g0 : Nat} (h0 : wc.heap[g0]? = some (.cells cs 26 (0, 0))) (h1 : wc.heap[g0 + 1]? = some (.cells #[.bool false] 4 (0, 0))) (h2 : wc.heap[g0 + 1 + 1]? = some (.cells #[.string t] 9 (0, 0))) (W : World) (hb : Below wc.heap.size wc W) :
  W.heap[g0]? = some (.cells cs 26 (0, 0)) ∧ W.heap[g0 + 1]? = some (.cells #[.bool false] 4 (0, 0)) ∧ W.heap[g0 + 1 + 1]? = some (.cells #[.string t] 9 (0, 0)) :=
 ⟨(hb.block _ (blk_lt h0)).trans h0, (hb.block _ (blk_lt h1)).trans h1, (hb.block _ (blk_lt h2)).trans h2⟩
theorem state_Right.early (k : Nat) {w wc W : World} {tm : Array Value} {a0_0 : ByteArray} {A0_1 : Option Addr} {n1 c0_1 : Nat} {A0_2 : Option Addr} {c0_2 : Nat} {l0_2 : List S38} {A0_3 : Option Addr} {c0_3 : Nat} {l0_3 : List S38} {a0_4 : Bool} {A0_5 : Option Addr} {n5 c0_5 : Nat}
  (HB0 : Below w.heap.size w wc) (KB : Below wc.heap.size wc W) (K : W.heap[w.heap.size]? = some (.cells #[.string a0_0, .slice A0_1 n1 c0_1, .slice A0_2 l0_2.length c0_2, .slice A0_3 l0_3.length c0_3, .bool a0_4, .slice A0_5 n5 c0_5] 26 (0, 0)) ∧ W.heap[w.heap.size + 1]? = some (.cells #[.bool false] 4 (0, 0)) ∧ W.heap[w.heap.size + 1 + 1]? = some (.cells #[.string (⟨#[]⟩ : ByteArray)] 9 (0, 0)))
  (hr2 : Kd.C k38 w A0_2 l0_2.length l0_2) (hc2 : l0_2.length ≤ c0_2) (hr3 : Kd.C k38 w A0_3 l0_3.length l0_3) (hc3 : l0_3.length ≤ c0_3) (ht : tm.getD 2 undef = .pointer (some ⟨w.heap.size + 1, 0, none⟩)) :
  bodyPostD Try.prog Try.f8 (fun e w' => e = .returned (.bool false) ∧ Below w.heap.size w w') Exit.ret { tmps := tm, defers := [{ target := .fn (.func 17) #[.pointer (some ⟨w.heap.size + 1, 0, none⟩), .pointer (some ⟨w.heap.size + 1 + 1, 0, none⟩), .pointer (some ⟨w.heap.size, 0, none⟩)], args := #[] }] } (W.setCell ⟨w.heap.size + 1, 0, none⟩ (.bool false)) := by
 have hb : Below w.heap.size w W := HB0.trans (KB.mono HB0.size)
 have hq := hb.setCell (p := ⟨w.heap.size + 1, 0, none⟩) (Nat.le_succ _) (.bool false)
 refine state_Right.at_door k w.heap.size w.heap.size tm a0_0 A0_1 n1 c0_1 A0_2 c0_2 l0_2 A0_3 c0_3 l0_3 a0_4 A0_5 n5 c0_5 false (⟨#[]⟩ : ByteArray) false _ ht (Nat.le_refl _) (blk_far K.1 (by simp) _) (blk_put K.2.1 0 _ rfl) (blk_far K.2.2 (by simp) _) (Kd.C_below hr2 hq) hc2 (Kd.C_below hr3 hq) hc3 rfl ?_
 ·exact fun w' h => ⟨rfl, hq.trans h⟩
theorem state_Right.final (k : Nat) {ob : ByteArray} {ok r : Bool} {w wc W : World} {tm : Array Value} {a0_0 : ByteArray} {A0_1 : Option Addr} {n1 c0_1 : Nat} {A0_2 : Option Addr} {c0_2 : Nat} {l0_2 : List S38} {A0_3 : Option Addr} {c0_3 : Nat} {l0_3 : List S38} {a0_4 : Bool} {A0_5 : Option Addr} {n5 c0_5 : Nat}
  (HB0 : Below w.heap.size w wc) (KB : Below wc.heap.size wc W) (K : W.heap[w.heap.size]? = some (.cells #[.string a0_0, .slice A0_1 n1 c0_1, .slice A0_2 l0_2.length c0_2, .slice A0_3 l0_3.length c0_3, .bool a0_4, .slice A0_5 n5 c0_5] 26 (0, 0)) ∧ W.heap[w.heap.size + 1]? = some (.cells #[.bool false] 4 (0, 0)) ∧ W.heap[w.heap.size + 1 + 1]? = some (.cells #[.string (⟨#[]⟩ : ByteArray)] 9 (0, 0)))
  (hr2 : Kd.C k38 w A0_2 l0_2.length l0_2) (hc2 : l0_2.length ≤ c0_2) (hr3 : Kd.C k38 w A0_3 l0_3.length l0_3) (hc3 : l0_3.length ≤ c0_3) (hl : state_Right.last k ok ob a0_0 l0_2 l0_3 = some r) (ht : tm.getD 2 undef = .pointer (some ⟨w.heap.size + 1, 0, none⟩)) :
  bodyPostD Try.prog Try.f8 (fun e w' => e = .returned (.bool r) ∧ Below w.heap.size w w') Exit.ret { tmps := tm, defers := [{ target := .fn (.func 17) #[.pointer (some ⟨w.heap.size + 1, 0, none⟩), .pointer (some ⟨w.heap.size + 1 + 1, 0, none⟩), .pointer (some ⟨w.heap.size, 0, none⟩)], args := #[] }] } (((W.setCell ⟨w.heap.size + 1 + 1, 0, none⟩ (.string ob)).setCell ⟨w.heap.size + 1, 0, none⟩ (.bool ok)).setCell ⟨w.heap.size + 1, 0, none⟩ (.bool ok)) := by
 have hb : Below w.heap.size w W := HB0.trans (KB.mono HB0.size)
 have hq := ((hb.setCell (p := ⟨w.heap.size + 1 + 1, 0, none⟩) (by simp only; omega) (.string ob)).setCell (p := ⟨w.heap.size + 1, 0, none⟩) (Nat.le_succ _) (.bool ok)).setCell (p := ⟨w.heap.size + 1, 0, none⟩) (Nat.le_succ _) (.bool ok)
 refine state_Right.at_door k w.heap.size w.heap.size tm a0_0 A0_1 n1 c0_1 A0_2 c0_2 l0_2 A0_3 c0_3 l0_3 a0_4 A0_5 n5 c0_5 ok ob r _ ht (Nat.le_refl _) (blk_far (blk_far (blk_far K.1 (by simp only; omega) _) (by simp) _) (by simp) _) (blk_put (blk_put (blk_far K.2.1 (by simp) _) 0 _ rfl) 0 _ rfl) (blk_far (blk_far (blk_put K.2.2 0 _ rfl) (by simp) _) (by simp) _) (Kd.C_below hr2 hq) hc2 (Kd.C_below hr3 hq) hc3 hl ?_
 ·exact fun w' h => ⟨rfl, hq.trans h⟩
set_option maxHeartbeats 16000000 in
set_option maxRecDepth 100000 in
theorem state_Right.calls (k : Nat) (a0_0 : ByteArray) (A0_1 : Option Addr) (c0_1 : Nat) (l0_1 : List S34) (A0_2 : Option Addr) (c0_2 : Nat) (l0_2 : List S38) (A0_3 : Option Addr) (c0_3 : Nat) (l0_3 : List S38) (a0_4 : Bool) (A0_5 : Option Addr) (c0_5 : Nat) (l0_5 : List S36) (r : Bool) (w : World) (hr0_1 : Kd.C k34 w A0_1 l0_1.length l0_1) (hc0_1 : l0_1.length ≤ c0_1) (hr0_2 : Kd.C k38 w A0_2 l0_2.length l0_2) (hc0_2 : l0_2.length ≤ c0_2) (hr0_3 : Kd.C k38 w A0_3 l0_3.length l0_3) (hc0_3 : l0_3.length ≤ c0_3) (hr0_5 : Kd.C k36 w A0_5 l0_5.length l0_5) (hc0_5 : l0_5.length ≤ c0_5) (h : state_Right.f k a0_0 l0_1 l0_2 l0_3 a0_4 l0_5 = some r) :
  Calls Try.prog 8 #[.agg #[.string a0_0, .slice A0_1 l0_1.length c0_1, .slice A0_2 l0_2.length c0_2, .slice A0_3 l0_3.length c0_3, .bool a0_4, .slice A0_5 l0_5.length c0_5]] w fun e w' => e = .returned (.bool r) ∧ Below w.heap.size w w' := by
 have hmf : ∀ (fn : Fn) (first cap : Array Value) (w : World), (Instr.makeFunc fn first cap).run Try.prog w = .ok (.func fn first cap) w := fun _ _ _ _ => rfl
 have HC1 := Aside0.mk hr0_1
 have Hc1 := Aside0.mk hc0_1
 have HC2 := Aside0.mk hr0_2
 have Hc2 := Aside0.mk hc0_2
 have HC3 := Aside0.mk hr0_3
 have Hc3 := Aside0.mk hc0_3
 have HC5 := Aside0.mk hr0_5
 have Hc5 := Aside0.mk hc0_5
 have H := Aside0.mk h
 clear h hr0_1 hr0_2 hr0_3 hr0_5 hc0_1 hc0_2 hc0_3 hc0_5
 go_enter_defers Try.func8, Try.ntmps8
 go_upto_region 3 with fail
 obtain ⟨wc, hwc⟩ : ∃ x : World, ((w.alloc (.cells #[.string a0_0, .slice A0_1 l0_1.length c0_1, .slice A0_2 l0_2.length c0_2, .slice A0_3 l0_3.length c0_3, .bool a0_4, .slice A0_5 l0_5.length c0_5] 26)).alloc (.cells #[.bool false] 4)).alloc (.cells #[.string (⟨#[]⟩ : ByteArray)] 9) = x := ⟨_, rfl⟩
 rw [hwc]
 have HW : wc.heap[w.heap.size]? = some (.cells #[.string a0_0, .slice A0_1 l0_1.length c0_1, .slice A0_2 l0_2.length c0_2, .slice A0_3 l0_3.length c0_3, .bool a0_4, .slice A0_5 l0_5.length c0_5] 26 (0, 0)) ∧ wc.heap[w.heap.size + 1]? = some (.cells #[.bool false] 4 (0, 0)) ∧ wc.heap[w.heap.size + 1 + 1]? = some (.cells #[.string (⟨#[]⟩ : ByteArray)] 9 (0, 0)) ∧ Below w.heap.size w wc := by
  subst hwc
  refine ⟨blk_alloc (blk_alloc (heap_alloc_new w _) _) _, blk_alloc ?_ _, ?_, below_alloc (below_alloc (below_alloc (Below.refl _ _) _) _) _⟩
  ·simpa using heap_alloc_new (w.alloc (.cells #[.string a0_0, .slice A0_1 l0_1.length c0_1, .slice A0_2 l0_2.length c0_2, .slice A0_3 l0_3.length c0_3, .bool a0_4, .slice A0_5 l0_5.length c0_5] 26)) (.cells #[.bool false] 4)
  ·simpa using heap_alloc_new ((w.alloc (.cells #[.string a0_0, .slice A0_1 l0_1.length c0_1, .slice A0_2 l0_2.length c0_2, .slice A0_3 l0_3.length c0_3, .bool a0_4, .slice A0_5 l0_5.length c0_5] 26)).alloc (.cells #[.bool false] 4)) (.cells #[.string (⟨#[]⟩ : ByteArray)] 9)
 clear hwc
 have HB0 := Aside0.mk HW.2.2.2
 have K := Aside0.mk (state_Right.keep HW.1 HW.2.1 HW.2.2.1)
 have KB := Aside0.mk (Below.refl wc.heap.size wc)
 clear HW
 have z0 := (blk_cell (K.out _ KB.out).1 0).trans rfl
 have z1 := (blk_cell (K.out _ KB.out).1 1).trans rfl
 have z2 := (blk_cell (K.out _ KB.out).1 2).trans rfl
 have z3 := (blk_cell (K.out _ KB.out).1 3).trans rfl
 have z4 := (blk_cell (K.out _ KB.out).1 4).trans rfl
 have z5 := (blk_cell (K.out _ KB.out).1 5).trans rfl
 have f1 := blk_frozen (K.out _ KB.out).2.1 0
 have f2 := blk_frozen (K.out _ KB.out).2.2 0
 have x1 := (blk_cell (K.out _ KB.out).2.1 0).trans rfl
 have x2 := (blk_cell (K.out _ KB.out).2.2 0).trans rfl
 replace H := H.out
 unfold state_Right.f at H
 by_cases c0 : 4096 < a0_0.size
 ·rw [if_pos c0] at H
  have d0 : decide (4096 < (a0_0.size : Int)) = true := decide_eq_true (by omega)
  obtain rfl := Option.some.inj H
  clear H
  go_wp2_with fail
  exact state_Right.early k HB0.out KB.out (K.out _ KB.out) HC2.out Hc2.out HC3.out Hc3.out rfl
 rw [if_neg c0] at H
 have d0 : decide (4096 < (a0_0.size : Int)) = false := decide_eq_false (by omega)
 obtain ⟨v, hA, H⟩ := Option.bind_eq_some_iff.mp H
 have HA1 := Aside0.mk hA
 clear hA
 cases v with
 | false =>
  obtain rfl := Option.some.inj H
  clear H
  go_wp2_with (first | (go_at_call 20; (with_reducible refine (utf_Valid.calls k a0_0 false _ HA1.out).mono ?_); rintro e w2 ⟨rfl, hb⟩; replace KB := Aside0.mk (KB.out.trans (hb.mono KB.out.size)); clear hb; (try clear z0 z1 z2 z3 z4 z5 f1 f2 x1 x2); have z0 := (blk_cell (K.out _ KB.out).1 0).trans rfl; have z1 := (blk_cell (K.out _ KB.out).1 1).trans rfl; have z2 := (blk_cell (K.out _ KB.out).1 2).trans rfl; have z3 := (blk_cell (K.out _ KB.out).1 3).trans rfl; have z4 := (blk_cell (K.out _ KB.out).1 4).trans rfl; have z5 := (blk_cell (K.out _ KB.out).1 5).trans rfl; have f1 := blk_frozen (K.out _ KB.out).2.1 0; have f2 := blk_frozen (K.out _ KB.out).2.2 0; have x1 := (blk_cell (K.out _ KB.out).2.1 0).trans rfl; have x2 := (blk_cell (K.out _ KB.out).2.2 0).trans rfl))
  exact state_Right.early k HB0.out KB.out (K.out _ KB.out) HC2.out Hc2.out HC3.out Hc3.out rfl
 | true =>
 rw [if_pos rfl] at H
 obtain ⟨m, hA, H⟩ := Option.bind_eq_some_iff.mp H
 have HA2 := Aside0.mk hA
 clear hA
 cases m with
 | false =>
  obtain rfl := Option.some.inj H
  clear H
  go_wp2_with (first | (go_at_call 20; (with_reducible refine (utf_Valid.calls k a0_0 true _ HA1.out).mono ?_); rintro e w2 ⟨rfl, hb⟩; replace KB := Aside0.mk (KB.out.trans (hb.mono KB.out.size)); clear hb; (try clear z0 z1 z2 z3 z4 z5 f1 f2 x1 x2); have z0 := (blk_cell (K.out _ KB.out).1 0).trans rfl; have z1 := (blk_cell (K.out _ KB.out).1 1).trans rfl; have z2 := (blk_cell (K.out _ KB.out).1 2).trans rfl; have z3 := (blk_cell (K.out _ KB.out).1 3).trans rfl; have z4 := (blk_cell (K.out _ KB.out).1 4).trans rfl; have z5 := (blk_cell (K.out _ KB.out).1 5).trans rfl; have f1 := blk_frozen (K.out _ KB.out).2.1 0; have f2 := blk_frozen (K.out _ KB.out).2.2 0; have x1 := (blk_cell (K.out _ KB.out).2.1 0).trans rfl; have x2 := (blk_cell (K.out _ KB.out).2.2 0).trans rfl) | (go_at_call 21; (with_reducible refine (marks_Right.calls k A0_1 c0_1 l0_1 a0_0 false _ (Kd.C_below HC1.out (HB0.out.trans (KB.out.mono HB0.out.size))) Hc1.out HA2.out).mono ?_); rintro e w2 ⟨rfl, hb⟩; replace KB := Aside0.mk (KB.out.trans (hb.mono KB.out.size)); clear hb; (try clear z0 z1 z2 z3 z4 z5 f1 f2 x1 x2); have z0 := (blk_cell (K.out _ KB.out).1 0).trans rfl; have z1 := (blk_cell (K.out _ KB.out).1 1).trans rfl; have z2 := (blk_cell (K.out _ KB.out).1 2).trans rfl; have z3 := (blk_cell (K.out _ KB.out).1 3).trans rfl; have z4 := (blk_cell (K.out _ KB.out).1 4).trans rfl; have z5 := (blk_cell (K.out _ KB.out).1 5).trans rfl; have f1 := blk_frozen (K.out _ KB.out).2.1 0; have f2 := blk_frozen (K.out _ KB.out).2.2 0; have x1 := (blk_cell (K.out _ KB.out).2.1 0).trans rfl; have x2 := (blk_cell (K.out _ KB.out).2.2 0).trans rfl))
  exact state_Right.early k HB0.out KB.out (K.out _ KB.out) HC2.out Hc2.out HC3.out Hc3.out rfl
 | true =>
 rw [if_pos rfl] at H
 obtain ⟨e, hA, H⟩ := Option.bind_eq_some_iff.mp H
 have HA3 := Aside0.mk hA
 clear hA
 cases e with
 | false =>
  obtain rfl := Option.some.inj H
  clear H
  go_wp2_with (first | (go_at_call 20; (with_reducible refine (utf_Valid.calls k a0_0 true _ HA1.out).mono ?_); rintro e w2 ⟨rfl, hb⟩; replace KB := Aside0.mk (KB.out.trans (hb.mono KB.out.size)); clear hb; (try clear z0 z1 z2 z3 z4 z5 f1 f2 x1 x2); have z0 := (blk_cell (K.out _ KB.out).1 0).trans rfl; have z1 := (blk_cell (K.out _ KB.out).1 1).trans rfl; have z2 := (blk_cell (K.out _ KB.out).1 2).trans rfl; have z3 := (blk_cell (K.out _ KB.out).1 3).trans rfl; have z4 := (blk_cell (K.out _ KB.out).1 4).trans rfl; have z5 := (blk_cell (K.out _ KB.out).1 5).trans rfl; have f1 := blk_frozen (K.out _ KB.out).2.1 0; have f2 := blk_frozen (K.out _ KB.out).2.2 0; have x1 := (blk_cell (K.out _ KB.out).2.1 0).trans rfl; have x2 := (blk_cell (K.out _ KB.out).2.2 0).trans rfl) | (go_at_call 21; (with_reducible refine (marks_Right.calls k A0_1 c0_1 l0_1 a0_0 true _ (Kd.C_below HC1.out (HB0.out.trans (KB.out.mono HB0.out.size))) Hc1.out HA2.out).mono ?_); rintro e w2 ⟨rfl, hb⟩; replace KB := Aside0.mk (KB.out.trans (hb.mono KB.out.size)); clear hb; (try clear z0 z1 z2 z3 z4 z5 f1 f2 x1 x2); have z0 := (blk_cell (K.out _ KB.out).1 0).trans rfl; have z1 := (blk_cell (K.out _ KB.out).1 1).trans rfl; have z2 := (blk_cell (K.out _ KB.out).1 2).trans rfl; have z3 := (blk_cell (K.out _ KB.out).1 3).trans rfl; have z4 := (blk_cell (K.out _ KB.out).1 4).trans rfl; have z5 := (blk_cell (K.out _ KB.out).1 5).trans rfl; have f1 := blk_frozen (K.out _ KB.out).2.1 0; have f2 := blk_frozen (K.out _ KB.out).2.2 0; have x1 := (blk_cell (K.out _ KB.out).2.1 0).trans rfl; have x2 := (blk_cell (K.out _ KB.out).2.2 0).trans rfl) | (go_at_call 22; (with_reducible refine (state_edits.calls k A0_5 c0_5 l0_5 false _ (Kd.C_below HC5.out (HB0.out.trans (KB.out.mono HB0.out.size))) Hc5.out HA3.out).mono ?_); rintro e w2 ⟨rfl, hb⟩; replace KB := Aside0.mk (KB.out.trans (hb.mono KB.out.size)); clear hb; (try clear z0 z1 z2 z3 z4 z5 f1 f2 x1 x2); have z0 := (blk_cell (K.out _ KB.out).1 0).trans rfl; have z1 := (blk_cell (K.out _ KB.out).1 1).trans rfl; have z2 := (blk_cell (K.out _ KB.out).1 2).trans rfl; have z3 := (blk_cell (K.out _ KB.out).1 3).trans rfl; have z4 := (blk_cell (K.out _ KB.out).1 4).trans rfl; have z5 := (blk_cell (K.out _ KB.out).1 5).trans rfl; have f1 := blk_frozen (K.out _ KB.out).2.1 0; have f2 := blk_frozen (K.out _ KB.out).2.2 0; have x1 := (blk_cell (K.out _ KB.out).2.1 0).trans rfl; have x2 := (blk_cell (K.out _ KB.out).2.2 0).trans rfl))
  exact state_Right.early k HB0.out KB.out (K.out _ KB.out) HC2.out Hc2.out HC3.out Hc3.out rfl
 | true =>
 rw [if_pos rfl] at H
 obtain ⟨s, hA, H⟩ := Option.bind_eq_some_iff.mp H
 have HA4 := Aside0.mk hA
 clear hA
 cases s with
 | false =>
  obtain rfl := Option.some.inj H
  clear H
  go_wp2_with (first | (go_at_call 20; (with_reducible refine (utf_Valid.calls k a0_0 true _ HA1.out).mono ?_); rintro e w2 ⟨rfl, hb⟩; replace KB := Aside0.mk (KB.out.trans (hb.mono KB.out.size)); clear hb; (try clear z0 z1 z2 z3 z4 z5 f1 f2 x1 x2); have z0 := (blk_cell (K.out _ KB.out).1 0).trans rfl; have z1 := (blk_cell (K.out _ KB.out).1 1).trans rfl; have z2 := (blk_cell (K.out _ KB.out).1 2).trans rfl; have z3 := (blk_cell (K.out _ KB.out).1 3).trans rfl; have z4 := (blk_cell (K.out _ KB.out).1 4).trans rfl; have z5 := (blk_cell (K.out _ KB.out).1 5).trans rfl; have f1 := blk_frozen (K.out _ KB.out).2.1 0; have f2 := blk_frozen (K.out _ KB.out).2.2 0; have x1 := (blk_cell (K.out _ KB.out).2.1 0).trans rfl; have x2 := (blk_cell (K.out _ KB.out).2.2 0).trans rfl) | (go_at_call 21; (with_reducible refine (marks_Right.calls k A0_1 c0_1 l0_1 a0_0 true _ (Kd.C_below HC1.out (HB0.out.trans (KB.out.mono HB0.out.size))) Hc1.out HA2.out).mono ?_); rintro e w2 ⟨rfl, hb⟩; replace KB := Aside0.mk (KB.out.trans (hb.mono KB.out.size)); clear hb; (try clear z0 z1 z2 z3 z4 z5 f1 f2 x1 x2); have z0 := (blk_cell (K.out _ KB.out).1 0).trans rfl; have z1 := (blk_cell (K.out _ KB.out).1 1).trans rfl; have z2 := (blk_cell (K.out _ KB.out).1 2).trans rfl; have z3 := (blk_cell (K.out _ KB.out).1 3).trans rfl; have z4 := (blk_cell (K.out _ KB.out).1 4).trans rfl; have z5 := (blk_cell (K.out _ KB.out).1 5).trans rfl; have f1 := blk_frozen (K.out _ KB.out).2.1 0; have f2 := blk_frozen (K.out _ KB.out).2.2 0; have x1 := (blk_cell (K.out _ KB.out).2.1 0).trans rfl; have x2 := (blk_cell (K.out _ KB.out).2.2 0).trans rfl) | (go_at_call 22; (with_reducible refine (state_edits.calls k A0_5 c0_5 l0_5 true _ (Kd.C_below HC5.out (HB0.out.trans (KB.out.mono HB0.out.size))) Hc5.out HA3.out).mono ?_); rintro e w2 ⟨rfl, hb⟩; replace KB := Aside0.mk (KB.out.trans (hb.mono KB.out.size)); clear hb; (try clear z0 z1 z2 z3 z4 z5 f1 f2 x1 x2); have z0 := (blk_cell (K.out _ KB.out).1 0).trans rfl; have z1 := (blk_cell (K.out _ KB.out).1 1).trans rfl; have z2 := (blk_cell (K.out _ KB.out).1 2).trans rfl; have z3 := (blk_cell (K.out _ KB.out).1 3).trans rfl; have z4 := (blk_cell (K.out _ KB.out).1 4).trans rfl; have z5 := (blk_cell (K.out _ KB.out).1 5).trans rfl; have f1 := blk_frozen (K.out _ KB.out).2.1 0; have f2 := blk_frozen (K.out _ KB.out).2.2 0; have x1 := (blk_cell (K.out _ KB.out).2.1 0).trans rfl; have x2 := (blk_cell (K.out _ KB.out).2.2 0).trans rfl) | (go_at_call 23; (with_reducible refine (state_steps.calls k A0_2 c0_2 l0_2 false _ (Kd.C_below HC2.out (HB0.out.trans (KB.out.mono HB0.out.size))) Hc2.out HA4.out).mono ?_); rintro e w2 ⟨rfl, hb⟩; replace KB := Aside0.mk (KB.out.trans (hb.mono KB.out.size)); clear hb; (try clear z0 z1 z2 z3 z4 z5 f1 f2 x1 x2); have z0 := (blk_cell (K.out _ KB.out).1 0).trans rfl; have z1 := (blk_cell (K.out _ KB.out).1 1).trans rfl; have z2 := (blk_cell (K.out _ KB.out).1 2).trans rfl; have z3 := (blk_cell (K.out _ KB.out).1 3).trans rfl; have z4 := (blk_cell (K.out _ KB.out).1 4).trans rfl; have z5 := (blk_cell (K.out _ KB.out).1 5).trans rfl; have f1 := blk_frozen (K.out _ KB.out).2.1 0; have f2 := blk_frozen (K.out _ KB.out).2.2 0; have x1 := (blk_cell (K.out _ KB.out).2.1 0).trans rfl; have x2 := (blk_cell (K.out _ KB.out).2.2 0).trans rfl))
  exact state_Right.early k HB0.out KB.out (K.out _ KB.out) HC2.out Hc2.out HC3.out Hc3.out rfl
 | true =>
 rw [if_pos rfl] at H
 obtain ⟨t, hA, H⟩ := Option.bind_eq_some_iff.mp H
 have HA5 := Aside0.mk hA
 clear hA
 cases t with
 | false =>
  obtain rfl := Option.some.inj H
  clear H
  go_wp2_with (first | (go_at_call 20; (with_reducible refine (utf_Valid.calls k a0_0 true _ HA1.out).mono ?_); rintro e w2 ⟨rfl, hb⟩; replace KB := Aside0.mk (KB.out.trans (hb.mono KB.out.size)); clear hb; (try clear z0 z1 z2 z3 z4 z5 f1 f2 x1 x2); have z0 := (blk_cell (K.out _ KB.out).1 0).trans rfl; have z1 := (blk_cell (K.out _ KB.out).1 1).trans rfl; have z2 := (blk_cell (K.out _ KB.out).1 2).trans rfl; have z3 := (blk_cell (K.out _ KB.out).1 3).trans rfl; have z4 := (blk_cell (K.out _ KB.out).1 4).trans rfl; have z5 := (blk_cell (K.out _ KB.out).1 5).trans rfl; have f1 := blk_frozen (K.out _ KB.out).2.1 0; have f2 := blk_frozen (K.out _ KB.out).2.2 0; have x1 := (blk_cell (K.out _ KB.out).2.1 0).trans rfl; have x2 := (blk_cell (K.out _ KB.out).2.2 0).trans rfl) | (go_at_call 21; (with_reducible refine (marks_Right.calls k A0_1 c0_1 l0_1 a0_0 true _ (Kd.C_below HC1.out (HB0.out.trans (KB.out.mono HB0.out.size))) Hc1.out HA2.out).mono ?_); rintro e w2 ⟨rfl, hb⟩; replace KB := Aside0.mk (KB.out.trans (hb.mono KB.out.size)); clear hb; (try clear z0 z1 z2 z3 z4 z5 f1 f2 x1 x2); have z0 := (blk_cell (K.out _ KB.out).1 0).trans rfl; have z1 := (blk_cell (K.out _ KB.out).1 1).trans rfl; have z2 := (blk_cell (K.out _ KB.out).1 2).trans rfl; have z3 := (blk_cell (K.out _ KB.out).1 3).trans rfl; have z4 := (blk_cell (K.out _ KB.out).1 4).trans rfl; have z5 := (blk_cell (K.out _ KB.out).1 5).trans rfl; have f1 := blk_frozen (K.out _ KB.out).2.1 0; have f2 := blk_frozen (K.out _ KB.out).2.2 0; have x1 := (blk_cell (K.out _ KB.out).2.1 0).trans rfl; have x2 := (blk_cell (K.out _ KB.out).2.2 0).trans rfl) | (go_at_call 22; (with_reducible refine (state_edits.calls k A0_5 c0_5 l0_5 true _ (Kd.C_below HC5.out (HB0.out.trans (KB.out.mono HB0.out.size))) Hc5.out HA3.out).mono ?_); rintro e w2 ⟨rfl, hb⟩; replace KB := Aside0.mk (KB.out.trans (hb.mono KB.out.size)); clear hb; (try clear z0 z1 z2 z3 z4 z5 f1 f2 x1 x2); have z0 := (blk_cell (K.out _ KB.out).1 0).trans rfl; have z1 := (blk_cell (K.out _ KB.out).1 1).trans rfl; have z2 := (blk_cell (K.out _ KB.out).1 2).trans rfl; have z3 := (blk_cell (K.out _ KB.out).1 3).trans rfl; have z4 := (blk_cell (K.out _ KB.out).1 4).trans rfl; have z5 := (blk_cell (K.out _ KB.out).1 5).trans rfl; have f1 := blk_frozen (K.out _ KB.out).2.1 0; have f2 := blk_frozen (K.out _ KB.out).2.2 0; have x1 := (blk_cell (K.out _ KB.out).2.1 0).trans rfl; have x2 := (blk_cell (K.out _ KB.out).2.2 0).trans rfl) | (go_at_call 23; (with_reducible refine (state_steps.calls k A0_2 c0_2 l0_2 true _ (Kd.C_below HC2.out (HB0.out.trans (KB.out.mono HB0.out.size))) Hc2.out HA4.out).mono ?_); rintro e w2 ⟨rfl, hb⟩; replace KB := Aside0.mk (KB.out.trans (hb.mono KB.out.size)); clear hb; (try clear z0 z1 z2 z3 z4 z5 f1 f2 x1 x2); have z0 := (blk_cell (K.out _ KB.out).1 0).trans rfl; have z1 := (blk_cell (K.out _ KB.out).1 1).trans rfl; have z2 := (blk_cell (K.out _ KB.out).1 2).trans rfl; have z3 := (blk_cell (K.out _ KB.out).1 3).trans rfl; have z4 := (blk_cell (K.out _ KB.out).1 4).trans rfl; have z5 := (blk_cell (K.out _ KB.out).1 5).trans rfl; have f1 := blk_frozen (K.out _ KB.out).2.1 0; have f2 := blk_frozen (K.out _ KB.out).2.2 0; have x1 := (blk_cell (K.out _ KB.out).2.1 0).trans rfl; have x2 := (blk_cell (K.out _ KB.out).2.2 0).trans rfl) | (go_at_call 23; (with_reducible refine (state_steps.calls k A0_3 c0_3 l0_3 false _ (Kd.C_below HC3.out (HB0.out.trans (KB.out.mono HB0.out.size))) Hc3.out HA5.out).mono ?_); rintro e w2 ⟨rfl, hb⟩; replace KB := Aside0.mk (KB.out.trans (hb.mono KB.out.size)); clear hb; (try clear z0 z1 z2 z3 z4 z5 f1 f2 x1 x2); have z0 := (blk_cell (K.out _ KB.out).1 0).trans rfl; have z1 := (blk_cell (K.out _ KB.out).1 1).trans rfl; have z2 := (blk_cell (K.out _ KB.out).1 2).trans rfl; have z3 := (blk_cell (K.out _ KB.out).1 3).trans rfl; have z4 := (blk_cell (K.out _ KB.out).1 4).trans rfl; have z5 := (blk_cell (K.out _ KB.out).1 5).trans rfl; have f1 := blk_frozen (K.out _ KB.out).2.1 0; have f2 := blk_frozen (K.out _ KB.out).2.2 0; have x1 := (blk_cell (K.out _ KB.out).2.1 0).trans rfl; have x2 := (blk_cell (K.out _ KB.out).2.2 0).trans rfl))
  exact state_Right.early k HB0.out KB.out (K.out _ KB.out) HC2.out Hc2.out HC3.out Hc3.out rfl
 | true =>
 rw [if_pos rfl] at H
 obtain ⟨⟨ob, ok⟩, hA, H⟩ := Option.bind_eq_some_iff.mp H
 have HA6 := Aside0.mk hA
 clear hA
 replace H : state_Right.last k ok ob a0_0 l0_2 l0_3 = some r := H
 have HL := Aside0.mk H
 clear H
 go_wp2_with (first | (go_at_call 20; (with_reducible refine (utf_Valid.calls k a0_0 true _ HA1.out).mono ?_); rintro e w2 ⟨rfl, hb⟩; replace KB := Aside0.mk (KB.out.trans (hb.mono KB.out.size)); clear hb; (try clear z0 z1 z2 z3 z4 z5 f1 f2 x1 x2); have z0 := (blk_cell (K.out _ KB.out).1 0).trans rfl; have z1 := (blk_cell (K.out _ KB.out).1 1).trans rfl; have z2 := (blk_cell (K.out _ KB.out).1 2).trans rfl; have z3 := (blk_cell (K.out _ KB.out).1 3).trans rfl; have z4 := (blk_cell (K.out _ KB.out).1 4).trans rfl; have z5 := (blk_cell (K.out _ KB.out).1 5).trans rfl; have f1 := blk_frozen (K.out _ KB.out).2.1 0; have f2 := blk_frozen (K.out _ KB.out).2.2 0; have x1 := (blk_cell (K.out _ KB.out).2.1 0).trans rfl; have x2 := (blk_cell (K.out _ KB.out).2.2 0).trans rfl) | (go_at_call 21; (with_reducible refine (marks_Right.calls k A0_1 c0_1 l0_1 a0_0 true _ (Kd.C_below HC1.out (HB0.out.trans (KB.out.mono HB0.out.size))) Hc1.out HA2.out).mono ?_); rintro e w2 ⟨rfl, hb⟩; replace KB := Aside0.mk (KB.out.trans (hb.mono KB.out.size)); clear hb; (try clear z0 z1 z2 z3 z4 z5 f1 f2 x1 x2); have z0 := (blk_cell (K.out _ KB.out).1 0).trans rfl; have z1 := (blk_cell (K.out _ KB.out).1 1).trans rfl; have z2 := (blk_cell (K.out _ KB.out).1 2).trans rfl; have z3 := (blk_cell (K.out _ KB.out).1 3).trans rfl; have z4 := (blk_cell (K.out _ KB.out).1 4).trans rfl; have z5 := (blk_cell (K.out _ KB.out).1 5).trans rfl; have f1 := blk_frozen (K.out _ KB.out).2.1 0; have f2 := blk_frozen (K.out _ KB.out).2.2 0; have x1 := (blk_cell (K.out _ KB.out).2.1 0).trans rfl; have x2 := (blk_cell (K.out _ KB.out).2.2 0).trans rfl) | (go_at_call 22; (with_reducible refine (state_edits.calls k A0_5 c0_5 l0_5 true _ (Kd.C_below HC5.out (HB0.out.trans (KB.out.mono HB0.out.size))) Hc5.out HA3.out).mono ?_); rintro e w2 ⟨rfl, hb⟩; replace KB := Aside0.mk (KB.out.trans (hb.mono KB.out.size)); clear hb; (try clear z0 z1 z2 z3 z4 z5 f1 f2 x1 x2); have z0 := (blk_cell (K.out _ KB.out).1 0).trans rfl; have z1 := (blk_cell (K.out _ KB.out).1 1).trans rfl; have z2 := (blk_cell (K.out _ KB.out).1 2).trans rfl; have z3 := (blk_cell (K.out _ KB.out).1 3).trans rfl; have z4 := (blk_cell (K.out _ KB.out).1 4).trans rfl; have z5 := (blk_cell (K.out _ KB.out).1 5).trans rfl; have f1 := blk_frozen (K.out _ KB.out).2.1 0; have f2 := blk_frozen (K.out _ KB.out).2.2 0; have x1 := (blk_cell (K.out _ KB.out).2.1 0).trans rfl; have x2 := (blk_cell (K.out _ KB.out).2.2 0).trans rfl) | (go_at_call 23; (with_reducible refine (state_steps.calls k A0_2 c0_2 l0_2 true _ (Kd.C_below HC2.out (HB0.out.trans (KB.out.mono HB0.out.size))) Hc2.out HA4.out).mono ?_); rintro e w2 ⟨rfl, hb⟩; replace KB := Aside0.mk (KB.out.trans (hb.mono KB.out.size)); clear hb; (try clear z0 z1 z2 z3 z4 z5 f1 f2 x1 x2); have z0 := (blk_cell (K.out _ KB.out).1 0).trans rfl; have z1 := (blk_cell (K.out _ KB.out).1 1).trans rfl; have z2 := (blk_cell (K.out _ KB.out).1 2).trans rfl; have z3 := (blk_cell (K.out _ KB.out).1 3).trans rfl; have z4 := (blk_cell (K.out _ KB.out).1 4).trans rfl; have z5 := (blk_cell (K.out _ KB.out).1 5).trans rfl; have f1 := blk_frozen (K.out _ KB.out).2.1 0; have f2 := blk_frozen (K.out _ KB.out).2.2 0; have x1 := (blk_cell (K.out _ KB.out).2.1 0).trans rfl; have x2 := (blk_cell (K.out _ KB.out).2.2 0).trans rfl) | (go_at_call 23; (with_reducible refine (state_steps.calls k A0_3 c0_3 l0_3 true _ (Kd.C_below HC3.out (HB0.out.trans (KB.out.mono HB0.out.size))) Hc3.out HA5.out).mono ?_); rintro e w2 ⟨rfl, hb⟩; replace KB := Aside0.mk (KB.out.trans (hb.mono KB.out.size)); clear hb; (try clear z0 z1 z2 z3 z4 z5 f1 f2 x1 x2); have z0 := (blk_cell (K.out _ KB.out).1 0).trans rfl; have z1 := (blk_cell (K.out _ KB.out).1 1).trans rfl; have z2 := (blk_cell (K.out _ KB.out).1 2).trans rfl; have z3 := (blk_cell (K.out _ KB.out).1 3).trans rfl; have z4 := (blk_cell (K.out _ KB.out).1 4).trans rfl; have z5 := (blk_cell (K.out _ KB.out).1 5).trans rfl; have f1 := blk_frozen (K.out _ KB.out).2.1 0; have f2 := blk_frozen (K.out _ KB.out).2.2 0; have x1 := (blk_cell (K.out _ KB.out).2.1 0).trans rfl; have x2 := (blk_cell (K.out _ KB.out).2.2 0).trans rfl) | (go_at_call 24; (with_reducible refine (state_ahead.calls k a0_0 A0_1 c0_1 l0_1 A0_2 c0_2 l0_2 A0_3 c0_3 l0_3 a0_4 A0_5 c0_5 l0_5 ob ok _ (Kd.C_below HC1.out (HB0.out.trans (KB.out.mono HB0.out.size))) Hc1.out (Kd.C_below HC2.out (HB0.out.trans (KB.out.mono HB0.out.size))) Hc2.out (Kd.C_below HC3.out (HB0.out.trans (KB.out.mono HB0.out.size))) Hc3.out (Kd.C_below HC5.out (HB0.out.trans (KB.out.mono HB0.out.size))) Hc5.out HA6.out).mono ?_); rintro e w2 ⟨rfl, hb⟩; replace KB := Aside0.mk (KB.out.trans (hb.mono KB.out.size)); clear hb; (try clear z0 z1 z2 z3 z4 z5 f1 f2 x1 x2); have z0 := (blk_cell (K.out _ KB.out).1 0).trans rfl; have z1 := (blk_cell (K.out _ KB.out).1 1).trans rfl; have z2 := (blk_cell (K.out _ KB.out).1 2).trans rfl; have z3 := (blk_cell (K.out _ KB.out).1 3).trans rfl; have z4 := (blk_cell (K.out _ KB.out).1 4).trans rfl; have z5 := (blk_cell (K.out _ KB.out).1 5).trans rfl; have f1 := blk_frozen (K.out _ KB.out).2.1 0; have f2 := blk_frozen (K.out _ KB.out).2.2 0; have x1 := (blk_cell (K.out _ KB.out).2.1 0).trans rfl; have x2 := (blk_cell (K.out _ KB.out).2.2 0).trans rfl))
 exact state_Right.final k HB0.out KB.out (K.out _ KB.out) HC2.out Hc2.out HC3.out Hc3.out HL.out rfl
/-! ### state_natural: function 68 -/
def state_natural.f : Nat → Int → Option (ByteArray)
 | 0, _ => none
 | k + 1, a0 => (some (([(IntKind.u64.wrap (48 + (Int.tmod a0 10))) % 256] : List Int) : List Int)).bind fun y161 => (if a0 < 10 then (some (strOfNums y161)) else ((state_natural.f k (IntKind.u64.wrap (Int.tdiv a0 10))).bind fun t164 => (if t164.size + (strOfNums y161).size ≤ 9223372036854775807 then (some (t164 ++ (strOfNums y161))) else (none))))
theorem state_natural.mono_l : ∀ k, (∀ y0, LeO (state_natural.f k y0) (state_natural.f (k + 1) y0))
 | 0 => fun _ r h => by simp [state_natural.f] at h
 | k + 1 => by
  have ih0 := state_natural.mono_l k
  ·intro y0
   unfold state_natural.f
   repeat' first
   | (with_reducible exact ih0 _)
   | (with_reducible exact LeO.refl _)
   | (with_reducible exact LeO.none _)
   | (with_reducible refine LeO.ite ?_ ?_)
   | (with_reducible refine LeO.bind ?_ (fun _ => ?_))
   | exact ih0 _
   | exact LeO.none _
   | refine LeO.ite ?_ ?_
   | refine LeO.bind ?_ (fun _ => ?_)
theorem state_natural.mono : ∀ a0 k, LeO (state_natural.f k a0) (state_natural.f (k + 1) a0) := by
 intro a0 k
 have ih0 := state_natural.mono_l k
 exact ih0 a0
set_option maxHeartbeats 8000000 in
set_option maxRecDepth 100000 in
theorem state_natural.calls (k : Nat) : ∀ (a0 : Int) (r : ByteArray) (w : World) (h : state_natural.f k a0 = some r),
  Calls Try.prog 68 #[.int .u64 a0] w fun e w' => e = .returned (.string r) ∧ Below w.heap.size w w' := by
 induction k using Nat.strongRecOn with
 | _ k ih =>
 intro a0 r w h
 cases k with
 | zero => exact absurd h (by simp [state_natural.f])
 | succ k =>
 simp only [state_natural.f] at h
 have HB := Aside0.mk (Below.refl w.heap.size w)
 have H : ((some (([(IntKind.u64.wrap (48 + (Int.tmod a0 10))) % 256] : List Int) : List Int)).bind fun y161 => (if a0 < 10 then (some (strOfNums y161)) else ((state_natural.f k (IntKind.u64.wrap (Int.tdiv a0 10))).bind fun t164 => (if t164.size + (strOfNums y161).size ≤ 9223372036854775807 then (some (t164 ++ (strOfNums y161))) else (none))))) = some r := h
 clear h
 obtain ⟨y161, hy161⟩ : ∃ y_ : List Int, y_ = (([(IntKind.u64.wrap (48 + (Int.tmod a0 10))) % 256] : List Int)) := ⟨_, rfl⟩
 replace H : (if a0 < 10 then (some (strOfNums y161)) else ((state_natural.f k (IntKind.u64.wrap (Int.tdiv a0 10))).bind fun t164 => (if t164.size + (strOfNums y161).size ≤ 9223372036854775807 then (some (t164 ++ (strOfNums y161))) else (none)))) = some r := by first | (rw [hy161]; with_reducible exact H) | (have H2_ := (Option.bind_some _ _).symm.trans H; rw [hy161]; with_reducible exact H2_) | (have H2_ := (Option.bind_some _ _).symm.trans H; with_reducible exact H2_) | with_reducible exact H | (rw [hy161]; exact H) | exact H
 have Ny161 := Aside0.mk hy161
 clear hy161
 by_cases c2 : a0 < 10
 ·rw [if_pos c2] at H
  have c2b0 : decide (a0 < 10) = true := decide_eq_true c2
  clear c2
  obtain rfl := Option.some.inj H
  go_enter Try.func68, Try.ntmps68
  go_wp2_with (first | ((with_reducible refine gate_dst (N := 8) rfl ?_); refine Kd.R_lit (Kd.int .u8) _ 5 ?hg (N := 8) ?hd (xs := ([(IntKind.u64.wrap (48 + (Int.tmod a0 10))) % 256] : List Int)) (inner := [.int .u8 ((IntKind.u64.wrap (48 + (Int.tmod a0 10))) % 256)]) (ok := fun _ => True) (okp := fun _ => True) ?hr ?hp (fun _ hk => hk) trivial (Below.refl _ _) (Nat.le_refl _) (by simp) ?_; (case hd => rfl); (case hg => rfl); (case hr => first | (go_simp; done) | (go_simp; rfl)); (case hp => exact (Reps.one (show Kd.M (Kd.int .u8) _ _ _ ((IntKind.u64.wrap (48 + (Int.tmod a0 10))) % 256) [.int .u8 ((IntKind.u64.wrap (48 + (Int.tmod a0 10))) % 256)] from rfl) (Reps.none _ _))); intro v162 w3 ho4 hb hg_ hnew_; clear hg_ hnew_; (first | rw [← Ny161.out] at ho4 | (simp only [Int.reduceToNat] at ho4; rw [← Ny161.out] at ho4)); have n0_ := Aside0.mk (Kd.R_lower ho4 (below_size (by repeat (first | (with_reducible first | exact HB.out | apply below_alloc | apply pw_below_drewN | apply below_drew1) | exact HB.out)))); have n1_ := Aside0.mk (below_step (by repeat (first | (with_reducible first | exact HB.out | apply below_alloc | apply pw_below_drewN | apply below_drew1) | exact HB.out)) hb); clear HB; have HO163 := n0_; have HB := n1_; clear n0_ n1_; clear hb ho4; have hcv5 := own_string (P := Try.prog) Try.underlying52 Try.underlying5 Try.underlying9 (Kd.own_of_R HO163.out)))
  go_ret
  exact ⟨by first | rfl | (simp [errW_none, errW_some] <;> rfl) | (simp [*, errW_none, errW_some] <;> rfl), by repeat (first | (with_reducible first | exact HB.out | apply below_alloc | apply pw_below_drewN | apply below_drew1) | exact HB.out)⟩
 ·rw [if_neg c2] at H
  have c2b0 : decide (a0 < 10) = false := decide_eq_false c2
  clear c2
  replace H := Option.bind_eq_some_iff.mp H
  obtain ⟨t164, A60, H⟩ := H
  replace H : (if t164.size + (strOfNums y161).size ≤ 9223372036854775807 then (some (t164 ++ (strOfNums y161))) else (none)) = some r := H
  have A6 := Aside0.mk A60
  clear A60
  by_cases c7 : t164.size + (strOfNums y161).size ≤ 9223372036854775807
  ·rw [if_pos c7] at H
   have c7b0 := eq_true c7
   have c7b1 : decide (t164.size + (strOfNums y161).size ≤ 9223372036854775807) = true := decide_eq_true c7
   try have c7b2 : (9223372036854775807 < t164.size + (strOfNums y161).size) = False := eq_false (Nat.not_lt.2 c7)
   obtain rfl := Option.some.inj H
   go_enter Try.func68, Try.ntmps68
   go_wp2_with (first | ((with_reducible refine gate_dst (N := 8) rfl ?_); refine Kd.R_lit (Kd.int .u8) _ 5 ?hg (N := 8) ?hd (xs := ([(IntKind.u64.wrap (48 + (Int.tmod a0 10))) % 256] : List Int)) (inner := [.int .u8 ((IntKind.u64.wrap (48 + (Int.tmod a0 10))) % 256)]) (ok := fun _ => True) (okp := fun _ => True) ?hr ?hp (fun _ hk => hk) trivial (Below.refl _ _) (Nat.le_refl _) (by simp) ?_; (case hd => rfl); (case hg => rfl); (case hr => first | (go_simp; done) | (go_simp; rfl)); (case hp => exact (Reps.one (show Kd.M (Kd.int .u8) _ _ _ ((IntKind.u64.wrap (48 + (Int.tmod a0 10))) % 256) [.int .u8 ((IntKind.u64.wrap (48 + (Int.tmod a0 10))) % 256)] from rfl) (Reps.none _ _))); intro v162 w8 ho9 hb hg_ hnew_; clear hg_ hnew_; (first | rw [← Ny161.out] at ho9 | (simp only [Int.reduceToNat] at ho9; rw [← Ny161.out] at ho9)); have n0_ := Aside0.mk (Kd.R_lower ho9 (below_size (by repeat (first | (with_reducible first | exact HB.out | apply below_alloc | apply pw_below_drewN | apply below_drew1) | exact HB.out)))); have n1_ := Aside0.mk (below_step (by repeat (first | (with_reducible first | exact HB.out | apply below_alloc | apply pw_below_drewN | apply below_drew1) | exact HB.out)) hb); clear HB; have HO163 := n0_; have HB := n1_; clear n0_ n1_; clear hb ho9; have hcv10 := own_string (P := Try.prog) Try.underlying52 Try.underlying5 Try.underlying9 (Kd.own_of_R HO163.out)) | ((with_reducible refine gate_callee (f := 68) rfl ?_); refine goesL_ (some 15) rfl rfl Try.func68 (by kernel_rfl) rfl #[.int .u64 (IntKind.u64.wrap (Int.tdiv a0 10))] rfl (by (try simp only [List.map_toArray, List.map_cons, List.map_nil]); first | done | rfl | (simp only [List.length_drop, List.length_take]; rfl)) ?_; (with_reducible refine (ih k (by omega) (IntKind.u64.wrap (Int.tdiv a0 10)) t164 _ A6.out).mono ?_); rintro e w11 ⟨rfl, hb⟩; refine ⟨_, rfl, ?_⟩; have n0_ := Aside0.mk (Kd.R_below (by (with_reducible repeat (first | apply Kd.R_alloc | apply Kd.R_drewN | apply Kd.R_drew)); exact HO163.out) hb); have n1_ := Aside0.mk (below_step (by repeat (first | (with_reducible first | exact HB.out | apply below_alloc | apply pw_below_drewN | apply below_drew1) | exact HB.out)) hb); clear HO163; clear HB; have HO163 := n0_; have HB := n1_; clear n0_ n1_; (try clear hb); (try clear hb2); (try clear hk); (try clear hi)))
   go_ret
   exact ⟨by first | rfl | (simp [errW_none, errW_some] <;> rfl) | (simp [*, errW_none, errW_some] <;> rfl), by repeat (first | (with_reducible first | exact HB.out | apply below_alloc | apply pw_below_drewN | apply below_drew1) | exact HB.out)⟩
  ·rw [if_neg c7] at H
   exact absurd H (by simp)
end Go.Proofs.Ytfhafkfcedghkaa.P
