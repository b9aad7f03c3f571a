-- Laid by a program of this session (wip/tools/fork_print.py over the kit's print) out of Lean's print of the translation. Lean checks it.
import Derived.Test.YtfhafkfcedghkaaPx0
import Derived.Test.YtfhafkfcedghkaaPx23
namespace Go.Proofs.Ytfhafkfcedghkaa.P
open Go.RowKit Go.Proofs.YtfhafkfcedghkaaW.PrintWords Go.Proofs.YtfhafkfcedghkaaW.PrintLast Go.Proofs.YtfhafkfcedghkaaW.PrintMore
attribute [local go_sem] max2_int min2_int max_two min_two max_three min_three max_four min_four   -- for this text's walks alone
set_option linter.unusedVariables false
set_option linter.unusedSimpArgs false

/-! ### state_Same: function 16 -/
def state_Same.j0 : Nat → Bool → ByteArray → List (S34) → List (S38) → List (S38) → Bool → List (S36) → ByteArray → List (S34) → List (S38) → List (S38) → Bool → List (S36) → Option (Bool)
 | 0, _, _, _, _, _, _, _, _, _, _, _, _, _ => none
 | k + 1, x24, x315000, x315001, x315002, x315003, x315004, x315005, x316000, x316001, x316002, x316003, x316004, x316005 => if x24 = true then (some false) else ((slices_Equal__api_Edit_api_Edit.f x315005 x316005).bind fun t317 => (if t317 = true then ((state_sameSteps.f x315002 x316002).bind fun t318 => (if t318 = true then ((state_sameSteps.f x315003 x316003).bind fun t319 => (some t319)) else (some false))) else (some false)))
def state_Same.f (k : Nat) (a0_0 : ByteArray) (l0_1 : List (S34)) (l0_2 : List (S38)) (l0_3 : List (S38)) (a0_4 : Bool) (l0_5 : List (S36)) (a1_0 : ByteArray) (l1_1 : List (S34)) (l1_2 : List (S38)) (l1_3 : List (S38)) (a1_4 : Bool) (l1_5 : List (S36)) : Option (Bool) := if a0_0.toList = a1_0.toList then (if (a0_4 != a1_4) = true then (state_Same.j0 k true a0_0 l0_1 l0_2 l0_3 a0_4 l0_5 a1_0 l1_1 l1_2 l1_3 a1_4 l1_5) else ((slices_Equal__api_Mark_api_Mark.f l0_1 l1_1).bind fun t316 => (state_Same.j0 k (!t316) a0_0 l0_1 l0_2 l0_3 a0_4 l0_5 a1_0 l1_1 l1_2 l1_3 a1_4 l1_5))) else (state_Same.j0 k true a0_0 l0_1 l0_2 l0_3 a0_4 l0_5 a1_0 l1_1 l1_2 l1_3 a1_4 l1_5)
set_option maxHeartbeats 8000000 in
set_option maxRecDepth 100000 in
theorem state_Same.calls (k : Nat) (a0_0 : ByteArray) (A0_1 : Option Addr) (c0_1 : Nat) (l0_1 : List (S34)) (A0_2 : Option Addr) (c0_2 : Nat) (l0_2 : List (S38)) (A0_3 : Option Addr) (c0_3 : Nat) (l0_3 : List (S38)) (a0_4 : Bool) (A0_5 : Option Addr) (c0_5 : Nat) (l0_5 : List (S36)) (a1_0 : ByteArray) (A1_1 : Option Addr) (c1_1 : Nat) (l1_1 : List (S34)) (A1_2 : Option Addr) (c1_2 : Nat) (l1_2 : List (S38)) (A1_3 : Option Addr) (c1_3 : Nat) (l1_3 : List (S38)) (a1_4 : Bool) (A1_5 : Option Addr) (c1_5 : Nat) (l1_5 : List (S36)) (r : Bool) (w : World) (hr0_1 : Kd.C k34 w A0_1 l0_1.length l0_1) (hc0_1 : l0_1.length ≤ c0_1) (hr0_2 : Kd.C k38 w A0_2 l0_2.length l0_2) (hc0_2 : l0_2.length ≤ c0_2) (hr0_3 : Kd.C k38 w A0_3 l0_3.length l0_3) (hc0_3 : l0_3.length ≤ c0_3) (hr0_5 : Kd.C k36 w A0_5 l0_5.length l0_5) (hc0_5 : l0_5.length ≤ c0_5) (hr1_1 : Kd.C k34 w A1_1 l1_1.length l1_1) (hc1_1 : l1_1.length ≤ c1_1) (hr1_2 : Kd.C k38 w A1_2 l1_2.length l1_2) (hc1_2 : l1_2.length ≤ c1_2) (hr1_3 : Kd.C k38 w A1_3 l1_3.length l1_3) (hc1_3 : l1_3.length ≤ c1_3) (hr1_5 : Kd.C k36 w A1_5 l1_5.length l1_5) (hc1_5 : l1_5.length ≤ c1_5) (h : state_Same.f k a0_0 l0_1 l0_2 l0_3 a0_4 l0_5 a1_0 l1_1 l1_2 l1_3 a1_4 l1_5 = some r) :
  Calls Try.prog 16 #[.agg #[.string a0_0, .slice A0_1 l0_1.length c0_1, .slice A0_2 l0_2.length c0_2, .slice A0_3 l0_3.length c0_3, .bool a0_4, .slice A0_5 l0_5.length c0_5], .agg #[.string a1_0, .slice A1_1 l1_1.length c1_1, .slice A1_2 l1_2.length c1_2, .slice A1_3 l1_3.length c1_3, .bool a1_4, .slice A1_5 l1_5.length c1_5]] w fun e w' => e = .returned (.bool r) ∧ Below w.heap.size w w' := by
 have hu26 := Try.underlying26
 have HR0_1 := Aside0.mk hr0_1
 have HC0_1 := Aside0.mk hc0_1
 clear hr0_1 hc0_1
 have HR0_2 := Aside0.mk hr0_2
 have HC0_2 := Aside0.mk hc0_2
 clear hr0_2 hc0_2
 have HR0_3 := Aside0.mk hr0_3
 have HC0_3 := Aside0.mk hc0_3
 clear hr0_3 hc0_3
 have HR0_5 := Aside0.mk hr0_5
 have HC0_5 := Aside0.mk hc0_5
 clear hr0_5 hc0_5
 have HR1_1 := Aside0.mk hr1_1
 have HC1_1 := Aside0.mk hc1_1
 clear hr1_1 hc1_1
 have HR1_2 := Aside0.mk hr1_2
 have HC1_2 := Aside0.mk hc1_2
 clear hr1_2 hc1_2
 have HR1_3 := Aside0.mk hr1_3
 have HC1_3 := Aside0.mk hc1_3
 clear hr1_3 hc1_3
 have HR1_5 := Aside0.mk hr1_5
 have HC1_5 := Aside0.mk hc1_5
 clear hr1_5 hc1_5
 have HB := Aside0.mk (Below.refl w.heap.size w)
 have H : (if a0_0.toList = a1_0.toList then (if (a0_4 != a1_4) = true then (state_Same.j0 k true a0_0 l0_1 l0_2 l0_3 a0_4 l0_5 a1_0 l1_1 l1_2 l1_3 a1_4 l1_5) else ((slices_Equal__api_Mark_api_Mark.f l0_1 l1_1).bind fun t316 => (state_Same.j0 k (!t316) a0_0 l0_1 l0_2 l0_3 a0_4 l0_5 a1_0 l1_1 l1_2 l1_3 a1_4 l1_5))) else (state_Same.j0 k true a0_0 l0_1 l0_2 l0_3 a0_4 l0_5 a1_0 l1_1 l1_2 l1_3 a1_4 l1_5)) = some r := h
 clear h
 have HC3 := Aside0.mk H
 clear H
 go_enter Try.func16, Try.ntmps16
 go_upto_region 1 with (first | ((with_reducible refine gate_dst (N := 2) rfl ?_); refine box_event ?hg (N := 2) ?hd (cs := #[.string a0_0, .slice A0_1 l0_1.length c0_1, .slice A0_2 l0_2.length c0_2, .slice A0_3 l0_3.length c0_3, .bool a0_4, .slice A0_5 l0_5.length c0_5]) (t := 26) ?hr ?_; (case hd => rfl); (case hg => rfl); (case hr => first | (go_simp; done) | (go_simp; rfl)); intro gb314 hg w4 hbox hb; have n0_ := Aside0.mk (below_step (by repeat (first | (with_reducible first | exact HB.out | apply below_alloc | apply pw_below_drewN | apply below_drew1) | exact HB.out)) hb); have n1_ := Aside0.mk (hbox); have n2_ := Aside0.mk ((by rw [hg]; exact (below_size (by repeat (first | (with_reducible first | exact HB.out | apply below_alloc | apply pw_below_drewN | apply below_drew1) | exact HB.out))) : w.heap.size ≤ gb314)); have n3_ := Aside0.mk ((by rw [hg]; exact (below_size (by repeat (first | (with_reducible first | exact HB.out | apply below_alloc | apply pw_below_drewN | apply below_drew1) | exact HB.out))) : w.heap.size ≤ gb314)); clear HB; have HB := n0_; have BK314 := n1_; have GW314 := n2_; have GE314 := n3_; clear n0_ n1_ n2_ n3_; clear hb hbox hg) | ((with_reducible refine gate_dst (N := 3) rfl ?_); refine box_event ?hg (N := 3) ?hd (cs := #[.string a1_0, .slice A1_1 l1_1.length c1_1, .slice A1_2 l1_2.length c1_2, .slice A1_3 l1_3.length c1_3, .bool a1_4, .slice A1_5 l1_5.length c1_5]) (t := 26) ?hr ?_; (case hd => rfl); (case hg => rfl); (case hr => first | (go_simp; done) | (go_simp; rfl)); intro gb315 hg w5 hbox hb; have n0_ := Aside0.mk (blk_below (g := gb314) (o := .cells #[.string a0_0, .slice A0_1 l0_1.length c0_1, .slice A0_2 l0_2.length c0_2, .slice A0_3 l0_3.length c0_3, .bool a0_4, .slice A0_5 l0_5.length c0_5] 26 (0, 0)) (by (with_reducible repeat (first | refine blk_drewN ?_ _ | refine blk_drew ?_ | refine blk_alloc ?_ _)); exact BK314.out) hb); have n1_ := Aside0.mk (below_step (by repeat (first | (with_reducible first | exact HB.out | apply below_alloc | apply pw_below_drewN | apply below_drew1 | refine below_set ?_ GE314.out) | exact HB.out)) hb); have n2_ := Aside0.mk (hbox); have n3_ := Aside0.mk ((by rw [hg]; exact (below_size (by repeat (first | (with_reducible first | exact HB.out | apply below_alloc | apply pw_below_drewN | apply below_drew1 | refine below_set ?_ GE314.out) | exact HB.out))) : w.heap.size ≤ gb315)); have n4_ := Aside0.mk ((by rw [hg]; exact (below_size (by repeat (first | (with_reducible first | exact HB.out | apply below_alloc | apply pw_below_drewN | apply below_drew1 | refine below_set ?_ GE314.out) | exact HB.out))) : w.heap.size ≤ gb315)); have n5_ := Aside0.mk ((by rw [hg]; exact Nat.ne_of_lt (blk_lt (g := gb314) (o := .cells #[.string a0_0, .slice A0_1 l0_1.length c0_1, .slice A0_2 l0_2.length c0_2, .slice A0_3 l0_3.length c0_3, .bool a0_4, .slice A0_5 l0_5.length c0_5] 26 (0, 0)) (by (with_reducible repeat (first | refine blk_drewN ?_ _ | refine blk_drew ?_ | refine blk_alloc ?_ _)); exact BK314.out)) : gb314 ≠ gb315)); have n6_ := Aside0.mk ((by rw [hg]; exact Nat.ne_of_gt (blk_lt (g := gb314) (o := .cells #[.string a0_0, .slice A0_1 l0_1.length c0_1, .slice A0_2 l0_2.length c0_2, .slice A0_3 l0_3.length c0_3, .bool a0_4, .slice A0_5 l0_5.length c0_5] 26 (0, 0)) (by (with_reducible repeat (first | refine blk_drewN ?_ _ | refine blk_drew ?_ | refine blk_alloc ?_ _)); exact BK314.out)) : gb315 ≠ gb314)); clear BK314; clear HB; have BK314 := n0_; have HB := n1_; have BK315 := n2_; have GW315 := n3_; have GE315 := n4_; have NB314_315 := n5_; have NB315_314 := n6_; clear n0_ n1_ n2_ n3_ n4_ n5_ n6_; clear hb hbox hg))
 (try simp only [Act.put, List.setIfInBounds_toArray, List.set_cons_zero, List.set_cons_succ])
 go_cut [24] (fun v24 wc => ∃ (kq : Nat) (x24_2 : Bool), v24 = .bool x24_2 ∧ Aside0 (state_Same.j0 kq x24_2 a0_0 l0_1 l0_2 l0_3 a0_4 l0_5 a1_0 l1_1 l1_2 l1_3 a1_4 l1_5 = some r) ∧ Aside0 (kq ≤ k) ∧ Aside0 (wc.heap[gb314]? = some (.cells #[.string a0_0, (.slice A0_1 l0_1.length c0_1), (.slice A0_2 l0_2.length c0_2), (.slice A0_3 l0_3.length c0_3), .bool a0_4, (.slice A0_5 l0_5.length c0_5)] 26 (0, 0))) ∧ Aside0 (wc.heap[gb315]? = some (.cells #[.string a1_0, (.slice A1_1 l1_1.length c1_1), (.slice A1_2 l1_2.length c1_2), (.slice A1_3 l1_3.length c1_3), .bool a1_4, (.slice A1_5 l1_5.length c1_5)] 26 (0, 0))) ∧ Aside0 (Below w.heap.size w wc))
 case first =>
  have H := HC3.out
  clear HC3
  by_cases c6 : a0_0.toList = a1_0.toList
  ·rw [if_pos c6] at H
   have c6b0 : (a0_0.toList == a1_0.toList) = true := beq_iff_eq.mpr c6
   have c6b1 : (a0_0.toList != a1_0.toList) = false := bne_eq_false_iff_eq.mpr c6
   clear c6
   (first | rw [c6b0] | (simp only [i64_w, i32_w]; rw [c6b0]) | skip)
   by_cases c7 : (a0_4 != a1_4) = true
   ·rw [if_pos c7] at H
    have c7b0 : (a0_4 != a1_4) = true := c7
    (try (have c7b1 : decide (a0_4 = a1_4) = false := by simpa using c7))
    (try (have c7b2 : (a0_4 == a1_4) = false := by simpa using c7))
    (try (have c7b3 : ¬ (a0_4 = a1_4) := by simpa using c7))
    clear c7
    have H' := Aside0.mk H
    clear H
    have hnb8 := NB314_315.out
    have hnc8 := NB315_314.out
    have hcz9_0 : w5.cell? ⟨gb314, 0, none⟩ = some (.string a0_0) := (blk_cell BK314.out 0).trans rfl
    have hcz9_1 : w5.cell? ⟨gb314, 1, none⟩ = some (.slice A0_1 l0_1.length c0_1) := (blk_cell BK314.out 1).trans rfl
    have hcz9_2 : w5.cell? ⟨gb314, 2, none⟩ = some (.slice A0_2 l0_2.length c0_2) := (blk_cell BK314.out 2).trans rfl
    have hcz9_3 : w5.cell? ⟨gb314, 3, none⟩ = some (.slice A0_3 l0_3.length c0_3) := (blk_cell BK314.out 3).trans rfl
    have hcz9_4 : w5.cell? ⟨gb314, 4, none⟩ = some (.bool a0_4) := (blk_cell BK314.out 4).trans rfl
    have hcz9_5 : w5.cell? ⟨gb314, 5, none⟩ = some (.slice A0_5 l0_5.length c0_5) := (blk_cell BK314.out 5).trans rfl
    have hfz9_0 := blk_frozen BK314.out 0
    have hfz9_1 := blk_frozen BK314.out 1
    have hfz9_2 := blk_frozen BK314.out 2
    have hfz9_3 := blk_frozen BK314.out 3
    have hfz9_4 := blk_frozen BK314.out 4
    have hfz9_5 := blk_frozen BK314.out 5
    have hcz10_0 : w5.cell? ⟨gb315, 0, none⟩ = some (.string a1_0) := (blk_cell BK315.out 0).trans rfl
    have hcz10_1 : w5.cell? ⟨gb315, 1, none⟩ = some (.slice A1_1 l1_1.length c1_1) := (blk_cell BK315.out 1).trans rfl
    have hcz10_2 : w5.cell? ⟨gb315, 2, none⟩ = some (.slice A1_2 l1_2.length c1_2) := (blk_cell BK315.out 2).trans rfl
    have hcz10_3 : w5.cell? ⟨gb315, 3, none⟩ = some (.slice A1_3 l1_3.length c1_3) := (blk_cell BK315.out 3).trans rfl
    have hcz10_4 : w5.cell? ⟨gb315, 4, none⟩ = some (.bool a1_4) := (blk_cell BK315.out 4).trans rfl
    have hcz10_5 : w5.cell? ⟨gb315, 5, none⟩ = some (.slice A1_5 l1_5.length c1_5) := (blk_cell BK315.out 5).trans rfl
    have hfz10_0 := blk_frozen BK315.out 0
    have hfz10_1 := blk_frozen BK315.out 1
    have hfz10_2 := blk_frozen BK315.out 2
    have hfz10_3 := blk_frozen BK315.out 3
    have hfz10_4 := blk_frozen BK315.out 4
    have hfz10_5 := blk_frozen BK315.out 5
    go_wp2
    go_meet
    case rel => exact ⟨_, (true), (by first | rfl | (simp; done) | (simp [*]; done)), H', ⟨by first | omega | exact Nat.le_refl _⟩, ⟨by (with_reducible repeat (first | refine blk_drewN ?_ _ | refine blk_drew ?_ | refine blk_alloc ?_ _)); exact BK314.out⟩, ⟨by (with_reducible repeat (first | refine blk_drewN ?_ _ | refine blk_drew ?_ | refine blk_alloc ?_ _)); exact BK315.out⟩, ⟨by repeat (first | (with_reducible first | exact HB.out | apply below_alloc | apply pw_below_drewN | apply below_drew1 | refine below_set ?_ GE314.out | refine below_set ?_ GE315.out) | exact HB.out)⟩⟩
   ·rw [if_neg c7] at H
    have c7b0 : (a0_4 != a1_4) = false := by simpa using c7
    (try (have c7b1 : decide (a0_4 = a1_4) = true := by simpa using c7))
    (try (have c7b2 : (a0_4 == a1_4) = true := by simpa using c7))
    clear c7
    replace H := Option.bind_eq_some_iff.mp H
    obtain ⟨t316, A110, H⟩ := H
    replace H : (state_Same.j0 k (!t316) a0_0 l0_1 l0_2 l0_3 a0_4 l0_5 a1_0 l1_1 l1_2 l1_3 a1_4 l1_5) = some r := H
    have A11 := Aside0.mk A110
    clear A110
    have H' := Aside0.mk H
    clear H
    have hnb12 := NB314_315.out
    have hnc12 := NB315_314.out
    have hcz13_0 : w5.cell? ⟨gb314, 0, none⟩ = some (.string a0_0) := (blk_cell BK314.out 0).trans rfl
    have hcz13_1 : w5.cell? ⟨gb314, 1, none⟩ = some (.slice A0_1 l0_1.length c0_1) := (blk_cell BK314.out 1).trans rfl
    have hcz13_2 : w5.cell? ⟨gb314, 2, none⟩ = some (.slice A0_2 l0_2.length c0_2) := (blk_cell BK314.out 2).trans rfl
    have hcz13_3 : w5.cell? ⟨gb314, 3, none⟩ = some (.slice A0_3 l0_3.length c0_3) := (blk_cell BK314.out 3).trans rfl
    have hcz13_4 : w5.cell? ⟨gb314, 4, none⟩ = some (.bool a0_4) := (blk_cell BK314.out 4).trans rfl
    have hcz13_5 : w5.cell? ⟨gb314, 5, none⟩ = some (.slice A0_5 l0_5.length c0_5) := (blk_cell BK314.out 5).trans rfl
    have hfz13_0 := blk_frozen BK314.out 0
    have hfz13_1 := blk_frozen BK314.out 1
    have hfz13_2 := blk_frozen BK314.out 2
    have hfz13_3 := blk_frozen BK314.out 3
    have hfz13_4 := blk_frozen BK314.out 4
    have hfz13_5 := blk_frozen BK314.out 5
    have hcz14_0 : w5.cell? ⟨gb315, 0, none⟩ = some (.string a1_0) := (blk_cell BK315.out 0).trans rfl
    have hcz14_1 : w5.cell? ⟨gb315, 1, none⟩ = some (.slice A1_1 l1_1.length c1_1) := (blk_cell BK315.out 1).trans rfl
    have hcz14_2 : w5.cell? ⟨gb315, 2, none⟩ = some (.slice A1_2 l1_2.length c1_2) := (blk_cell BK315.out 2).trans rfl
    have hcz14_3 : w5.cell? ⟨gb315, 3, none⟩ = some (.slice A1_3 l1_3.length c1_3) := (blk_cell BK315.out 3).trans rfl
    have hcz14_4 : w5.cell? ⟨gb315, 4, none⟩ = some (.bool a1_4) := (blk_cell BK315.out 4).trans rfl
    have hcz14_5 : w5.cell? ⟨gb315, 5, none⟩ = some (.slice A1_5 l1_5.length c1_5) := (blk_cell BK315.out 5).trans rfl
    have hfz14_0 := blk_frozen BK315.out 0
    have hfz14_1 := blk_frozen BK315.out 1
    have hfz14_2 := blk_frozen BK315.out 2
    have hfz14_3 := blk_frozen BK315.out 3
    have hfz14_4 := blk_frozen BK315.out 4
    have hfz14_5 := blk_frozen BK315.out 5
    go_wp2_with (first | (go_at_call 48; (with_reducible refine (slices_Equal__api_Mark_api_Mark.calls _ _ l0_1 _ _ l1_1 t316 _ ?side1 ?side2 ?side3 ?side4 A11.out).mono ?_); (case side1 => repeat (first | exact (Kd.C_below HR0_1.out HB.out) | (with_reducible refine Kd.C_alloc ?_ _) | (with_reducible refine Kd.C_drewN ?_ _) | (with_reducible refine Kd.C_drew ?_))); (case side2 => exact HC0_1.out); (case side3 => repeat (first | exact (Kd.C_below HR1_1.out HB.out) | (with_reducible refine Kd.C_alloc ?_ _) | (with_reducible refine Kd.C_drewN ?_ _) | (with_reducible refine Kd.C_drew ?_))); (case side4 => exact HC1_1.out); rintro e w' ⟨rfl, ⟨nd, rfl⟩⟩))
    go_meet
    case rel => exact ⟨_, (!t316), (by first | rfl | (simp; done) | (simp [*]; done)), H', ⟨by first | omega | exact Nat.le_refl _⟩, ⟨by (with_reducible repeat (first | refine blk_drewN ?_ _ | refine blk_drew ?_ | refine blk_alloc ?_ _)); exact BK314.out⟩, ⟨by (with_reducible repeat (first | refine blk_drewN ?_ _ | refine blk_drew ?_ | refine blk_alloc ?_ _)); exact BK315.out⟩, ⟨by repeat (first | (with_reducible first | exact HB.out | apply below_alloc | apply pw_below_drewN | apply below_drew1 | refine below_set ?_ GE314.out | refine below_set ?_ GE315.out) | exact HB.out)⟩⟩
  ·rw [if_neg c6] at H
   have c6b0 : (a0_0.toList == a1_0.toList) = false := beq_eq_false_iff_ne.mpr c6
   have c6b1 : (a0_0.toList != a1_0.toList) = true := bne_iff_ne.mpr c6
   (first | rw [c6b0] | (simp only [i64_w, i32_w]; rw [c6b0]) | skip)
   have H' := Aside0.mk H
   clear H
   have hnb15 := NB314_315.out
   have hnc15 := NB315_314.out
   have hcz16_0 : w5.cell? ⟨gb314, 0, none⟩ = some (.string a0_0) := (blk_cell BK314.out 0).trans rfl
   have hcz16_1 : w5.cell? ⟨gb314, 1, none⟩ = some (.slice A0_1 l0_1.length c0_1) := (blk_cell BK314.out 1).trans rfl
   have hcz16_2 : w5.cell? ⟨gb314, 2, none⟩ = some (.slice A0_2 l0_2.length c0_2) := (blk_cell BK314.out 2).trans rfl
   have hcz16_3 : w5.cell? ⟨gb314, 3, none⟩ = some (.slice A0_3 l0_3.length c0_3) := (blk_cell BK314.out 3).trans rfl
   have hcz16_4 : w5.cell? ⟨gb314, 4, none⟩ = some (.bool a0_4) := (blk_cell BK314.out 4).trans rfl
   have hcz16_5 : w5.cell? ⟨gb314, 5, none⟩ = some (.slice A0_5 l0_5.length c0_5) := (blk_cell BK314.out 5).trans rfl
   have hfz16_0 := blk_frozen BK314.out 0
   have hfz16_1 := blk_frozen BK314.out 1
   have hfz16_2 := blk_frozen BK314.out 2
   have hfz16_3 := blk_frozen BK314.out 3
   have hfz16_4 := blk_frozen BK314.out 4
   have hfz16_5 := blk_frozen BK314.out 5
   have hcz17_0 : w5.cell? ⟨gb315, 0, none⟩ = some (.string a1_0) := (blk_cell BK315.out 0).trans rfl
   have hcz17_1 : w5.cell? ⟨gb315, 1, none⟩ = some (.slice A1_1 l1_1.length c1_1) := (blk_cell BK315.out 1).trans rfl
   have hcz17_2 : w5.cell? ⟨gb315, 2, none⟩ = some (.slice A1_2 l1_2.length c1_2) := (blk_cell BK315.out 2).trans rfl
   have hcz17_3 : w5.cell? ⟨gb315, 3, none⟩ = some (.slice A1_3 l1_3.length c1_3) := (blk_cell BK315.out 3).trans rfl
   have hcz17_4 : w5.cell? ⟨gb315, 4, none⟩ = some (.bool a1_4) := (blk_cell BK315.out 4).trans rfl
   have hcz17_5 : w5.cell? ⟨gb315, 5, none⟩ = some (.slice A1_5 l1_5.length c1_5) := (blk_cell BK315.out 5).trans rfl
   have hfz17_0 := blk_frozen BK315.out 0
   have hfz17_1 := blk_frozen BK315.out 1
   have hfz17_2 := blk_frozen BK315.out 2
   have hfz17_3 := blk_frozen BK315.out 3
   have hfz17_4 := blk_frozen BK315.out 4
   have hfz17_5 := blk_frozen BK315.out 5
   go_wp2
   go_meet
   case rel => exact ⟨_, (true), (by first | rfl | (simp; done) | (simp [*]; done)), H', ⟨by first | omega | exact Nat.le_refl _⟩, ⟨by (with_reducible repeat (first | refine blk_drewN ?_ _ | refine blk_drew ?_ | refine blk_alloc ?_ _)); exact BK314.out⟩, ⟨by (with_reducible repeat (first | refine blk_drewN ?_ _ | refine blk_drew ?_ | refine blk_alloc ?_ _)); exact BK315.out⟩, ⟨by repeat (first | (with_reducible first | exact HB.out | apply below_alloc | apply pw_below_drewN | apply below_drew1 | refine below_set ?_ GE314.out | refine below_set ?_ GE315.out) | exact HB.out)⟩⟩
 case rest =>
  clear HC3
  try clear c1
  try clear p2
  try clear c6
  try clear c6b0
  try clear c6b1
  try clear c7
  try clear c7b0
  try clear c7b1
  try clear c7b2
  try clear c8
  try clear c12
  try clear c15
  try clear c16
  try clear hcz10_0
  try clear hcz10_1
  try clear hcz10_2
  try clear hcz10_3
  try clear hcz10_4
  try clear hcz10_5
  try clear hcz13_0
  try clear hcz13_1
  try clear hcz13_2
  try clear hcz13_3
  try clear hcz13_4
  try clear hcz13_5
  try clear hcz14_0
  try clear hcz14_1
  try clear hcz14_2
  try clear hcz14_3
  try clear hcz14_4
  try clear hcz14_5
  try clear hcz16_0
  try clear hcz16_1
  try clear hcz16_2
  try clear hcz16_3
  try clear hcz16_4
  try clear hcz16_5
  try clear hcz17_0
  try clear hcz17_1
  try clear hcz17_2
  try clear hcz17_3
  try clear hcz17_4
  try clear hcz17_5
  try clear hcz9_0
  try clear hcz9_1
  try clear hcz9_2
  try clear hcz9_3
  try clear hcz9_4
  try clear hcz9_5
  try clear hfz10_0
  try clear hfz10_1
  try clear hfz10_2
  try clear hfz10_3
  try clear hfz10_4
  try clear hfz10_5
  try clear hfz13_0
  try clear hfz13_1
  try clear hfz13_2
  try clear hfz13_3
  try clear hfz13_4
  try clear hfz13_5
  try clear hfz14_0
  try clear hfz14_1
  try clear hfz14_2
  try clear hfz14_3
  try clear hfz14_4
  try clear hfz14_5
  try clear hfz16_0
  try clear hfz16_1
  try clear hfz16_2
  try clear hfz16_3
  try clear hfz16_4
  try clear hfz16_5
  try clear hfz17_0
  try clear hfz17_1
  try clear hfz17_2
  try clear hfz17_3
  try clear hfz17_4
  try clear hfz17_5
  try clear hfz9_0
  try clear hfz9_1
  try clear hfz9_2
  try clear hfz9_3
  try clear hfz9_4
  try clear hfz9_5
  obtain ⟨kq, x24_2, rfl, HA, HJ2, BK314, BK315, HB⟩ := hcut
  cases kq with
  | zero => exact absurd HA.out (by simp [state_Same.j0])
  | succ kj2 =>
   have H := HA.out
   clear HA
   simp only [state_Same.j0] at H
   by_cases c18 : x24_2 = true
   ·subst c18
    have H1 : (some false) = some r := by rw [if_pos rfl] at H; exact H
    clear H
    have H := H1
    clear H1
    obtain rfl := Option.some.inj H
    go_wp2
    go_ret
    exact ⟨by first | rfl | (simp [errW_none, errW_some] <;> rfl) | (simp [*, errW_none, errW_some] <;> rfl), by repeat (first | (with_reducible first | exact HB.out | apply below_alloc | apply pw_below_drewN | apply below_drew1 | refine below_set ?_ GE314.out | refine below_set ?_ GE315.out) | exact HB.out)⟩
   ·replace c18 := Bool.eq_false_iff.mpr c18
    subst c18
    have H1 : ((slices_Equal__api_Edit_api_Edit.f l0_5 l1_5).bind fun t317 => (if t317 = true then ((state_sameSteps.f l0_2 l1_2).bind fun t318 => (if t318 = true then ((state_sameSteps.f l0_3 l1_3).bind fun t319 => (some t319)) else (some false))) else (some false))) = some r := by rw [if_neg (show ¬ (false = true) by decide)] at H; exact H
    clear H
    have H := H1
    clear H1
    replace H := Option.bind_eq_some_iff.mp H
    obtain ⟨t317, A190, H⟩ := H
    replace H : (if t317 = true then ((state_sameSteps.f l0_2 l1_2).bind fun t318 => (if t318 = true then ((state_sameSteps.f l0_3 l1_3).bind fun t319 => (some t319)) else (some false))) else (some false)) = some r := H
    have A19 := Aside0.mk A190
    clear A190
    by_cases c20 : t317 = true
    ·subst c20
     have H1 : ((state_sameSteps.f l0_2 l1_2).bind fun t318 => (if t318 = true then ((state_sameSteps.f l0_3 l1_3).bind fun t319 => (some t319)) else (some false))) = some r := by rw [if_pos rfl] at H; exact H
     clear H
     have H := H1
     clear H1
     replace H := Option.bind_eq_some_iff.mp H
     obtain ⟨t318, A210, H⟩ := H
     replace H : (if t318 = true then ((state_sameSteps.f l0_3 l1_3).bind fun t319 => (some t319)) else (some false)) = some r := H
     have A21 := Aside0.mk A210
     clear A210
     by_cases c22 : t318 = true
     ·subst c22
      have H1 : ((state_sameSteps.f l0_3 l1_3).bind fun t319 => (some t319)) = some r := by rw [if_pos rfl] at H; exact H
      clear H
      have H := H1
      clear H1
      replace H := Option.bind_eq_some_iff.mp H
      obtain ⟨t319, A230, H⟩ := H
      replace H : (some t319) = some r := H
      have A23 := Aside0.mk A230
      clear A230
      obtain rfl := Option.some.inj H
      have hnb24 := NB314_315.out
      have hnc24 := NB315_314.out
      have hcz25_0 : wc.cell? ⟨gb314, 0, none⟩ = some (.string a0_0) := (blk_cell BK314.out 0).trans rfl
      have hcz25_1 : wc.cell? ⟨gb314, 1, none⟩ = some (.slice A0_1 l0_1.length c0_1) := (blk_cell BK314.out 1).trans rfl
      have hcz25_2 : wc.cell? ⟨gb314, 2, none⟩ = some (.slice A0_2 l0_2.length c0_2) := (blk_cell BK314.out 2).trans rfl
      have hcz25_3 : wc.cell? ⟨gb314, 3, none⟩ = some (.slice A0_3 l0_3.length c0_3) := (blk_cell BK314.out 3).trans rfl
      have hcz25_4 : wc.cell? ⟨gb314, 4, none⟩ = some (.bool a0_4) := (blk_cell BK314.out 4).trans rfl
      have hcz25_5 : wc.cell? ⟨gb314, 5, none⟩ = some (.slice A0_5 l0_5.length c0_5) := (blk_cell BK314.out 5).trans rfl
      have hfz25_0 := blk_frozen BK314.out 0
      have hfz25_1 := blk_frozen BK314.out 1
      have hfz25_2 := blk_frozen BK314.out 2
      have hfz25_3 := blk_frozen BK314.out 3
      have hfz25_4 := blk_frozen BK314.out 4
      have hfz25_5 := blk_frozen BK314.out 5
      have hcz26_0 : wc.cell? ⟨gb315, 0, none⟩ = some (.string a1_0) := (blk_cell BK315.out 0).trans rfl
      have hcz26_1 : wc.cell? ⟨gb315, 1, none⟩ = some (.slice A1_1 l1_1.length c1_1) := (blk_cell BK315.out 1).trans rfl
      have hcz26_2 : wc.cell? ⟨gb315, 2, none⟩ = some (.slice A1_2 l1_2.length c1_2) := (blk_cell BK315.out 2).trans rfl
      have hcz26_3 : wc.cell? ⟨gb315, 3, none⟩ = some (.slice A1_3 l1_3.length c1_3) := (blk_cell BK315.out 3).trans rfl
      have hcz26_4 : wc.cell? ⟨gb315, 4, none⟩ = some (.bool a1_4) := (blk_cell BK315.out 4).trans rfl
      have hcz26_5 : wc.cell? ⟨gb315, 5, none⟩ = some (.slice A1_5 l1_5.length c1_5) := (blk_cell BK315.out 5).trans rfl
      have hfz26_0 := blk_frozen BK315.out 0
      have hfz26_1 := blk_frozen BK315.out 1
      have hfz26_2 := blk_frozen BK315.out 2
      have hfz26_3 := blk_frozen BK315.out 3
      have hfz26_4 := blk_frozen BK315.out 4
      have hfz26_5 := blk_frozen BK315.out 5
      go_wp2_with (first | ((with_reducible refine gate_callee (f := 49) rfl ?_); refine goesL_ (some 29) rfl rfl Try.func49 (by kernel_rfl) rfl #[.slice A0_5 l0_5.length c0_5, .slice A1_5 l1_5.length c1_5] rfl (by (try simp only [List.map_toArray, List.map_cons, List.map_nil]); first | done | rfl | (simp only [List.length_drop, List.length_take]; rfl)) ?_; (with_reducible refine (slices_Equal__api_Edit_api_Edit.calls _ _ l0_5 _ _ l1_5 true _ ?side1 ?side2 ?side3 ?side4 A19.out).mono ?_); (case side1 => repeat (first | exact (Kd.C_below HR0_5.out HB.out) | (with_reducible refine Kd.C_alloc ?_ _) | (with_reducible refine Kd.C_drewN ?_ _) | (with_reducible refine Kd.C_drew ?_))); (case side2 => exact HC0_5.out); (case side3 => repeat (first | exact (Kd.C_below HR1_5.out HB.out) | (with_reducible refine Kd.C_alloc ?_ _) | (with_reducible refine Kd.C_drewN ?_ _) | (with_reducible refine Kd.C_drew ?_))); (case side4 => exact HC1_5.out); rintro e w' ⟨rfl, ⟨nd, rfl⟩⟩; refine ⟨_, rfl, ?_⟩) | (go_at_call 50; (with_reducible refine (state_sameSteps.calls _ _ l0_2 _ _ l1_2 true _ ?side1 ?side2 ?side3 ?side4 A21.out).mono ?_); (case side1 => repeat (first | exact (Kd.C_below HR0_2.out (by repeat (first | (with_reducible first | exact HB.out | apply below_alloc | apply pw_below_drewN | apply below_drew1 | refine below_set ?_ GE314.out | refine below_set ?_ GE315.out) | exact HB.out))) | (with_reducible refine Kd.C_alloc ?_ _) | (with_reducible refine Kd.C_drewN ?_ _) | (with_reducible refine Kd.C_drew ?_))); (case side2 => exact HC0_2.out); (case side3 => repeat (first | exact (Kd.C_below HR1_2.out (by repeat (first | (with_reducible first | exact HB.out | apply below_alloc | apply pw_below_drewN | apply below_drew1 | refine below_set ?_ GE314.out | refine below_set ?_ GE315.out) | exact HB.out))) | (with_reducible refine Kd.C_alloc ?_ _) | (with_reducible refine Kd.C_drewN ?_ _) | (with_reducible refine Kd.C_drew ?_))); (case side4 => exact HC1_2.out); rintro e w27 ⟨rfl, hb⟩; have n0_ := Aside0.mk (blk_below (g := gb314) (o := .cells #[.string a0_0, .slice A0_1 l0_1.length c0_1, .slice A0_2 l0_2.length c0_2, .slice A0_3 l0_3.length c0_3, .bool a0_4, .slice A0_5 l0_5.length c0_5] 26 (0, 0)) (by (with_reducible repeat (first | refine blk_drewN ?_ _ | refine blk_drew ?_ | refine blk_alloc ?_ _)); exact BK314.out) hb); have n1_ := Aside0.mk (blk_below (g := gb315) (o := .cells #[.string a1_0, .slice A1_1 l1_1.length c1_1, .slice A1_2 l1_2.length c1_2, .slice A1_3 l1_3.length c1_3, .bool a1_4, .slice A1_5 l1_5.length c1_5] 26 (0, 0)) (by (with_reducible repeat (first | refine blk_drewN ?_ _ | refine blk_drew ?_ | refine blk_alloc ?_ _)); exact BK315.out) hb); have n2_ := Aside0.mk (below_step (by repeat (first | (with_reducible first | exact HB.out | apply below_alloc | apply pw_below_drewN | apply below_drew1 | refine below_set ?_ GE314.out | refine below_set ?_ GE315.out) | exact HB.out)) hb); clear BK314; clear BK315; clear HB; have BK314 := n0_; have BK315 := n1_; have HB := n2_; clear n0_ n1_ n2_; (try clear hb); (try clear hb2); (try clear hk); (try clear hi); have hcz28_0 : w27.cell? ⟨gb314, 0, none⟩ = some (.string a0_0) := (blk_cell BK314.out 0).trans rfl; have hcz28_1 : w27.cell? ⟨gb314, 1, none⟩ = some (.slice A0_1 l0_1.length c0_1) := (blk_cell BK314.out 1).trans rfl; have hcz28_2 : w27.cell? ⟨gb314, 2, none⟩ = some (.slice A0_2 l0_2.length c0_2) := (blk_cell BK314.out 2).trans rfl; have hcz28_3 : w27.cell? ⟨gb314, 3, none⟩ = some (.slice A0_3 l0_3.length c0_3) := (blk_cell BK314.out 3).trans rfl; have hcz28_4 : w27.cell? ⟨gb314, 4, none⟩ = some (.bool a0_4) := (blk_cell BK314.out 4).trans rfl; have hcz28_5 : w27.cell? ⟨gb314, 5, none⟩ = some (.slice A0_5 l0_5.length c0_5) := (blk_cell BK314.out 5).trans rfl; have hfz28_0 := blk_frozen BK314.out 0; have hfz28_1 := blk_frozen BK314.out 1; have hfz28_2 := blk_frozen BK314.out 2; have hfz28_3 := blk_frozen BK314.out 3; have hfz28_4 := blk_frozen BK314.out 4; have hfz28_5 := blk_frozen BK314.out 5; have hcz29_0 : w27.cell? ⟨gb315, 0, none⟩ = some (.string a1_0) := (blk_cell BK315.out 0).trans rfl; have hcz29_1 : w27.cell? ⟨gb315, 1, none⟩ = some (.slice A1_1 l1_1.length c1_1) := (blk_cell BK315.out 1).trans rfl; have hcz29_2 : w27.cell? ⟨gb315, 2, none⟩ = some (.slice A1_2 l1_2.length c1_2) := (blk_cell BK315.out 2).trans rfl; have hcz29_3 : w27.cell? ⟨gb315, 3, none⟩ = some (.slice A1_3 l1_3.length c1_3) := (blk_cell BK315.out 3).trans rfl; have hcz29_4 : w27.cell? ⟨gb315, 4, none⟩ = some (.bool a1_4) := (blk_cell BK315.out 4).trans rfl; have hcz29_5 : w27.cell? ⟨gb315, 5, none⟩ = some (.slice A1_5 l1_5.length c1_5) := (blk_cell BK315.out 5).trans rfl; have hfz29_0 := blk_frozen BK315.out 0; have hfz29_1 := blk_frozen BK315.out 1; have hfz29_2 := blk_frozen BK315.out 2; have hfz29_3 := blk_frozen BK315.out 3; have hfz29_4 := blk_frozen BK315.out 4; have hfz29_5 := blk_frozen BK315.out 5) | (go_at_call 50; (with_reducible refine (state_sameSteps.calls _ _ l0_3 _ _ l1_3 t319 _ ?side1 ?side2 ?side3 ?side4 A23.out).mono ?_); (case side1 => repeat (first | exact (Kd.C_below HR0_3.out HB.out) | (with_reducible refine Kd.C_alloc ?_ _) | (with_reducible refine Kd.C_drewN ?_ _) | (with_reducible refine Kd.C_drew ?_))); (case side2 => exact HC0_3.out); (case side3 => repeat (first | exact (Kd.C_below HR1_3.out HB.out) | (with_reducible refine Kd.C_alloc ?_ _) | (with_reducible refine Kd.C_drewN ?_ _) | (with_reducible refine Kd.C_drew ?_))); (case side4 => exact HC1_3.out); rintro e w30 ⟨rfl, hb⟩; have n0_ := Aside0.mk (blk_below (g := gb314) (o := .cells #[.string a0_0, .slice A0_1 l0_1.length c0_1, .slice A0_2 l0_2.length c0_2, .slice A0_3 l0_3.length c0_3, .bool a0_4, .slice A0_5 l0_5.length c0_5] 26 (0, 0)) (by (with_reducible repeat (first | refine blk_drewN ?_ _ | refine blk_drew ?_ | refine blk_alloc ?_ _)); exact BK314.out) hb); have n1_ := Aside0.mk (blk_below (g := gb315) (o := .cells #[.string a1_0, .slice A1_1 l1_1.length c1_1, .slice A1_2 l1_2.length c1_2, .slice A1_3 l1_3.length c1_3, .bool a1_4, .slice A1_5 l1_5.length c1_5] 26 (0, 0)) (by (with_reducible repeat (first | refine blk_drewN ?_ _ | refine blk_drew ?_ | refine blk_alloc ?_ _)); exact BK315.out) hb); have n2_ := Aside0.mk (below_step (by repeat (first | (with_reducible first | exact HB.out | apply below_alloc | apply pw_below_drewN | apply below_drew1 | refine below_set ?_ GE314.out | refine below_set ?_ GE315.out) | exact HB.out)) hb); clear BK314; clear BK315; clear HB; have BK314 := n0_; have BK315 := n1_; have HB := n2_; clear n0_ n1_ n2_; (try clear hb); (try clear hb2); (try clear hk); (try clear hi)))
      go_ret
      exact ⟨by first | rfl | (simp [errW_none, errW_some] <;> rfl) | (simp [*, errW_none, errW_some] <;> rfl), by repeat (first | (with_reducible first | exact HB.out | apply below_alloc | apply pw_below_drewN | apply below_drew1 | refine below_set ?_ GE314.out | refine below_set ?_ GE315.out) | exact HB.out)⟩
     ·replace c22 := Bool.eq_false_iff.mpr c22
      subst c22
      have H1 : (some false) = some r := by rw [if_neg (show ¬ (false = true) by decide)] at H; exact H
      clear H
      have H := H1
      clear H1
      obtain rfl := Option.some.inj H
      have hnb31 := NB314_315.out
      have hnc31 := NB315_314.out
      have hcz32_0 : wc.cell? ⟨gb314, 0, none⟩ = some (.string a0_0) := (blk_cell BK314.out 0).trans rfl
      have hcz32_1 : wc.cell? ⟨gb314, 1, none⟩ = some (.slice A0_1 l0_1.length c0_1) := (blk_cell BK314.out 1).trans rfl
      have hcz32_2 : wc.cell? ⟨gb314, 2, none⟩ = some (.slice A0_2 l0_2.length c0_2) := (blk_cell BK314.out 2).trans rfl
      have hcz32_3 : wc.cell? ⟨gb314, 3, none⟩ = some (.slice A0_3 l0_3.length c0_3) := (blk_cell BK314.out 3).trans rfl
      have hcz32_4 : wc.cell? ⟨gb314, 4, none⟩ = some (.bool a0_4) := (blk_cell BK314.out 4).trans rfl
      have hcz32_5 : wc.cell? ⟨gb314, 5, none⟩ = some (.slice A0_5 l0_5.length c0_5) := (blk_cell BK314.out 5).trans rfl
      have hfz32_0 := blk_frozen BK314.out 0
      have hfz32_1 := blk_frozen BK314.out 1
      have hfz32_2 := blk_frozen BK314.out 2
      have hfz32_3 := blk_frozen BK314.out 3
      have hfz32_4 := blk_frozen BK314.out 4
      have hfz32_5 := blk_frozen BK314.out 5
      have hcz33_0 : wc.cell? ⟨gb315, 0, none⟩ = some (.string a1_0) := (blk_cell BK315.out 0).trans rfl
      have hcz33_1 : wc.cell? ⟨gb315, 1, none⟩ = some (.slice A1_1 l1_1.length c1_1) := (blk_cell BK315.out 1).trans rfl
      have hcz33_2 : wc.cell? ⟨gb315, 2, none⟩ = some (.slice A1_2 l1_2.length c1_2) := (blk_cell BK315.out 2).trans rfl
      have hcz33_3 : wc.cell? ⟨gb315, 3, none⟩ = some (.slice A1_3 l1_3.length c1_3) := (blk_cell BK315.out 3).trans rfl
      have hcz33_4 : wc.cell? ⟨gb315, 4, none⟩ = some (.bool a1_4) := (blk_cell BK315.out 4).trans rfl
      have hcz33_5 : wc.cell? ⟨gb315, 5, none⟩ = some (.slice A1_5 l1_5.length c1_5) := (blk_cell BK315.out 5).trans rfl
      have hfz33_0 := blk_frozen BK315.out 0
      have hfz33_1 := blk_frozen BK315.out 1
      have hfz33_2 := blk_frozen BK315.out 2
      have hfz33_3 := blk_frozen BK315.out 3
      have hfz33_4 := blk_frozen BK315.out 4
      have hfz33_5 := blk_frozen BK315.out 5
      go_wp2_with (first | ((with_reducible refine gate_callee (f := 49) rfl ?_); refine goesL_ (some 29) rfl rfl Try.func49 (by kernel_rfl) rfl #[.slice A0_5 l0_5.length c0_5, .slice A1_5 l1_5.length c1_5] rfl (by (try simp only [List.map_toArray, List.map_cons, List.map_nil]); first | done | rfl | (simp only [List.length_drop, List.length_take]; rfl)) ?_; (with_reducible refine (slices_Equal__api_Edit_api_Edit.calls _ _ l0_5 _ _ l1_5 true _ ?side1 ?side2 ?side3 ?side4 A19.out).mono ?_); (case side1 => repeat (first | exact (Kd.C_below HR0_5.out HB.out) | (with_reducible refine Kd.C_alloc ?_ _) | (with_reducible refine Kd.C_drewN ?_ _) | (with_reducible refine Kd.C_drew ?_))); (case side2 => exact HC0_5.out); (case side3 => repeat (first | exact (Kd.C_below HR1_5.out HB.out) | (with_reducible refine Kd.C_alloc ?_ _) | (with_reducible refine Kd.C_drewN ?_ _) | (with_reducible refine Kd.C_drew ?_))); (case side4 => exact HC1_5.out); rintro e w' ⟨rfl, ⟨nd, rfl⟩⟩; refine ⟨_, rfl, ?_⟩) | (go_at_call 50; (with_reducible refine (state_sameSteps.calls _ _ l0_2 _ _ l1_2 false _ ?side1 ?side2 ?side3 ?side4 A21.out).mono ?_); (case side1 => repeat (first | exact (Kd.C_below HR0_2.out (by repeat (first | (with_reducible first | exact HB.out | apply below_alloc | apply pw_below_drewN | apply below_drew1 | refine below_set ?_ GE314.out | refine below_set ?_ GE315.out) | exact HB.out))) | (with_reducible refine Kd.C_alloc ?_ _) | (with_reducible refine Kd.C_drewN ?_ _) | (with_reducible refine Kd.C_drew ?_))); (case side2 => exact HC0_2.out); (case side3 => repeat (first | exact (Kd.C_below HR1_2.out (by repeat (first | (with_reducible first | exact HB.out | apply below_alloc | apply pw_below_drewN | apply below_drew1 | refine below_set ?_ GE314.out | refine below_set ?_ GE315.out) | exact HB.out))) | (with_reducible refine Kd.C_alloc ?_ _) | (with_reducible refine Kd.C_drewN ?_ _) | (with_reducible refine Kd.C_drew ?_))); (case side4 => exact HC1_2.out); rintro e w34 ⟨rfl, hb⟩; have n0_ := Aside0.mk (blk_below (g := gb314) (o := .cells #[.string a0_0, .slice A0_1 l0_1.length c0_1, .slice A0_2 l0_2.length c0_2, .slice A0_3 l0_3.length c0_3, .bool a0_4, .slice A0_5 l0_5.length c0_5] 26 (0, 0)) (by (with_reducible repeat (first | refine blk_drewN ?_ _ | refine blk_drew ?_ | refine blk_alloc ?_ _)); exact BK314.out) hb); have n1_ := Aside0.mk (blk_below (g := gb315) (o := .cells #[.string a1_0, .slice A1_1 l1_1.length c1_1, .slice A1_2 l1_2.length c1_2, .slice A1_3 l1_3.length c1_3, .bool a1_4, .slice A1_5 l1_5.length c1_5] 26 (0, 0)) (by (with_reducible repeat (first | refine blk_drewN ?_ _ | refine blk_drew ?_ | refine blk_alloc ?_ _)); exact BK315.out) hb); have n2_ := Aside0.mk (below_step (by repeat (first | (with_reducible first | exact HB.out | apply below_alloc | apply pw_below_drewN | apply below_drew1 | refine below_set ?_ GE314.out | refine below_set ?_ GE315.out) | exact HB.out)) hb); clear BK314; clear BK315; clear HB; have BK314 := n0_; have BK315 := n1_; have HB := n2_; clear n0_ n1_ n2_; (try clear hb); (try clear hb2); (try clear hk); (try clear hi)))
      go_ret
      exact ⟨by first | rfl | (simp [errW_none, errW_some] <;> rfl) | (simp [*, errW_none, errW_some] <;> rfl), by repeat (first | (with_reducible first | exact HB.out | apply below_alloc | apply pw_below_drewN | apply below_drew1 | refine below_set ?_ GE314.out | refine below_set ?_ GE315.out) | exact HB.out)⟩
    ·replace c20 := Bool.eq_false_iff.mpr c20
     subst c20
     have H1 : (some false) = some r := by rw [if_neg (show ¬ (false = true) by decide)] at H; exact H
     clear H
     have H := H1
     clear H1
     obtain rfl := Option.some.inj H
     have hnb35 := NB314_315.out
     have hnc35 := NB315_314.out
     have hcz36_0 : wc.cell? ⟨gb314, 0, none⟩ = some (.string a0_0) := (blk_cell BK314.out 0).trans rfl
     have hcz36_1 : wc.cell? ⟨gb314, 1, none⟩ = some (.slice A0_1 l0_1.length c0_1) := (blk_cell BK314.out 1).trans rfl
     have hcz36_2 : wc.cell? ⟨gb314, 2, none⟩ = some (.slice A0_2 l0_2.length c0_2) := (blk_cell BK314.out 2).trans rfl
     have hcz36_3 : wc.cell? ⟨gb314, 3, none⟩ = some (.slice A0_3 l0_3.length c0_3) := (blk_cell BK314.out 3).trans rfl
     have hcz36_4 : wc.cell? ⟨gb314, 4, none⟩ = some (.bool a0_4) := (blk_cell BK314.out 4).trans rfl
     have hcz36_5 : wc.cell? ⟨gb314, 5, none⟩ = some (.slice A0_5 l0_5.length c0_5) := (blk_cell BK314.out 5).trans rfl
     have hfz36_0 := blk_frozen BK314.out 0
     have hfz36_1 := blk_frozen BK314.out 1
     have hfz36_2 := blk_frozen BK314.out 2
     have hfz36_3 := blk_frozen BK314.out 3
     have hfz36_4 := blk_frozen BK314.out 4
     have hfz36_5 := blk_frozen BK314.out 5
     have hcz37_0 : wc.cell? ⟨gb315, 0, none⟩ = some (.string a1_0) := (blk_cell BK315.out 0).trans rfl
     have hcz37_1 : wc.cell? ⟨gb315, 1, none⟩ = some (.slice A1_1 l1_1.length c1_1) := (blk_cell BK315.out 1).trans rfl
     have hcz37_2 : wc.cell? ⟨gb315, 2, none⟩ = some (.slice A1_2 l1_2.length c1_2) := (blk_cell BK315.out 2).trans rfl
     have hcz37_3 : wc.cell? ⟨gb315, 3, none⟩ = some (.slice A1_3 l1_3.length c1_3) := (blk_cell BK315.out 3).trans rfl
     have hcz37_4 : wc.cell? ⟨gb315, 4, none⟩ = some (.bool a1_4) := (blk_cell BK315.out 4).trans rfl
     have hcz37_5 : wc.cell? ⟨gb315, 5, none⟩ = some (.slice A1_5 l1_5.length c1_5) := (blk_cell BK315.out 5).trans rfl
     have hfz37_0 := blk_frozen BK315.out 0
     have hfz37_1 := blk_frozen BK315.out 1
     have hfz37_2 := blk_frozen BK315.out 2
     have hfz37_3 := blk_frozen BK315.out 3
     have hfz37_4 := blk_frozen BK315.out 4
     have hfz37_5 := blk_frozen BK315.out 5
     go_wp2_with (first | ((with_reducible refine gate_callee (f := 49) rfl ?_); refine goesL_ (some 29) rfl rfl Try.func49 (by kernel_rfl) rfl #[.slice A0_5 l0_5.length c0_5, .slice A1_5 l1_5.length c1_5] rfl (by (try simp only [List.map_toArray, List.map_cons, List.map_nil]); first | done | rfl | (simp only [List.length_drop, List.length_take]; rfl)) ?_; (with_reducible refine (slices_Equal__api_Edit_api_Edit.calls _ _ l0_5 _ _ l1_5 false _ ?side1 ?side2 ?side3 ?side4 A19.out).mono ?_); (case side1 => repeat (first | exact (Kd.C_below HR0_5.out HB.out) | (with_reducible refine Kd.C_alloc ?_ _) | (with_reducible refine Kd.C_drewN ?_ _) | (with_reducible refine Kd.C_drew ?_))); (case side2 => exact HC0_5.out); (case side3 => repeat (first | exact (Kd.C_below HR1_5.out HB.out) | (with_reducible refine Kd.C_alloc ?_ _) | (with_reducible refine Kd.C_drewN ?_ _) | (with_reducible refine Kd.C_drew ?_))); (case side4 => exact HC1_5.out); rintro e w' ⟨rfl, ⟨nd, rfl⟩⟩; refine ⟨_, rfl, ?_⟩))
     go_ret
     exact ⟨by first | rfl | (simp [errW_none, errW_some] <;> rfl) | (simp [*, errW_none, errW_some] <;> rfl), by repeat (first | (with_reducible first | exact HB.out | apply below_alloc | apply pw_below_drewN | apply below_drew1 | refine below_set ?_ GE314.out | refine below_set ?_ GE315.out) | exact HB.out)⟩

end Go.Proofs.Ytfhafkfcedghkaa.P
