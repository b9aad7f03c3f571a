import Derived.Test.YtnndanfghlnpfaaPx0
import Derived.Defers
import Derived.Test.YtnndanfghlnpfaaPx4
import Derived.Test.YtnndanfghlnpfaaPx5
import Derived.Test.YtnndanfghlnpfaaPx6
import Derived.Test.YtnndanfghlnpfaaPx7
namespace Go.Proofs.Ytnndanfghlnpfaa.P
open Go.RowKit Go.Proofs.YtnndanfghlnpfaaW.PrintWords Go.Proofs.YtnndanfghlnpfaaW.PrintLast Go.Proofs.YtnndanfghlnpfaaW.PrintMore
attribute [local go_sem] max2_int min2_int max_two min_two max_three min_three max_four min_four   -- for this text's walks alone
set_option linter.unusedVariables false
set_option linter.unusedSimpArgs false
/-! ### state_edits: function 41 -/
def state_edits.l0 : Nat → List (S88) → Int → Int → Option (Bool)
 | 0, _, _, _ => none
 | k + 1, x5, x6, x7 => if x7 < x6 then (if 0 ≤ x7 then (if x7 < (x5.length : Int) then (if (((rd_T88 x5 x7).f1).size : Int) > 512 then (some false) else (if (((rd_T88 x5 x7).f2).size : Int) > 512 then (some false) else (if ((rd_T88 x5 x7).f1).toList = ((rd_T88 x5 x7).f2).toList then (if ((rd_T88 x5 x7).f1).toList = ([] : List UInt8) then (some false) else (state_edits.l0 k x5 x6 (wrap64 (x7 + 1)))) else (state_edits.l0 k x5 x6 (wrap64 (x7 + 1)))))) else (none)) else (none)) else (some true)
def state_edits.f (k : Nat) (l0 : List (S88)) : Option (Bool) := state_edits.l0 k l0 (l0.length : Int) 0
theorem state_edits.mono_l : ∀ k, (∀ y0 y1 y2, LeO (state_edits.l0 k y0 y1 y2) (state_edits.l0 (k + 1) y0 y1 y2))
 | 0 => fun _ _ _ r h => by simp [state_edits.l0] at h
 | k + 1 => by
  have ih0 := state_edits.mono_l k
  ·intro y0 y1 y2
   unfold state_edits.l0
   repeat' first
   | (with_reducible exact ih0 _ _ _)
   | (with_reducible exact LeO.refl _)
   | (with_reducible exact LeO.none _)
   | (with_reducible refine LeO.ite ?_ ?_)
   | (with_reducible refine LeO.bind ?_ (fun _ => ?_))
   | exact ih0 _ _ _
   | exact LeO.none _
   | refine LeO.ite ?_ ?_
   | refine LeO.bind ?_ (fun _ => ?_)
theorem state_edits.mono : ∀ a0 k, LeO (state_edits.f k a0) (state_edits.f (k + 1) a0) := by
 intro a0 k
 have ih0 := state_edits.mono_l k
 unfold state_edits.f
 repeat' first
   | (with_reducible exact ih0 _ _ _)
   | (with_reducible exact LeO.refl _)
   | (with_reducible exact LeO.none _)
   | (with_reducible refine LeO.ite ?_ ?_)
   | (with_reducible refine LeO.bind ?_ (fun _ => ?_))
   | exact ih0 _ _ _
   | exact LeO.none _
   | refine LeO.ite ?_ ?_
   | refine LeO.bind ?_ (fun _ => ?_)
set_option maxHeartbeats 8000000 in
set_option maxRecDepth 100000 in
theorem state_edits.calls (k : Nat) (A0 : Option Addr) (c0 : Nat) (l0 : List (S88)) (r : Bool) (w : World) (hr0 : Kd.C k88 w A0 l0.length l0) (hc0 : l0.length ≤ c0) (h : state_edits.f k l0 = some r) :
  Calls Try.prog 41 #[.slice A0 l0.length c0] w fun e w' => e = .returned (.bool r) ∧ Below w.heap.size w w' := by
 have hu88 := Try.underlying88
 have HR0 := aS_ hr0
 have HC0 := aS_ hc0
 clear hr0 hc0
 have HB := aS_ (Below.refl w.heap.size w)
 have H : (state_edits.l0 k l0 (l0.length : Int) 0) = some r := h
 clear h
 have H' := aS_ H
 clear H
 go_enter Try.func41, Try.ntmps41
 go_wp2
 go_loopg [7] k (fun kq v7 w' => ∃ (x7_1 : Int), v7 = .int .i64 x7_1 ∧ Aside0 (state_edits.l0 kq l0 (l0.length : Int) x7_1 = some r) ∧ Aside0 (kq ≤ k) ∧ Aside0 (Below w.heap.size w w'))
 case atStart => exact ⟨(0), t0, H', ⟨Nat.le_refl _⟩, ⟨wk HB.out⟩⟩
 case round =>
  clear H'
  obtain ⟨x7_1, rfl, HA, HK1, HB⟩ := hrel
  cases gk with
  | zero => exact absurd HA.out (by simp [state_edits.l0])
  | succ k1 =>
   have H := HA.out
   clear HA
   simp only [state_edits.l0] at H
   by_cases c2 : x7_1 < (l0.length : Int)
   ·rw [if_pos c2] at H
    have c2b0 := decide_eq_true c2
    clear c2
    by_cases c3 : 0 ≤ x7_1
    ·rw [if_pos c3] at H
     have c3b0 := decide_eq_true c3
     clear c3
     by_cases c4 : x7_1 < (l0.length : Int)
     ·rw [if_pos c4] at H
      have c4b0 := decide_eq_true c4
      clear c4
      by_cases c5 : (((rd_T88 l0 x7_1).f1).size : Int) > 512
      ·rw [if_pos c5] at H
       have c5b0 := decide_eq_true c5
       have c5b1 : decide (512 < ((rd_T88 l0 x7_1).f1).size) = true := decide_eq_true (by omega)
       clear c5
       obtain rfl := Option.some.inj H
       have p148 : 0 ≤ (x7_1 : Int) := of_decide_eq_true (by first | (with_reducible assumption) | assumption)
       have q148 : x7_1 < (l0.length : Int) := of_decide_eq_true (by first | (with_reducible assumption) | assumption)
       obtain ⟨ad148, e148, hx148_0, hx148_1, hx148_2⟩ := at_T88 HR0.out x7_1 p148 q148
       cases e148
       replace hx148_0 := (HB.out.cell (World.block_lt_of_cell? w _ hx148_0)).trans hx148_0
       replace hx148_1 := (HB.out.cell (World.block_lt_of_cell? w _ hx148_1)).trans hx148_1
       replace hx148_2 := (HB.out.cell (World.block_lt_of_cell? w _ hx148_2)).trans hx148_2
       replace p148 := eq_true p148
       replace q148 := eq_true q148
       go_wp2_with (first | ((with_reducible refine gate_dst (N := 4) rfl ?_); (try (refine gate_guard (by rfl) ?_; dsimp only)); refine bx_ 4 #[.int .i64 0, .string (⟨#[]⟩ : ByteArray), .string (⟨#[]⟩ : ByteArray)] 88 ?_; intro gb149 hg w6 hbox hb; have BK149 := aS_ (hbox); have GW149 := ge_ hg (wk HB.out); have GE149 := ge_ hg (wk HB.out); replace HB := bw_ HB hb; clear hb hbox hg; obtain ⟨hcz7_0, hcz7_1, hcz7_2, hfz7_0, hfz7_1, hfz7_2⟩ := c3_ BK149.out))
       go_ret
       exact ⟨t1, wk HB.out⟩
      ·rw [if_neg c5] at H
       have c5b0 := decide_eq_false c5
       have c5b1 : decide (512 < ((rd_T88 l0 x7_1).f1).size) = false := decide_eq_false (by omega)
       clear c5
       by_cases c8 : (((rd_T88 l0 x7_1).f2).size : Int) > 512
       ·rw [if_pos c8] at H
        have c8b0 := decide_eq_true c8
        have c8b1 : decide (512 < ((rd_T88 l0 x7_1).f2).size) = true := decide_eq_true (by omega)
        clear c8
        obtain rfl := Option.some.inj H
        have p148 : 0 ≤ (x7_1 : Int) := of_decide_eq_true (by first | (with_reducible assumption) | assumption)
        have q148 : x7_1 < (l0.length : Int) := of_decide_eq_true (by first | (with_reducible assumption) | assumption)
        obtain ⟨ad148, e148, hx148_0, hx148_1, hx148_2⟩ := at_T88 HR0.out x7_1 p148 q148
        cases e148
        replace hx148_0 := (HB.out.cell (World.block_lt_of_cell? w _ hx148_0)).trans hx148_0
        replace hx148_1 := (HB.out.cell (World.block_lt_of_cell? w _ hx148_1)).trans hx148_1
        replace hx148_2 := (HB.out.cell (World.block_lt_of_cell? w _ hx148_2)).trans hx148_2
        replace p148 := eq_true p148
        replace q148 := eq_true q148
        go_wp2_with (first | ((with_reducible refine gate_dst (N := 4) rfl ?_); (try (refine gate_guard (by rfl) ?_; dsimp only)); refine bx_ 4 #[.int .i64 0, .string (⟨#[]⟩ : ByteArray), .string (⟨#[]⟩ : ByteArray)] 88 ?_; intro gb149 hg w9 hbox hb; have BK149 := aS_ (hbox); have GW149 := ge_ hg (wk HB.out); have GE149 := ge_ hg (wk HB.out); replace HB := bw_ HB hb; clear hb hbox hg; obtain ⟨hcz10_0, hcz10_1, hcz10_2, hfz10_0, hfz10_1, hfz10_2⟩ := c3_ BK149.out))
        go_ret
        exact ⟨t1, wk HB.out⟩
       ·rw [if_neg c8] at H
        have c8b0 := decide_eq_false c8
        have c8b1 : decide (512 < ((rd_T88 l0 x7_1).f2).size) = false := decide_eq_false (by omega)
        clear c8
        by_cases c11 : ((rd_T88 l0 x7_1).f1).toList = ((rd_T88 l0 x7_1).f2).toList
        ·rw [if_pos c11] at H
         have c11b0 := beq_iff_eq.mpr c11
         have c11b1 := bne_eq_false_iff_eq.mpr c11
         clear c11
         by_cases c12 : ((rd_T88 l0 x7_1).f1).toList = ([] : List UInt8)
         ·rw [if_pos c12] at H
          have c12b0 := beq_iff_eq.mpr c12
          have c12b1 := bne_eq_false_iff_eq.mpr c12
          clear c12
          obtain rfl := Option.some.inj H
          have p148 : 0 ≤ (x7_1 : Int) := of_decide_eq_true (by first | (with_reducible assumption) | assumption)
          have q148 : x7_1 < (l0.length : Int) := of_decide_eq_true (by first | (with_reducible assumption) | assumption)
          obtain ⟨ad148, e148, hx148_0, hx148_1, hx148_2⟩ := at_T88 HR0.out x7_1 p148 q148
          cases e148
          replace hx148_0 := (HB.out.cell (World.block_lt_of_cell? w _ hx148_0)).trans hx148_0
          replace hx148_1 := (HB.out.cell (World.block_lt_of_cell? w _ hx148_1)).trans hx148_1
          replace hx148_2 := (HB.out.cell (World.block_lt_of_cell? w _ hx148_2)).trans hx148_2
          replace p148 := eq_true p148
          replace q148 := eq_true q148
          go_wp2_with (first | ((with_reducible refine gate_dst (N := 4) rfl ?_); (try (refine gate_guard (by rfl) ?_; dsimp only)); refine bx_ 4 #[.int .i64 0, .string (⟨#[]⟩ : ByteArray), .string (⟨#[]⟩ : ByteArray)] 88 ?_; intro gb149 hg w13 hbox hb; have BK149 := aS_ (hbox); have GW149 := ge_ hg (wk HB.out); have GE149 := ge_ hg (wk HB.out); replace HB := bw_ HB hb; clear hb hbox hg; obtain ⟨hcz14_0, hcz14_1, hcz14_2, hfz14_0, hfz14_1, hfz14_2⟩ := c3_ BK149.out))
          go_ret
          exact ⟨t1, wk HB.out⟩
         ·rw [if_neg c12] at H
          have c12b0 := beq_eq_false_iff_ne.mpr c12
          have c12b1 := bne_iff_ne.mpr c12
          have H' := aS_ H
          clear H
          have p148 : 0 ≤ (x7_1 : Int) := of_decide_eq_true (by first | (with_reducible assumption) | assumption)
          have q148 : x7_1 < (l0.length : Int) := of_decide_eq_true (by first | (with_reducible assumption) | assumption)
          obtain ⟨ad148, e148, hx148_0, hx148_1, hx148_2⟩ := at_T88 HR0.out x7_1 p148 q148
          cases e148
          replace hx148_0 := (HB.out.cell (World.block_lt_of_cell? w _ hx148_0)).trans hx148_0
          replace hx148_1 := (HB.out.cell (World.block_lt_of_cell? w _ hx148_1)).trans hx148_1
          replace hx148_2 := (HB.out.cell (World.block_lt_of_cell? w _ hx148_2)).trans hx148_2
          replace p148 := eq_true p148
          replace q148 := eq_true q148
          go_wp2_with (first | ((with_reducible refine gate_dst (N := 4) rfl ?_); (try (refine gate_guard (by rfl) ?_; dsimp only)); refine bx_ 4 #[.int .i64 0, .string (⟨#[]⟩ : ByteArray), .string (⟨#[]⟩ : ByteArray)] 88 ?_; intro gb149 hg w15 hbox hb; have BK149 := aS_ (hbox); have GW149 := ge_ hg (wk HB.out); have GE149 := ge_ hg (wk HB.out); replace HB := bw_ HB hb; clear hb hbox hg; obtain ⟨hcz16_0, hcz16_1, hcz16_2, hfz16_0, hfz16_1, hfz16_2⟩ := c3_ BK149.out))
          go_roundg k1
          case measure => have := HK1.out; omega
          case rel => exact ⟨(wrap64 (x7_1 + 1)), t0, H', ⟨t2 HK1⟩, ⟨wk HB.out⟩⟩
        ·rw [if_neg c11] at H
         have c11b0 := beq_eq_false_iff_ne.mpr c11
         have c11b1 := bne_iff_ne.mpr c11
         have H' := aS_ H
         clear H
         have p148 : 0 ≤ (x7_1 : Int) := of_decide_eq_true (by first | (with_reducible assumption) | assumption)
         have q148 : x7_1 < (l0.length : Int) := of_decide_eq_true (by first | (with_reducible assumption) | assumption)
         obtain ⟨ad148, e148, hx148_0, hx148_1, hx148_2⟩ := at_T88 HR0.out x7_1 p148 q148
         cases e148
         replace hx148_0 := (HB.out.cell (World.block_lt_of_cell? w _ hx148_0)).trans hx148_0
         replace hx148_1 := (HB.out.cell (World.block_lt_of_cell? w _ hx148_1)).trans hx148_1
         replace hx148_2 := (HB.out.cell (World.block_lt_of_cell? w _ hx148_2)).trans hx148_2
         replace p148 := eq_true p148
         replace q148 := eq_true q148
         go_wp2_with (first | ((with_reducible refine gate_dst (N := 4) rfl ?_); (try (refine gate_guard (by rfl) ?_; dsimp only)); refine bx_ 4 #[.int .i64 0, .string (⟨#[]⟩ : ByteArray), .string (⟨#[]⟩ : ByteArray)] 88 ?_; intro gb149 hg w17 hbox hb; have BK149 := aS_ (hbox); have GW149 := ge_ hg (wk HB.out); have GE149 := ge_ hg (wk HB.out); replace HB := bw_ HB hb; clear hb hbox hg; obtain ⟨hcz18_0, hcz18_1, hcz18_2, hfz18_0, hfz18_1, hfz18_2⟩ := c3_ BK149.out))
         go_roundg k1
         case measure => have := HK1.out; omega
         case rel => exact ⟨(wrap64 (x7_1 + 1)), t0, H', ⟨t2 HK1⟩, ⟨wk HB.out⟩⟩
     ·rw [if_neg c4] at H
      exact absurd H (by simp)
    ·rw [if_neg c3] at H
     exact absurd H (by simp)
   ·rw [if_neg c2] at H
    have c2b0 := decide_eq_false c2
    clear c2
    obtain rfl := Option.some.inj H
    go_wp2
    go_ret
    exact ⟨t1, wk HB.out⟩
/-! ### state_steps: function 42 -/
def state_steps.l0 : Nat → List (S38) → Int → Int → Option (Bool)
 | 0, _, _, _ => none
 | k + 1, x5, x6, x7 => if x7 < x6 then (if 0 ≤ x7 then (if x7 < (x5.length : Int) then ((state_edits.f k ((rd_T38 x5 x7).f0)).bind fun t152 => (if t152 = true then (state_steps.l0 k x5 x6 (wrap64 (x7 + 1))) else (some false))) else (none)) else (none)) else (some true)
def state_steps.f (k : Nat) (l0 : List (S38)) : Option (Bool) := state_steps.l0 k l0 (l0.length : Int) 0
theorem state_steps.mono_l : ∀ k, (∀ y0 y1 y2, LeO (state_steps.l0 k y0 y1 y2) (state_steps.l0 (k + 1) y0 y1 y2))
 | 0 => fun _ _ _ r h => by simp [state_steps.l0] at h
 | k + 1 => by
  have ih0 := state_steps.mono_l k
  ·intro y0 y1 y2
   unfold state_steps.l0
   repeat' first
   | (with_reducible exact ih0 _ _ _)
   | (with_reducible exact state_edits.mono _ _)
   | (with_reducible exact LeO.refl _)
   | (with_reducible exact LeO.none _)
   | (with_reducible refine LeO.ite ?_ ?_)
   | (with_reducible refine LeO.bind ?_ (fun _ => ?_))
   | exact ih0 _ _ _
   | exact state_edits.mono _ _
   | exact LeO.none _
   | refine LeO.ite ?_ ?_
   | refine LeO.bind ?_ (fun _ => ?_)
theorem state_steps.mono : ∀ a0 k, LeO (state_steps.f k a0) (state_steps.f (k + 1) a0) := by
 intro a0 k
 have ih0 := state_steps.mono_l k
 unfold state_steps.f
 repeat' first
   | (with_reducible exact ih0 _ _ _)
   | (with_reducible exact state_edits.mono _ _)
   | (with_reducible exact LeO.refl _)
   | (with_reducible exact LeO.none _)
   | (with_reducible refine LeO.ite ?_ ?_)
   | (with_reducible refine LeO.bind ?_ (fun _ => ?_))
   | exact ih0 _ _ _
   | exact state_edits.mono _ _
   | exact LeO.none _
   | refine LeO.ite ?_ ?_
   | refine LeO.bind ?_ (fun _ => ?_)
set_option maxHeartbeats 8000000 in
set_option maxRecDepth 100000 in
theorem state_steps.calls (k : Nat) (A0 : Option Addr) (c0 : Nat) (l0 : List (S38)) (r : Bool) (w : World) (hr0 : Kd.C k38 w A0 l0.length l0) (hc0 : l0.length ≤ c0) (h : state_steps.f k l0 = some r) :
  Calls Try.prog 42 #[.slice A0 l0.length c0] w fun e w' => e = .returned (.bool r) ∧ Below w.heap.size w w' := by
 have hu38 := Try.underlying38
 have HR0 := aS_ hr0
 have HC0 := aS_ hc0
 clear hr0 hc0
 have HB := aS_ (Below.refl w.heap.size w)
 have H : (state_steps.l0 k l0 (l0.length : Int) 0) = some r := h
 clear h
 have H' := aS_ H
 clear H
 go_enter Try.func42, Try.ntmps42
 go_wp2
 go_loopg [7] k (fun kq v7 w' => ∃ (x7_1 : Int), v7 = .int .i64 x7_1 ∧ Aside0 (state_steps.l0 kq l0 (l0.length : Int) x7_1 = some r) ∧ Aside0 (kq ≤ k) ∧ Aside0 (Below w.heap.size w w'))
 case atStart => exact ⟨(0), t0, H', ⟨Nat.le_refl _⟩, ⟨wk HB.out⟩⟩
 case round =>
  clear H'
  obtain ⟨x7_1, rfl, HA, HK1, HB⟩ := hrel
  cases gk with
  | zero => exact absurd HA.out (by simp [state_steps.l0])
  | succ k1 =>
   have H := HA.out
   clear HA
   simp only [state_steps.l0] at H
   by_cases c2 : x7_1 < (l0.length : Int)
   ·rw [if_pos c2] at H
    have c2b0 := decide_eq_true c2
    clear c2
    by_cases c3 : 0 ≤ x7_1
    ·rw [if_pos c3] at H
     have c3b0 := decide_eq_true c3
     clear c3
     by_cases c4 : x7_1 < (l0.length : Int)
     ·rw [if_pos c4] at H
      have c4b0 := decide_eq_true c4
      clear c4
      replace H := Option.bind_eq_some_iff.mp H
      obtain ⟨t152, A50, H⟩ := H
      try dsimp only at H
      have A5 := aS_ A50
      clear A50
      by_cases c6 : t152 = true
      ·subst c6
       rw [if_pos rfl] at H
       have H' := aS_ H
       clear H
       have p150 : 0 ≤ (x7_1 : Int) := of_decide_eq_true (by first | (with_reducible assumption) | assumption)
       have q150 : x7_1 < (l0.length : Int) := of_decide_eq_true (by first | (with_reducible assumption) | assumption)
       obtain ⟨ad150, A150_0, c150_0, e150, hx150_0, hl150_0, hi150_0⟩ := at_T38 HR0.out x7_1 p150 q150
       cases e150
       replace hx150_0 := (HB.out.cell (World.block_lt_of_cell? w _ hx150_0)).trans hx150_0
       have HR150_0 := aS_ hi150_0
       have HC150_0 := aS_ hl150_0
       clear hi150_0 hl150_0
       replace p150 := eq_true p150
       replace q150 := eq_true q150
       go_wp2_with (first | (refine bx_ 4 #[.slice none 0 0] 38 ?_; intro gb151 hg w7 hbox hb; have BK151 := aS_ (hbox); have GW151 := ge_ hg (wk HB.out); have GE151 := ge_ hg (wk HB.out); replace HB := bw_ HB hb; clear hb hbox hg; obtain ⟨hcz8_0, hfz8_0⟩ := c1_ BK151.out) | (refine cl_ (some 13) Try.func41 #[.slice A150_0 ((rd_T38 l0 x7_1).f0).length c150_0] ?_; (with_reducible refine (state_edits.calls k1 _ _ ((rd_T38 l0 x7_1).f0) true _ ?side1 ?side2 A5.out).mono ?_); (case side1 => exact Kd.C_below HR150_0.out (wk HB.out)); (case side2 => exact HC150_0.out); rintro e w9 ⟨rfl, hb⟩; refine ⟨_, rfl, ?_⟩; replace BK151 := aS_ (blk_below (g := gb151) (o := .cells #[.slice A150_0 ((rd_T38 l0 x7_1).f0).length c150_0] 38 (0, 0)) (bp BK151.out) hb); replace HB := bw_ HB hb; try clear hb))
       go_roundg k1
       case measure => have := HK1.out; omega
       case rel => exact ⟨(wrap64 (x7_1 + 1)), t0, H', ⟨t2 HK1⟩, ⟨wk HB.out⟩⟩
      ·replace c6 := Bool.eq_false_iff.mpr c6
       subst c6
       rw [if_neg Bool.false_ne_true] at H
       obtain rfl := Option.some.inj H
       have p150 : 0 ≤ (x7_1 : Int) := of_decide_eq_true (by first | (with_reducible assumption) | assumption)
       have q150 : x7_1 < (l0.length : Int) := of_decide_eq_true (by first | (with_reducible assumption) | assumption)
       obtain ⟨ad150, A150_0, c150_0, e150, hx150_0, hl150_0, hi150_0⟩ := at_T38 HR0.out x7_1 p150 q150
       cases e150
       replace hx150_0 := (HB.out.cell (World.block_lt_of_cell? w _ hx150_0)).trans hx150_0
       have HR150_0 := aS_ hi150_0
       have HC150_0 := aS_ hl150_0
       clear hi150_0 hl150_0
       replace p150 := eq_true p150
       replace q150 := eq_true q150
       go_wp2_with (first | (refine bx_ 4 #[.slice none 0 0] 38 ?_; intro gb151 hg w10 hbox hb; have BK151 := aS_ (hbox); have GW151 := ge_ hg (wk HB.out); have GE151 := ge_ hg (wk HB.out); replace HB := bw_ HB hb; clear hb hbox hg; obtain ⟨hcz11_0, hfz11_0⟩ := c1_ BK151.out) | (refine cl_ (some 13) Try.func41 #[.slice A150_0 ((rd_T38 l0 x7_1).f0).length c150_0] ?_; (with_reducible refine (state_edits.calls k1 _ _ ((rd_T38 l0 x7_1).f0) false _ ?side1 ?side2 A5.out).mono ?_); (case side1 => exact Kd.C_below HR150_0.out (wk HB.out)); (case side2 => exact HC150_0.out); rintro e w12 ⟨rfl, hb⟩; refine ⟨_, rfl, ?_⟩; replace BK151 := aS_ (blk_below (g := gb151) (o := .cells #[.slice A150_0 ((rd_T38 l0 x7_1).f0).length c150_0] 38 (0, 0)) (bp BK151.out) hb); replace HB := bw_ HB hb; try clear hb))
       go_ret
       exact ⟨t1, wk HB.out⟩
     ·rw [if_neg c4] at H
      exact absurd H (by simp)
    ·rw [if_neg c3] at H
     exact absurd H (by simp)
   ·rw [if_neg c2] at H
    have c2b0 := decide_eq_false c2
    clear c2
    obtain rfl := Option.some.inj H
    go_wp2
    go_ret
    exact ⟨t1, wk HB.out⟩
/-! ### state_ahead: function 43 -/
def state_ahead.j0 : Nat → Bool → ByteArray → List (S49) → List (S38) → List (S38) → Bool → List (S88) → Option (ByteArray × Bool)
 | 0, _, _, _, _, _, _, _ => none
 | k + 1, x21, x154000, x154001, x154002, x154003, x154004, x154005 => if x21 = true then (some ((⟨#[]⟩ : ByteArray), false)) else ((step_Inverse.f k x154005).bind fun t154 => ((step_Right.f k x154000 t154).bind fun t158 => (if t158 = true then ((step_Run.f k x154000 t154).bind fun bt159 => (some (bt159.1, (bt159.2 == 0)))) else (some ((⟨#[]⟩ : ByteArray), false)))))
def state_ahead.f (k : Nat) (a0_0 : ByteArray) (l0_1 : List (S49)) (l0_2 : List (S38)) (l0_3 : List (S38)) (a0_4 : Bool) (l0_5 : List (S88)) : Option (ByteArray × Bool) := if (l0_5.length : Int) = 0 then (some (a0_0, true)) else (if a0_4 = true then (state_ahead.j0 k (decide ((l0_3.length : Int) > 0)) a0_0 l0_1 l0_2 l0_3 a0_4 l0_5) else (state_ahead.j0 k true a0_0 l0_1 l0_2 l0_3 a0_4 l0_5))
theorem state_ahead.mono_l : ∀ k, (∀ y0 y1 y2 y3 y4 y5 y6, LeO (state_ahead.j0 k y0 y1 y2 y3 y4 y5 y6) (state_ahead.j0 (k + 1) y0 y1 y2 y3 y4 y5 y6))
 | 0 => fun _ _ _ _ _ _ _ r h => by simp [state_ahead.j0] at h
 | k + 1 => by
  have ih0 := state_ahead.mono_l k
  ·intro y0 y1 y2 y3 y4 y5 y6
   unfold state_ahead.j0
   repeat' first
   | (with_reducible exact ih0 _ _ _ _ _ _ _)
   | (with_reducible exact step_Inverse.mono _ _)
   | (with_reducible exact step_Right.mono _ _ _)
   | (with_reducible exact step_Run.mono _ _ _)
   | (with_reducible exact LeO.refl _)
   | (with_reducible exact LeO.none _)
   | (with_reducible refine LeO.ite ?_ ?_)
   | (with_reducible refine LeO.bind ?_ (fun _ => ?_))
   | exact ih0 _ _ _ _ _ _ _
   | exact step_Inverse.mono _ _
   | exact step_Right.mono _ _ _
   | exact step_Run.mono _ _ _
   | exact LeO.none _
   | refine LeO.ite ?_ ?_
   | refine LeO.bind ?_ (fun _ => ?_)
theorem state_ahead.mono : ∀ a0 a1 a2 a3 a4 a5 k, LeO (state_ahead.f k a0 a1 a2 a3 a4 a5) (state_ahead.f (k + 1) a0 a1 a2 a3 a4 a5) := by
 intro a0 a1 a2 a3 a4 a5 k
 have ih0 := state_ahead.mono_l k
 unfold state_ahead.f
 repeat' first
   | (with_reducible exact ih0 _ _ _ _ _ _ _)
   | (with_reducible exact step_Inverse.mono _ _)
   | (with_reducible exact step_Right.mono _ _ _)
   | (with_reducible exact step_Run.mono _ _ _)
   | (with_reducible exact LeO.refl _)
   | (with_reducible exact LeO.none _)
   | (with_reducible refine LeO.ite ?_ ?_)
   | (with_reducible refine LeO.bind ?_ (fun _ => ?_))
   | exact ih0 _ _ _ _ _ _ _
   | exact step_Inverse.mono _ _
   | exact step_Right.mono _ _ _
   | exact step_Run.mono _ _ _
   | exact LeO.none _
   | refine LeO.ite ?_ ?_
   | refine LeO.bind ?_ (fun _ => ?_)
set_option maxHeartbeats 8000000 in
set_option maxRecDepth 100000 in
theorem state_ahead.calls (k : Nat) (a0_0 : ByteArray) (A0_1 : Option Addr) (c0_1 : Nat) (l0_1 : List (S49)) (A0_2 : Option Addr) (c0_2 : Nat) (l0_2 : List (S38)) (A0_3 : Option Addr) (c0_3 : Nat) (l0_3 : List (S38)) (a0_4 : Bool) (A0_5 : Option Addr) (c0_5 : Nat) (l0_5 : List (S88)) (r1 : ByteArray) (r2 : Bool) (w : World) (hr0_1 : Kd.C k49 w A0_1 l0_1.length l0_1) (hc0_1 : l0_1.length ≤ c0_1) (hr0_2 : Kd.C k38 w A0_2 l0_2.length l0_2) (hc0_2 : l0_2.length ≤ c0_2) (hr0_3 : Kd.C k38 w A0_3 l0_3.length l0_3) (hc0_3 : l0_3.length ≤ c0_3) (hr0_5 : Kd.C k88 w A0_5 l0_5.length l0_5) (hc0_5 : l0_5.length ≤ c0_5) (h : state_ahead.f k a0_0 l0_1 l0_2 l0_3 a0_4 l0_5 = some (r1, r2)) :
  Calls Try.prog 43 #[.agg #[.string a0_0, .slice A0_1 l0_1.length c0_1, .slice A0_2 l0_2.length c0_2, .slice A0_3 l0_3.length c0_3, .bool a0_4, .slice A0_5 l0_5.length c0_5]] w fun e w' => e = .returned (.tuple #[.string r1, .bool r2]) ∧ Below w.heap.size w w' := by
 have hu26 := Try.underlying26
 have hu38 := Try.underlying38
 have HR0_1 := aS_ hr0_1
 have HC0_1 := aS_ hc0_1
 clear hr0_1 hc0_1
 have HR0_2 := aS_ hr0_2
 have HC0_2 := aS_ hc0_2
 clear hr0_2 hc0_2
 have HR0_3 := aS_ hr0_3
 have HC0_3 := aS_ hc0_3
 clear hr0_3 hc0_3
 have HR0_5 := aS_ hr0_5
 have HC0_5 := aS_ hc0_5
 clear hr0_5 hc0_5
 have HB := aS_ (Below.refl w.heap.size w)
 have H : (if (l0_5.length : Int) = 0 then (some (a0_0, true)) else (if a0_4 = true then (state_ahead.j0 k (decide ((l0_3.length : Int) > 0)) a0_0 l0_1 l0_2 l0_3 a0_4 l0_5) else (state_ahead.j0 k true a0_0 l0_1 l0_2 l0_3 a0_4 l0_5))) = some (r1, r2) := h
 clear h
 by_cases c2 : (l0_5.length : Int) = 0
 ·rw [if_pos c2] at H
  have c2b0 := beq_iff_eq.mpr c2
  have c2b1 := bne_eq_false_iff_eq.mpr c2
  clear c2
  simp only [Option.some.injEq, Prod.mk.injEq] at H
  obtain ⟨rfl, rfl⟩ := H
  go_enter Try.func43, Try.ntmps43
  go_wp2_with (first | ((with_reducible refine gate_dst (N := 1) rfl ?_); (try (refine gate_guard (by rfl) ?_; dsimp only)); refine bx_ 1 #[.string a0_0, .slice A0_1 l0_1.length c0_1, .slice A0_2 l0_2.length c0_2, .slice A0_3 l0_3.length c0_3, .bool a0_4, .slice A0_5 l0_5.length c0_5] 26 ?_; intro gb153 hg w3 hbox hb; have BK153 := aS_ (hbox); have GW153 := ge_ hg (wk HB.out); have GE153 := ge_ hg (wk HB.out); replace HB := bw_ HB hb; clear hb hbox hg; obtain ⟨hcz4_0, hcz4_1, hcz4_2, hcz4_3, hcz4_4, hcz4_5, hfz4_0, hfz4_1, hfz4_2, hfz4_3, hfz4_4, hfz4_5⟩ := c6_ BK153.out))
  go_ret2
  exact ⟨t1, wk HB.out⟩
 ·rw [if_neg c2] at H
  have c2b0 := beq_eq_false_iff_ne.mpr c2
  have c2b1 := bne_iff_ne.mpr c2
  have c2b2 : ¬ (l0_5 = []) := fun h_ => c2 (by rw [h_]; rfl)
  have HC5 := aS_ H
  clear H
  go_enter Try.func43, Try.ntmps43
  go_upto_region 3 with (first | ((with_reducible refine gate_dst (N := 1) rfl ?_); (try (refine gate_guard (by rfl) ?_; dsimp only)); refine bx_ 1 #[.string a0_0, .slice A0_1 l0_1.length c0_1, .slice A0_2 l0_2.length c0_2, .slice A0_3 l0_3.length c0_3, .bool a0_4, .slice A0_5 l0_5.length c0_5] 26 ?_; intro gb153 hg w6 hbox hb; have BK153 := aS_ (hbox); have GW153 := ge_ hg (wk HB.out); have GE153 := ge_ hg (wk HB.out); replace HB := bw_ HB hb; clear hb hbox hg; obtain ⟨hcz7_0, hcz7_1, hcz7_2, hcz7_3, hcz7_4, hcz7_5, hfz7_0, hfz7_1, hfz7_2, hfz7_3, hfz7_4, hfz7_5⟩ := c6_ BK153.out))
  (try simp only [Act.put, List.setIfInBounds_toArray, List.set_cons_zero, List.set_cons_succ])
  go_cut [21] (fun v21 wc => ∃ (kq : Nat) (x21_4 : Bool), v21 = .bool x21_4 ∧ Aside0 (state_ahead.j0 kq x21_4 a0_0 l0_1 l0_2 l0_3 a0_4 l0_5 = some (r1, r2)) ∧ Aside0 (kq ≤ k) ∧ Aside0 (wc.heap[gb153]? = some (.cells #[.string a0_0, (.slice A0_1 l0_1.length c0_1), (.slice A0_2 l0_2.length c0_2), (.slice A0_3 l0_3.length c0_3), .bool a0_4, (.slice A0_5 l0_5.length c0_5)] 26 (0, 0))) ∧ Aside0 (Below w.heap.size w wc))
  case first =>
   have H := HC5.out
   clear HC5
   by_cases c8 : a0_4 = true
   ·subst c8
    rw [if_pos rfl] at H
    have H' := aS_ H
    clear H
    obtain ⟨hcz9_0, hcz9_1, hcz9_2, hcz9_3, hcz9_4, hcz9_5, hfz9_0, hfz9_1, hfz9_2, hfz9_3, hfz9_4, hfz9_5⟩ := c6_ BK153.out
    go_wp2
    go_meet
    case rel => exact ⟨_, (decide ((l0_3.length : Int) > 0)), t0, H', ⟨t3⟩, ⟨bq BK153.out⟩, ⟨wk HB.out⟩⟩
   ·replace c8 := Bool.eq_false_iff.mpr c8
    subst c8
    rw [if_neg Bool.false_ne_true] at H
    have H' := aS_ H
    clear H
    obtain ⟨hcz10_0, hcz10_1, hcz10_2, hcz10_3, hcz10_4, hcz10_5, hfz10_0, hfz10_1, hfz10_2, hfz10_3, hfz10_4, hfz10_5⟩ := c6_ BK153.out
    go_wp2
    go_meet
    case rel => exact ⟨_, (true), t0, H', ⟨t3⟩, ⟨bq BK153.out⟩, ⟨wk HB.out⟩⟩
  case rest =>
   clear HC5
   try clear c2
   try clear c2b0
   try clear c2b1
   try clear c2b2
   try clear p2
   try clear c4
   try clear c8
   try clear hcz10_0 hcz10_1 hcz10_2 hcz10_3 hcz10_4 hcz10_5 hcz4_0 hcz4_1 hcz4_2 hcz4_3 hcz4_4 hcz4_5 hcz7_0 hcz7_1 hcz7_2 hcz7_3 hcz7_4 hcz7_5 hcz9_0 hcz9_1 hcz9_2 hcz9_3 hcz9_4 hcz9_5 hfz10_0 hfz10_1 hfz10_2 hfz10_3 hfz10_4 hfz10_5 hfz4_0 hfz4_1 hfz4_2 hfz4_3 hfz4_4 hfz4_5 hfz7_0 hfz7_1 hfz7_2 hfz7_3 hfz7_4 hfz7_5 hfz9_0 hfz9_1 hfz9_2 hfz9_3 hfz9_4 hfz9_5
   obtain ⟨kq, x21_4, rfl, HA, HJ4, BK153, HB⟩ := hcut
   cases kq with
   | zero => exact absurd HA.out (by simp [state_ahead.j0])
   | succ kj4 =>
    have H := HA.out
    clear HA
    simp only [state_ahead.j0] at H
    by_cases c11 : x21_4 = true
    ·subst c11
     rw [if_pos rfl] at H
     simp only [Option.some.injEq, Prod.mk.injEq] at H
     obtain ⟨rfl, rfl⟩ := H
     go_wp2
     go_ret2
     exact ⟨t1, wk HB.out⟩
    ·replace c11 := Bool.eq_false_iff.mpr c11
     subst c11
     rw [if_neg Bool.false_ne_true] at H
     replace H := Option.bind_eq_some_iff.mp H
     obtain ⟨t154, A120, H⟩ := H
     try dsimp only at H
     have A12 := aS_ A120
     clear A120
     replace H := Option.bind_eq_some_iff.mp H
     obtain ⟨t158, A130, H⟩ := H
     try dsimp only at H
     have A13 := aS_ A130
     clear A130
     by_cases c14 : t158 = true
     ·subst c14
      rw [if_pos rfl] at H
      replace H := Option.bind_eq_some_iff.mp H
      obtain ⟨⟨t159, t160⟩, A150, H⟩ := H
      try dsimp only at H
      have A15 := aS_ A150
      clear A150
      simp only [Option.some.injEq, Prod.mk.injEq] at H
      obtain ⟨rfl, rfl⟩ := H
      obtain ⟨hcz16_0, hcz16_1, hcz16_2, hcz16_3, hcz16_4, hcz16_5, hfz16_0, hfz16_1, hfz16_2, hfz16_3, hfz16_4, hfz16_5⟩ := c6_ BK153.out
      go_wp2_with (first | (refine cl_ (some 25) Try.func66 #[.agg #[.slice A0_5 l0_5.length c0_5]] ?_; (with_reducible refine (step_Inverse.calls kj4 _ _ l0_5 t154 _ ?side1 ?side2 A12.out).mono ?_); (case side1 => repeat (first | exact (Kd.C_below HR0_5.out HB.out) | (with_reducible refine Kd.C_alloc ?_ _) | (with_reducible refine Kd.C_drewN ?_ _) | (with_reducible refine Kd.C_drew ?_))); (case side2 => exact HC0_5.out); rintro e w17 ⟨v155, rfl, ho0, hb⟩; refine ⟨_, rfl, ?_⟩; have HO156 := aS_ (Kd.R_lower ho0 (below_size (wk HB.out))); replace BK153 := bb_ BK153 hb; replace HB := bw_ HB hb; try clear hb; (try clear ho0)) | ((with_reducible refine gate_dst (N := 4) rfl ?_); (try (refine gate_guard (by rfl) ?_; dsimp only)); refine bx_ 4 #[.slice none 0 0] 38 ?_; intro gb157 hg w18 hbox hb; replace HO156 := rb_ HO156 hb; have BK157 := aS_ (hbox); have GW157 := ge_ hg (wk HB.out); have GE157 := ge_ hg (wk HB.out); replace HB := bw_ HB hb; have NB153_157 := nq_ hg (bk BK153.out); replace BK153 := bb_ BK153 hb; have NB157_153 := nr_ NB153_157; clear hb hbox hg; obtain ⟨Ao19, co19, eo19⟩ := Kd.R_slice HO156.out; subst eo19; have hnb20 := NB157_153.out; have hnc20 := NB153_157.out; obtain ⟨hcz21_0, hfz21_0⟩ := c1_ BK157.out; obtain ⟨hcz22_0, hcz22_1, hcz22_2, hcz22_3, hcz22_4, hcz22_5, hfz22_0, hfz22_1, hfz22_2, hfz22_3, hfz22_4, hfz22_5⟩ := c6_ BK153.out) | (refine cl_ (some 29) Try.func72 #[.string a0_0, .agg #[.slice Ao19 t154.length co19]] ?_; (with_reducible refine (step_Right.calls kj4 a0_0 _ _ t154 true _ ?side1 ?side2 A13.out).mono ?_); (case side1 => refine (Kd.R_reads' (e := 88) (base := w.heap.size) (ok := fun k_ => True) (n := t154.length) (c := co19) ?_).2.2; exact (by (with_reducible repeat (first | apply Kd.R_alloc | apply Kd.R_drewN | apply Kd.R_drew)); exact (Kd.R_mono (Kd.R_far (p := ⟨gb157, 0, none⟩) (Kd.R_types HO156.out BK157.out (by decide)) (fun _ hk => hk.2) (.slice Ao19 t154.length co19)) (fun _ h_ => h_.1)))); (case side2 => exact (Kd.R_reads' HO156.out).2.1); rintro e w23 ⟨rfl, hb⟩; refine ⟨_, rfl, ?_⟩; replace HO156 := aS_ (Kd.R_below (by (with_reducible repeat (first | apply Kd.R_alloc | apply Kd.R_drewN | apply Kd.R_drew)); exact (Kd.R_mono (Kd.R_far (p := ⟨gb157, 0, none⟩) (Kd.R_types HO156.out BK157.out (by decide)) (fun _ hk => hk.2) (.slice Ao19 t154.length co19)) (fun _ h_ => h_.1))) hb); replace BK153 := aS_ (blk_below (bq BK153.out) hb); replace BK157 := aS_ (blk_below (g := gb157) (o := .cells #[.slice Ao19 t154.length co19] 38 (0, 0)) (bp BK157.out) hb); replace HB := bw_ HB hb; try clear hb; obtain ⟨hcz24_0, hcz24_1, hcz24_2, hcz24_3, hcz24_4, hcz24_5, hfz24_0, hfz24_1, hfz24_2, hfz24_3, hfz24_4, hfz24_5⟩ := c6_ BK153.out; obtain ⟨hcz25_0, hfz25_0⟩ := c1_ BK157.out) | (refine cl_ (some 35) Try.func73 #[.string a0_0, .agg #[.slice Ao19 t154.length co19]] ?_; (with_reducible refine (step_Run.calls kj4 a0_0 _ _ t154 t159 t160 _ ?side1 ?side2 A15.out).mono ?_); (case side1 => repeat (first | exact (Kd.R_reads' HO156.out).2.2 | (with_reducible refine Kd.C_alloc ?_ _) | (with_reducible refine Kd.C_drewN ?_ _) | (with_reducible refine Kd.C_drew ?_))); (case side2 => exact (Kd.R_reads' HO156.out).2.1); rintro e w26 ⟨rfl, hb⟩; refine ⟨_, rfl, ?_⟩; replace HO156 := rb_ HO156 hb; replace BK153 := bb_ BK153 hb; replace BK157 := bb_ BK157 hb; replace HB := bw_ HB hb; try clear hb))
      go_ret2
      exact ⟨t1, wk HB.out⟩
     ·replace c14 := Bool.eq_false_iff.mpr c14
      subst c14
      rw [if_neg Bool.false_ne_true] at H
      simp only [Option.some.injEq, Prod.mk.injEq] at H
      obtain ⟨rfl, rfl⟩ := H
      obtain ⟨hcz27_0, hcz27_1, hcz27_2, hcz27_3, hcz27_4, hcz27_5, hfz27_0, hfz27_1, hfz27_2, hfz27_3, hfz27_4, hfz27_5⟩ := c6_ BK153.out
      go_wp2_with (first | (refine cl_ (some 25) Try.func66 #[.agg #[.slice A0_5 l0_5.length c0_5]] ?_; (with_reducible refine (step_Inverse.calls kj4 _ _ l0_5 t154 _ ?side1 ?side2 A12.out).mono ?_); (case side1 => repeat (first | exact (Kd.C_below HR0_5.out HB.out) | (with_reducible refine Kd.C_alloc ?_ _) | (with_reducible refine Kd.C_drewN ?_ _) | (with_reducible refine Kd.C_drew ?_))); (case side2 => exact HC0_5.out); rintro e w28 ⟨v155, rfl, ho0, hb⟩; refine ⟨_, rfl, ?_⟩; have HO156 := aS_ (Kd.R_lower ho0 (below_size (wk HB.out))); replace BK153 := bb_ BK153 hb; replace HB := bw_ HB hb; try clear hb; (try clear ho0)) | ((with_reducible refine gate_dst (N := 4) rfl ?_); (try (refine gate_guard (by rfl) ?_; dsimp only)); refine bx_ 4 #[.slice none 0 0] 38 ?_; intro gb157 hg w29 hbox hb; replace HO156 := rb_ HO156 hb; have BK157 := aS_ (hbox); have GW157 := ge_ hg (wk HB.out); have GE157 := ge_ hg (wk HB.out); replace HB := bw_ HB hb; have NB153_157 := nq_ hg (bk BK153.out); replace BK153 := bb_ BK153 hb; have NB157_153 := nr_ NB153_157; clear hb hbox hg; obtain ⟨Ao30, co30, eo30⟩ := Kd.R_slice HO156.out; subst eo30; have hnb31 := NB157_153.out; have hnc31 := NB153_157.out; obtain ⟨hcz32_0, hfz32_0⟩ := c1_ BK157.out; obtain ⟨hcz33_0, hcz33_1, hcz33_2, hcz33_3, hcz33_4, hcz33_5, hfz33_0, hfz33_1, hfz33_2, hfz33_3, hfz33_4, hfz33_5⟩ := c6_ BK153.out) | (refine cl_ (some 29) Try.func72 #[.string a0_0, .agg #[.slice Ao30 t154.length co30]] ?_; (with_reducible refine (step_Right.calls kj4 a0_0 _ _ t154 false _ ?side1 ?side2 A13.out).mono ?_); (case side1 => refine (Kd.R_reads' (e := 88) (base := w.heap.size) (ok := fun k_ => True) (n := t154.length) (c := co30) ?_).2.2; exact (by (with_reducible repeat (first | apply Kd.R_alloc | apply Kd.R_drewN | apply Kd.R_drew)); exact (Kd.R_mono (Kd.R_far (p := ⟨gb157, 0, none⟩) (Kd.R_types HO156.out BK157.out (by decide)) (fun _ hk => hk.2) (.slice Ao30 t154.length co30)) (fun _ h_ => h_.1)))); (case side2 => exact (Kd.R_reads' HO156.out).2.1); rintro e w34 ⟨rfl, hb⟩; refine ⟨_, rfl, ?_⟩; replace HO156 := aS_ (Kd.R_below (by (with_reducible repeat (first | apply Kd.R_alloc | apply Kd.R_drewN | apply Kd.R_drew)); exact (Kd.R_mono (Kd.R_far (p := ⟨gb157, 0, none⟩) (Kd.R_types HO156.out BK157.out (by decide)) (fun _ hk => hk.2) (.slice Ao30 t154.length co30)) (fun _ h_ => h_.1))) hb); replace BK153 := aS_ (blk_below (bq BK153.out) hb); replace BK157 := aS_ (blk_below (g := gb157) (o := .cells #[.slice Ao30 t154.length co30] 38 (0, 0)) (bp BK157.out) hb); replace HB := bw_ HB hb; try clear hb))
      go_ret2
      exact ⟨t1, wk HB.out⟩
/-! ### state_Right: function 13 -/
def state_Right.last (k : Nat) (b : Bool) (base : ByteArray) (text : ByteArray) (l2 l3 : List S38) : Option Bool :=
 if b = true then ((stack_Undoes.f k base l2).bind fun u => if u = true then stack_Redoes.f k text l3 else some false) else some false
theorem state_Right.mono_last (k : Nat) (b : Bool) (base text : ByteArray) (l2 l3 : List S38) : LeO (state_Right.last k b base text l2 l3) (state_Right.last (k + 1) b base text l2 l3) :=
 LeO.ite (LeO.bind (stack_Undoes.mono _ _ _) fun _ => LeO.ite (stack_Redoes.mono _ _ _) (LeO.refl _)) (LeO.refl _)
set_option maxHeartbeats 8000000 in
set_option maxRecDepth 100000 in
theorem state_Right.door (k : Nat) (u : FrameMode) (B g0 : Nat) (a0 : ByteArray) (A1 : Option Addr) (n1 c1 : Nat) (A2 : Option Addr) (c2 : Nat) (l2 : List S38) (A3 : Option Addr) (c3 : Nat) (l3 : List S38) (op : Bool) (A5 : Option Addr) (n5 c5 : Nat) (b : Bool) (base : ByteArray) (r : Bool) (w : World)
  (hB : B ≤ g0) (h0 : w.heap[g0]? = some (.cells #[.string a0, .slice A1 n1 c1, .slice A2 l2.length c2, .slice A3 l3.length c3, .bool op, .slice A5 n5 c5] 26 (0, 0)))
  (h1 : w.heap[g0 + 1]? = some (.cells #[.bool b] 4 (0, 0))) (h2 : w.heap[g0 + 1 + 1]? = some (.cells #[.string base] 9 (0, 0)))
  (hr2 : Kd.C k38 w A2 l2.length l2) (hc2 : l2.length ≤ c2) (hr3 : Kd.C k38 w A3 l3.length l3) (hc3 : l3.length ≤ c3) (h : state_Right.last k b base a0 l2 l3 = some r) :
  CallsD Try.prog 36 #[.pointer (some ⟨g0 + 1, 0, none⟩), .pointer (some ⟨g0 + 1 + 1, 0, none⟩), .pointer (some ⟨g0, 0, none⟩)] u w fun e u' w' => u' = u ∧ (e = .returned (.tuple #[]) ∧ w'.heap[g0 + 1]? = some (.cells #[.bool r] 4 (0, 0)) ∧ Below B w w') := by
 have q1 := (blk_cell h1 0).trans rfl
 have f1 := blk_frozen h1 0
 have hB1 := aS_ hB
 have q2 := (blk_cell h2 0).trans rfl
 have q00 := (blk_cell h0 0).trans rfl
 have q02 := (blk_cell h0 2).trans rfl
 have q03 := (blk_cell h0 3).trans rfl
 have H0 := aS_ h0
 have H1 := aS_ h1
 have HC2 := aS_ hr2
 have Hc2 := aS_ hc2
 have HC3 := aS_ hr3
 have Hc3 := aS_ hc3
 clear h0 h1 h2 hr2 hc2 hr3 hc3 hB
 unfold state_Right.last at h
 cases b with
 | false =>
  obtain rfl := Option.some.inj h
  clear h
  go_enter_d Try.func36, Try.ntmps36
  go_wp2_with fail
  go_end0
  exact ⟨rfl, blk_put H1.out 0 _ rfl, (Below.refl _ _).setCell (p := ⟨g0 + 1, 0, none⟩) (Nat.le_succ_of_le hB1.out) _⟩
 | true =>
  rw [if_pos rfl] at h
  obtain ⟨y, hA, h⟩ := Option.bind_eq_some_iff.mp h
  have HA := aS_ hA
  clear hA
  have K : ∀ w2, Below w.heap.size w w2 → w2.heap[g0 + 1]? = some (.cells #[.bool true] 4 (0, 0)) ∧ w2.heap[g0]? = some (.cells #[.string a0, .slice A1 n1 c1, .slice A2 l2.length c2, .slice A3 l3.length c3, .bool op, .slice A5 n5 c5] 26 (0, 0)) := fun w2 hb =>
   ⟨(hb.block _ (blk_lt H1.out)).trans H1.out, (hb.block _ (blk_lt H0.out)).trans H0.out⟩
  replace K := aS_ K
  have hBw : B ≤ w.heap.size := Nat.le_of_lt (Nat.lt_of_le_of_lt hB1.out (blk_lt H0.out))
  replace hBw := aS_ hBw
  cases y with
  | false =>
   obtain rfl := Option.some.inj h
   clear h
   go_enter_d Try.func36, Try.ntmps36
   go_wp2_with (go_at_call 37; (refine (stack_Undoes.calls k base A2 c2 l2 false _ HC2.out Hc2.out HA.out).mono ?_); rintro e w2 ⟨rfl, hb⟩; have KB := aS_ hb; have z1 := (blk_cell (K.out w2 hb).1 0).trans rfl; have z2 := blk_frozen (K.out w2 hb).1 0; clear hb)
   go_end0
   exact ⟨rfl, blk_put (K.out _ KB.out).1 0 _ rfl, (KB.out.mono hBw.out).setCell (p := ⟨g0 + 1, 0, none⟩) (Nat.le_succ_of_le hB1.out) _⟩
  | true =>
   replace h : stack_Redoes.f k a0 l3 = some r := h
   have HA2 := aS_ h
   clear h
   go_enter_d Try.func36, Try.ntmps36
   go_wp2_with (first
    | (go_at_call 37; (refine (stack_Undoes.calls k base A2 c2 l2 true _ HC2.out Hc2.out HA.out).mono ?_); rintro e w2 ⟨rfl, hb⟩; have KB := aS_ hb; have z1 := (blk_cell (K.out w2 hb).2 0).trans rfl; have z2 := (blk_cell (K.out w2 hb).2 3).trans rfl; clear hb)
    | (go_at_call 38; (refine (stack_Redoes.calls k a0 A3 c3 l3 r _ (Kd.C_below HC3.out KB.out) Hc3.out HA2.out).mono ?_); rintro e w3 ⟨rfl, hb3⟩; have KB3 := aS_ (KB.out.trans (hb3.mono KB.out.size)); have z3 := (blk_cell (K.out w3 KB3.out).1 0).trans rfl; have z4 := blk_frozen (K.out w3 KB3.out).1 0; clear hb3))
   go_end0
   exact ⟨rfl, blk_put (K.out _ KB3.out).1 0 _ rfl, (KB3.out.mono hBw.out).setCell (p := ⟨g0 + 1, 0, none⟩) (Nat.le_succ_of_le hB1.out) _⟩
def state_Right.f (k : Nat) (a0_0 : ByteArray) (l0_1 : List S49) (l0_2 l0_3 : List S38) (a0_4 : Bool) (l0_5 : List S88) : Option Bool :=
 if 4096 < a0_0.size then some false else ((utf_Valid.f k a0_0).bind fun v => if v = true then ((marks_Right.f k l0_1 a0_0).bind fun m => if m = true then ((state_edits.f k l0_5).bind fun e => if e = true then ((state_steps.f k l0_2).bind fun s => if s = true then ((state_steps.f k l0_3).bind fun t => if t = true then ((state_ahead.f k a0_0 l0_1 l0_2 l0_3 a0_4 l0_5).bind fun o => state_Right.last k o.2 o.1 a0_0 l0_2 l0_3) else some false) else some false) else some false) else some false) else some false)
theorem state_Right.mono : ∀ a0_0 l0_1 l0_2 l0_3 a0_4 l0_5 k, LeO (state_Right.f k a0_0 l0_1 l0_2 l0_3 a0_4 l0_5) (state_Right.f (k + 1) a0_0 l0_1 l0_2 l0_3 a0_4 l0_5) := by
 intro a0_0 l0_1 l0_2 l0_3 a0_4 l0_5 k
 unfold state_Right.f
 refine LeO.ite (LeO.refl _) (LeO.bind (utf_Valid.mono _ _) fun _ => LeO.ite (LeO.bind (marks_Right.mono _ _ _) fun _ => LeO.ite (LeO.bind (state_edits.mono _ _) fun _ => LeO.ite (LeO.bind (state_steps.mono _ _) fun _ => LeO.ite (LeO.bind (state_steps.mono _ _) fun _ => LeO.ite (LeO.bind (state_ahead.mono _ _ _ _ _ _ _) fun _ => state_Right.mono_last _ _ _ _ _ _) (LeO.refl _)) (LeO.refl _)) (LeO.refl _)) (LeO.refl _)) (LeO.refl _))
theorem state_Right.result (tm : Array Value) (g : Nat) (r : Bool) (w : World) (ht : tm.getD 2 undef = .pointer (some ⟨g, 0, none⟩)) (hg : w.heap[g]? = some (.cells #[.bool r] 4 (0, 0))) : (results Try.f13 tm).run Try.prog w = .ok (.bool r) w := by
 have hu := Try.underlying4
 have ht' : tm[2]?.getD undef = .pointer (some ⟨g, 0, none⟩) := by simpa using ht
 have hc := (blk_cell hg 0).trans rfl
 have hr : Try.f13.results = #[.cell 2 4] := rfl
 simp [results, hr, ht', asAddr, loadVar, go_sem, hu, hc]
theorem state_Right.at_door {R : Ending → World → Prop} (k : Nat) (B g0 : Nat) (tm : Array Value) (a0 : ByteArray) (A1 : Option Addr) (n1 c1 : Nat) (A2 : Option Addr) (c2 : Nat) (l2 : List S38) (A3 : Option Addr) (c3 : Nat) (l3 : List S38) (op : Bool) (A5 : Option Addr) (n5 c5 : Nat) (b : Bool) (base : ByteArray) (r : Bool) (w : World)
  (ht : tm.getD 2 undef = .pointer (some ⟨g0 + 1, 0, none⟩)) (hB : B ≤ g0) (h0 : w.heap[g0]? = some (.cells #[.string a0, .slice A1 n1 c1, .slice A2 l2.length c2, .slice A3 l3.length c3, .bool op, .slice A5 n5 c5] 26 (0, 0)))
  (h1 : w.heap[g0 + 1]? = some (.cells #[.bool b] 4 (0, 0))) (h2 : w.heap[g0 + 1 + 1]? = some (.cells #[.string base] 9 (0, 0)))
  (hr2 : Kd.C k38 w A2 l2.length l2) (hc2 : l2.length ≤ c2) (hr3 : Kd.C k38 w A3 l3.length l3) (hc3 : l3.length ≤ c3) (h : state_Right.last k b base a0 l2 l3 = some r)
  (hR : ∀ w', Below B w w' → R (.returned (.bool r)) w') :
  Leaves Try.prog Try.f13 tm R [{ target := .fn (.func 36) #[.pointer (some ⟨g0 + 1, 0, none⟩), .pointer (some ⟨g0 + 1 + 1, 0, none⟩), .pointer (some ⟨g0, 0, none⟩)], args := #[] }] .returning w := by
 refine leaves_cons (f := 36) (args := #[.pointer (some ⟨g0 + 1, 0, none⟩), .pointer (some ⟨g0 + 1 + 1, 0, none⟩), .pointer (some ⟨g0, 0, none⟩)]) (by simp) (by simp [go_sem]) ?_
 refine (state_Right.door k .returning B g0 a0 A1 n1 c1 A2 c2 l2 A3 c3 l3 op A5 n5 c5 b base r w hB h0 h1 h2 hr2 hc2 hr3 hc3 h).mono ?_
 rintro e u' w' ⟨rfl, rfl, hg, hb⟩
 exact ⟨_, state_Right.result tm (g0 + 1) r w' ht hg, hR w' hb⟩
theorem state_Right.keep {cs : Array Value} {t : ByteArray} {wc : World} {g0 : Nat} (h0 : wc.heap[g0]? = some (.cells cs 26 (0, 0))) (h1 : wc.heap[g0 + 1]? = some (.cells #[.bool false] 4 (0, 0))) (h2 : wc.heap[g0 + 1 + 1]? = some (.cells #[.string t] 9 (0, 0))) (W : World) (hb : Below wc.heap.size wc W) :
  W.heap[g0]? = some (.cells cs 26 (0, 0)) ∧ W.heap[g0 + 1]? = some (.cells #[.bool false] 4 (0, 0)) ∧ W.heap[g0 + 1 + 1]? = some (.cells #[.string t] 9 (0, 0)) :=
 ⟨(hb.block _ (blk_lt h0)).trans h0, (hb.block _ (blk_lt h1)).trans h1, (hb.block _ (blk_lt h2)).trans h2⟩
theorem state_Right.early (k : Nat) {w wc W : World} {tm : Array Value} {a0_0 : ByteArray} {A0_1 : Option Addr} {n1 c0_1 : Nat} {A0_2 : Option Addr} {c0_2 : Nat} {l0_2 : List S38} {A0_3 : Option Addr} {c0_3 : Nat} {l0_3 : List S38} {a0_4 : Bool} {A0_5 : Option Addr} {n5 c0_5 : Nat}
  (HB0 : Below w.heap.size w wc) (KB : Below wc.heap.size wc W) (K : W.heap[w.heap.size]? = some (.cells #[.string a0_0, .slice A0_1 n1 c0_1, .slice A0_2 l0_2.length c0_2, .slice A0_3 l0_3.length c0_3, .bool a0_4, .slice A0_5 n5 c0_5] 26 (0, 0)) ∧ W.heap[w.heap.size + 1]? = some (.cells #[.bool false] 4 (0, 0)) ∧ W.heap[w.heap.size + 1 + 1]? = some (.cells #[.string (⟨#[]⟩ : ByteArray)] 9 (0, 0)))
  (hr2 : Kd.C k38 w A0_2 l0_2.length l0_2) (hc2 : l0_2.length ≤ c0_2) (hr3 : Kd.C k38 w A0_3 l0_3.length l0_3) (hc3 : l0_3.length ≤ c0_3) (ht : tm.getD 2 undef = .pointer (some ⟨w.heap.size + 1, 0, none⟩)) :
  bodyPostD Try.prog Try.f13 (fun e w' => e = .returned (.bool false) ∧ Below w.heap.size w w') Exit.ret { tmps := tm, defers := [{ target := .fn (.func 36) #[.pointer (some ⟨w.heap.size + 1, 0, none⟩), .pointer (some ⟨w.heap.size + 1 + 1, 0, none⟩), .pointer (some ⟨w.heap.size, 0, none⟩)], args := #[] }] } (W.setCell ⟨w.heap.size + 1, 0, none⟩ (.bool false)) := by
 have hb : Below w.heap.size w W := HB0.trans (KB.mono HB0.size)
 have hq := hb.setCell (p := ⟨w.heap.size + 1, 0, none⟩) (Nat.le_succ _) (.bool false)
 refine state_Right.at_door k w.heap.size w.heap.size tm a0_0 A0_1 n1 c0_1 A0_2 c0_2 l0_2 A0_3 c0_3 l0_3 a0_4 A0_5 n5 c0_5 false (⟨#[]⟩ : ByteArray) false _ ht (Nat.le_refl _) (blk_far K.1 (by simp) _) (blk_put K.2.1 0 _ rfl) (blk_far K.2.2 (by simp) _) (Kd.C_below hr2 hq) hc2 (Kd.C_below hr3 hq) hc3 rfl ?_
 ·exact fun w' h => ⟨rfl, hq.trans h⟩
theorem state_Right.final (k : Nat) {ob : ByteArray} {ok r : Bool} {w wc W : World} {tm : Array Value} {a0_0 : ByteArray} {A0_1 : Option Addr} {n1 c0_1 : Nat} {A0_2 : Option Addr} {c0_2 : Nat} {l0_2 : List S38} {A0_3 : Option Addr} {c0_3 : Nat} {l0_3 : List S38} {a0_4 : Bool} {A0_5 : Option Addr} {n5 c0_5 : Nat}
  (HB0 : Below w.heap.size w wc) (KB : Below wc.heap.size wc W) (K : W.heap[w.heap.size]? = some (.cells #[.string a0_0, .slice A0_1 n1 c0_1, .slice A0_2 l0_2.length c0_2, .slice A0_3 l0_3.length c0_3, .bool a0_4, .slice A0_5 n5 c0_5] 26 (0, 0)) ∧ W.heap[w.heap.size + 1]? = some (.cells #[.bool false] 4 (0, 0)) ∧ W.heap[w.heap.size + 1 + 1]? = some (.cells #[.string (⟨#[]⟩ : ByteArray)] 9 (0, 0)))
  (hr2 : Kd.C k38 w A0_2 l0_2.length l0_2) (hc2 : l0_2.length ≤ c0_2) (hr3 : Kd.C k38 w A0_3 l0_3.length l0_3) (hc3 : l0_3.length ≤ c0_3) (hl : state_Right.last k ok ob a0_0 l0_2 l0_3 = some r) (ht : tm.getD 2 undef = .pointer (some ⟨w.heap.size + 1, 0, none⟩)) :
  bodyPostD Try.prog Try.f13 (fun e w' => e = .returned (.bool r) ∧ Below w.heap.size w w') Exit.ret { tmps := tm, defers := [{ target := .fn (.func 36) #[.pointer (some ⟨w.heap.size + 1, 0, none⟩), .pointer (some ⟨w.heap.size + 1 + 1, 0, none⟩), .pointer (some ⟨w.heap.size, 0, none⟩)], args := #[] }] } (((W.setCell ⟨w.heap.size + 1 + 1, 0, none⟩ (.string ob)).setCell ⟨w.heap.size + 1, 0, none⟩ (.bool ok)).setCell ⟨w.heap.size + 1, 0, none⟩ (.bool ok)) := by
 have hb : Below w.heap.size w W := HB0.trans (KB.mono HB0.size)
 have hq := ((hb.setCell (p := ⟨w.heap.size + 1 + 1, 0, none⟩) (by simp only; omega) (.string ob)).setCell (p := ⟨w.heap.size + 1, 0, none⟩) (Nat.le_succ _) (.bool ok)).setCell (p := ⟨w.heap.size + 1, 0, none⟩) (Nat.le_succ _) (.bool ok)
 refine state_Right.at_door k w.heap.size w.heap.size tm a0_0 A0_1 n1 c0_1 A0_2 c0_2 l0_2 A0_3 c0_3 l0_3 a0_4 A0_5 n5 c0_5 ok ob r _ ht (Nat.le_refl _) (blk_far (blk_far (blk_far K.1 (by simp only; omega) _) (by simp) _) (by simp) _) (blk_put (blk_put (blk_far K.2.1 (by simp) _) 0 _ rfl) 0 _ rfl) (blk_far (blk_far (blk_put K.2.2 0 _ rfl) (by simp) _) (by simp) _) (Kd.C_below hr2 hq) hc2 (Kd.C_below hr3 hq) hc3 hl ?_
 ·exact fun w' h => ⟨rfl, hq.trans h⟩
set_option maxHeartbeats 16000000 in
set_option maxRecDepth 100000 in
theorem state_Right.calls (k : Nat) (a0_0 : ByteArray) (A0_1 : Option Addr) (c0_1 : Nat) (l0_1 : List S49) (A0_2 : Option Addr) (c0_2 : Nat) (l0_2 : List S38) (A0_3 : Option Addr) (c0_3 : Nat) (l0_3 : List S38) (a0_4 : Bool) (A0_5 : Option Addr) (c0_5 : Nat) (l0_5 : List S88) (r : Bool) (w : World) (hr0_1 : Kd.C k49 w A0_1 l0_1.length l0_1) (hc0_1 : l0_1.length ≤ c0_1) (hr0_2 : Kd.C k38 w A0_2 l0_2.length l0_2) (hc0_2 : l0_2.length ≤ c0_2) (hr0_3 : Kd.C k38 w A0_3 l0_3.length l0_3) (hc0_3 : l0_3.length ≤ c0_3) (hr0_5 : Kd.C k88 w A0_5 l0_5.length l0_5) (hc0_5 : l0_5.length ≤ c0_5) (h : state_Right.f k a0_0 l0_1 l0_2 l0_3 a0_4 l0_5 = some r) :
  Calls Try.prog 13 #[.agg #[.string a0_0, .slice A0_1 l0_1.length c0_1, .slice A0_2 l0_2.length c0_2, .slice A0_3 l0_3.length c0_3, .bool a0_4, .slice A0_5 l0_5.length c0_5]] w fun e w' => e = .returned (.bool r) ∧ Below w.heap.size w w' := by
 have hmf : ∀ (fn : Fn) (first cap : Array Value) (w : World), (Instr.makeFunc fn first cap).run Try.prog w = .ok (.func fn first cap) w := fun _ _ _ _ => rfl
 have HC1 := aS_ hr0_1
 have Hc1 := aS_ hc0_1
 have HC2 := aS_ hr0_2
 have Hc2 := aS_ hc0_2
 have HC3 := aS_ hr0_3
 have Hc3 := aS_ hc0_3
 have HC5 := aS_ hr0_5
 have Hc5 := aS_ hc0_5
 have H := aS_ h
 clear h hr0_1 hr0_2 hr0_3 hr0_5 hc0_1 hc0_2 hc0_3 hc0_5
 go_enter_defers Try.func13, Try.ntmps13
 go_upto_region 3 with fail
 obtain ⟨wc, hwc⟩ : ∃ x : World, ((w.alloc (.cells #[.string a0_0, .slice A0_1 l0_1.length c0_1, .slice A0_2 l0_2.length c0_2, .slice A0_3 l0_3.length c0_3, .bool a0_4, .slice A0_5 l0_5.length c0_5] 26)).alloc (.cells #[.bool false] 4)).alloc (.cells #[.string (⟨#[]⟩ : ByteArray)] 9) = x := ⟨_, rfl⟩
 rw [hwc]
 have HW : wc.heap[w.heap.size]? = some (.cells #[.string a0_0, .slice A0_1 l0_1.length c0_1, .slice A0_2 l0_2.length c0_2, .slice A0_3 l0_3.length c0_3, .bool a0_4, .slice A0_5 l0_5.length c0_5] 26 (0, 0)) ∧ wc.heap[w.heap.size + 1]? = some (.cells #[.bool false] 4 (0, 0)) ∧ wc.heap[w.heap.size + 1 + 1]? = some (.cells #[.string (⟨#[]⟩ : ByteArray)] 9 (0, 0)) ∧ Below w.heap.size w wc := by
  subst hwc
  refine ⟨bA (bA (heap_alloc_new w _) _) _, bA ?_ _, ?_, wA (wA (wA (Below.refl _ _) _) _) _⟩
  ·simpa using heap_alloc_new (w.alloc (.cells #[.string a0_0, .slice A0_1 l0_1.length c0_1, .slice A0_2 l0_2.length c0_2, .slice A0_3 l0_3.length c0_3, .bool a0_4, .slice A0_5 l0_5.length c0_5] 26)) (.cells #[.bool false] 4)
  ·simpa using heap_alloc_new ((w.alloc (.cells #[.string a0_0, .slice A0_1 l0_1.length c0_1, .slice A0_2 l0_2.length c0_2, .slice A0_3 l0_3.length c0_3, .bool a0_4, .slice A0_5 l0_5.length c0_5] 26)).alloc (.cells #[.bool false] 4)) (.cells #[.string (⟨#[]⟩ : ByteArray)] 9)
 clear hwc
 have HB0 := aS_ HW.2.2.2
 have K := aS_ (state_Right.keep HW.1 HW.2.1 HW.2.2.1)
 have KB := aS_ (Below.refl wc.heap.size wc)
 clear HW
 have z0 := (blk_cell (K.out _ KB.out).1 0).trans rfl
 have z1 := (blk_cell (K.out _ KB.out).1 1).trans rfl
 have z2 := (blk_cell (K.out _ KB.out).1 2).trans rfl
 have z3 := (blk_cell (K.out _ KB.out).1 3).trans rfl
 have z4 := (blk_cell (K.out _ KB.out).1 4).trans rfl
 have z5 := (blk_cell (K.out _ KB.out).1 5).trans rfl
 have f1 := blk_frozen (K.out _ KB.out).2.1 0
 have f2 := blk_frozen (K.out _ KB.out).2.2 0
 have x1 := (blk_cell (K.out _ KB.out).2.1 0).trans rfl
 have x2 := (blk_cell (K.out _ KB.out).2.2 0).trans rfl
 replace H := H.out
 unfold state_Right.f at H
 by_cases c0 : 4096 < a0_0.size
 ·rw [if_pos c0] at H
  have d0 : decide (4096 < (a0_0.size : Int)) = true := decide_eq_true (by omega)
  obtain rfl := Option.some.inj H
  clear H
  go_wp2_with fail
  exact state_Right.early k HB0.out KB.out (K.out _ KB.out) HC2.out Hc2.out HC3.out Hc3.out rfl
 rw [if_neg c0] at H
 have d0 : decide (4096 < (a0_0.size : Int)) = false := decide_eq_false (by omega)
 obtain ⟨v, hA, H⟩ := Option.bind_eq_some_iff.mp H
 have HA1 := aS_ hA
 clear hA
 cases v with
 | false =>
  obtain rfl := Option.some.inj H
  clear H
  go_wp2_with (first | (go_at_call 39; (with_reducible refine (utf_Valid.calls k a0_0 false _ HA1.out).mono ?_); rintro e w2 ⟨rfl, hb⟩; replace KB := aS_ (KB.out.trans (hb.mono KB.out.size)); clear hb; (try clear z0 z1 z2 z3 z4 z5 f1 f2 x1 x2); have z0 := (blk_cell (K.out _ KB.out).1 0).trans rfl; have z1 := (blk_cell (K.out _ KB.out).1 1).trans rfl; have z2 := (blk_cell (K.out _ KB.out).1 2).trans rfl; have z3 := (blk_cell (K.out _ KB.out).1 3).trans rfl; have z4 := (blk_cell (K.out _ KB.out).1 4).trans rfl; have z5 := (blk_cell (K.out _ KB.out).1 5).trans rfl; have f1 := blk_frozen (K.out _ KB.out).2.1 0; have f2 := blk_frozen (K.out _ KB.out).2.2 0; have x1 := (blk_cell (K.out _ KB.out).2.1 0).trans rfl; have x2 := (blk_cell (K.out _ KB.out).2.2 0).trans rfl))
  exact state_Right.early k HB0.out KB.out (K.out _ KB.out) HC2.out Hc2.out HC3.out Hc3.out rfl
 | true =>
 rw [if_pos rfl] at H
 obtain ⟨m, hA, H⟩ := Option.bind_eq_some_iff.mp H
 have HA2 := aS_ hA
 clear hA
 cases m with
 | false =>
  obtain rfl := Option.some.inj H
  clear H
  go_wp2_with (first | (go_at_call 39; (with_reducible refine (utf_Valid.calls k a0_0 true _ HA1.out).mono ?_); rintro e w2 ⟨rfl, hb⟩; replace KB := aS_ (KB.out.trans (hb.mono KB.out.size)); clear hb; (try clear z0 z1 z2 z3 z4 z5 f1 f2 x1 x2); have z0 := (blk_cell (K.out _ KB.out).1 0).trans rfl; have z1 := (blk_cell (K.out _ KB.out).1 1).trans rfl; have z2 := (blk_cell (K.out _ KB.out).1 2).trans rfl; have z3 := (blk_cell (K.out _ KB.out).1 3).trans rfl; have z4 := (blk_cell (K.out _ KB.out).1 4).trans rfl; have z5 := (blk_cell (K.out _ KB.out).1 5).trans rfl; have f1 := blk_frozen (K.out _ KB.out).2.1 0; have f2 := blk_frozen (K.out _ KB.out).2.2 0; have x1 := (blk_cell (K.out _ KB.out).2.1 0).trans rfl; have x2 := (blk_cell (K.out _ KB.out).2.2 0).trans rfl) | (go_at_call 40; (with_reducible refine (marks_Right.calls k A0_1 c0_1 l0_1 a0_0 false _ (Kd.C_below HC1.out (HB0.out.trans (KB.out.mono HB0.out.size))) Hc1.out HA2.out).mono ?_); rintro e w2 ⟨rfl, hb⟩; replace KB := aS_ (KB.out.trans (hb.mono KB.out.size)); clear hb; (try clear z0 z1 z2 z3 z4 z5 f1 f2 x1 x2); have z0 := (blk_cell (K.out _ KB.out).1 0).trans rfl; have z1 := (blk_cell (K.out _ KB.out).1 1).trans rfl; have z2 := (blk_cell (K.out _ KB.out).1 2).trans rfl; have z3 := (blk_cell (K.out _ KB.out).1 3).trans rfl; have z4 := (blk_cell (K.out _ KB.out).1 4).trans rfl; have z5 := (blk_cell (K.out _ KB.out).1 5).trans rfl; have f1 := blk_frozen (K.out _ KB.out).2.1 0; have f2 := blk_frozen (K.out _ KB.out).2.2 0; have x1 := (blk_cell (K.out _ KB.out).2.1 0).trans rfl; have x2 := (blk_cell (K.out _ KB.out).2.2 0).trans rfl))
  exact state_Right.early k HB0.out KB.out (K.out _ KB.out) HC2.out Hc2.out HC3.out Hc3.out rfl
 | true =>
 rw [if_pos rfl] at H
 obtain ⟨e, hA, H⟩ := Option.bind_eq_some_iff.mp H
 have HA3 := aS_ hA
 clear hA
 cases e with
 | false =>
  obtain rfl := Option.some.inj H
  clear H
  go_wp2_with (first | (go_at_call 39; (with_reducible refine (utf_Valid.calls k a0_0 true _ HA1.out).mono ?_); rintro e w2 ⟨rfl, hb⟩; replace KB := aS_ (KB.out.trans (hb.mono KB.out.size)); clear hb; (try clear z0 z1 z2 z3 z4 z5 f1 f2 x1 x2); have z0 := (blk_cell (K.out _ KB.out).1 0).trans rfl; have z1 := (blk_cell (K.out _ KB.out).1 1).trans rfl; have z2 := (blk_cell (K.out _ KB.out).1 2).trans rfl; have z3 := (blk_cell (K.out _ KB.out).1 3).trans rfl; have z4 := (blk_cell (K.out _ KB.out).1 4).trans rfl; have z5 := (blk_cell (K.out _ KB.out).1 5).trans rfl; have f1 := blk_frozen (K.out _ KB.out).2.1 0; have f2 := blk_frozen (K.out _ KB.out).2.2 0; have x1 := (blk_cell (K.out _ KB.out).2.1 0).trans rfl; have x2 := (blk_cell (K.out _ KB.out).2.2 0).trans rfl) | (go_at_call 40; (with_reducible refine (marks_Right.calls k A0_1 c0_1 l0_1 a0_0 true _ (Kd.C_below HC1.out (HB0.out.trans (KB.out.mono HB0.out.size))) Hc1.out HA2.out).mono ?_); rintro e w2 ⟨rfl, hb⟩; replace KB := aS_ (KB.out.trans (hb.mono KB.out.size)); clear hb; (try clear z0 z1 z2 z3 z4 z5 f1 f2 x1 x2); have z0 := (blk_cell (K.out _ KB.out).1 0).trans rfl; have z1 := (blk_cell (K.out _ KB.out).1 1).trans rfl; have z2 := (blk_cell (K.out _ KB.out).1 2).trans rfl; have z3 := (blk_cell (K.out _ KB.out).1 3).trans rfl; have z4 := (blk_cell (K.out _ KB.out).1 4).trans rfl; have z5 := (blk_cell (K.out _ KB.out).1 5).trans rfl; have f1 := blk_frozen (K.out _ KB.out).2.1 0; have f2 := blk_frozen (K.out _ KB.out).2.2 0; have x1 := (blk_cell (K.out _ KB.out).2.1 0).trans rfl; have x2 := (blk_cell (K.out _ KB.out).2.2 0).trans rfl) | (go_at_call 41; (with_reducible refine (state_edits.calls k A0_5 c0_5 l0_5 false _ (Kd.C_below HC5.out (HB0.out.trans (KB.out.mono HB0.out.size))) Hc5.out HA3.out).mono ?_); rintro e w2 ⟨rfl, hb⟩; replace KB := aS_ (KB.out.trans (hb.mono KB.out.size)); clear hb; (try clear z0 z1 z2 z3 z4 z5 f1 f2 x1 x2); have z0 := (blk_cell (K.out _ KB.out).1 0).trans rfl; have z1 := (blk_cell (K.out _ KB.out).1 1).trans rfl; have z2 := (blk_cell (K.out _ KB.out).1 2).trans rfl; have z3 := (blk_cell (K.out _ KB.out).1 3).trans rfl; have z4 := (blk_cell (K.out _ KB.out).1 4).trans rfl; have z5 := (blk_cell (K.out _ KB.out).1 5).trans rfl; have f1 := blk_frozen (K.out _ KB.out).2.1 0; have f2 := blk_frozen (K.out _ KB.out).2.2 0; have x1 := (blk_cell (K.out _ KB.out).2.1 0).trans rfl; have x2 := (blk_cell (K.out _ KB.out).2.2 0).trans rfl))
  exact state_Right.early k HB0.out KB.out (K.out _ KB.out) HC2.out Hc2.out HC3.out Hc3.out rfl
 | true =>
 rw [if_pos rfl] at H
 obtain ⟨s, hA, H⟩ := Option.bind_eq_some_iff.mp H
 have HA4 := aS_ hA
 clear hA
 cases s with
 | false =>
  obtain rfl := Option.some.inj H
  clear H
  go_wp2_with (first | (go_at_call 39; (with_reducible refine (utf_Valid.calls k a0_0 true _ HA1.out).mono ?_); rintro e w2 ⟨rfl, hb⟩; replace KB := aS_ (KB.out.trans (hb.mono KB.out.size)); clear hb; (try clear z0 z1 z2 z3 z4 z5 f1 f2 x1 x2); have z0 := (blk_cell (K.out _ KB.out).1 0).trans rfl; have z1 := (blk_cell (K.out _ KB.out).1 1).trans rfl; have z2 := (blk_cell (K.out _ KB.out).1 2).trans rfl; have z3 := (blk_cell (K.out _ KB.out).1 3).trans rfl; have z4 := (blk_cell (K.out _ KB.out).1 4).trans rfl; have z5 := (blk_cell (K.out _ KB.out).1 5).trans rfl; have f1 := blk_frozen (K.out _ KB.out).2.1 0; have f2 := blk_frozen (K.out _ KB.out).2.2 0; have x1 := (blk_cell (K.out _ KB.out).2.1 0).trans rfl; have x2 := (blk_cell (K.out _ KB.out).2.2 0).trans rfl) | (go_at_call 40; (with_reducible refine (marks_Right.calls k A0_1 c0_1 l0_1 a0_0 true _ (Kd.C_below HC1.out (HB0.out.trans (KB.out.mono HB0.out.size))) Hc1.out HA2.out).mono ?_); rintro e w2 ⟨rfl, hb⟩; replace KB := aS_ (KB.out.trans (hb.mono KB.out.size)); clear hb; (try clear z0 z1 z2 z3 z4 z5 f1 f2 x1 x2); have z0 := (blk_cell (K.out _ KB.out).1 0).trans rfl; have z1 := (blk_cell (K.out _ KB.out).1 1).trans rfl; have z2 := (blk_cell (K.out _ KB.out).1 2).trans rfl; have z3 := (blk_cell (K.out _ KB.out).1 3).trans rfl; have z4 := (blk_cell (K.out _ KB.out).1 4).trans rfl; have z5 := (blk_cell (K.out _ KB.out).1 5).trans rfl; have f1 := blk_frozen (K.out _ KB.out).2.1 0; have f2 := blk_frozen (K.out _ KB.out).2.2 0; have x1 := (blk_cell (K.out _ KB.out).2.1 0).trans rfl; have x2 := (blk_cell (K.out _ KB.out).2.2 0).trans rfl) | (go_at_call 41; (with_reducible refine (state_edits.calls k A0_5 c0_5 l0_5 true _ (Kd.C_below HC5.out (HB0.out.trans (KB.out.mono HB0.out.size))) Hc5.out HA3.out).mono ?_); rintro e w2 ⟨rfl, hb⟩; replace KB := aS_ (KB.out.trans (hb.mono KB.out.size)); clear hb; (try clear z0 z1 z2 z3 z4 z5 f1 f2 x1 x2); have z0 := (blk_cell (K.out _ KB.out).1 0).trans rfl; have z1 := (blk_cell (K.out _ KB.out).1 1).trans rfl; have z2 := (blk_cell (K.out _ KB.out).1 2).trans rfl; have z3 := (blk_cell (K.out _ KB.out).1 3).trans rfl; have z4 := (blk_cell (K.out _ KB.out).1 4).trans rfl; have z5 := (blk_cell (K.out _ KB.out).1 5).trans rfl; have f1 := blk_frozen (K.out _ KB.out).2.1 0; have f2 := blk_frozen (K.out _ KB.out).2.2 0; have x1 := (blk_cell (K.out _ KB.out).2.1 0).trans rfl; have x2 := (blk_cell (K.out _ KB.out).2.2 0).trans rfl) | (go_at_call 42; (with_reducible refine (state_steps.calls k A0_2 c0_2 l0_2 false _ (Kd.C_below HC2.out (HB0.out.trans (KB.out.mono HB0.out.size))) Hc2.out HA4.out).mono ?_); rintro e w2 ⟨rfl, hb⟩; replace KB := aS_ (KB.out.trans (hb.mono KB.out.size)); clear hb; (try clear z0 z1 z2 z3 z4 z5 f1 f2 x1 x2); have z0 := (blk_cell (K.out _ KB.out).1 0).trans rfl; have z1 := (blk_cell (K.out _ KB.out).1 1).trans rfl; have z2 := (blk_cell (K.out _ KB.out).1 2).trans rfl; have z3 := (blk_cell (K.out _ KB.out).1 3).trans rfl; have z4 := (blk_cell (K.out _ KB.out).1 4).trans rfl; have z5 := (blk_cell (K.out _ KB.out).1 5).trans rfl; have f1 := blk_frozen (K.out _ KB.out).2.1 0; have f2 := blk_frozen (K.out _ KB.out).2.2 0; have x1 := (blk_cell (K.out _ KB.out).2.1 0).trans rfl; have x2 := (blk_cell (K.out _ KB.out).2.2 0).trans rfl))
  exact state_Right.early k HB0.out KB.out (K.out _ KB.out) HC2.out Hc2.out HC3.out Hc3.out rfl
 | true =>
 rw [if_pos rfl] at H
 obtain ⟨t, hA, H⟩ := Option.bind_eq_some_iff.mp H
 have HA5 := aS_ hA
 clear hA
 cases t with
 | false =>
  obtain rfl := Option.some.inj H
  clear H
  go_wp2_with (first | (go_at_call 39; (with_reducible refine (utf_Valid.calls k a0_0 true _ HA1.out).mono ?_); rintro e w2 ⟨rfl, hb⟩; replace KB := aS_ (KB.out.trans (hb.mono KB.out.size)); clear hb; (try clear z0 z1 z2 z3 z4 z5 f1 f2 x1 x2); have z0 := (blk_cell (K.out _ KB.out).1 0).trans rfl; have z1 := (blk_cell (K.out _ KB.out).1 1).trans rfl; have z2 := (blk_cell (K.out _ KB.out).1 2).trans rfl; have z3 := (blk_cell (K.out _ KB.out).1 3).trans rfl; have z4 := (blk_cell (K.out _ KB.out).1 4).trans rfl; have z5 := (blk_cell (K.out _ KB.out).1 5).trans rfl; have f1 := blk_frozen (K.out _ KB.out).2.1 0; have f2 := blk_frozen (K.out _ KB.out).2.2 0; have x1 := (blk_cell (K.out _ KB.out).2.1 0).trans rfl; have x2 := (blk_cell (K.out _ KB.out).2.2 0).trans rfl) | (go_at_call 40; (with_reducible refine (marks_Right.calls k A0_1 c0_1 l0_1 a0_0 true _ (Kd.C_below HC1.out (HB0.out.trans (KB.out.mono HB0.out.size))) Hc1.out HA2.out).mono ?_); rintro e w2 ⟨rfl, hb⟩; replace KB := aS_ (KB.out.trans (hb.mono KB.out.size)); clear hb; (try clear z0 z1 z2 z3 z4 z5 f1 f2 x1 x2); have z0 := (blk_cell (K.out _ KB.out).1 0).trans rfl; have z1 := (blk_cell (K.out _ KB.out).1 1).trans rfl; have z2 := (blk_cell (K.out _ KB.out).1 2).trans rfl; have z3 := (blk_cell (K.out _ KB.out).1 3).trans rfl; have z4 := (blk_cell (K.out _ KB.out).1 4).trans rfl; have z5 := (blk_cell (K.out _ KB.out).1 5).trans rfl; have f1 := blk_frozen (K.out _ KB.out).2.1 0; have f2 := blk_frozen (K.out _ KB.out).2.2 0; have x1 := (blk_cell (K.out _ KB.out).2.1 0).trans rfl; have x2 := (blk_cell (K.out _ KB.out).2.2 0).trans rfl) | (go_at_call 41; (with_reducible refine (state_edits.calls k A0_5 c0_5 l0_5 true _ (Kd.C_below HC5.out (HB0.out.trans (KB.out.mono HB0.out.size))) Hc5.out HA3.out).mono ?_); rintro e w2 ⟨rfl, hb⟩; replace KB := aS_ (KB.out.trans (hb.mono KB.out.size)); clear hb; (try clear z0 z1 z2 z3 z4 z5 f1 f2 x1 x2); have z0 := (blk_cell (K.out _ KB.out).1 0).trans rfl; have z1 := (blk_cell (K.out _ KB.out).1 1).trans rfl; have z2 := (blk_cell (K.out _ KB.out).1 2).trans rfl; have z3 := (blk_cell (K.out _ KB.out).1 3).trans rfl; have z4 := (blk_cell (K.out _ KB.out).1 4).trans rfl; have z5 := (blk_cell (K.out _ KB.out).1 5).trans rfl; have f1 := blk_frozen (K.out _ KB.out).2.1 0; have f2 := blk_frozen (K.out _ KB.out).2.2 0; have x1 := (blk_cell (K.out _ KB.out).2.1 0).trans rfl; have x2 := (blk_cell (K.out _ KB.out).2.2 0).trans rfl) | (go_at_call 42; (with_reducible refine (state_steps.calls k A0_2 c0_2 l0_2 true _ (Kd.C_below HC2.out (HB0.out.trans (KB.out.mono HB0.out.size))) Hc2.out HA4.out).mono ?_); rintro e w2 ⟨rfl, hb⟩; replace KB := aS_ (KB.out.trans (hb.mono KB.out.size)); clear hb; (try clear z0 z1 z2 z3 z4 z5 f1 f2 x1 x2); have z0 := (blk_cell (K.out _ KB.out).1 0).trans rfl; have z1 := (blk_cell (K.out _ KB.out).1 1).trans rfl; have z2 := (blk_cell (K.out _ KB.out).1 2).trans rfl; have z3 := (blk_cell (K.out _ KB.out).1 3).trans rfl; have z4 := (blk_cell (K.out _ KB.out).1 4).trans rfl; have z5 := (blk_cell (K.out _ KB.out).1 5).trans rfl; have f1 := blk_frozen (K.out _ KB.out).2.1 0; have f2 := blk_frozen (K.out _ KB.out).2.2 0; have x1 := (blk_cell (K.out _ KB.out).2.1 0).trans rfl; have x2 := (blk_cell (K.out _ KB.out).2.2 0).trans rfl) | (go_at_call 42; (with_reducible refine (state_steps.calls k A0_3 c0_3 l0_3 false _ (Kd.C_below HC3.out (HB0.out.trans (KB.out.mono HB0.out.size))) Hc3.out HA5.out).mono ?_); rintro e w2 ⟨rfl, hb⟩; replace KB := aS_ (KB.out.trans (hb.mono KB.out.size)); clear hb; (try clear z0 z1 z2 z3 z4 z5 f1 f2 x1 x2); have z0 := (blk_cell (K.out _ KB.out).1 0).trans rfl; have z1 := (blk_cell (K.out _ KB.out).1 1).trans rfl; have z2 := (blk_cell (K.out _ KB.out).1 2).trans rfl; have z3 := (blk_cell (K.out _ KB.out).1 3).trans rfl; have z4 := (blk_cell (K.out _ KB.out).1 4).trans rfl; have z5 := (blk_cell (K.out _ KB.out).1 5).trans rfl; have f1 := blk_frozen (K.out _ KB.out).2.1 0; have f2 := blk_frozen (K.out _ KB.out).2.2 0; have x1 := (blk_cell (K.out _ KB.out).2.1 0).trans rfl; have x2 := (blk_cell (K.out _ KB.out).2.2 0).trans rfl))
  exact state_Right.early k HB0.out KB.out (K.out _ KB.out) HC2.out Hc2.out HC3.out Hc3.out rfl
 | true =>
 rw [if_pos rfl] at H
 obtain ⟨⟨ob, ok⟩, hA, H⟩ := Option.bind_eq_some_iff.mp H
 have HA6 := aS_ hA
 clear hA
 try dsimp only at H
 have HL := aS_ H
 clear H
 go_wp2_with (first | (go_at_call 39; (with_reducible refine (utf_Valid.calls k a0_0 true _ HA1.out).mono ?_); rintro e w2 ⟨rfl, hb⟩; replace KB := aS_ (KB.out.trans (hb.mono KB.out.size)); clear hb; (try clear z0 z1 z2 z3 z4 z5 f1 f2 x1 x2); have z0 := (blk_cell (K.out _ KB.out).1 0).trans rfl; have z1 := (blk_cell (K.out _ KB.out).1 1).trans rfl; have z2 := (blk_cell (K.out _ KB.out).1 2).trans rfl; have z3 := (blk_cell (K.out _ KB.out).1 3).trans rfl; have z4 := (blk_cell (K.out _ KB.out).1 4).trans rfl; have z5 := (blk_cell (K.out _ KB.out).1 5).trans rfl; have f1 := blk_frozen (K.out _ KB.out).2.1 0; have f2 := blk_frozen (K.out _ KB.out).2.2 0; have x1 := (blk_cell (K.out _ KB.out).2.1 0).trans rfl; have x2 := (blk_cell (K.out _ KB.out).2.2 0).trans rfl) | (go_at_call 40; (with_reducible refine (marks_Right.calls k A0_1 c0_1 l0_1 a0_0 true _ (Kd.C_below HC1.out (HB0.out.trans (KB.out.mono HB0.out.size))) Hc1.out HA2.out).mono ?_); rintro e w2 ⟨rfl, hb⟩; replace KB := aS_ (KB.out.trans (hb.mono KB.out.size)); clear hb; (try clear z0 z1 z2 z3 z4 z5 f1 f2 x1 x2); have z0 := (blk_cell (K.out _ KB.out).1 0).trans rfl; have z1 := (blk_cell (K.out _ KB.out).1 1).trans rfl; have z2 := (blk_cell (K.out _ KB.out).1 2).trans rfl; have z3 := (blk_cell (K.out _ KB.out).1 3).trans rfl; have z4 := (blk_cell (K.out _ KB.out).1 4).trans rfl; have z5 := (blk_cell (K.out _ KB.out).1 5).trans rfl; have f1 := blk_frozen (K.out _ KB.out).2.1 0; have f2 := blk_frozen (K.out _ KB.out).2.2 0; have x1 := (blk_cell (K.out _ KB.out).2.1 0).trans rfl; have x2 := (blk_cell (K.out _ KB.out).2.2 0).trans rfl) | (go_at_call 41; (with_reducible refine (state_edits.calls k A0_5 c0_5 l0_5 true _ (Kd.C_below HC5.out (HB0.out.trans (KB.out.mono HB0.out.size))) Hc5.out HA3.out).mono ?_); rintro e w2 ⟨rfl, hb⟩; replace KB := aS_ (KB.out.trans (hb.mono KB.out.size)); clear hb; (try clear z0 z1 z2 z3 z4 z5 f1 f2 x1 x2); have z0 := (blk_cell (K.out _ KB.out).1 0).trans rfl; have z1 := (blk_cell (K.out _ KB.out).1 1).trans rfl; have z2 := (blk_cell (K.out _ KB.out).1 2).trans rfl; have z3 := (blk_cell (K.out _ KB.out).1 3).trans rfl; have z4 := (blk_cell (K.out _ KB.out).1 4).trans rfl; have z5 := (blk_cell (K.out _ KB.out).1 5).trans rfl; have f1 := blk_frozen (K.out _ KB.out).2.1 0; have f2 := blk_frozen (K.out _ KB.out).2.2 0; have x1 := (blk_cell (K.out _ KB.out).2.1 0).trans rfl; have x2 := (blk_cell (K.out _ KB.out).2.2 0).trans rfl) | (go_at_call 42; (with_reducible refine (state_steps.calls k A0_2 c0_2 l0_2 true _ (Kd.C_below HC2.out (HB0.out.trans (KB.out.mono HB0.out.size))) Hc2.out HA4.out).mono ?_); rintro e w2 ⟨rfl, hb⟩; replace KB := aS_ (KB.out.trans (hb.mono KB.out.size)); clear hb; (try clear z0 z1 z2 z3 z4 z5 f1 f2 x1 x2); have z0 := (blk_cell (K.out _ KB.out).1 0).trans rfl; have z1 := (blk_cell (K.out _ KB.out).1 1).trans rfl; have z2 := (blk_cell (K.out _ KB.out).1 2).trans rfl; have z3 := (blk_cell (K.out _ KB.out).1 3).trans rfl; have z4 := (blk_cell (K.out _ KB.out).1 4).trans rfl; have z5 := (blk_cell (K.out _ KB.out).1 5).trans rfl; have f1 := blk_frozen (K.out _ KB.out).2.1 0; have f2 := blk_frozen (K.out _ KB.out).2.2 0; have x1 := (blk_cell (K.out _ KB.out).2.1 0).trans rfl; have x2 := (blk_cell (K.out _ KB.out).2.2 0).trans rfl) | (go_at_call 42; (with_reducible refine (state_steps.calls k A0_3 c0_3 l0_3 true _ (Kd.C_below HC3.out (HB0.out.trans (KB.out.mono HB0.out.size))) Hc3.out HA5.out).mono ?_); rintro e w2 ⟨rfl, hb⟩; replace KB := aS_ (KB.out.trans (hb.mono KB.out.size)); clear hb; (try clear z0 z1 z2 z3 z4 z5 f1 f2 x1 x2); have z0 := (blk_cell (K.out _ KB.out).1 0).trans rfl; have z1 := (blk_cell (K.out _ KB.out).1 1).trans rfl; have z2 := (blk_cell (K.out _ KB.out).1 2).trans rfl; have z3 := (blk_cell (K.out _ KB.out).1 3).trans rfl; have z4 := (blk_cell (K.out _ KB.out).1 4).trans rfl; have z5 := (blk_cell (K.out _ KB.out).1 5).trans rfl; have f1 := blk_frozen (K.out _ KB.out).2.1 0; have f2 := blk_frozen (K.out _ KB.out).2.2 0; have x1 := (blk_cell (K.out _ KB.out).2.1 0).trans rfl; have x2 := (blk_cell (K.out _ KB.out).2.2 0).trans rfl) | (go_at_call 43; (with_reducible refine (state_ahead.calls k a0_0 A0_1 c0_1 l0_1 A0_2 c0_2 l0_2 A0_3 c0_3 l0_3 a0_4 A0_5 c0_5 l0_5 ob ok _ (Kd.C_below HC1.out (HB0.out.trans (KB.out.mono HB0.out.size))) Hc1.out (Kd.C_below HC2.out (HB0.out.trans (KB.out.mono HB0.out.size))) Hc2.out (Kd.C_below HC3.out (HB0.out.trans (KB.out.mono HB0.out.size))) Hc3.out (Kd.C_below HC5.out (HB0.out.trans (KB.out.mono HB0.out.size))) Hc5.out HA6.out).mono ?_); rintro e w2 ⟨rfl, hb⟩; replace KB := aS_ (KB.out.trans (hb.mono KB.out.size)); clear hb; (try clear z0 z1 z2 z3 z4 z5 f1 f2 x1 x2); have z0 := (blk_cell (K.out _ KB.out).1 0).trans rfl; have z1 := (blk_cell (K.out _ KB.out).1 1).trans rfl; have z2 := (blk_cell (K.out _ KB.out).1 2).trans rfl; have z3 := (blk_cell (K.out _ KB.out).1 3).trans rfl; have z4 := (blk_cell (K.out _ KB.out).1 4).trans rfl; have z5 := (blk_cell (K.out _ KB.out).1 5).trans rfl; have f1 := blk_frozen (K.out _ KB.out).2.1 0; have f2 := blk_frozen (K.out _ KB.out).2.2 0; have x1 := (blk_cell (K.out _ KB.out).2.1 0).trans rfl; have x2 := (blk_cell (K.out _ KB.out).2.2 0).trans rfl))
 exact state_Right.final k HB0.out KB.out (K.out _ KB.out) HC2.out Hc2.out HC3.out Hc3.out HL.out rfl
/-! ### num_join: function 75 -/
def num_join.f (l0 : List Int) : Option (ByteArray) := some (strOfNums l0)
set_option maxHeartbeats 8000000 in
set_option maxRecDepth 100000 in
theorem num_join.calls (A0 : Option Addr) (c0 : Nat) (l0 : List Int) (r : ByteArray) (w : World) (hr0 : Kd.C (Kd.int .u8) w A0 l0.length l0) (hc0 : l0.length ≤ c0) (h : num_join.f l0 = some r) :
  Calls Try.prog 75 #[.slice A0 l0.length c0] w fun e w' => e = .returned (.string r) ∧ Drawn0 w w' := by
 have HR0 := aS_ hr0
 have HC0 := aS_ hc0
 clear hr0 hc0
 have H : (some (strOfNums l0)) = some r := h
 clear h
 obtain rfl := Option.some.inj H
 have hcv2 := Kd.C_string (P := Try.prog) (A := A0) (c := c0) Try.underlying39 Try.underlying5 Try.underlying9 HR0.out
 go_enter Try.func75, Try.ntmps75
 go_wp2
 go_ret
 exact ⟨by first | rfl | (simp; done) | (simp [*]; done), by repeat (first | exact Drawn0.refl _ | apply Drawn0.step)⟩
/-! ### num_Put32: function 45 -/
def num_Put32.f (a0 : Int) : Option (ByteArray) := (num_join.f (([(a0) % 256, (a0 / 256) % 256, (a0 / 65536) % 256, (a0 / 16777216) % 256] : List Int))).bind fun t164 => (some t164)
set_option maxHeartbeats 8000000 in
set_option maxRecDepth 100000 in
theorem num_Put32.calls (a0 : Int) (r : ByteArray) (w : World) (h : num_Put32.f a0 = some r) :
  Calls Try.prog 45 #[.int .i64 a0] w fun e w' => e = .returned (.string r) ∧ Below w.heap.size w w' := by
 have HB := aS_ (Below.refl w.heap.size w)
 have H : ((num_join.f (([(a0) % 256, (a0 / 256) % 256, (a0 / 65536) % 256, (a0 / 16777216) % 256] : List Int))).bind fun t164 => (some t164)) = some r := h
 clear h
 obtain ⟨y161, hy161⟩ : ∃ y_ : List Int, y_ = (([(a0) % 256, (a0 / 256) % 256, (a0 / 65536) % 256, (a0 / 16777216) % 256] : List Int)) := ⟨_, rfl⟩
 replace H : ((num_join.f y161).bind fun t164 => (some t164)) = some r := by first | (rw [hy161]; with_reducible exact H) | (have H2_ := (Option.bind_some _ _).symm.trans H; rw [hy161]; with_reducible exact H2_) | (have H2_ := (Option.bind_some _ _).symm.trans H; with_reducible exact H2_) | with_reducible exact H | (rw [hy161]; exact H) | exact H
 have Ny161 := aS_ hy161
 clear hy161
 replace H := Option.bind_eq_some_iff.mp H
 obtain ⟨t164, A20, H⟩ := H
 try dsimp only at H
 have A2 := aS_ A20
 clear A20
 obtain rfl := Option.some.inj H
 go_enter Try.func45, Try.ntmps45
 go_wp2_with (first | ((with_reducible refine gate_dst (N := 14) rfl ?_); refine Kd.R_lit (Kd.int .u8) _ 5 ?hg (N := 14) ?hd (xs := ([(a0) % 256, (a0 / 256) % 256, (a0 / 65536) % 256, (a0 / 16777216) % 256] : List Int)) (inner := [.int .u8 ((a0) % 256), .int .u8 ((a0 / 256) % 256), .int .u8 ((a0 / 65536) % 256), .int .u8 ((a0 / 16777216) % 256)]) (ok := fun _ => True) (okp := fun _ => True) ?hr ?hp (fun _ hk => hk) trivial (Below.refl _ _) (Nat.le_refl _) (by simp) ?_; (case hd => rfl); (case hg => rfl); (case hr => first | (go_simp; done) | (go_simp; rfl)); (case hp => exact (Reps.one (show Kd.M (Kd.int .u8) _ _ _ ((a0) % 256) [.int .u8 ((a0) % 256)] from rfl) (Reps.one (show Kd.M (Kd.int .u8) _ _ _ ((a0 / 256) % 256) [.int .u8 ((a0 / 256) % 256)] from rfl) (Reps.one (show Kd.M (Kd.int .u8) _ _ _ ((a0 / 65536) % 256) [.int .u8 ((a0 / 65536) % 256)] from rfl) (Reps.one (show Kd.M (Kd.int .u8) _ _ _ ((a0 / 16777216) % 256) [.int .u8 ((a0 / 16777216) % 256)] from rfl) (Reps.none _ _)))))); intro v162 w3 ho4 hb hg_ hnew_; clear hg_ hnew_; (first | rw [← Ny161.out] at ho4 | (simp only [Int.reduceToNat] at ho4; rw [← Ny161.out] at ho4)); have HO163 := aS_ (Kd.R_lower ho4 (below_size (wk HB.out))); replace HB := bw_ HB hb; clear hb ho4; obtain ⟨Ao5, co5, eo5⟩ := Kd.R_slice HO163.out; subst eo5) | (refine cl_ (some 15) Try.func75 #[.slice Ao5 y161.length co5] ?_; (with_reducible refine (num_join.calls _ _ y161 t164 _ ?side1 ?side2 A2.out).mono ?_); (case side1 => repeat (first | exact (Kd.R_reads' HO163.out).2.2 | (with_reducible refine Kd.C_alloc ?_ _) | (with_reducible refine Kd.C_drewN ?_ _) | (with_reducible refine Kd.C_drew ?_))); (case side2 => exact (Kd.R_reads' HO163.out).2.1); rintro e w' ⟨rfl, ⟨nd, rfl⟩⟩; refine ⟨_, rfl, ?_⟩))
 go_ret
 exact ⟨t1, wk HB.out⟩
/-! ### num_Put16: function 46 -/
def num_Put16.f (a0 : Int) : Option (ByteArray) := (num_join.f (([(a0) % 256, (a0 / 256) % 256] : List Int))).bind fun t168 => (some t168)
set_option maxHeartbeats 8000000 in
set_option maxRecDepth 100000 in
theorem num_Put16.calls (a0 : Int) (r : ByteArray) (w : World) (h : num_Put16.f a0 = some r) :
  Calls Try.prog 46 #[.int .i64 a0] w fun e w' => e = .returned (.string r) ∧ Below w.heap.size w w' := by
 have HB := aS_ (Below.refl w.heap.size w)
 have H : ((num_join.f (([(a0) % 256, (a0 / 256) % 256] : List Int))).bind fun t168 => (some t168)) = some r := h
 clear h
 obtain ⟨y165, hy165⟩ : ∃ y_ : List Int, y_ = (([(a0) % 256, (a0 / 256) % 256] : List Int)) := ⟨_, rfl⟩
 replace H : ((num_join.f y165).bind fun t168 => (some t168)) = some r := by first | (rw [hy165]; with_reducible exact H) | (have H2_ := (Option.bind_some _ _).symm.trans H; rw [hy165]; with_reducible exact H2_) | (have H2_ := (Option.bind_some _ _).symm.trans H; with_reducible exact H2_) | with_reducible exact H | (rw [hy165]; exact H) | exact H
 have Ny165 := aS_ hy165
 clear hy165
 replace H := Option.bind_eq_some_iff.mp H
 obtain ⟨t168, A20, H⟩ := H
 try dsimp only at H
 have A2 := aS_ A20
 clear A20
 obtain rfl := Option.some.inj H
 go_enter Try.func46, Try.ntmps46
 go_wp2_with (first | ((with_reducible refine gate_dst (N := 8) rfl ?_); refine Kd.R_lit (Kd.int .u8) _ 5 ?hg (N := 8) ?hd (xs := ([(a0) % 256, (a0 / 256) % 256] : List Int)) (inner := [.int .u8 ((a0) % 256), .int .u8 ((a0 / 256) % 256)]) (ok := fun _ => True) (okp := fun _ => True) ?hr ?hp (fun _ hk => hk) trivial (Below.refl _ _) (Nat.le_refl _) (by simp) ?_; (case hd => rfl); (case hg => rfl); (case hr => first | (go_simp; done) | (go_simp; rfl)); (case hp => exact (Reps.one (show Kd.M (Kd.int .u8) _ _ _ ((a0) % 256) [.int .u8 ((a0) % 256)] from rfl) (Reps.one (show Kd.M (Kd.int .u8) _ _ _ ((a0 / 256) % 256) [.int .u8 ((a0 / 256) % 256)] from rfl) (Reps.none _ _)))); intro v166 w3 ho4 hb hg_ hnew_; clear hg_ hnew_; (first | rw [← Ny165.out] at ho4 | (simp only [Int.reduceToNat] at ho4; rw [← Ny165.out] at ho4)); have HO167 := aS_ (Kd.R_lower ho4 (below_size (wk HB.out))); replace HB := bw_ HB hb; clear hb ho4; obtain ⟨Ao5, co5, eo5⟩ := Kd.R_slice HO167.out; subst eo5) | (refine cl_ (some 9) Try.func75 #[.slice Ao5 y165.length co5] ?_; (with_reducible refine (num_join.calls _ _ y165 t168 _ ?side1 ?side2 A2.out).mono ?_); (case side1 => repeat (first | exact (Kd.R_reads' HO167.out).2.2 | (with_reducible refine Kd.C_alloc ?_ _) | (with_reducible refine Kd.C_drewN ?_ _) | (with_reducible refine Kd.C_drew ?_))); (case side2 => exact (Kd.R_reads' HO167.out).2.1); rintro e w' ⟨rfl, ⟨nd, rfl⟩⟩; refine ⟨_, rfl, ?_⟩))
 go_ret
 exact ⟨t1, wk HB.out⟩
end Go.Proofs.Ytnndanfghlnpfaa.P
