-- Laid by a program of this session (wip/tools/fork_print.py over the kit's print) out of Lean's print of the translation. Lean checks it.
import Derived.Test.YtbcokholddlpbaaPx0
import Derived.Test.YtbcokholddlpbaaPx2
import Derived.Test.YtbcokholddlpbaaPx3
import Derived.Test.YtbcokholddlpbaaPx7
import Derived.Test.YtbcokholddlpbaaPx8
namespace Go.Proofs.Ytbcokholddlpbaa.P
open Go.RowKit Go.Proofs.YtbcokholddlpbaaW.PrintWords Go.Proofs.YtbcokholddlpbaaW.PrintLast Go.Proofs.YtbcokholddlpbaaW.PrintMore
attribute [local go_sem] max2_int min2_int max_two min_two max_three min_three max_four min_four   -- for this text's walks alone
set_option linter.unusedVariables false
set_option linter.unusedSimpArgs false

/-! ### stack_Depth: function 14 -/
def stack_Depth.l0 : Nat → Int → List (S28) → Int → Int → Option (Int)
  | 0, _, _, _, _ => none
  | k + 1, x3, x6, x7, x8 => if x8 < x7 then (if 0 ≤ x8 then (if x8 < (x6.length : Int) then (stack_Depth.l0 k (wrap64 (x3 + (((rd_T28 x6 x8).f0).length : Int))) x6 x7 (wrap64 (x8 + 1))) else (none)) else (none)) else (some x3)
def stack_Depth.f (k : Nat) (l0 : List (S28)) : Option (Int) := stack_Depth.l0 k 0 l0 (l0.length : Int) 0
theorem stack_Depth.mono_l : ∀ k, (∀ y0 y1 y2 y3, LeO (stack_Depth.l0 k y0 y1 y2 y3) (stack_Depth.l0 (k + 1) y0 y1 y2 y3))
  | 0 => fun _ _ _ _ r h => by simp [stack_Depth.l0] at h
  | k + 1 => by
    have ih0 := stack_Depth.mono_l k
    · intro y0 y1 y2 y3
      unfold stack_Depth.l0
      repeat' first
      | (with_reducible exact ih0 _ _ _ _)
      | (with_reducible exact LeO.refl _)
      | (with_reducible exact LeO.none _)
      | (with_reducible refine LeO.ite ?_ ?_)
      | (with_reducible refine LeO.bind ?_ (fun _ => ?_))
      | exact ih0 _ _ _ _
      | exact LeO.none _
      | refine LeO.ite ?_ ?_
      | refine LeO.bind ?_ (fun _ => ?_)
theorem stack_Depth.mono : ∀ a0 k, LeO (stack_Depth.f k a0) (stack_Depth.f (k + 1) a0) := by
  intro a0 k
  have ih0 := stack_Depth.mono_l k
  unfold stack_Depth.f
  repeat' first
      | (with_reducible exact ih0 _ _ _ _)
      | (with_reducible exact LeO.refl _)
      | (with_reducible exact LeO.none _)
      | (with_reducible refine LeO.ite ?_ ?_)
      | (with_reducible refine LeO.bind ?_ (fun _ => ?_))
      | exact ih0 _ _ _ _
      | exact LeO.none _
      | refine LeO.ite ?_ ?_
      | refine LeO.bind ?_ (fun _ => ?_)
set_option maxHeartbeats 8000000 in
set_option maxRecDepth 100000 in
theorem stack_Depth.calls (k : Nat) (A0 : Option Addr) (c0 : Nat) (l0 : List (S28)) (r : Int) (w : World) (hr0 : Kd.C k28 w A0 l0.length l0) (hc0 : l0.length ≤ c0) (h : stack_Depth.f k l0 = some r) :
    Calls Try.prog 14 #[.slice A0 l0.length c0] w fun e w' => e = .returned (.int .i64 r) ∧ Below w.heap.size w w' := by
  have hu28 := Try.underlying28
  have HR0 := Aside0.mk hr0
  have HC0 := Aside0.mk hc0
  clear hr0 hc0
  have HB := Aside0.mk (Below.refl w.heap.size w)
  have H : (stack_Depth.l0 k 0 l0 (l0.length : Int) 0) = some r := h
  clear h
  have H' := Aside0.mk H
  clear H
  go_enter Try.func14, Try.ntmps14
  go_wp2
  go_loopg [3, 8] k (fun kq v3 v8 w' => ∃ (x3_1 : Int) (x8_1 : Int), v3 = .int .i64 x3_1 ∧ v8 = .int .i64 x8_1 ∧ Aside0 (stack_Depth.l0 kq x3_1 l0 (l0.length : Int) x8_1 = some r) ∧ Aside0 (kq ≤ k) ∧ Aside0 (Below w.heap.size w w'))
  case atStart => exact ⟨(0), (0), (by first | rfl | (simp; done) | (simp [*]; done)), (by first | rfl | (simp; done) | (simp [*]; done)), H', ⟨Nat.le_refl _⟩, ⟨by repeat (first | (with_reducible first | exact HB.out | apply below_alloc | apply pw_below_drewN | apply below_drew1) | exact HB.out)⟩⟩
  case round =>
    clear H'
    try clear c1
    obtain ⟨x3_1, x8_1, rfl, rfl, HA, HK1, HB⟩ := hrel
    cases gk with
    | zero => exact absurd HA.out (by simp [stack_Depth.l0])
    | succ k1 =>
      have H := HA.out
      clear HA
      simp only [stack_Depth.l0] at H
      by_cases c2 : x8_1 < (l0.length : Int)
      · rw [if_pos c2] at H
        have c2b0 : decide (x8_1 < (l0.length : Int)) = true := decide_eq_true c2
        clear c2
        by_cases c3 : 0 ≤ x8_1
        · rw [if_pos c3] at H
          have c3b0 : decide (0 ≤ x8_1) = true := decide_eq_true c3
          clear c3
          by_cases c4 : x8_1 < (l0.length : Int)
          · rw [if_pos c4] at H
            have c4b0 : decide (x8_1 < (l0.length : Int)) = true := decide_eq_true c4
            clear c4
            have H' := Aside0.mk H
            clear H
            have p172 : 0 ≤ (x8_1 : Int) := of_decide_eq_true (by first | (with_reducible assumption) | assumption)
            have q172 : x8_1 < (l0.length : Int) := of_decide_eq_true (by first | (with_reducible assumption) | assumption)
            obtain ⟨ad172, A172_0, c172_0, e172, hx172_0, hl172_0, hi172_0⟩ := at_T28 HR0.out x8_1 p172 q172
            cases e172
            replace hx172_0 := (HB.out.cell (World.block_lt_of_cell? w _ hx172_0)).trans hx172_0
            have HR172_0 := Aside0.mk hi172_0
            have HC172_0 := Aside0.mk hl172_0
            clear hi172_0 hl172_0
            replace p172 := eq_true p172
            replace q172 := eq_true q172
            go_wp2_with (first | ((with_reducible refine gate_dst (N := 5) rfl ?_); refine box_event ?hg (N := 5) ?hd (cs := #[.slice none 0 0]) (t := 28) ?hr ?_; (case hd => rfl); (case hg => rfl); (case hr => first | (go_simp; done) | (go_simp; rfl)); intro gb173 hg w5 hbox hb; have n0_ := Aside0.mk (below_step (by repeat (first | (with_reducible first | exact HB.out | apply below_alloc | apply pw_below_drewN | apply below_drew1) | exact HB.out)) hb); have n1_ := Aside0.mk (hbox); have n2_ := Aside0.mk ((by rw [hg]; exact (below_size (by repeat (first | (with_reducible first | exact HB.out | apply below_alloc | apply pw_below_drewN | apply below_drew1) | exact HB.out))) : w.heap.size ≤ gb173)); have n3_ := Aside0.mk ((by rw [hg]; exact (below_size (by repeat (first | (with_reducible first | exact HB.out | apply below_alloc | apply pw_below_drewN | apply below_drew1) | exact HB.out))) : w.heap.size ≤ gb173)); clear HB; have HB := n0_; have BK173 := n1_; have GW173 := n2_; have GE173 := n3_; clear n0_ n1_ n2_ n3_; clear hb hbox hg; have hcz6_0 : w5.cell? ⟨gb173, 0, none⟩ = some (.slice none 0 0) := (blk_cell BK173.out 0).trans rfl; have hfz6_0 := blk_frozen BK173.out 0))
            go_roundg k1
            case measure => have := HK1.out; omega
            case rel => exact ⟨(wrap64 (x3_1 + (((rd_T28 l0 x8_1).f0).length : Int))), (wrap64 (x8_1 + 1)), (by first | rfl | (simp; done) | (simp [*]; done)), (by first | rfl | (simp; done) | (simp [*]; done)), H', ⟨by have := HK1.out; omega⟩, ⟨by repeat (first | (with_reducible first | exact HB.out | apply below_alloc | apply pw_below_drewN | apply below_drew1 | refine below_set ?_ GE173.out) | exact HB.out)⟩⟩
          · rw [if_neg c4] at H
            exact absurd H (by simp)
        · rw [if_neg c3] at H
          exact absurd H (by simp)
      · rw [if_neg c2] at H
        have c2b0 : decide (x8_1 < (l0.length : Int)) = false := decide_eq_false c2
        clear c2
        obtain rfl := Option.some.inj H
        go_wp2
        go_ret
        exact ⟨by first | rfl | (simp [errW_none, errW_some] <;> rfl) | (simp [*, errW_none, errW_some] <;> rfl), by repeat (first | (with_reducible first | exact HB.out | apply below_alloc | apply pw_below_drewN | apply below_drew1) | exact HB.out)⟩

/-! ### stylusref24_Depth: function 15 -/
def stylusref24_Depth.l0 : Nat → List (S28) → Int → Int → Option (Int)
  | 0, _, _, _ => none
  | k + 1, x0, x3, x4 => if x4 < (x0.length : Int) then (if 0 ≤ x4 then (stylusref24_Depth.l0 k x0 (wrap64 (x3 + (((rd_T28 x0 x4).f0).length : Int))) (wrap64 (x4 + 1))) else (none)) else (some x3)
def stylusref24_Depth.f (k : Nat) (l0 : List (S28)) : Option (Int) := stylusref24_Depth.l0 k l0 0 0
theorem stylusref24_Depth.mono_l : ∀ k, (∀ y0 y1 y2, LeO (stylusref24_Depth.l0 k y0 y1 y2) (stylusref24_Depth.l0 (k + 1) y0 y1 y2))
  | 0 => fun _ _ _ r h => by simp [stylusref24_Depth.l0] at h
  | k + 1 => by
    have ih0 := stylusref24_Depth.mono_l k
    · intro y0 y1 y2
      unfold stylusref24_Depth.l0
      repeat' first
      | (with_reducible exact ih0 _ _ _)
      | (with_reducible exact LeO.refl _)
      | (with_reducible exact LeO.none _)
      | (with_reducible refine LeO.ite ?_ ?_)
      | (with_reducible refine LeO.bind ?_ (fun _ => ?_))
      | exact ih0 _ _ _
      | exact LeO.none _
      | refine LeO.ite ?_ ?_
      | refine LeO.bind ?_ (fun _ => ?_)
theorem stylusref24_Depth.mono : ∀ a0 k, LeO (stylusref24_Depth.f k a0) (stylusref24_Depth.f (k + 1) a0) := by
  intro a0 k
  have ih0 := stylusref24_Depth.mono_l k
  unfold stylusref24_Depth.f
  repeat' first
      | (with_reducible exact ih0 _ _ _)
      | (with_reducible exact LeO.refl _)
      | (with_reducible exact LeO.none _)
      | (with_reducible refine LeO.ite ?_ ?_)
      | (with_reducible refine LeO.bind ?_ (fun _ => ?_))
      | exact ih0 _ _ _
      | exact LeO.none _
      | refine LeO.ite ?_ ?_
      | refine LeO.bind ?_ (fun _ => ?_)
set_option maxHeartbeats 8000000 in
set_option maxRecDepth 100000 in
theorem stylusref24_Depth.calls (k : Nat) (A0 : Option Addr) (c0 : Nat) (l0 : List (S28)) (r : Int) (w : World) (hr0 : Kd.C k28 w A0 l0.length l0) (hc0 : l0.length ≤ c0) (h : stylusref24_Depth.f k l0 = some r) :
    Calls Try.prog 15 #[.slice A0 l0.length c0] w fun e w' => e = .returned (.int .i64 r) ∧ Drawn0 w w' := by
  have HR0 := Aside0.mk hr0
  have HC0 := Aside0.mk hc0
  clear hr0 hc0
  have H : (stylusref24_Depth.l0 k l0 0 0) = some r := h
  clear h
  have H' := Aside0.mk H
  clear H
  go_enter Try.func15, Try.ntmps15
  go_wp2
  go_loopg [3, 4] k (fun kq v3 v4 w' => ∃ (x3_1 : Int) (x4_1 : Int), v3 = .int .i64 x3_1 ∧ v4 = .int .i64 x4_1 ∧ Aside0 (stylusref24_Depth.l0 kq l0 x3_1 x4_1 = some r) ∧ Aside0 (kq ≤ k) ∧ Drawn0 w w')
  case atStart => exact ⟨(0), (0), (by first | rfl | (simp; done) | (simp [*]; done)), (by first | rfl | (simp; done) | (simp [*]; done)), H', ⟨Nat.le_refl _⟩, by repeat (first | exact Drawn0.refl _ | apply Drawn0.step)⟩
  case round =>
    clear H'
    try clear c1
    obtain ⟨x3_1, x4_1, rfl, rfl, HA, HK1, ⟨m1, rfl⟩⟩ := hrel
    cases gk with
    | zero => exact absurd HA.out (by simp [stylusref24_Depth.l0])
    | succ k1 =>
      have H := HA.out
      clear HA
      simp only [stylusref24_Depth.l0] at H
      by_cases c2 : x4_1 < (l0.length : Int)
      · rw [if_pos c2] at H
        have c2b0 : decide (x4_1 < (l0.length : Int)) = true := decide_eq_true c2
        clear c2
        by_cases c3 : 0 ≤ x4_1
        · rw [if_pos c3] at H
          have c3b0 : decide (0 ≤ x4_1) = true := decide_eq_true c3
          clear c3
          have H' := Aside0.mk H
          clear H
          have p174 : 0 ≤ (x4_1 : Int) := of_decide_eq_true (by first | (with_reducible assumption) | assumption)
          have q174 : x4_1 < (l0.length : Int) := of_decide_eq_true (by first | (with_reducible assumption) | assumption)
          obtain ⟨ad174, A174_0, c174_0, e174, hx174_0, hl174_0, hi174_0⟩ := at_T28 HR0.out x4_1 p174 q174
          cases e174
          have HR174_0 := Aside0.mk hi174_0
          have HC174_0 := Aside0.mk hl174_0
          clear hi174_0 hl174_0
          replace p174 := eq_true p174
          replace q174 := eq_true q174
          go_wp2
          go_roundg k1
          case measure => have := HK1.out; omega
          case rel => exact ⟨(wrap64 (x3_1 + (((rd_T28 l0 x4_1).f0).length : Int))), (wrap64 (x4_1 + 1)), (by first | rfl | (simp; done) | (simp [*]; done)), (by first | rfl | (simp; done) | (simp [*]; done)), H', ⟨by have := HK1.out; omega⟩, by repeat (first | exact Drawn0.refl _ | apply Drawn0.step)⟩
        · rw [if_neg c3] at H
          exact absurd H (by simp)
      · rw [if_neg c2] at H
        have c2b0 : decide (x4_1 < (l0.length : Int)) = false := decide_eq_false c2
        clear c2
        obtain rfl := Option.some.inj H
        go_wp2
        go_ret
        exact ⟨by first | rfl | (simp; done) | (simp [*]; done), by repeat (first | exact Drawn0.refl _ | apply Drawn0.step)⟩

/-! ### styluslaw24_StackPushes: function 4 -/
-- NEEDS stylus/styluslaw24.lives stylus/styluslaw24.few stylus/stylusref24.Push stylus/stylusref23.Steps stylus/stylusref23.Same stylus/stack.Depth stylus/stylusref24.Depth stylus/stack.Push stylus/stack.Pop
-- none stands for a false answer
def styluslaw24_StackPushes.rest (k : Nat) (l : List S28) : Option Bool :=
  if l.length = 0 then (styluslaw24_lives.f k) else ((stylusref23_Steps.f k (l.take (l.length - 1)) (l.take (l.length - 1))).bind fun b2 => (stylusref23_Same.f k (rd_T28 l ((l.length - 1 : Nat) : Int)).f0 (rd_T28 l ((l.length - 1 : Nat) : Int)).f0).bind fun b3 => (stylusref23_Steps.f k l l).bind fun b4 => if b2 = true ∧ b3 = true ∧ b4 = true then (styluslaw24_lives.f k) else none)
def styluslaw24_StackPushes.f (k : Nat) (l : List S28) (x : List S38) : Option Bool :=
  (styluslaw24_few.f k l).bind fun t => if t = false ∨ (x.length : Int) > 40 then (styluslaw24_lives.f k) else if l.length ≤ 1000 then
    ((stylusref24_Push.f l x).bind fun rp => (stylusref23_Steps.f k (stack_top (l ++ [(⟨x⟩ : S28)])) rp).bind fun b1 => (stack_Depth.f k l).bind fun d1 => (stylusref24_Depth.f k l).bind fun d2 => if b1 = true ∧ d1 = d2 then (styluslaw24_StackPushes.rest k l) else none) else none
theorem styluslaw24_StackPushes.mono : ∀ a0 a1 k, LeO (styluslaw24_StackPushes.f k a0 a1) (styluslaw24_StackPushes.f (k + 1) a0 a1) := by
  intro l x k
  have hr : LeO (styluslaw24_StackPushes.rest k l) (styluslaw24_StackPushes.rest (k + 1) l) :=
    LeO.ite (styluslaw24_lives.mono _) (LeO.bind (stylusref23_Steps.mono _ _ _) fun _ => LeO.bind (stylusref23_Same.mono _ _ _) fun _ => LeO.bind (stylusref23_Steps.mono _ _ _) fun _ => LeO.ite (styluslaw24_lives.mono _) (LeO.refl _))
  exact LeO.bind (styluslaw24_few.mono _ _) fun _ => LeO.ite (styluslaw24_lives.mono _) (LeO.ite (LeO.bind (LeO.refl _) fun _ => LeO.bind (stylusref23_Steps.mono _ _ _) fun _ => LeO.bind (stack_Depth.mono _ _) fun _ => LeO.bind (stylusref24_Depth.mono _ _) fun _ => LeO.ite hr (LeO.refl _)) (LeO.refl _))
theorem heap_Edit : Kd.Heap k38 := Kd.heap_iso _ (Kd.heap_pair (Kd.heap_int _) (Kd.heap_pair Kd.heap_string Kd.heap_string))
theorem pushes_steps (k : Nat) (A : Option Addr) (c : Nat) (B : Option Addr) (d n : Nat) (l : List S28) (hn : l.length = n) (r : Bool) (w : World) (hA : Kd.C k28 w A n l) (hc : n ≤ c) (hB : Kd.C k28 w B n l) (hd : n ≤ d) (h : stylusref23_Steps.f k l l = some r) :
    Calls Try.prog 11 #[.slice A n c, .slice B n d] w fun e w' => e = .returned (.bool r) ∧ Below w.heap.size w w' := by
  subst hn
  exact stylusref23_Steps.calls k A c l B d l r w hA hc hB hd h
theorem pushes_take {W : World} {A : Option Addr} {n m : Nat} {l : List S28} (h : Kd.C k28 W A n l) (hl : l.length = m + 1) (ht : (l.take m).length = m) : Kd.C k28 W A m (l.take m) := by
  have hn : l.length = n := h.1
  subst hn
  have := Kd.C_take h (show m ≤ l.length by omega)
  rwa [ht] at this
theorem pushes_pop0 (A : Option Addr) (c n : Nat) (hn : n = 0) (w : World) :
    Calls Try.prog 16 #[.slice A n c] w fun e w' => e = .returned (.tuple #[.slice none 0 0, .agg #[.slice none 0 0], .int .i64 10]) ∧ Below w.heap.size w w' := by
  subst hn
  exact stack_Pop.none_ A c w
theorem pushes_pop (A : Option Addr) (c m : Nat) (l : List S28) (hl : l.length = m + 1) (w : World) (hC : Kd.C k28 w A l.length l) (hc : l.length ≤ c) (hm : m ≤ 1000) :
    Calls Try.prog 16 #[.slice A l.length c] w fun e w' => (∃ A' c' At ct, e = .returned (.tuple #[.slice A' m c', .agg #[.slice At (rd_T28 l (m : Int)).f0.length ct], .int .i64 0]) ∧ m ≤ c' ∧ Kd.C k28 w' A' m (l.take m) ∧
      (rd_T28 l (m : Int)).f0.length ≤ ct ∧ Kd.C k38 w At (rd_T28 l (m : Int)).f0.length (rd_T28 l (m : Int)).f0) ∧ Below w.heap.size w w' := by
  have h := stack_Pop.some_ A c m l w (by rw [← hl]; exact hC) (by omega) hm
  rwa [← hl] at h
set_option maxHeartbeats 8000000 in
set_option maxRecDepth 100000 in
theorem styluslaw24_StackPushes.calls (k : Nat) (A : Option Addr) (c : Nat) (l : List S28) (Ax : Option Addr) (cx : Nat) (x : List S38) (r : Bool) (w : World) (hC : Kd.C k28 w A l.length l) (hc : l.length ≤ c) (hX : Kd.C k38 w Ax x.length x) (hcx : x.length ≤ cx) (h : styluslaw24_StackPushes.f k l x = some r) :
    Calls Try.prog 4 #[.slice A l.length c, .agg #[.slice Ax x.length cx]] w fun e w' => e = .returned (.bool r) ∧ Below w.heap.size w w' := by
  have huS := Try.underlying28
  have HC := Aside0.mk hC
  have Hc := Aside0.mk hc
  have HX := Aside0.mk hX
  have Hcx := Aside0.mk hcx
  unfold styluslaw24_StackPushes.f at h
  have kx := heap_alloc_new w (.cells #[.slice Ax x.length cx] 28)
  have hx := (blk_cell kx 0).trans rfl
  have KX := Aside0.mk kx
  have KB := Aside0.mk (below_alloc (Below.refl w.heap.size w) (.cells #[.slice Ax x.length cx] 28))
  clear hC hc hX hcx kx
  replace h := Option.bind_eq_some_iff.mp h
  obtain ⟨t, A1, h⟩ := h
  have HA1 := Aside0.mk A1
  clear A1
  by_cases G : t = false ∨ (x.length : Int) > 40
  · rw [if_pos G] at h
    have HLV := Aside0.mk h
    clear h
    go_enter Try.func4, Try.ntmps4
    go_upto_region 1 with fail
    go_cut [18] (fun v18 wx => v18 = .bool true ∧ Aside0 (Below w.heap.size w wx))
    case first =>
      cases t with
      | false =>
        clear G
        go_wp2_with (go_at_call 5; (with_reducible refine (styluslaw24_few.calls k _ _ l false _ ?side1 ?side2 HA1.out).mono ?_); (case side1 => repeat (first | exact (Kd.C_below HC.out KB.out) | (with_reducible refine Kd.C_drewN ?_ _) | (with_reducible refine Kd.C_drew ?_))); (case side2 => exact Hc.out); rintro e w2_ ⟨rfl, ⟨nd, rfl⟩⟩)
        repeat (go_quiet ((go_at_call 5; (with_reducible refine (styluslaw24_few.calls k _ _ l false _ ?side1 ?side2 HA1.out).mono ?_); (case side1 => repeat (first | exact (Kd.C_below HC.out KB.out) | (with_reducible refine Kd.C_drewN ?_ _) | (with_reducible refine Kd.C_drew ?_))); (case side2 => exact Hc.out); rintro e w2_ ⟨rfl, ⟨nd, rfl⟩⟩)); try go_wp2_with fail)
        go_meet
        exact ⟨rfl, ⟨pw_below_drewN KB.out _⟩⟩
      | true =>
        have g1 : (x.length : Int) > 40 := by
          rcases G with z | z
          · cases z
          · exact z
        have g1b : decide (40 < (x.length : Int)) = true := decide_eq_true g1
        have g1c : decide (40 < x.length) = true := decide_eq_true (by omega)
        clear G g1
        go_wp2_with (go_at_call 5; (with_reducible refine (styluslaw24_few.calls k _ _ l true _ ?side1 ?side2 HA1.out).mono ?_); (case side1 => repeat (first | exact (Kd.C_below HC.out KB.out) | (with_reducible refine Kd.C_drewN ?_ _) | (with_reducible refine Kd.C_drew ?_))); (case side2 => exact Hc.out); rintro e w2_ ⟨rfl, ⟨nd, rfl⟩⟩)
        repeat (go_quiet ((go_at_call 5; (with_reducible refine (styluslaw24_few.calls k _ _ l true _ ?side1 ?side2 HA1.out).mono ?_); (case side1 => repeat (first | exact (Kd.C_below HC.out KB.out) | (with_reducible refine Kd.C_drewN ?_ _) | (with_reducible refine Kd.C_drew ?_))); (case side2 => exact Hc.out); rintro e w2_ ⟨rfl, ⟨nd, rfl⟩⟩)); try go_wp2_with fail)
        go_meet
        exact ⟨rfl, ⟨pw_below_drewN KB.out _⟩⟩
    obtain ⟨rfl, KB2⟩ := hcut
    go_wp2_with (go_at_call 6; (with_reducible refine (styluslaw24_lives.calls k r _ HLV.out).mono ?_); rintro e w2 ⟨rfl, hb1⟩)
    go_ret
    exact ⟨rfl, below_step KB2.out hb1⟩
  rw [if_neg G] at h
  have t1 : t = true := by
    cases t with
    | true => rfl
    | false => exact absurd (.inl rfl) G
  subst t1
  have g1 : ¬ (x.length : Int) > 40 := fun z => G (.inr z)
  by_cases hl : l.length ≤ 1000
  rotate_left
  · rw [if_neg hl] at h
    cases h
  rw [if_pos hl] at h
  replace h := Option.bind_eq_some_iff.mp h
  obtain ⟨rp, A2, h⟩ := h
  replace h := Option.bind_eq_some_iff.mp h
  obtain ⟨b1, A3, h⟩ := h
  replace h := Option.bind_eq_some_iff.mp h
  obtain ⟨d1, A4, h⟩ := h
  replace h := Option.bind_eq_some_iff.mp h
  obtain ⟨d2, A5, h⟩ := h
  by_cases z : b1 = true ∧ d1 = d2
  rotate_left
  · rw [if_neg z] at h
    cases h
  rw [if_pos z] at h
  obtain ⟨rfl, rfl⟩ := z
  have HA2 := Aside0.mk A2
  have HA3 := Aside0.mk A3
  have HA4 := Aside0.mk A4
  have HA5 := Aside0.mk A5
  have HH := Aside0.mk h
  have HLL := Aside0.mk hl
  have HL9 := Aside0.mk hl
  have g1b : decide (40 < (x.length : Int)) = false := decide_eq_false g1
  have g1c : decide (40 < x.length) = false := decide_eq_false (by omega)
  clear A2 A3 A4 A5 h hl G g1
  go_enter Try.func4, Try.ntmps4
  go_upto_region 1 with fail
  go_cut [18] (fun v18 wx => v18 = .bool false ∧ Aside0 (wx.heap[w.heap.size]? = some (.cells #[.slice Ax x.length cx] 28 (0, 0)) ∧ Below w.heap.size w wx))
  case first =>
    go_wp2_with (go_at_call 5; (with_reducible refine (styluslaw24_few.calls k _ _ l true _ ?side1 ?side2 HA1.out).mono ?_); (case side1 => repeat (first | exact (Kd.C_below HC.out KB.out) | (with_reducible refine Kd.C_drewN ?_ _) | (with_reducible refine Kd.C_drew ?_))); (case side2 => exact Hc.out); rintro e w2_ ⟨rfl, ⟨nd, rfl⟩⟩)
    repeat (go_quiet ((go_at_call 5; (with_reducible refine (styluslaw24_few.calls k _ _ l true _ ?side1 ?side2 HA1.out).mono ?_); (case side1 => repeat (first | exact (Kd.C_below HC.out KB.out) | (with_reducible refine Kd.C_drewN ?_ _) | (with_reducible refine Kd.C_drew ?_))); (case side2 => exact Hc.out); rintro e w2_ ⟨rfl, ⟨nd, rfl⟩⟩)); try go_wp2_with fail)
    go_meet
    exact ⟨rfl, ⟨blk_drewN KX.out _, pw_below_drewN KB.out _⟩⟩
  clear KX KB hx g1b g1c
  obtain ⟨rfl, hcut⟩ := hcut
  have KX := Aside0.mk hcut.out.1
  have KB := Aside0.mk hcut.out.2
  clear hcut
  go_upto_region 3 with fail
  go_cut [5] (fun v5 wx => ∃ Aw cw, v5 = .slice Aw l.length cw ∧ Aside0 (l.length ≤ cw ∧ Kd.C k28 wx Aw l.length l ∧ wx.heap[w.heap.size]? = some (.cells #[.slice Ax x.length cx] 28 (0, 0)) ∧ Below w.heap.size w wx))
  case first =>
    go_wp2_with (first
      | ((with_reducible refine gate_dst (N := 20) rfl ?_); refine Kd.R_lit k28 (w0 := wc) wc.heap.size 28 ?hg (N := 20) ?hd (xs := ([] : List S28)) (inner := []) (ok := fun k => k < w.heap.size ∨ wc.heap.size ≤ k) (okp := fun k => k < w.heap.size ∨ wc.heap.size ≤ k) ?hr ?hp (fun _ hk => hk) (.inr (Nat.le_refl _)) (Below.refl _ _) (Nat.le_refl _) (by simp) ?_; (case hd => rfl); (case hg => rfl); (case hr => first | (go_simp; done) | (go_simp; rfl)); (case hp => exact (Reps.none _ _)); intro v20 w2 ho hb hg_ hnew_; have HO := Aside0.mk (Kd.R_N ho); have HB := Aside0.mk hb; clear hg_ ho hb)
      | ((with_reducible refine gate_builtin (b := .append) (xs := #[.tmp 20, .tmp 21]) rfl ?_); (try (refine gate_guard (by rfl) ?_; dsimp only)); at_builtin; refine Kd.N_append_rows k28 (w0 := wc) wc.heap.size rfl (.tmp 20) (.tmp 21) 22 28 (.agg #[.slice none 0 0]) 24 rfl Try.underlying22 info28 rfl (by decide) (by omega) v20 [] l A l.length c (fun k => k < w.heap.size ∨ wc.heap.size ≤ k) (fun k => k < w.heap.size) rfl rfl HO.out (Kd.F_below (Kd.C_F heap_Step HC.out) (below_step KB.out HB.out)) (fun k hk => ⟨.inl hk, fun e => by obtain ⟨b_, hb_, hle_⟩ := hnew_; rw [hb_] at e; injection e with e; have : k < w.heap.size := hk; have := KB.out.size; omega⟩) (fun k hk => .inr (Nat.le_trans HB.out.size hk)) HB.out HB.out.size (by have := HLL.out; simp only [List.length_nil]; omega) ?_; intro v22 w3 hN hb3 hg3 hat3; obtain ⟨Aw, cw, rfl⟩ := Kd.N_slice hN; have HR := Aside0.mk (Kd.N_reads' hN); have KB3 := Aside0.mk (below_step KB.out hb3); have KX3 := Aside0.mk (blk_below KX.out hb3); clear hN hb3 hg3 hat3))
    go_meet
    exact ⟨Aw, cw, rfl, ⟨HR.out.2.1, HR.out.2.2, KX3.out, KB3.out⟩⟩
  clear KX KB
  obtain ⟨Aw, cw, rfl, hcut⟩ := hcut
  have Hcw := Aside0.mk hcut.out.1
  have HW := Aside0.mk hcut.out.2.1
  have KX := Aside0.mk hcut.out.2.2.1
  have KB := Aside0.mk hcut.out.2.2.2
  clear hcut
  have eDD : (d1 != d1) = false := bne_self_eq_false d1
  go_upto_region 4 with fail
  refine start_ (n := 15) (S := fun w' => w'.cell? ⟨w.heap.size, 0, none⟩ = some (.slice Ax x.length cx)) (ds := []) #[false, false, false, false, false, false, false, false, false, false, false, false, false, false, false] (by kernel_rfl) rfl rfl ((blk_cell (blk_drew KX.out) 0).trans rfl) (fun hHeld => ?_)
  refine pure_ (i := 0) (N := some 23) (v := ?_) (a' := ?_) #[true, false, false, false, false, false, false, false, false, false, false, false, false, false, false] rfl rfl (by kernel_rfl) (fun _ _ _ h => h) (Or.inl ⟨by rfl, ?_⟩) ?_ ?_
  rotate_left
  · intro w'
    go_simp
    with_reducible rfl
  rotate_left
  · simp only [Act.put, List.setIfInBounds_toArray, List.set_cons_zero, List.set_cons_succ, i64_w, i32_w]
    rfl
  refine pure_ (i := 3) (N := some 26) (v := ?_) (a' := ?_) #[true, false, false, true, false, false, false, false, false, false, false, false, false, false, false] rfl rfl (by kernel_rfl) (fun _ _ _ h => h) (Or.inl ⟨by rfl, ?_⟩) ?_ ?_
  rotate_left
  · intro w'
    go_simp
    with_reducible rfl
  rotate_left
  · simp only [Act.put, List.setIfInBounds_toArray, List.set_cons_zero, List.set_cons_succ, i64_w, i32_w]
    rfl
  refine take_ (i := 1) (N := some 24) (v := ?_) (a' := ?_) #[true, true, false, true, false, false, false, false, false, false, false, false, false, false, false] rfl rfl (by kernel_rfl) (fun _ _ _ h => h) (Or.inl ⟨by rfl, ?_⟩) hHeld ?_ ?_
  rotate_left
  · intro w' s0
    go_simp
    with_reducible rfl
  rotate_left
  · simp only [Act.put, List.setIfInBounds_toArray, List.set_cons_zero, List.set_cons_succ, i64_w, i32_w]
    rfl
  refine take_ (i := 4) (N := some 27) (v := ?_) (a' := ?_) #[true, true, false, true, true, false, false, false, false, false, false, false, false, false, false] rfl rfl (by kernel_rfl) (fun _ _ _ h => h) (Or.inl ⟨by rfl, ?_⟩) hHeld ?_ ?_
  rotate_left
  · intro w' s0
    go_simp
    with_reducible rfl
  rotate_left
  · simp only [Act.put, List.setIfInBounds_toArray, List.set_cons_zero, List.set_cons_succ, i64_w, i32_w]
    rfl
  refine one_ (i := 2) (N := some 25) #[true, true, true, true, true, false, false, false, false, false, false, false, false, false, false] rfl rfl (by kernel_rfl) (by decide) (fun K hK => ?_)
  refine goes_ Try.func12 (by kernel_rfl) rfl #[.slice A l.length c, .agg #[.slice Ax x.length cx]] (by rfl) rfl rfl (by (try simp only [List.map_toArray, List.map_cons, List.map_nil]); first | done | rfl) ?_
  with_reducible refine (stack_Push.own A c l Ax cx x _ (Kd.C_below HC.out (below_drew KB.out)) Hc.out (Kd.C_below HX.out (below_drew KB.out)) Hcx.out HLL.out).mono ?_
  rintro e w2 ⟨A2, c2, rfl, hc2, hC2, _, hb⟩
  refine ⟨_, rfl, ?_⟩
  have HW := Aside0.mk (Kd.C_below (Kd.C_below HW.out (below_drew (Below.refl _ _))) hb)
  have KX := Aside0.mk (blk_below (blk_drew KX.out) hb)
  have KB := Aside0.mk (below_step (below_drew KB.out) hb)
  have HC2 := Aside0.mk hC2
  have Hc2 := Aside0.mk hc2
  clear hC2 hc2 hb
  refine hK.out _ _ ((blk_cell (KX.out) 0).trans rfl) (fun hHeld => ?_)
  clear hK K
  refine norm_ (a' := ?_) ?_ ?_
  rotate_left
  · show Act.put _ (some 25) _ = _
    simp only [Act.put, List.setIfInBounds_toArray, List.set_cons_zero, List.set_cons_succ, i64_w, i32_w]
    rfl
  refine one_ (i := 5) (N := some 28) #[true, true, true, true, true, true, false, false, false, false, false, false, false, false, false] rfl rfl (by kernel_rfl) (by decide) (fun K hK => ?_)
  refine goes_ Try.func13 (by kernel_rfl) rfl #[.slice A l.length c, .agg #[.slice Ax x.length cx]] (by rfl) rfl rfl (by (try simp only [List.map_toArray, List.map_cons, List.map_nil]); first | done | rfl) ?_
  with_reducible refine (stylusref24_Push.calls (fun k => k < w2.heap.size) A c l (fun k => k < w2.heap.size) Ax cx x rp _ (Kd.V_mk Hc.out (Kd.C_F heap_Step (Kd.C_below HC.out KB.out))) (Kd.V_mk Hcx.out (Kd.C_F heap_Edit (Kd.C_below HX.out KB.out))) HA2.out).mono ?_
  rintro e w3 ⟨v28, rfl, hV, hb⟩
  refine ⟨_, rfl, ?_⟩
  obtain ⟨A3, c3, rfl⟩ := Kd.V_slice hV
  have hr3 := Kd.V_reads' hV
  have HC3 := Aside0.mk hr3.2.2
  have Hc3 := Aside0.mk hr3.2.1
  have HC2 := Aside0.mk (Kd.C_below HC2.out hb)
  have HW := Aside0.mk (Kd.C_below HW.out hb)
  have KX := Aside0.mk (blk_below (KX.out) hb)
  have KB := Aside0.mk (below_step (KB.out) hb)
  clear hV hr3 hb
  refine hK.out _ _ ((blk_cell (KX.out) 0).trans rfl) (fun hHeld => ?_)
  clear hK K
  refine norm_ (a' := ?_) ?_ ?_
  rotate_left
  · show Act.put _ (some 28) _ = _
    simp only [Act.put, List.setIfInBounds_toArray, List.set_cons_zero, List.set_cons_succ, i64_w, i32_w]
    rfl
  refine one_ (i := 6) (N := some 29) #[true, true, true, true, true, true, true, false, false, false, false, false, false, false, false] rfl rfl (by kernel_rfl) (by decide) (fun K hK => ?_)
  refine goes_ Try.func11 (by kernel_rfl) rfl #[.slice A2 (stack_top (l ++ [(⟨x⟩ : S28)])).length c2, .slice A3 rp.length c3] (by rfl) rfl rfl (by (try simp only [List.map_toArray, List.map_cons, List.map_nil]); first | done | rfl) ?_
  with_reducible refine (stylusref23_Steps.calls k A2 c2 _ A3 c3 rp true _ HC2.out Hc2.out HC3.out Hc3.out HA3.out).mono ?_
  rintro e w4 ⟨rfl, hb⟩
  refine ⟨_, rfl, ?_⟩
  have HW := Aside0.mk (Kd.C_below HW.out hb)
  have KX := Aside0.mk (blk_below (KX.out) hb)
  have KB := Aside0.mk (below_step (KB.out) hb)
  clear hb
  refine hK.out _ _ ((blk_cell (KX.out) 0).trans rfl) (fun hHeld => ?_)
  clear hK K
  refine norm_ (a' := ?_) ?_ ?_
  rotate_left
  · show Act.put _ (some 29) _ = _
    simp only [Act.put, List.setIfInBounds_toArray, List.set_cons_zero, List.set_cons_succ, i64_w, i32_w]
    rfl
  refine pure_ (i := 7) (N := some 30) (v := ?_) (a' := ?_) #[true, true, true, true, true, true, true, true, false, false, false, false, false, false, false] rfl rfl (by kernel_rfl) (fun _ _ _ h => h) (Or.inl ⟨by rfl, ?_⟩) ?_ ?_
  rotate_left
  · intro w'
    go_simp
    with_reducible rfl
  rotate_left
  · simp only [Act.put, List.setIfInBounds_toArray, List.set_cons_zero, List.set_cons_succ, i64_w, i32_w]
    rfl
  refine pure_ (i := 8) (N := some 31) (v := ?_) (a' := ?_) #[true, true, true, true, true, true, true, true, true, false, false, false, false, false, false] rfl rfl (by kernel_rfl) (fun _ _ _ h => h) (Or.inl ⟨by rfl, ?_⟩) ?_ ?_
  rotate_left
  · intro w'
    go_simp
    with_reducible rfl
  rotate_left
  · simp only [Act.put, List.setIfInBounds_toArray, List.set_cons_zero, List.set_cons_succ, i64_w, i32_w]
    rfl
  refine pure_ (i := 9) (N := some 32) (v := ?_) (a' := ?_) #[true, true, true, true, true, true, true, true, true, true, false, false, false, false, false] rfl rfl (by kernel_rfl) (fun _ _ _ h => h) (Or.inl ⟨by rfl, ?_⟩) ?_ ?_
  rotate_left
  · intro w'
    go_simp
    with_reducible rfl
  rotate_left
  · simp only [Act.put, List.setIfInBounds_toArray, List.set_cons_zero, List.set_cons_succ, i64_w, i32_w]
    rfl
  refine pure_ (i := 11) (N := some 34) (v := ?_) (a' := ?_) #[true, true, true, true, true, true, true, true, true, true, false, true, false, false, false] rfl rfl (by kernel_rfl) (fun _ _ _ h => h) (Or.inl ⟨by rfl, ?_⟩) ?_ ?_
  rotate_left
  · intro w'
    go_simp
    with_reducible rfl
  rotate_left
  · simp only [Act.put, List.setIfInBounds_toArray, List.set_cons_zero, List.set_cons_succ, i64_w, i32_w]
    rfl
  refine one_ (i := 10) (N := some 33) #[true, true, true, true, true, true, true, true, true, true, true, true, false, false, false] rfl rfl (by kernel_rfl) (by decide) (fun K hK => ?_)
  refine goes_ Try.func14 (by kernel_rfl) rfl #[.slice A l.length c] (by rfl) rfl rfl (by (try simp only [List.map_toArray, List.map_cons, List.map_nil]); first | done | rfl) ?_
  with_reducible refine (stack_Depth.calls k A c l d1 _ (Kd.C_below HC.out KB.out) Hc.out HA4.out).mono ?_
  rintro e w5 ⟨rfl, hb⟩
  refine ⟨_, rfl, ?_⟩
  have HW := Aside0.mk (Kd.C_below HW.out hb)
  have KX := Aside0.mk (blk_below (KX.out) hb)
  have KB := Aside0.mk (below_step (KB.out) hb)
  clear hb
  refine hK.out _ _ ((blk_cell (KX.out) 0).trans rfl) (fun hHeld => ?_)
  clear hK K
  refine norm_ (a' := ?_) ?_ ?_
  rotate_left
  · show Act.put _ (some 33) _ = _
    simp only [Act.put, List.setIfInBounds_toArray, List.set_cons_zero, List.set_cons_succ, i64_w, i32_w]
    rfl
  refine one_ (i := 12) (N := some 35) #[true, true, true, true, true, true, true, true, true, true, true, true, true, false, false] rfl rfl (by kernel_rfl) (by decide) (fun K hK => ?_)
  refine goes_ Try.func15 (by kernel_rfl) rfl #[.slice A l.length c] (by rfl) rfl rfl (by (try simp only [List.map_toArray, List.map_cons, List.map_nil]); first | done | rfl) ?_
  with_reducible refine (stylusref24_Depth.calls k A c l d1 _ (Kd.C_below HC.out KB.out) Hc.out HA5.out).mono ?_
  rintro e w6 ⟨rfl, ⟨nd, rfl⟩⟩
  refine ⟨_, rfl, ?_⟩
  have hb := pw_below_drewN (Below.refl w5.heap.size w5) nd
  have HW := Aside0.mk (Kd.C_below HW.out hb)
  have KX := Aside0.mk (blk_below (KX.out) hb)
  have KB := Aside0.mk (below_step (KB.out) hb)
  clear hb
  refine hK.out _ _ ((blk_cell (KX.out) 0).trans rfl) (fun hHeld => ?_)
  clear hK K
  refine norm_ (a' := ?_) ?_ ?_
  rotate_left
  · show Act.put _ (some 35) _ = _
    simp only [Act.put, List.setIfInBounds_toArray, List.set_cons_zero, List.set_cons_succ, i64_w, i32_w]
    rfl
  refine pure_ (i := 13) (N := some 36) (v := ?_) (a' := ?_) #[true, true, true, true, true, true, true, true, true, true, true, true, true, true, false] rfl rfl (by kernel_rfl) (fun _ _ _ h => h) (Or.inl ⟨by rfl, ?_⟩) ?_ ?_
  rotate_left
  · intro w'
    go_simp
    with_reducible rfl
  rotate_left
  · simp only [Act.put, List.setIfInBounds_toArray, List.set_cons_zero, List.set_cons_succ, i64_w, i32_w]
    rfl
  refine pure_ (i := 14) (N := some 37) (v := ?_) (a' := ?_) #[true, true, true, true, true, true, true, true, true, true, true, true, true, true, true] rfl rfl (by kernel_rfl) (fun _ _ _ h => h) (Or.inl ⟨by rfl, ?_⟩) ?_ ?_
  rotate_left
  · intro w'
    go_simp
    with_reducible rfl
  rotate_left
  · simp only [Act.put, List.setIfInBounds_toArray, List.set_cons_zero, List.set_cons_succ, i64_w, i32_w]
    rfl
  refine done_ (by kernel_rfl) ?_
  clear hHeld KX HA2 HA3 HA4 HA5 HA1 HLL HX Hcx HC2 Hc2 HC3 Hc3 eDD
  generalize w5.drewN nd = wd at HW KB ⊢
  have h := HH.out
  clear HH
  unfold styluslaw24_StackPushes.rest at h
  by_cases hz : l.length = 0
  · rw [if_pos hz] at h
    have HLV := Aside0.mk h
    have z1 : ((l.length : Int) == 0) = true := beq_iff_eq.mpr (by omega)
    have HZ := Aside0.mk hz
    clear h hz
    go_wp2_with (first
      | (go_at_call 16; (refine (pushes_pop0 A c l.length HZ.out _).mono ?_); rintro e w6 ⟨rfl, hb⟩; have KB6 := Aside0.mk (below_alloc (below_step KB.out hb) (.cells #[.slice none 0 0] 28)); clear hb)
      | (go_at_call 6; (with_reducible refine (styluslaw24_lives.calls k r _ HLV.out).mono ?_); rintro e w7 ⟨rfl, hb⟩))
    go_ret
    exact ⟨rfl, below_step KB6.out hb⟩
  rw [if_neg hz] at h
  obtain ⟨m, hm⟩ : ∃ m, l.length = m + 1 := ⟨l.length - 1, by omega⟩
  rw [show l.length - 1 = m by omega] at h
  replace h := Option.bind_eq_some_iff.mp h
  obtain ⟨b2, A6, h⟩ := h
  replace h := Option.bind_eq_some_iff.mp h
  obtain ⟨b3, A7, h⟩ := h
  replace h := Option.bind_eq_some_iff.mp h
  obtain ⟨b4, A8, h⟩ := h
  by_cases z : b2 = true ∧ b3 = true ∧ b4 = true
  rotate_left
  · rw [if_neg z] at h
    cases h
  rw [if_pos z] at h
  obtain ⟨rfl, rfl, rfl⟩ := z
  have HA6 := Aside0.mk A6
  have HA7 := Aside0.mk A7
  have HA8 := Aside0.mk A8
  have HLV := Aside0.mk h
  have HML := Aside0.mk hm
  have HTK := Aside0.mk (show (l.take m).length = m by rw [List.length_take]; omega)
  have Hm2 := Aside0.mk (show m ≤ cw by have := Hcw.out; omega)
  have z1 : ((l.length : Int) == 0) = false := beq_eq_false_iff_ne.mpr (by omega)
  have HM9 := Aside0.mk (show m ≤ 1000 from by have := HL9.out; omega)
  clear A6 A7 A8 h hz
  obtain ⟨aw, Bt, bt_, rfl, hx, hbt, hB⟩ := at_T28 HW.out (m : Int) (by omega) (by omega)
  rw [Int.toNat_natCast] at hx
  have HE := Aside0.mk hx
  have Hbt := Aside0.mk hbt
  have HB := Aside0.mk hB
  clear hx hbt hB hm
  go_upto_region 7 with (go_at_call 16; (refine (pushes_pop A c m l HML.out _ (Kd.C_below HC.out KB.out) Hc.out HM9.out).mono ?_); rintro e w6 ⟨⟨A6, c6, At, ct, rfl, hc6, hF6, hct, hT⟩, hb⟩; have hb2 := below_alloc hb (.cells #[.slice At (rd_T28 l (m : Int)).f0.length ct] 28); have K7 := Aside0.mk (heap_alloc_new w6 (.cells #[.slice At (rd_T28 l (m : Int)).f0.length ct] 28)); have HE := Aside0.mk ((hb2.cell (World.block_lt_of_cell? _ _ HE.out)).trans HE.out); have HW := Aside0.mk (Kd.C_below HW.out hb2); have HB := Aside0.mk (Kd.C_below HB.out hb2); have HT := Aside0.mk (Kd.C_below hT hb2); have HF6 := Aside0.mk (Kd.C_alloc hF6 (.cells #[.slice At (rd_T28 l (m : Int)).f0.length ct] 28)); have KB := Aside0.mk (below_step KB.out hb2); have Hc6 := Aside0.mk hc6; have Hct := Aside0.mk hct; clear hb hb2 hc6 hct hT hF6)
  generalize (rd_T28 l (m : Int)).f0 = lt at *
  generalize w6.alloc (.cells #[.slice At lt.length ct] 28) = wc at *
  generalize w6.heap.size = g7 at *
  have w1 : wrap64 ((l.length : Int) - 1) = (m : Int) := by have := HM9.out; have := HML.out; unfold wrap64; omega
  have htk : ∀ W, (Instr.slice 22 (.slice (some aw) l.length cw) none (some (.int .i64 (m : Int))) none).run Try.prog W = .ok (.slice (some aw) m cw) W := fun W => stack_take W (some aw) l.length cw m (by have := HML.out; omega) Hcw.out
  have q0 : (0 ≤ (m : Int)) = True := eq_true (by omega)
  have q1 : ((m : Int) < (l.length : Int)) = True := eq_true (by have := HML.out; omega)
  have q2 : (m < l.length) = True := eq_true (by have := HML.out; omega)
  go_upto_region 10 with fail
  refine start_ (n := 28) (S := fun w' => w'.cell? ⟨g7, 0, none⟩ = some (.slice At lt.length ct) ∧ w'.cell? (aw.add m) = some (.slice Bt lt.length bt_)) (ds := []) #[false, false, false, false, false, false, false, false, false, false, false, false, false, false, false, false, false, false, false, false, false, false, false, false, false, false, false, false] (by kernel_rfl) rfl rfl ⟨(blk_cell (blk_drew K7.out) 0).trans rfl, HE.out⟩ (fun hHeld => ?_)
  refine pure_ (i := 0) (N := some 64) (v := ?_) (a' := ?_) #[true, false, false, false, false, false, false, false, false, false, false, false, false, false, false, false, false, false, false, false, false, false, false, false, false, false, false, false] rfl rfl (by kernel_rfl) (fun _ _ _ h => h) (Or.inl ⟨by rfl, ?_⟩) ?_ ?_
  rotate_left
  · intro w'
    go_simp
    with_reducible rfl
  rotate_left
  · simp only [Act.put, List.setIfInBounds_toArray, List.set_cons_zero, List.set_cons_succ, i64_w, i32_w]
    rfl
  refine pure_ (i := 1) (N := some 65) (v := ?_) (a' := ?_) #[true, true, false, false, false, false, false, false, false, false, false, false, false, false, false, false, false, false, false, false, false, false, false, false, false, false, false, false] rfl rfl (by kernel_rfl) (fun _ _ _ h => h) (Or.inl ⟨by rfl, ?_⟩) ?_ ?_
  rotate_left
  · intro w'
    go_simp
    with_reducible rfl
  rotate_left
  · simp only [Act.put, List.setIfInBounds_toArray, List.set_cons_zero, List.set_cons_succ, i64_w, i32_w]
    rfl
  refine pure_ (i := 2) (N := some 66) (v := ?_) (a' := ?_) #[true, true, true, false, false, false, false, false, false, false, false, false, false, false, false, false, false, false, false, false, false, false, false, false, false, false, false, false] rfl rfl (by kernel_rfl) (fun _ _ _ h => h) (Or.inl ⟨by rfl, ?_⟩) ?_ ?_
  rotate_left
  · intro w'
    go_simp
    with_reducible rfl
  rotate_left
  · simp only [Act.put, List.setIfInBounds_toArray, List.set_cons_zero, List.set_cons_succ, i64_w, i32_w]
    rfl
  refine pure_ (i := 3) (N := some 67) (v := ?_) (a' := ?_) #[true, true, true, true, false, false, false, false, false, false, false, false, false, false, false, false, false, false, false, false, false, false, false, false, false, false, false, false] rfl rfl (by kernel_rfl) (fun _ _ _ h => h) (Or.inl ⟨by rfl, ?_⟩) ?_ ?_
  rotate_left
  · intro w'
    go_simp
    with_reducible rfl
  rotate_left
  · simp only [Act.put, List.setIfInBounds_toArray, List.set_cons_zero, List.set_cons_succ, i64_w, i32_w]
    rfl
  refine pure_ (i := 4) (N := some 68) (v := ?_) (a' := ?_) #[true, true, true, true, true, false, false, false, false, false, false, false, false, false, false, false, false, false, false, false, false, false, false, false, false, false, false, false] rfl rfl (by kernel_rfl) (fun _ _ _ h => h) (Or.inl ⟨by rfl, ?_⟩) ?_ ?_
  rotate_left
  · intro w'
    go_simp
    with_reducible rfl
  rotate_left
  · simp only [Act.put, List.setIfInBounds_toArray, List.set_cons_zero, List.set_cons_succ, i64_w, i32_w]
    rfl
  refine pure_ (i := 5) (N := some 69) (v := ?_) (a' := ?_) #[true, true, true, true, true, true, false, false, false, false, false, false, false, false, false, false, false, false, false, false, false, false, false, false, false, false, false, false] rfl rfl (by kernel_rfl) (fun _ _ _ h => h) (Or.inl ⟨by rfl, ?_⟩) ?_ ?_
  rotate_left
  · intro w'
    go_simp
    with_reducible rfl
  rotate_left
  · simp only [Act.put, List.setIfInBounds_toArray, List.set_cons_zero, List.set_cons_succ, i64_w, i32_w]
    rfl
  refine pure_ (i := 6) (N := some 70) (v := ?_) (a' := ?_) #[true, true, true, true, true, true, true, false, false, false, false, false, false, false, false, false, false, false, false, false, false, false, false, false, false, false, false, false] rfl rfl (by kernel_rfl) (fun _ _ _ h => h) (Or.inl ⟨by rfl, ?_⟩) ?_ ?_
  rotate_left
  · intro w'
    go_simp
    with_reducible rfl
  rotate_left
  · simp only [Act.put, List.setIfInBounds_toArray, List.set_cons_zero, List.set_cons_succ, i64_w, i32_w]
    rfl
  refine pure_ (i := 7) (N := some 71) (v := ?_) (a' := ?_) #[true, true, true, true, true, true, true, true, false, false, false, false, false, false, false, false, false, false, false, false, false, false, false, false, false, false, false, false] rfl rfl (by kernel_rfl) (fun _ _ _ h => h) (Or.inl ⟨by rfl, ?_⟩) ?_ ?_
  rotate_left
  · intro w'
    go_simp
    with_reducible rfl
  rotate_left
  · simp only [Act.put, List.setIfInBounds_toArray, List.set_cons_zero, List.set_cons_succ, i64_w, i32_w]
    rfl
  refine one_ (i := 8) (N := some 72) #[true, true, true, true, true, true, true, true, true, false, false, false, false, false, false, false, false, false, false, false, false, false, false, false, false, false, false, false] rfl rfl (by kernel_rfl) (by decide) (fun K hK => ?_)
  refine goes_ Try.func11 (by kernel_rfl) rfl #[.slice A6 m c6, .slice (some aw) m cw] (by rfl) rfl rfl (by (try simp only [List.map_toArray, List.map_cons, List.map_nil]); first | done | rfl) ?_
  with_reducible refine (pushes_steps k A6 c6 (some aw) cw m (l.take m) HTK.out true _ (Kd.C_below HF6.out (below_drew (Below.refl _ _))) Hc6.out (pushes_take (Kd.C_below HW.out (below_drew (Below.refl _ _))) HML.out HTK.out) Hm2.out HA6.out).mono ?_
  rintro e w5 ⟨rfl, hb⟩
  refine ⟨_, rfl, ?_⟩
  have K7 := Aside0.mk (blk_below (blk_drew K7.out) hb)
  have HE := Aside0.mk ((hb.cell (World.block_lt_of_cell? _ _ HE.out)).trans HE.out)
  have HW := Aside0.mk (Kd.C_below (Kd.C_below (HW.out) (below_drew (Below.refl _ _))) hb)
  have HT := Aside0.mk (Kd.C_below (Kd.C_below (HT.out) (below_drew (Below.refl _ _))) hb)
  have HB := Aside0.mk (Kd.C_below (Kd.C_below (HB.out) (below_drew (Below.refl _ _))) hb)
  have KB := Aside0.mk (below_step (below_drew KB.out) hb)
  clear hb
  refine hK.out _ _ ⟨(blk_cell (K7.out) 0).trans rfl, HE.out⟩ (fun hHeld => ?_)
  clear hK K
  refine norm_ (a' := ?_) ?_ ?_
  rotate_left
  · show Act.put _ (some 72) _ = _
    simp only [Act.put, List.setIfInBounds_toArray, List.set_cons_zero, List.set_cons_succ, i64_w, i32_w]
    rfl
  refine pure_ (i := 9) (N := some 73) (v := ?_) (a' := ?_) #[true, true, true, true, true, true, true, true, true, true, false, false, false, false, false, false, false, false, false, false, false, false, false, false, false, false, false, false] rfl rfl (by kernel_rfl) (fun _ _ _ h => h) (Or.inl ⟨by rfl, ?_⟩) ?_ ?_
  rotate_left
  · intro w'
    go_simp
    with_reducible rfl
  rotate_left
  · simp only [Act.put, List.setIfInBounds_toArray, List.set_cons_zero, List.set_cons_succ, i64_w, i32_w]
    rfl
  refine pure_ (i := 10) (N := some 74) (v := ?_) (a' := ?_) #[true, true, true, true, true, true, true, true, true, true, true, false, false, false, false, false, false, false, false, false, false, false, false, false, false, false, false, false] rfl rfl (by kernel_rfl) (fun _ _ _ h => h) (Or.inl ⟨by rfl, ?_⟩) ?_ ?_
  rotate_left
  · intro w'
    go_simp
    with_reducible rfl
  rotate_left
  · simp only [Act.put, List.setIfInBounds_toArray, List.set_cons_zero, List.set_cons_succ, i64_w, i32_w]
    rfl
  refine pure_ (i := 12) (N := some 76) (v := ?_) (a' := ?_) #[true, true, true, true, true, true, true, true, true, true, true, false, true, false, false, false, false, false, false, false, false, false, false, false, false, false, false, false] rfl rfl (by kernel_rfl) (fun _ _ _ h => h) (Or.inl ⟨by rfl, ?_⟩) ?_ ?_
  rotate_left
  · intro w'
    go_simp
    with_reducible rfl
  rotate_left
  · simp only [Act.put, List.setIfInBounds_toArray, List.set_cons_zero, List.set_cons_succ, i64_w, i32_w]
    rfl
  refine pure_ (i := 13) (N := some 77) (v := ?_) (a' := ?_) #[true, true, true, true, true, true, true, true, true, true, true, false, true, true, false, false, false, false, false, false, false, false, false, false, false, false, false, false] rfl rfl (by kernel_rfl) (fun _ _ _ h => h) (Or.inl ⟨by rfl, ?_⟩) ?_ ?_
  rotate_left
  · intro w'
    go_simp
    with_reducible rfl
  rotate_left
  · simp only [Act.put, List.setIfInBounds_toArray, List.set_cons_zero, List.set_cons_succ, i64_w, i32_w]
    rfl
  refine pure_ (i := 14) (N := some 78) (v := ?_) (a' := ?_) #[true, true, true, true, true, true, true, true, true, true, true, false, true, true, true, false, false, false, false, false, false, false, false, false, false, false, false, false] rfl rfl (by kernel_rfl) (fun _ _ _ h => h) (Or.inl ⟨by rfl, ?_⟩) ?_ ?_
  rotate_left
  · intro w'
    go_simp
    with_reducible rfl
  rotate_left
  · simp only [Act.put, List.setIfInBounds_toArray, List.set_cons_zero, List.set_cons_succ, i64_w, i32_w]
    rfl
  refine pure_ (i := 15) (N := some 79) (v := ?_) (a' := ?_) #[true, true, true, true, true, true, true, true, true, true, true, false, true, true, true, true, false, false, false, false, false, false, false, false, false, false, false, false] rfl rfl (by kernel_rfl) (fun _ _ _ h => h) (Or.inl ⟨by rfl, ?_⟩) ?_ ?_
  rotate_left
  · intro w'
    go_simp
    with_reducible rfl
  rotate_left
  · simp only [Act.put, List.setIfInBounds_toArray, List.set_cons_zero, List.set_cons_succ, i64_w, i32_w]
    rfl
  refine take_ (i := 11) (N := some 75) (v := ?_) (a' := ?_) #[true, true, true, true, true, true, true, true, true, true, true, true, true, true, true, true, false, false, false, false, false, false, false, false, false, false, false, false] rfl rfl (by kernel_rfl) (fun _ _ _ h => h) (Or.inl ⟨by rfl, ?_⟩) hHeld ?_ ?_
  rotate_left
  · rintro w' ⟨s0, s1⟩
    go_simp
    with_reducible rfl
  rotate_left
  · simp only [Act.put, List.setIfInBounds_toArray, List.set_cons_zero, List.set_cons_succ, i64_w, i32_w]
    rfl
  refine take_ (i := 16) (N := some 80) (v := ?_) (a' := ?_) #[true, true, true, true, true, true, true, true, true, true, true, true, true, true, true, true, true, false, false, false, false, false, false, false, false, false, false, false] rfl rfl (by kernel_rfl) (fun _ _ _ h => h) (Or.inl ⟨by rfl, ?_⟩) hHeld ?_ ?_
  rotate_left
  · rintro w' ⟨s0, s1⟩
    go_simp
    with_reducible rfl
  rotate_left
  · simp only [Act.put, List.setIfInBounds_toArray, List.set_cons_zero, List.set_cons_succ, i64_w, i32_w]
    rfl
  refine one_ (i := 17) (N := some 81) #[true, true, true, true, true, true, true, true, true, true, true, true, true, true, true, true, true, true, false, false, false, false, false, false, false, false, false, false] rfl rfl (by kernel_rfl) (by decide) (fun K hK => ?_)
  refine goes_ Try.func17 (by kernel_rfl) rfl #[.agg #[.slice At lt.length ct], .agg #[.slice Bt lt.length bt_]] (by rfl) rfl rfl (by (try simp only [List.map_toArray, List.map_cons, List.map_nil]); first | done | rfl) ?_
  with_reducible refine (stylusref23_Same.calls k At ct lt Bt bt_ lt true _ HT.out Hct.out HB.out Hbt.out HA7.out).mono ?_
  rintro e w6 ⟨rfl, hb⟩
  refine ⟨_, rfl, ?_⟩
  have K7 := Aside0.mk (blk_below (K7.out) hb)
  have HE := Aside0.mk ((hb.cell (World.block_lt_of_cell? _ _ HE.out)).trans HE.out)
  have HW := Aside0.mk (Kd.C_below (HW.out) hb)
  have HT := Aside0.mk (Kd.C_below (HT.out) hb)
  have HB := Aside0.mk (Kd.C_below (HB.out) hb)
  have KB := Aside0.mk (below_step (KB.out) hb)
  clear hb
  refine hK.out _ _ ⟨(blk_cell (K7.out) 0).trans rfl, HE.out⟩ (fun hHeld => ?_)
  clear hK K
  refine norm_ (a' := ?_) ?_ ?_
  rotate_left
  · show Act.put _ (some 81) _ = _
    simp only [Act.put, List.setIfInBounds_toArray, List.set_cons_zero, List.set_cons_succ, i64_w, i32_w]
    rfl
  refine pure_ (i := 18) (N := some 82) (v := ?_) (a' := ?_) #[true, true, true, true, true, true, true, true, true, true, true, true, true, true, true, true, true, true, true, false, false, false, false, false, false, false, false, false] rfl rfl (by kernel_rfl) (fun _ _ _ h => h) (Or.inl ⟨by rfl, ?_⟩) ?_ ?_
  rotate_left
  · intro w'
    go_simp
    with_reducible rfl
  rotate_left
  · simp only [Act.put, List.setIfInBounds_toArray, List.set_cons_zero, List.set_cons_succ, i64_w, i32_w]
    rfl
  refine pure_ (i := 19) (N := some 83) (v := ?_) (a' := ?_) #[true, true, true, true, true, true, true, true, true, true, true, true, true, true, true, true, true, true, true, true, false, false, false, false, false, false, false, false] rfl rfl (by kernel_rfl) (fun _ _ _ h => h) (Or.inl ⟨by rfl, ?_⟩) ?_ ?_
  rotate_left
  · intro w'
    go_simp
    with_reducible rfl
  rotate_left
  · simp only [Act.put, List.setIfInBounds_toArray, List.set_cons_zero, List.set_cons_succ, i64_w, i32_w]
    rfl
  refine pure_ (i := 20) (N := some 84) (v := ?_) (a' := ?_) #[true, true, true, true, true, true, true, true, true, true, true, true, true, true, true, true, true, true, true, true, true, false, false, false, false, false, false, false] rfl rfl (by kernel_rfl) (fun _ _ _ h => h) (Or.inl ⟨by rfl, ?_⟩) ?_ ?_
  rotate_left
  · intro w'
    go_simp
    with_reducible rfl
  rotate_left
  · simp only [Act.put, List.setIfInBounds_toArray, List.set_cons_zero, List.set_cons_succ, i64_w, i32_w]
    rfl
  refine pure_ (i := 21) (N := some 85) (v := ?_) (a' := ?_) #[true, true, true, true, true, true, true, true, true, true, true, true, true, true, true, true, true, true, true, true, true, true, false, false, false, false, false, false] rfl rfl (by kernel_rfl) (fun _ _ _ h => h) (Or.inl ⟨by rfl, ?_⟩) ?_ ?_
  rotate_left
  · intro w'
    go_simp
    with_reducible rfl
  rotate_left
  · simp only [Act.put, List.setIfInBounds_toArray, List.set_cons_zero, List.set_cons_succ, i64_w, i32_w]
    rfl
  refine one_ (i := 22) (N := some 86) #[true, true, true, true, true, true, true, true, true, true, true, true, true, true, true, true, true, true, true, true, true, true, true, false, false, false, false, false] rfl rfl (by kernel_rfl) (by decide) (fun K hK => ?_)
  refine goes_ Try.func11 (by kernel_rfl) rfl #[.slice A l.length c, .slice (some aw) l.length cw] (by rfl) rfl rfl (by (try simp only [List.map_toArray, List.map_cons, List.map_nil]); first | done | rfl) ?_
  with_reducible refine (pushes_steps k A c (some aw) cw l.length l rfl true _ (Kd.C_below HC.out KB.out) Hc.out HW.out Hcw.out HA8.out).mono ?_
  rintro e w7 ⟨rfl, hb⟩
  refine ⟨_, rfl, ?_⟩
  have K7 := Aside0.mk (blk_below (K7.out) hb)
  have HE := Aside0.mk ((hb.cell (World.block_lt_of_cell? _ _ HE.out)).trans HE.out)
  have HW := Aside0.mk (Kd.C_below (HW.out) hb)
  have HT := Aside0.mk (Kd.C_below (HT.out) hb)
  have HB := Aside0.mk (Kd.C_below (HB.out) hb)
  have KB := Aside0.mk (below_step (KB.out) hb)
  clear hb
  refine hK.out _ _ ⟨(blk_cell (K7.out) 0).trans rfl, HE.out⟩ (fun hHeld => ?_)
  clear hK K
  refine norm_ (a' := ?_) ?_ ?_
  rotate_left
  · show Act.put _ (some 86) _ = _
    simp only [Act.put, List.setIfInBounds_toArray, List.set_cons_zero, List.set_cons_succ, i64_w, i32_w]
    rfl
  refine pure_ (i := 23) (N := some 87) (v := ?_) (a' := ?_) #[true, true, true, true, true, true, true, true, true, true, true, true, true, true, true, true, true, true, true, true, true, true, true, true, false, false, false, false] rfl rfl (by kernel_rfl) (fun _ _ _ h => h) (Or.inl ⟨by rfl, ?_⟩) ?_ ?_
  rotate_left
  · intro w'
    go_simp
    with_reducible rfl
  rotate_left
  · simp only [Act.put, List.setIfInBounds_toArray, List.set_cons_zero, List.set_cons_succ, i64_w, i32_w]
    rfl
  refine pure_ (i := 24) (N := some 88) (v := ?_) (a' := ?_) #[true, true, true, true, true, true, true, true, true, true, true, true, true, true, true, true, true, true, true, true, true, true, true, true, true, false, false, false] rfl rfl (by kernel_rfl) (fun _ _ _ h => h) (Or.inl ⟨by rfl, ?_⟩) ?_ ?_
  rotate_left
  · intro w'
    go_simp
    with_reducible rfl
  rotate_left
  · simp only [Act.put, List.setIfInBounds_toArray, List.set_cons_zero, List.set_cons_succ, i64_w, i32_w]
    rfl
  refine one_ (i := 25) (N := some 89) #[true, true, true, true, true, true, true, true, true, true, true, true, true, true, true, true, true, true, true, true, true, true, true, true, true, true, false, false] rfl rfl (by kernel_rfl) (by decide) (fun K hK => ?_)
  refine goes_ Try.func6 (by kernel_rfl) rfl #[] (by rfl) rfl rfl (by (try simp only [List.map_toArray, List.map_cons, List.map_nil]); first | done | rfl) ?_
  with_reducible refine (styluslaw24_lives.calls k r _ HLV.out).mono ?_
  rintro e w8 ⟨rfl, hb⟩
  refine ⟨_, rfl, ?_⟩
  have K7 := Aside0.mk (blk_below (K7.out) hb)
  have HE := Aside0.mk ((hb.cell (World.block_lt_of_cell? _ _ HE.out)).trans HE.out)
  have HW := Aside0.mk (Kd.C_below (HW.out) hb)
  have HT := Aside0.mk (Kd.C_below (HT.out) hb)
  have HB := Aside0.mk (Kd.C_below (HB.out) hb)
  have KB := Aside0.mk (below_step (KB.out) hb)
  clear hb
  refine hK.out _ _ ⟨(blk_cell (K7.out) 0).trans rfl, HE.out⟩ (fun hHeld => ?_)
  clear hK K
  refine norm_ (a' := ?_) ?_ ?_
  rotate_left
  · show Act.put _ (some 89) _ = _
    simp only [Act.put, List.setIfInBounds_toArray, List.set_cons_zero, List.set_cons_succ, i64_w, i32_w]
    rfl
  refine pure_ (i := 26) (N := some 90) (v := ?_) (a' := ?_) #[true, true, true, true, true, true, true, true, true, true, true, true, true, true, true, true, true, true, true, true, true, true, true, true, true, true, true, false] rfl rfl (by kernel_rfl) (fun _ _ _ h => h) (Or.inl ⟨by rfl, ?_⟩) ?_ ?_
  rotate_left
  · intro w'
    go_simp
    with_reducible rfl
  rotate_left
  · simp only [Act.put, List.setIfInBounds_toArray, List.set_cons_zero, List.set_cons_succ, i64_w, i32_w]
    rfl
  refine pure_ (i := 27) (N := some 4) (v := ?_) (a' := ?_) #[true, true, true, true, true, true, true, true, true, true, true, true, true, true, true, true, true, true, true, true, true, true, true, true, true, true, true, true] rfl rfl (by kernel_rfl) (fun _ _ _ h => h) (Or.inl ⟨by rfl, ?_⟩) ?_ ?_
  rotate_left
  · intro w'
    go_simp
    with_reducible rfl
  rotate_left
  · simp only [Act.put, List.setIfInBounds_toArray, List.set_cons_zero, List.set_cons_succ, i64_w, i32_w]
    rfl
  refine done_ (by kernel_rfl) ?_
  go_wp2_with fail
  go_ret
  exact ⟨rfl, KB.out⟩


/-- THE ONE PURE STATEMENT of styluslaw24_StackPushes. -/
def styluslaw24_StackPushes.Pure : Prop := ∀ (x0 : List (S28)) (x1 : S28), (x0.length ≤ 9223372036854775807 ∧ ∀ y_x0 ∈ x0, B28 y_x0) → B28 x1 → ∃ k, styluslaw24_StackPushes.f k x0 x1.f0 = some true
end Go.Proofs.Ytbcokholddlpbaa.P
