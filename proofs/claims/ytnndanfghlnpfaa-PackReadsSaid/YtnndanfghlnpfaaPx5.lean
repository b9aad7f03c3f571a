import Derived.Test.YtnndanfghlnpfaaPx0
import Derived.Test.YtnndanfghlnpfaaPx4
namespace Go.Proofs.Ytnndanfghlnpfaa.P
open Go.RowKit Go.Proofs.YtnndanfghlnpfaaW.PrintWords Go.Proofs.YtnndanfghlnpfaaW.PrintLast Go.Proofs.YtnndanfghlnpfaaW.PrintMore
attribute [local go_sem] max2_int min2_int max_two min_two max_three min_three max_four min_four   -- for this text's walks alone
set_option linter.unusedVariables false
set_option linter.unusedSimpArgs false
/-! ### utf_Take: function 89 -/
mutual
def utf_Take.j0 : Nat → ByteArray → Int → Bool → Option (Int × Int)
 | 0, _, _, _ => none
 | k + 1, x0, x1, x17 => if x17 = true then (some (0, 0)) else (if 0 ≤ x1 then (if x1 < (x0.size : Int) then ((utf_begins.f (bt x0 x1)).bind fun bt116 => (if bt116.1 = 0 then (utf_Take.j1 k x0 x1 bt116.1 bt116.2 true) else (utf_Take.j1 k x0 x1 bt116.1 bt116.2 (decide (bt116.1 > (wrap64 ((x0.size : Int) - x1))))))) else (none)) else (none))
def utf_Take.j1 : Nat → ByteArray → Int → Int → Int → Bool → Option (Int × Int)
 | 0, _, _, _, _, _ => none
 | k + 1, x0, x1, x6, x7, x34 => if x34 = true then (some (0, 0)) else (utf_Take.l0 k x0 x1 x6 x7 1)
def utf_Take.l0 : Nat → ByteArray → Int → Int → Int → Int → Option (Int × Int)
 | 0, _, _, _, _, _ => none
 | k + 1, x0, x1, x6, x7, x8 => if x8 < x6 then (if 0 ≤ (wrap64 (x1 + x8)) then (if (wrap64 (x1 + x8)) < (x0.size : Int) then ((utf_goesOn.f (bt x0 (wrap64 (x1 + x8)))).bind fun t118 => (if t118 = true then (utf_Take.l0 k x0 x1 x6 (Go.bits .or .i32 (wrap32 (x7 * 64)) (wrap32 (Go.bits .and .u8 (bt x0 (wrap64 (x1 + x8))) 63))) (wrap64 (x8 + 1))) else (some (0, 0)))) else (none)) else (none)) else ((utf_isRune.f x7).bind fun t119 => (if t119 = true then ((utf_width.f x7).bind fun t120 => (if t120 = x6 then (some (x7, x6)) else (some (0, 0)))) else (some (0, 0))))
end
def utf_Take.f (k : Nat) (a0 : ByteArray) (a1 : Int) : Option (Int × Int) := if a1 < 0 then (utf_Take.j0 k a0 a1 true) else (utf_Take.j0 k a0 a1 (decide (a1 ≥ (a0.size : Int))))
theorem utf_Take.mono_l : ∀ k, (∀ y0 y1 y2, LeO (utf_Take.j0 k y0 y1 y2) (utf_Take.j0 (k + 1) y0 y1 y2)) ∧ (∀ y0 y1 y2 y3 y4, LeO (utf_Take.j1 k y0 y1 y2 y3 y4) (utf_Take.j1 (k + 1) y0 y1 y2 y3 y4)) ∧ (∀ y0 y1 y2 y3 y4, LeO (utf_Take.l0 k y0 y1 y2 y3 y4) (utf_Take.l0 (k + 1) y0 y1 y2 y3 y4))
 | 0 => ⟨fun _ _ _ r h => by simp [utf_Take.j0] at h, fun _ _ _ _ _ r h => by simp [utf_Take.j1] at h, fun _ _ _ _ _ r h => by simp [utf_Take.l0] at h⟩
 | k + 1 => by
  obtain ⟨ih0, ih1, ih2⟩ := utf_Take.mono_l k
  refine ⟨?_, ?_, ?_⟩
  ·intro y0 y1 y2
   unfold utf_Take.j0
   repeat' first
   | (with_reducible exact ih0 _ _ _)
   | (with_reducible exact ih1 _ _ _ _ _)
   | (with_reducible exact ih2 _ _ _ _ _)
   | (with_reducible exact LeO.refl _)
   | (with_reducible exact LeO.none _)
   | (with_reducible refine LeO.ite ?_ ?_)
   | (with_reducible refine LeO.bind ?_ (fun _ => ?_))
   | exact ih0 _ _ _
   | exact ih1 _ _ _ _ _
   | exact ih2 _ _ _ _ _
   | exact LeO.none _
   | refine LeO.ite ?_ ?_
   | refine LeO.bind ?_ (fun _ => ?_)
  ·intro y0 y1 y2 y3 y4
   unfold utf_Take.j1
   repeat' first
   | (with_reducible exact ih0 _ _ _)
   | (with_reducible exact ih1 _ _ _ _ _)
   | (with_reducible exact ih2 _ _ _ _ _)
   | (with_reducible exact LeO.refl _)
   | (with_reducible exact LeO.none _)
   | (with_reducible refine LeO.ite ?_ ?_)
   | (with_reducible refine LeO.bind ?_ (fun _ => ?_))
   | exact ih0 _ _ _
   | exact ih1 _ _ _ _ _
   | exact ih2 _ _ _ _ _
   | exact LeO.none _
   | refine LeO.ite ?_ ?_
   | refine LeO.bind ?_ (fun _ => ?_)
  ·intro y0 y1 y2 y3 y4
   unfold utf_Take.l0
   repeat' first
   | (with_reducible exact ih0 _ _ _)
   | (with_reducible exact ih1 _ _ _ _ _)
   | (with_reducible exact ih2 _ _ _ _ _)
   | (with_reducible exact LeO.refl _)
   | (with_reducible exact LeO.none _)
   | (with_reducible refine LeO.ite ?_ ?_)
   | (with_reducible refine LeO.bind ?_ (fun _ => ?_))
   | exact ih0 _ _ _
   | exact ih1 _ _ _ _ _
   | exact ih2 _ _ _ _ _
   | exact LeO.none _
   | refine LeO.ite ?_ ?_
   | refine LeO.bind ?_ (fun _ => ?_)
theorem utf_Take.mono : ∀ a0 a1 k, LeO (utf_Take.f k a0 a1) (utf_Take.f (k + 1) a0 a1) := by
 intro a0 a1 k
 obtain ⟨ih0, ih1, ih2⟩ := utf_Take.mono_l k
 unfold utf_Take.f
 repeat' first
   | (with_reducible exact ih0 _ _ _)
   | (with_reducible exact ih1 _ _ _ _ _)
   | (with_reducible exact ih2 _ _ _ _ _)
   | (with_reducible exact LeO.refl _)
   | (with_reducible exact LeO.none _)
   | (with_reducible refine LeO.ite ?_ ?_)
   | (with_reducible refine LeO.bind ?_ (fun _ => ?_))
   | exact ih0 _ _ _
   | exact ih1 _ _ _ _ _
   | exact ih2 _ _ _ _ _
   | exact LeO.none _
   | refine LeO.ite ?_ ?_
   | refine LeO.bind ?_ (fun _ => ?_)
set_option maxHeartbeats 8000000 in
set_option maxRecDepth 100000 in
theorem utf_Take.calls (k : Nat) (a0 : ByteArray) (a1 : Int) (r1 : Int) (r2 : Int) (w : World) (h : utf_Take.f k a0 a1 = some (r1, r2)) :
  Calls Try.prog 89 #[.string a0, .int .i64 a1] w fun e w' => e = .returned (.tuple #[.int .i32 r1, .int .i64 r2]) ∧ Drawn0 w w' := by
 have H : (if a1 < 0 then (utf_Take.j0 k a0 a1 true) else (utf_Take.j0 k a0 a1 (decide (a1 ≥ (a0.size : Int))))) = some (r1, r2) := h
 clear h
 have HC3 := aS_ H
 clear H
 go_enter Try.func89, Try.ntmps89
 go_upto_region 1 with (fail)
 go_cut [17] (fun v17 wc => ∃ (kq : Nat) (x17_2 : Bool), v17 = .bool x17_2 ∧ Aside0 (utf_Take.j0 kq a0 a1 x17_2 = some (r1, r2)) ∧ Aside0 (kq ≤ k) ∧ Drawn0 w wc)
 case first =>
  have H := HC3.out
  clear HC3
  by_cases c4 : a1 < 0
  ·rw [if_pos c4] at H
   have c4b0 := decide_eq_true c4
   clear c4
   (first | rw [c4b0] | (simp only [i64_w, i32_w]; rw [c4b0]) | skip)
   have H' := aS_ H
   clear H
   go_wp2
   go_meet
   case rel => exact ⟨_, (true), t0, H', ⟨t3⟩, by repeat (first | exact Drawn0.refl _ | apply Drawn0.step)⟩
  ·rw [if_neg c4] at H
   have c4b0 := decide_eq_false c4
   clear c4
   (first | rw [c4b0] | (simp only [i64_w, i32_w]; rw [c4b0]) | skip)
   have H' := aS_ H
   clear H
   go_wp2
   go_meet
   case rel => exact ⟨_, (decide (a1 ≥ (a0.size : Int))), t0, H', ⟨t3⟩, by repeat (first | exact Drawn0.refl _ | apply Drawn0.step)⟩
 case rest =>
  clear HC3
  try clear p2
  try clear c4
  try clear c4b0
  obtain ⟨kq, x17_2, rfl, HA, HJ2, ⟨mc2, rfl⟩⟩ := hcut
  cases kq with
  | zero => exact absurd HA.out (by simp [utf_Take.j0])
  | succ kj2 =>
   have H := HA.out
   clear HA
   simp only [utf_Take.j0] at H
   by_cases c5 : x17_2 = true
   ·subst c5
    rw [if_pos rfl] at H
    simp only [Option.some.injEq, Prod.mk.injEq] at H
    obtain ⟨rfl, rfl⟩ := H
    go_wp2
    go_ret2
    exact ⟨by first | rfl | (simp; done) | (simp [*]; done), by repeat (first | exact Drawn0.refl _ | apply Drawn0.step)⟩
   ·replace c5 := Bool.eq_false_iff.mpr c5
    subst c5
    rw [if_neg Bool.false_ne_true] at H
    by_cases c6 : 0 ≤ a1
    ·rw [if_pos c6] at H
     have c6b0 := decide_eq_true c6
     clear c6
     by_cases c7 : a1 < (a0.size : Int)
     ·rw [if_pos c7] at H
      have c7b0 := decide_eq_true c7
      clear c7
      replace H := Option.bind_eq_some_iff.mp H
      obtain ⟨⟨t116, t117⟩, A90, H⟩ := H
      try dsimp only at H
      have A9 := aS_ A90
      clear A90
      have HC10 := aS_ H
      clear H
      have p8 : 0 ≤ (a1 : Int) := of_decide_eq_true (by first | (with_reducible assumption) | assumption)
      have q8 : a1 < (a0.size : Int) := of_decide_eq_true (by first | (with_reducible assumption) | assumption)
      have hx8 := bt_at a0 a1
      replace p8 := eq_true p8
      replace q8 := eq_true q8
      go_upto_region 4 with (first | (refine cl_ (some 22) Try.func98 #[.int .u8 (bt a0 a1)] ?_; (with_reducible refine (utf_begins.calls (bt a0 a1) t116 t117 _ A9.out).mono ?_); rintro e w' ⟨rfl, ⟨nd, rfl⟩⟩; refine ⟨_, rfl, ?_⟩))
      (try simp only [Act.put, List.setIfInBounds_toArray, List.set_cons_zero, List.set_cons_succ])
      go_cut [34] (fun v34 wc => ∃ (kq : Nat) (x34_9 : Bool), v34 = .bool x34_9 ∧ Aside0 (utf_Take.j1 kq a0 a1 t116 t117 x34_9 = some (r1, r2)) ∧ Aside0 (kq ≤ kj2) ∧ Drawn0 w wc)
      case first =>
       have H := HC10.out
       clear HC10
       by_cases c11 : t116 = 0
       ·rw [if_pos c11] at H
        have c11b0 := beq_iff_eq.mpr c11
        have c11b1 := bne_eq_false_iff_eq.mpr c11
        clear c11
        (first | rw [c11b0] | (simp only [i64_w, i32_w]; rw [c11b0]) | skip)
        have H' := aS_ H
        clear H
        go_wp2
        go_meet
        case rel => exact ⟨_, (true), t0, H', ⟨by have := HJ2.out; first | omega | exact Nat.le_refl _⟩, by repeat (first | exact Drawn0.refl _ | apply Drawn0.step)⟩
       ·rw [if_neg c11] at H
        have c11b0 := beq_eq_false_iff_ne.mpr c11
        have c11b1 := bne_iff_ne.mpr c11
        (first | rw [c11b0] | (simp only [i64_w, i32_w]; rw [c11b0]) | skip)
        have H' := aS_ H
        clear H
        go_wp2
        go_meet
        case rel => exact ⟨_, (decide (t116 > (wrap64 ((a0.size : Int) - a1)))), t0, H', ⟨by have := HJ2.out; first | omega | exact Nat.le_refl _⟩, by repeat (first | exact Drawn0.refl _ | apply Drawn0.step)⟩
      case rest =>
       clear HC10
       try clear c1
       try clear c2
       try clear p2
       try clear c4
       try clear c4b0
       try clear c5
       try clear c6
       try clear c6b0
       try clear p6
       try clear c7
       try clear c7b0
       try clear c8
       try clear p8
       try clear q8
       try clear hx8
       try clear c9
       try clear c11
       try clear c11b0
       try clear c11b1
       try clear p2
       try clear p8
       try clear q8
       obtain ⟨kq, x34_9, rfl, HA, HJ9, ⟨mc9, rfl⟩⟩ := hcut
       cases kq with
       | zero => exact absurd HA.out (by simp [utf_Take.j1])
       | succ kj9 =>
        have H := HA.out
        clear HA
        simp only [utf_Take.j1] at H
        by_cases c12 : x34_9 = true
        ·subst c12
         rw [if_pos rfl] at H
         simp only [Option.some.injEq, Prod.mk.injEq] at H
         obtain ⟨rfl, rfl⟩ := H
         go_wp2
         go_ret2
         exact ⟨by first | rfl | (simp; done) | (simp [*]; done), by repeat (first | exact Drawn0.refl _ | apply Drawn0.step)⟩
        ·replace c12 := Bool.eq_false_iff.mpr c12
         subst c12
         rw [if_neg Bool.false_ne_true] at H
         have H' := aS_ H
         clear H
         go_wp2
         go_loopg [7, 8] kj9 (fun kq v7 v8 w' => ∃ (x7_3 : Int) (x8_3 : Int), v7 = .int .i32 x7_3 ∧ v8 = .int .i64 x8_3 ∧ Aside0 (utf_Take.l0 kq a0 a1 t116 x7_3 x8_3 = some (r1, r2)) ∧ Aside0 (kq ≤ kj9) ∧ Drawn0 w w')
         case atStart => exact ⟨(t117), (1), t0, t0, H', ⟨Nat.le_refl _⟩, by repeat (first | exact Drawn0.refl _ | apply Drawn0.step)⟩
         case round =>
          clear H'
          try clear c1
          try clear c2
          try clear p2
          try clear c4
          try clear c4b0
          try clear c5
          try clear c6
          try clear c6b0
          try clear p6
          try clear c7
          try clear c7b0
          try clear c8
          try clear p8
          try clear q8
          try clear hx8
          try clear c9
          try clear c11
          try clear c11b0
          try clear c11b1
          try clear c12
          try clear p2
          try clear p6
          try clear p8
          try clear q8
          obtain ⟨x7_3, x8_3, rfl, rfl, HA, HK3, ⟨m3, rfl⟩⟩ := hrel
          cases gk with
          | zero => exact absurd HA.out (by simp [utf_Take.l0])
          | succ k3 =>
           have H := HA.out
           clear HA
           simp only [utf_Take.l0] at H
           by_cases c13 : x8_3 < t116
           ·rw [if_pos c13] at H
            have c13b0 := decide_eq_true c13
            clear c13
            obtain ⟨ji14, hji14⟩ : ∃ j_ : Int, (wrap64 (a1 + x8_3)) = j_ := ⟨_, rfl⟩
            replace H : (if 0 ≤ (ji14) then (if (ji14) < (a0.size : Int) then ((utf_goesOn.f (bt a0 (ji14))).bind fun t118 => (if t118 = true then (utf_Take.l0 k3 a0 a1 t116 (Go.bits .or .i32 (wrap32 (x7_3 * 64)) (wrap32 (Go.bits .and .u8 (bt a0 (ji14)) 63))) (wrap64 (x8_3 + 1))) else (some (0, 0)))) else (none)) else (none)) = some (r1, r2) := by first | (rw [hji14] at H; exact H) | (simp only [hji14] at H ⊢; exact H)
            have hji14w : (IntKind.i64.wrap (a1 + x8_3)) = ji14 := (i64_w _).trans hji14
            by_cases c15 : 0 ≤ (ji14)
            ·rw [if_pos c15] at H
             have c15b0 := decide_eq_true c15
             clear c15
             by_cases c16 : (ji14) < (a0.size : Int)
             ·rw [if_pos c16] at H
              have c16b0 := decide_eq_true c16
              clear c16
              replace H := Option.bind_eq_some_iff.mp H
              obtain ⟨t118, A180, H⟩ := H
              try dsimp only at H
              have A18 := aS_ A180
              clear A180
              by_cases c19 : t118 = true
              ·subst c19
               rw [if_pos rfl] at H
               have H' := aS_ H
               clear H
               have p17 : 0 ≤ ((ji14) : Int) := of_decide_eq_true (by first | (with_reducible assumption) | assumption)
               have q17 : (ji14) < (a0.size : Int) := of_decide_eq_true (by first | (with_reducible assumption) | assumption)
               have hx17 := bt_at a0 (ji14)
               replace p17 := eq_true p17
               replace q17 := eq_true q17
               go_wp2_with (first | ((with_reducible refine gate_callee (f := 91) rfl ?_); refine goesL_ (some 46) rfl rfl Try.func91 (by kernel_rfl) rfl #[.int .u8 (bt a0 (ji14))] rfl (by (try simp only [List.map_toArray, List.map_cons, List.map_nil]); first | done | (simp only [hji14]; rfl) | rfl | (simp only [List.length_drop, List.length_take]; rfl)) ?_; (with_reducible refine (utf_goesOn.calls (bt a0 (ji14)) true _ A18.out).mono ?_); rintro e w' ⟨rfl, ⟨nd, rfl⟩⟩; refine ⟨_, rfl, ?_⟩))
               go_roundg k3
               case measure => have := HJ2.out; have := HJ9.out; have := HK3.out; omega
               case rel => exact ⟨(Go.bits .or .i32 (wrap32 (x7_3 * 64)) (wrap32 (Go.bits .and .u8 (bt a0 (ji14)) 63))), (wrap64 (x8_3 + 1)), (by first | rfl | (simp; done) | (simp only [← hji14] <;> (first | rfl | simp)) | (simp [*]; done)), t0, H', ⟨by have := HJ2.out; have := HJ9.out; have := HK3.out; omega⟩, by repeat (first | exact Drawn0.refl _ | apply Drawn0.step)⟩
              ·replace c19 := Bool.eq_false_iff.mpr c19
               subst c19
               rw [if_neg Bool.false_ne_true] at H
               simp only [Option.some.injEq, Prod.mk.injEq] at H
               obtain ⟨rfl, rfl⟩ := H
               have p17 : 0 ≤ ((ji14) : Int) := of_decide_eq_true (by first | (with_reducible assumption) | assumption)
               have q17 : (ji14) < (a0.size : Int) := of_decide_eq_true (by first | (with_reducible assumption) | assumption)
               have hx17 := bt_at a0 (ji14)
               replace p17 := eq_true p17
               replace q17 := eq_true q17
               go_wp2_with (first | ((with_reducible refine gate_callee (f := 91) rfl ?_); refine goesL_ (some 46) rfl rfl Try.func91 (by kernel_rfl) rfl #[.int .u8 (bt a0 (ji14))] rfl (by (try simp only [List.map_toArray, List.map_cons, List.map_nil]); first | done | (simp only [hji14]; rfl) | rfl | (simp only [List.length_drop, List.length_take]; rfl)) ?_; (with_reducible refine (utf_goesOn.calls (bt a0 (ji14)) false _ A18.out).mono ?_); rintro e w' ⟨rfl, ⟨nd, rfl⟩⟩; refine ⟨_, rfl, ?_⟩))
               go_ret2
               exact ⟨by first | rfl | (simp; done) | (simp only [← hji14] <;> (first | rfl | simp)) | (simp [*]; done), by repeat (first | exact Drawn0.refl _ | apply Drawn0.step)⟩
             ·rw [if_neg c16] at H
              exact absurd H (by simp)
            ·rw [if_neg c15] at H
             exact absurd H (by simp)
           ·rw [if_neg c13] at H
            have c13b0 := decide_eq_false c13
            clear c13
            replace H := Option.bind_eq_some_iff.mp H
            obtain ⟨t119, A200, H⟩ := H
            try dsimp only at H
            have A20 := aS_ A200
            clear A200
            by_cases c21 : t119 = true
            ·subst c21
             rw [if_pos rfl] at H
             replace H := Option.bind_eq_some_iff.mp H
             obtain ⟨t120, A220, H⟩ := H
             try dsimp only at H
             have A22 := aS_ A220
             clear A220
             by_cases c23 : t120 = t116
             ·rw [if_pos c23] at H
              have c23b0 := beq_iff_eq.mpr c23
              have c23b1 := bne_eq_false_iff_eq.mpr c23
              clear c23
              simp only [Option.some.injEq, Prod.mk.injEq] at H
              obtain ⟨rfl, rfl⟩ := H
              go_wp2_with (first | (refine cl_ (some 55) Try.func99 #[.int .i32 x7_3] ?_; (with_reducible refine (utf_isRune.calls x7_3 true _ A20.out).mono ?_); rintro e w' ⟨rfl, ⟨nd, rfl⟩⟩; refine ⟨_, rfl, ?_⟩) | (go_at_call 100; (with_reducible refine (utf_width.calls x7_3 t120 _ A22.out).mono ?_); rintro e w' ⟨rfl, ⟨nd, rfl⟩⟩))
              go_ret2
              exact ⟨by first | rfl | (simp; done) | (simp [*]; done), by repeat (first | exact Drawn0.refl _ | apply Drawn0.step)⟩
             ·rw [if_neg c23] at H
              have c23b0 := beq_eq_false_iff_ne.mpr c23
              have c23b1 := bne_iff_ne.mpr c23
              simp only [Option.some.injEq, Prod.mk.injEq] at H
              obtain ⟨rfl, rfl⟩ := H
              go_wp2_with (first | (refine cl_ (some 55) Try.func99 #[.int .i32 x7_3] ?_; (with_reducible refine (utf_isRune.calls x7_3 true _ A20.out).mono ?_); rintro e w' ⟨rfl, ⟨nd, rfl⟩⟩; refine ⟨_, rfl, ?_⟩) | (go_at_call 100; (with_reducible refine (utf_width.calls x7_3 t120 _ A22.out).mono ?_); rintro e w' ⟨rfl, ⟨nd, rfl⟩⟩))
              go_ret2
              exact ⟨by first | rfl | (simp; done) | (simp [*]; done), by repeat (first | exact Drawn0.refl _ | apply Drawn0.step)⟩
            ·replace c21 := Bool.eq_false_iff.mpr c21
             subst c21
             rw [if_neg Bool.false_ne_true] at H
             simp only [Option.some.injEq, Prod.mk.injEq] at H
             obtain ⟨rfl, rfl⟩ := H
             go_wp2_with (first | (refine cl_ (some 55) Try.func99 #[.int .i32 x7_3] ?_; (with_reducible refine (utf_isRune.calls x7_3 false _ A20.out).mono ?_); rintro e w' ⟨rfl, ⟨nd, rfl⟩⟩; refine ⟨_, rfl, ?_⟩))
             go_ret2
             exact ⟨by first | rfl | (simp; done) | (simp [*]; done), by repeat (first | exact Drawn0.refl _ | apply Drawn0.step)⟩
     ·rw [if_neg c7] at H
      exact absurd H (by simp)
    ·rw [if_neg c6] at H
     exact absurd H (by simp)
/-! ### utf_Bad: function 68 -/
def utf_Bad.l0 : Nat → ByteArray → Nat → Option (Int)
 | 0, _, _ => none
 | k + 1, s, p => if p < s.size then (if (Utf8.decode s p).1 = 65533 then ((utf_Take.f k s (p : Int)).bind fun b => (if b.2 = 0 then (some (p : Int)) else (utf_Bad.l0 k s (p + (Utf8.decode s p).2)))) else (utf_Bad.l0 k s (p + (Utf8.decode s p).2))) else (some (-1))
def utf_Bad.f (k : Nat) (a0 : ByteArray) : Option (Int) := utf_Bad.l0 k a0 0
theorem utf_Bad.mono_l : ∀ k, (∀ y0 y1, LeO (utf_Bad.l0 k y0 y1) (utf_Bad.l0 (k + 1) y0 y1))
 | 0 => fun _ _ r h => by simp [utf_Bad.l0] at h
 | k + 1 => by
  have ih0 := utf_Bad.mono_l k
  intro y0 y1
  unfold utf_Bad.l0
  exact LeO.ite (LeO.ite (LeO.bind (utf_Take.mono _ _ _) (fun _ => LeO.ite (LeO.refl _) (ih0 _ _))) (ih0 _ _)) (LeO.refl _)
theorem utf_Bad.mono : ∀ a0 k, LeO (utf_Bad.f k a0) (utf_Bad.f (k + 1) a0) := fun a0 k => utf_Bad.mono_l k a0 0
/-- The iterator's world, a rune further. -/
theorem utf_Bad.next (P : Program) (w0 w : World) (g : Nat) (s : ByteArray) (p : Nat) (t : TypeId) (hg : w.heap[g]? = some (.stringIter s p)) (hb : Below w0.heap.size w0 w) (hB : w0.heap.size ≤ g) (h : p < s.size) :
  ∃ w2 : World, (Instr.next (.pointer (some ⟨g, 0, none⟩)) true t).run P w = .ok (.tuple #[.bool true, .int .i64 (p : Int), .int .i32 ((Utf8.decode s p).1 : Int)]) w2 ∧ w2.heap[g]? = some (.stringIter s (p + (Utf8.decode s p).2)) ∧ Below w0.heap.size w0 w2 := by
 refine ⟨{ w with heap := w.heap.setIfInBounds g (.stringIter s (p + (Utf8.decode s p).2)) }, ?_, ?_, ?_⟩
 ·simp only [Instr.next, getObj, setObj, Sem.run_bind, Sem.run, hg, Result.andThen, h, if_true]
  simp [goInt]
 ·have hlt := (Array.getElem?_eq_some_iff.1 hg).1
  simp [hlt]
 ·refine ⟨hb.os, hb.tape, hb.output, by simpa using hb.size, fun i hi => ?_⟩
  have hne : i ≠ g := by omega
  rw [← hb.block i hi]
  simp [Array.getElem?_setIfInBounds, Ne.symm hne]
theorem utf_Bad.last (P : Program) (w : World) (g : Nat) (s : ByteArray) (p : Nat) (t : TypeId) (hg : w.heap[g]? = some (.stringIter s p)) (h : ¬ p < s.size) :
  (Instr.next (.pointer (some ⟨g, 0, none⟩)) true t).run P w = .ok (.tuple #[.bool false]) w := by
 simp [Instr.next, getObj, Sem.run, hg, h]
set_option maxHeartbeats 8000000 in
set_option maxRecDepth 100000 in
theorem utf_Bad.calls (k : Nat) (a0 : ByteArray) (r : Int) (w : World) (h : utf_Bad.f k a0 = some r) :
  Calls Try.prog 68 #[.string a0] w fun e w' => e = .returned (.int .i64 r) ∧ Below w.heap.size w w' := by
 have H : utf_Bad.l0 k a0 0 = some r := h
 clear h
 have H' := aS_ H
 clear H
 go_enter Try.func68, Try.ntmps68
 go_wp2
 go_loopg [3] k (fun kq v3 w' => ∃ p : Nat, Aside0 (utf_Bad.l0 kq a0 p = some r) ∧ Aside0 (kq ≤ k) ∧ Aside0 (w'.heap[w.heap.size]? = some (.stringIter a0 p)) ∧ Aside0 (Below w.heap.size w w'))
 case atStart => exact ⟨0, H', ⟨Nat.le_refl _⟩, ⟨World.iter_heap w a0 0⟩, ⟨wA (Below.refl _ _) _⟩⟩
 case round =>
  clear H'
  obtain ⟨p, HA, HK1, HG, HB⟩ := hrel
  cases gk with
  | zero => exact absurd HA.out (by simp [utf_Bad.l0])
  | succ k1 =>
   have H := HA.out
   clear HA
   simp only [utf_Bad.l0] at H
   replace HK1 := aS_ (Nat.le_of_succ_le HK1.out)
   by_cases c3 : p < a0.size
   ·rw [if_pos c3] at H
    obtain ⟨w2, hn, hg2, hb2⟩ := utf_Bad.next Try.prog w wr w.heap.size a0 p 0 HG.out HB.out (Nat.le_refl _) c3
    have HG2 := aS_ hg2
    have HB2 := aS_ hb2
    clear hg2 hb2 HG HB c3
    obtain ⟨dc, hdc⟩ : ∃ dc, dc = (Utf8.decode a0 p).1 := ⟨_, rfl⟩
    obtain ⟨dn, hdn⟩ : ∃ dn, dn = (Utf8.decode a0 p).2 := ⟨_, rfl⟩
    rw [← hdc] at H hn
    rw [← hdn] at H HG2
    clear hdc hdn
    by_cases c4 : dc = 65533
    ·rw [if_pos c4] at H
     subst c4
     replace H := Option.bind_eq_some_iff.mp H
     obtain ⟨⟨t1, t2⟩, A60, H⟩ := H
     have A6 := aS_ A60
     clear A60
     by_cases c5 : t2 = 0
     ·rw [if_pos c5] at H
      subst c5
      obtain rfl := Option.some.inj H
      clear H
      go_wp2_with (first | ((with_reducible refine gate_callee (f := 89) rfl ?_); refine goesL_ (some 18) rfl rfl Try.func89 (by kernel_rfl) rfl #[.string a0, .int .i64 (p : Int)] rfl (by (try simp only [List.map_toArray, List.map_cons, List.map_nil]); first | done | rfl) ?_; (with_reducible refine (utf_Take.calls k1 a0 (p : Int) t1 0 _ A6.out).mono ?_); rintro e w' ⟨rfl, ⟨nd, rfl⟩⟩; refine ⟨_, rfl, ?_⟩))
      go_ret
      exact ⟨rfl, wN HB2.out _⟩
     ·rw [if_neg c5] at H
      have H' := aS_ H
      clear H
      have c5b0 := beq_eq_false_iff_ne.mpr c5
      have C5 := aS_ c5
      clear c5
      go_wp2_with (first | ((with_reducible refine gate_callee (f := 89) rfl ?_); refine goesL_ (some 18) rfl rfl Try.func89 (by kernel_rfl) rfl #[.string a0, .int .i64 (p : Int)] rfl (by (try simp only [List.map_toArray, List.map_cons, List.map_nil]); first | done | rfl) ?_; (with_reducible refine (utf_Take.calls k1 a0 (p : Int) t1 t2 _ A6.out).mono ?_); rintro e w' ⟨rfl, ⟨nd, rfl⟩⟩; refine ⟨_, rfl, ?_⟩))
      go_roundg k1
      case measure => omega
      case rel => exact ⟨p + dn, H', HK1, ⟨HG2.out⟩, ⟨wN HB2.out _⟩⟩
    ·rw [if_neg c4] at H
     have H' := aS_ H
     clear H
     have c4b0 : ((dc : Int) != 65533) = true := bne_iff_ne.mpr (by omega)
     have c4b1 : ((dc : Int) == 65533) = false := beq_eq_false_iff_ne.mpr (by omega)
     have C4 := aS_ c4
     clear c4
     go_wp2
     go_roundg k1
     case measure => omega
     case rel => exact ⟨p + dn, H', HK1, ⟨HG2.out⟩, ⟨HB2.out⟩⟩
   ·rw [if_neg c3] at H
    have hn := utf_Bad.last Try.prog wr w.heap.size a0 p 0 HG.out c3
    obtain rfl := Option.some.inj H
    clear H c3
    go_wp2
    go_ret
    exact ⟨rfl, HB.out⟩
/-! ### utf_Valid: function 39 -/
def utf_Valid.f (k : Nat) (a0 : ByteArray) : Option (Bool) := (utf_Bad.f k a0).bind fun t121 => (some (decide (t121 < 0)))
theorem utf_Valid.mono : ∀ a0 k, LeO (utf_Valid.f k a0) (utf_Valid.f (k + 1) a0) := by
 intro a0 k
 unfold utf_Valid.f
 repeat' first
   | (with_reducible exact utf_Bad.mono _ _)
   | (with_reducible exact LeO.refl _)
   | (with_reducible exact LeO.none _)
   | (with_reducible refine LeO.ite ?_ ?_)
   | (with_reducible refine LeO.bind ?_ (fun _ => ?_))
   | exact utf_Bad.mono _ _
   | exact LeO.none _
   | refine LeO.ite ?_ ?_
   | refine LeO.bind ?_ (fun _ => ?_)
set_option maxHeartbeats 8000000 in
set_option maxRecDepth 100000 in
theorem utf_Valid.calls (k : Nat) (a0 : ByteArray) (r : Bool) (w : World) (h : utf_Valid.f k a0 = some r) :
  Calls Try.prog 39 #[.string a0] w fun e w' => e = .returned (.bool r) ∧ Below w.heap.size w w' := by
 have HB := aS_ (Below.refl w.heap.size w)
 have H : ((utf_Bad.f k a0).bind fun t121 => (some (decide (t121 < 0)))) = some r := h
 clear h
 replace H := Option.bind_eq_some_iff.mp H
 obtain ⟨t121, A20, H⟩ := H
 try dsimp only at H
 have A2 := aS_ A20
 clear A20
 obtain rfl := Option.some.inj H
 go_enter Try.func39, Try.ntmps39
 go_wp2_with (first | (refine cl_ (some 4) Try.func68 #[.string a0] ?_; (with_reducible refine (utf_Bad.calls k a0 t121 _ A2.out).mono ?_); rintro e w3 ⟨rfl, hb⟩; refine ⟨_, rfl, ?_⟩; replace HB := bw_ HB hb; try clear hb))
 go_ret
 exact ⟨t1, wk HB.out⟩
/-! ### utf_Edge: function 71 -/
def utf_Edge.j0 : Nat → ByteArray → Int → Bool → Option (Bool)
 | 0, _, _, _ => none
 | k + 1, x0, x1, x5 => if x5 = true then (some false) else (if x1 = 0 then (some true) else (if x1 = (x0.size : Int) then (some true) else (if 0 ≤ x1 then (if x1 < (x0.size : Int) then ((utf_goesOn.f (bt x0 x1)).bind fun t122 => (some (!t122))) else (none)) else (none))))
def utf_Edge.f (k : Nat) (a0 : ByteArray) (a1 : Int) : Option (Bool) := if a1 < 0 then (utf_Edge.j0 k a0 a1 true) else (utf_Edge.j0 k a0 a1 (decide (a1 > (a0.size : Int))))
theorem utf_Edge.mono_l : ∀ k, (∀ y0 y1 y2, LeO (utf_Edge.j0 k y0 y1 y2) (utf_Edge.j0 (k + 1) y0 y1 y2))
 | 0 => fun _ _ _ r h => by simp [utf_Edge.j0] at h
 | k + 1 => by
  have ih0 := utf_Edge.mono_l k
  ·intro y0 y1 y2
   unfold utf_Edge.j0
   repeat' first
   | (with_reducible exact ih0 _ _ _)
   | (with_reducible exact LeO.refl _)
   | (with_reducible exact LeO.none _)
   | (with_reducible refine LeO.ite ?_ ?_)
   | (with_reducible refine LeO.bind ?_ (fun _ => ?_))
   | exact ih0 _ _ _
   | exact LeO.none _
   | refine LeO.ite ?_ ?_
   | refine LeO.bind ?_ (fun _ => ?_)
theorem utf_Edge.mono : ∀ a0 a1 k, LeO (utf_Edge.f k a0 a1) (utf_Edge.f (k + 1) a0 a1) := by
 intro a0 a1 k
 have ih0 := utf_Edge.mono_l k
 unfold utf_Edge.f
 repeat' first
   | (with_reducible exact ih0 _ _ _)
   | (with_reducible exact LeO.refl _)
   | (with_reducible exact LeO.none _)
   | (with_reducible refine LeO.ite ?_ ?_)
   | (with_reducible refine LeO.bind ?_ (fun _ => ?_))
   | exact ih0 _ _ _
   | exact LeO.none _
   | refine LeO.ite ?_ ?_
   | refine LeO.bind ?_ (fun _ => ?_)
set_option maxHeartbeats 8000000 in
set_option maxRecDepth 100000 in
theorem utf_Edge.calls (k : Nat) (a0 : ByteArray) (a1 : Int) (r : Bool) (w : World) (h : utf_Edge.f k a0 a1 = some r) :
  Calls Try.prog 71 #[.string a0, .int .i64 a1] w fun e w' => e = .returned (.bool r) ∧ Drawn0 w w' := by
 have H : (if a1 < 0 then (utf_Edge.j0 k a0 a1 true) else (utf_Edge.j0 k a0 a1 (decide (a1 > (a0.size : Int))))) = some r := h
 clear h
 have HC3 := aS_ H
 clear H
 go_enter Try.func71, Try.ntmps71
 go_upto_region 1 with (fail)
 go_cut [5] (fun v5 wc => ∃ (kq : Nat) (x5_2 : Bool), v5 = .bool x5_2 ∧ Aside0 (utf_Edge.j0 kq a0 a1 x5_2 = some r) ∧ Aside0 (kq ≤ k) ∧ Drawn0 w wc)
 case first =>
  have H := HC3.out
  clear HC3
  by_cases c4 : a1 < 0
  ·rw [if_pos c4] at H
   have c4b0 := decide_eq_true c4
   clear c4
   (first | rw [c4b0] | (simp only [i64_w, i32_w]; rw [c4b0]) | skip)
   have H' := aS_ H
   clear H
   go_wp2
   go_meet
   case rel => exact ⟨_, (true), t0, H', ⟨t3⟩, by repeat (first | exact Drawn0.refl _ | apply Drawn0.step)⟩
  ·rw [if_neg c4] at H
   have c4b0 := decide_eq_false c4
   clear c4
   (first | rw [c4b0] | (simp only [i64_w, i32_w]; rw [c4b0]) | skip)
   have H' := aS_ H
   clear H
   go_wp2
   go_meet
   case rel => exact ⟨_, (decide (a1 > (a0.size : Int))), t0, H', ⟨t3⟩, by repeat (first | exact Drawn0.refl _ | apply Drawn0.step)⟩
 case rest =>
  clear HC3
  try clear p2
  try clear c4
  try clear c4b0
  obtain ⟨kq, x5_2, rfl, HA, HJ2, ⟨mc2, rfl⟩⟩ := hcut
  cases kq with
  | zero => exact absurd HA.out (by simp [utf_Edge.j0])
  | succ kj2 =>
   have H := HA.out
   clear HA
   simp only [utf_Edge.j0] at H
   by_cases c5 : x5_2 = true
   ·subst c5
    rw [if_pos rfl] at H
    obtain rfl := Option.some.inj H
    go_wp2
    go_ret
    exact ⟨by first | rfl | (simp; done) | (simp [*]; done), by repeat (first | exact Drawn0.refl _ | apply Drawn0.step)⟩
   ·replace c5 := Bool.eq_false_iff.mpr c5
    subst c5
    rw [if_neg Bool.false_ne_true] at H
    by_cases c6 : a1 = 0
    ·rw [if_pos c6] at H
     have c6b0 := beq_iff_eq.mpr c6
     have c6b1 := bne_eq_false_iff_eq.mpr c6
     clear c6
     obtain rfl := Option.some.inj H
     go_wp2
     go_ret
     exact ⟨by first | rfl | (simp; done) | (simp [*]; done), by repeat (first | exact Drawn0.refl _ | apply Drawn0.step)⟩
    ·rw [if_neg c6] at H
     have c6b0 := beq_eq_false_iff_ne.mpr c6
     have c6b1 := bne_iff_ne.mpr c6
     by_cases c7 : a1 = (a0.size : Int)
     ·rw [if_pos c7] at H
      have c7b0 := beq_iff_eq.mpr c7
      have c7b1 := bne_eq_false_iff_eq.mpr c7
      clear c7
      obtain rfl := Option.some.inj H
      go_wp2
      go_ret
      exact ⟨by first | rfl | (simp; done) | (simp [*]; done), by repeat (first | exact Drawn0.refl _ | apply Drawn0.step)⟩
     ·rw [if_neg c7] at H
      have c7b0 := beq_eq_false_iff_ne.mpr c7
      have c7b1 := bne_iff_ne.mpr c7
      by_cases c8 : 0 ≤ a1
      ·rw [if_pos c8] at H
       have c8b0 := decide_eq_true c8
       clear c8
       by_cases c9 : a1 < (a0.size : Int)
       ·rw [if_pos c9] at H
        have c9b0 := decide_eq_true c9
        clear c9
        replace H := Option.bind_eq_some_iff.mp H
        obtain ⟨t122, A110, H⟩ := H
        try dsimp only at H
        have A11 := aS_ A110
        clear A110
        obtain rfl := Option.some.inj H
        have p10 : 0 ≤ (a1 : Int) := of_decide_eq_true (by first | (with_reducible assumption) | assumption)
        have q10 : a1 < (a0.size : Int) := of_decide_eq_true (by first | (with_reducible assumption) | assumption)
        have hx10 := bt_at a0 a1
        replace p10 := eq_true p10
        replace q10 := eq_true q10
        go_wp2_with (first | (refine cl_ (some 26) Try.func91 #[.int .u8 (bt a0 a1)] ?_; (with_reducible refine (utf_goesOn.calls (bt a0 a1) t122 _ A11.out).mono ?_); rintro e w' ⟨rfl, ⟨nd, rfl⟩⟩; refine ⟨_, rfl, ?_⟩))
        go_ret
        exact ⟨by first | rfl | (simp; done) | (simp [*]; done), by repeat (first | exact Drawn0.refl _ | apply Drawn0.step)⟩
       ·rw [if_neg c9] at H
        exact absurd H (by simp)
      ·rw [if_neg c8] at H
       exact absurd H (by simp)
/-! ### edit_of: function 102 -/
def edit_of.j0 : Nat → ByteArray → Bool → Int → ByteArray → ByteArray → Int → Int → Option (Int × Int × Bool)
 | 0, _, _, _, _, _, _, _ => none
 | k + 1, x0, x21, x124000, x124001, x124002, x126000, x126001 => if x21 = true then (some (0, 0, false)) else (if (x124001.size : Int) ≤ (wrap64 ((x0.size : Int) - x124000)) then (some (x126000, wrap64 (x126001 + (x124001.size : Int)), true)) else (some (x126000, x126001, true)))
def edit_of.f (k : Nat) (a0 : ByteArray) (a1_0 : Int) (a1_1 : ByteArray) (a1_2 : ByteArray) : Option (Int × Int × Bool) := if a1_0 < 0 then (edit_of.j0 k a0 true a1_0 a1_1 a1_2 a1_0 a1_0) else (edit_of.j0 k a0 (decide (a1_0 > (a0.size : Int))) a1_0 a1_1 a1_2 a1_0 a1_0)
theorem edit_of.mono_l : ∀ k, (∀ y0 y1 y2 y3 y4 y5 y6, LeO (edit_of.j0 k y0 y1 y2 y3 y4 y5 y6) (edit_of.j0 (k + 1) y0 y1 y2 y3 y4 y5 y6))
 | 0 => fun _ _ _ _ _ _ _ r h => by simp [edit_of.j0] at h
 | k + 1 => by
  have ih0 := edit_of.mono_l k
  ·intro y0 y1 y2 y3 y4 y5 y6
   unfold edit_of.j0
   repeat' first
   | (with_reducible exact ih0 _ _ _ _ _ _ _)
   | (with_reducible exact LeO.refl _)
   | (with_reducible exact LeO.none _)
   | (with_reducible refine LeO.ite ?_ ?_)
   | (with_reducible refine LeO.bind ?_ (fun _ => ?_))
   | exact ih0 _ _ _ _ _ _ _
   | exact LeO.none _
   | refine LeO.ite ?_ ?_
   | refine LeO.bind ?_ (fun _ => ?_)
theorem edit_of.mono : ∀ a0 a1 a2 a3 k, LeO (edit_of.f k a0 a1 a2 a3) (edit_of.f (k + 1) a0 a1 a2 a3) := by
 intro a0 a1 a2 a3 k
 have ih0 := edit_of.mono_l k
 unfold edit_of.f
 repeat' first
   | (with_reducible exact ih0 _ _ _ _ _ _ _)
   | (with_reducible exact LeO.refl _)
   | (with_reducible exact LeO.none _)
   | (with_reducible refine LeO.ite ?_ ?_)
   | (with_reducible refine LeO.bind ?_ (fun _ => ?_))
   | exact ih0 _ _ _ _ _ _ _
   | exact LeO.none _
   | refine LeO.ite ?_ ?_
   | refine LeO.bind ?_ (fun _ => ?_)
set_option maxHeartbeats 8000000 in
set_option maxRecDepth 100000 in
theorem edit_of.calls (k : Nat) (a0 : ByteArray) (a1_0 : Int) (a1_1 : ByteArray) (a1_2 : ByteArray) (r1 : Int) (r2 : Int) (r3 : Bool) (w : World) (h : edit_of.f k a0 a1_0 a1_1 a1_2 = some (r1, r2, r3)) :
  Calls Try.prog 102 #[.string a0, .agg #[.int .i64 a1_0, .string a1_1, .string a1_2]] w fun e w' => e = .returned (.tuple #[.agg #[.int .i64 r1, .int .i64 r2], .bool r3]) ∧ Below w.heap.size w w' := by
 have hu88 := Try.underlying88
 have hu128 := Try.underlying128
 have HB := aS_ (Below.refl w.heap.size w)
 have H : (if a1_0 < 0 then (edit_of.j0 k a0 true a1_0 a1_1 a1_2 a1_0 a1_0) else (edit_of.j0 k a0 (decide (a1_0 > (a0.size : Int))) a1_0 a1_1 a1_2 a1_0 a1_0)) = some (r1, r2, r3) := h
 clear h
 have HC3 := aS_ H
 clear H
 go_enter Try.func102, Try.ntmps102
 go_upto_region 2 with (first | ((with_reducible refine gate_dst (N := 3) rfl ?_); (try (refine gate_guard (by rfl) ?_; dsimp only)); refine bx_ 3 #[.int .i64 a1_0, .string a1_1, .string a1_2] 88 ?_; intro gb123 hg w4 hbox hb; have BK123 := aS_ (hbox); have GW123 := ge_ hg (wk HB.out); have GE123 := ge_ hg (wk HB.out); replace HB := bw_ HB hb; clear hb hbox hg) | ((with_reducible refine gate_dst (N := 4) rfl ?_); (try (refine gate_guard (by rfl) ?_; dsimp only)); refine bx_ 4 #[.int .i64 0, .int .i64 0] 128 ?_; intro gb124 hg w5 hbox hb; have BK124 := aS_ (hbox); have GW124 := ge_ hg (wk HB.out); have GE124 := ge_ hg (wk HB.out); replace HB := bw_ HB hb; have NB123_124 := nq_ hg (bk BK123.out); replace BK123 := bb_ BK123 hb; have NB124_123 := nr_ NB123_124; clear hb hbox hg; have hnb6 := NB123_124.out; have hnc6 := NB124_123.out; obtain ⟨hcz7_0, hcz7_1, hcz7_2, hfz7_0, hfz7_1, hfz7_2⟩ := c3_ BK123.out) | ((with_reducible refine gate_dst (N := 6) rfl ?_); (try (refine gate_guard (by rfl) ?_; dsimp only)); refine bx_ 6 #[.int .i64 0, .int .i64 0] 128 ?_; intro gb125 hg w8 hbox hb; have BK125 := aS_ (hbox); have GW125 := ge_ hg (wk HB.out); have GE125 := ge_ hg (wk HB.out); replace HB := bw_ HB hb; have NB123_125 := nq_ hg (bk BK123.out); replace BK123 := bb_ BK123 hb; have NB125_123 := nr_ NB123_125; have NB124_125 := nq_ hg (bk BK124.out); replace BK124 := bb_ BK124 hb; have NB125_124 := nr_ NB124_125; clear hb hbox hg; have hnb9 := NB125_123.out; have hnc9 := NB123_125.out; have hnb10 := NB125_124.out; have hnc10 := NB124_125.out; obtain ⟨hcz11_0, hcz11_1, hfz11_0, hfz11_1⟩ := c2_ BK125.out))
 (try simp only [Act.put, List.setIfInBounds_toArray, List.set_cons_zero, List.set_cons_succ])
 go_cut [21] (fun v21 wc => ∃ (kq : Nat) (x21_2 : Bool), v21 = .bool x21_2 ∧ Aside0 (edit_of.j0 kq a0 x21_2 a1_0 a1_1 a1_2 a1_0 a1_0 = some (r1, r2, r3)) ∧ Aside0 (kq ≤ k) ∧ Aside0 (wc.heap[gb123]? = some (.cells #[.int .i64 a1_0, .string a1_1, .string a1_2] 88 (0, 0))) ∧ Aside0 (wc.heap[gb124]? = some (.cells #[.int .i64 0, .int .i64 0] 128 (0, 0))) ∧ Aside0 (wc.heap[gb125]? = some (.cells #[.int .i64 a1_0, .int .i64 a1_0] 128 (0, 0))) ∧ Aside0 (Below w.heap.size w wc))
 case first =>
  have H := HC3.out
  clear HC3
  by_cases c12 : a1_0 < 0
  ·rw [if_pos c12] at H
   have c12b0 := decide_eq_true c12
   clear c12
   (first | rw [c12b0] | (simp only [i64_w, i32_w]; rw [c12b0]) | skip)
   have H' := aS_ H
   clear H
   have hnb13 := NB123_124.out
   have hnc13 := NB124_123.out
   have hnb14 := NB123_125.out
   have hnc14 := NB125_123.out
   obtain ⟨hcz15_0, hcz15_1, hcz15_2, hfz15_0, hfz15_1, hfz15_2⟩ := c3_ BK123.out
   go_wp2
   go_meet
   case rel => exact ⟨_, (true), t0, H', ⟨t3⟩, ⟨bq BK123.out⟩, ⟨bq BK124.out⟩, ⟨bp BK125.out⟩, ⟨wk HB.out⟩⟩
  ·rw [if_neg c12] at H
   have c12b0 := decide_eq_false c12
   clear c12
   (first | rw [c12b0] | (simp only [i64_w, i32_w]; rw [c12b0]) | skip)
   have H' := aS_ H
   clear H
   have hnb16 := NB123_124.out
   have hnc16 := NB124_123.out
   have hnb17 := NB123_125.out
   have hnc17 := NB125_123.out
   obtain ⟨hcz18_0, hcz18_1, hcz18_2, hfz18_0, hfz18_1, hfz18_2⟩ := c3_ BK123.out
   go_wp2
   go_meet
   case rel => exact ⟨_, (decide (a1_0 > (a0.size : Int))), t0, H', ⟨t3⟩, ⟨bq BK123.out⟩, ⟨bq BK124.out⟩, ⟨bp BK125.out⟩, ⟨wk HB.out⟩⟩
 case rest =>
  clear HC3
  try clear c1
  try clear p2
  try clear c6
  try clear c9
  try clear c10
  try clear c12
  try clear c12b0
  try clear c13
  try clear c14
  try clear c16
  try clear c17
  try clear hcz11_0 hcz11_1 hcz15_0 hcz15_1 hcz15_2 hcz18_0 hcz18_1 hcz18_2 hcz7_0 hcz7_1 hcz7_2 hfz11_0 hfz11_1 hfz15_0 hfz15_1 hfz15_2 hfz18_0 hfz18_1 hfz18_2 hfz7_0 hfz7_1 hfz7_2
  obtain ⟨kq, x21_2, rfl, HA, HJ2, BK123, BK124, BK125, HB⟩ := hcut
  cases kq with
  | zero => exact absurd HA.out (by simp [edit_of.j0])
  | succ kj2 =>
   have H := HA.out
   clear HA
   simp only [edit_of.j0] at H
   by_cases c19 : x21_2 = true
   ·subst c19
    rw [if_pos rfl] at H
    simp only [Option.some.injEq, Prod.mk.injEq] at H
    obtain ⟨rfl, rfl, rfl⟩ := H
    have hnb20 := NB124_123.out
    have hnc20 := NB123_124.out
    have hnb21 := NB124_125.out
    have hnc21 := NB125_124.out
    obtain ⟨hcz22_0, hcz22_1, hfz22_0, hfz22_1⟩ := c2_ BK124.out
    go_wp2
    refine bodyPost_ret (results_ct rfl _ _ gb124 128 #[.int .i64 0, .int .i64 0] (0, 0) _ rfl (bp BK124.out) Try.underlying128 rfl (by kernel_rfl)) rfl ?_
    exact ⟨t1, wk HB.out⟩
   ·replace c19 := Bool.eq_false_iff.mpr c19
    subst c19
    rw [if_neg Bool.false_ne_true] at H
    by_cases c23 : (a1_1.size : Int) ≤ (wrap64 ((a0.size : Int) - a1_0))
    ·rw [if_pos c23] at H
     have c23b0 := decide_eq_true c23
     clear c23
     simp only [Option.some.injEq, Prod.mk.injEq] at H
     obtain ⟨rfl, rfl, rfl⟩ := H
     have hnb24 := NB123_124.out
     have hnc24 := NB124_123.out
     have hnb25 := NB123_125.out
     have hnc25 := NB125_123.out
     obtain ⟨hcz26_0, hcz26_1, hcz26_2, hfz26_0, hfz26_1, hfz26_2⟩ := c3_ BK123.out
     have hnb27 := NB125_124.out
     have hnc27 := NB124_125.out
     obtain ⟨hcz28_0, hcz28_1, hfz28_0, hfz28_1⟩ := c2_ BK125.out
     obtain ⟨hcz29_0, hcz29_1, hfz29_0, hfz29_1⟩ := c2_ BK124.out
     try have c23b0w0 := by have h_ := c23b0; rw [show wrap64 ((a0.size : Int) - a1_0) = (a0.size : Int) - a1_0 from by unfold wrap64; omega] at h_; exact h_
     go_wp2
     refine bodyPost_ret (results_ct rfl _ _ gb124 128 #[.int .i64 a1_0, .int .i64 (wrap64 (a1_0 + (a1_1.size : Int)))] (0, 0) _ rfl (bp BK124.out) Try.underlying128 rfl (by kernel_rfl)) rfl ?_
     exact ⟨t1, wk HB.out⟩
    ·rw [if_neg c23] at H
     have c23b0 := decide_eq_false c23
     clear c23
     simp only [Option.some.injEq, Prod.mk.injEq] at H
     obtain ⟨rfl, rfl, rfl⟩ := H
     have hnb30 := NB123_124.out
     have hnc30 := NB124_123.out
     have hnb31 := NB123_125.out
     have hnc31 := NB125_123.out
     obtain ⟨hcz32_0, hcz32_1, hcz32_2, hfz32_0, hfz32_1, hfz32_2⟩ := c3_ BK123.out
     have hnb33 := NB125_124.out
     have hnc33 := NB124_125.out
     obtain ⟨hcz34_0, hcz34_1, hfz34_0, hfz34_1⟩ := c2_ BK125.out
     obtain ⟨hcz35_0, hcz35_1, hfz35_0, hfz35_1⟩ := c2_ BK124.out
     try have c23b0w0 := by have h_ := c23b0; rw [show wrap64 ((a0.size : Int) - a1_0) = (a0.size : Int) - a1_0 from by unfold wrap64; omega] at h_; exact h_
     go_wp2
     refine bodyPost_ret (results_ct rfl _ _ gb124 128 #[.int .i64 a1_0, .int .i64 a1_0] (0, 0) _ rfl (bp BK124.out) Try.underlying128 rfl (by kernel_rfl)) rfl ?_
     exact ⟨t1, wk HB.out⟩
end Go.Proofs.Ytnndanfghlnpfaa.P
