import Derived.Test.YtnndanfghlnpfaaPx0
import Derived.Test.YtnndanfghlnpfaaPx13
import Derived.Test.YtnndanfghlnpfaaPx14
namespace Go.Proofs.Ytnndanfghlnpfaa.P
open Go.RowKit Go.Proofs.YtnndanfghlnpfaaW.PrintWords Go.Proofs.YtnndanfghlnpfaaW.PrintLast Go.Proofs.YtnndanfghlnpfaaW.PrintMore
attribute [local go_sem] max2_int min2_int max_two min_two max_three min_three max_four min_four   -- for this text's walks alone
set_option linter.unusedVariables false
set_option linter.unusedSimpArgs false
/-! ### sr21Apply: function 81 -/
mutual
def sr21Apply.j0 : Nat → ByteArray → Int → Bool → Int → ByteArray → ByteArray → Option (ByteArray × Int)
 | 0, _, _, _, _, _, _ => none
 | k + 1, x0, x6, x10, x261000, x261001, x261002 => if x10 = true then (some ((⟨#[]⟩ : ByteArray), 3)) else (if x6 > (wrap64 ((x0.size : Int) - x261000)) then (sr21Apply.j1 k x0 x6 true x261000 x261001 x261002) else (if 0 ≤ x261000 then (if x261000 ≤ (wrap64 (x261000 + x6)) then (if (wrap64 (x261000 + x6)) ≤ (x0.size : Int) then (sr21Apply.j1 k x0 x6 ((x0.extract (x261000 : Int).toNat ((wrap64 (x261000 + x6)) : Int).toNat).toList != x261001.toList) x261000 x261001 x261002) else (none)) else (none)) else (none)))
def sr21Apply.j1 : Nat → ByteArray → Int → Bool → Int → ByteArray → ByteArray → Option (ByteArray × Int)
 | 0, _, _, _, _, _, _ => none
 | k + 1, x0, x6, x21, x261000, x261001, x261002 => if x21 = true then (some ((⟨#[]⟩ : ByteArray), 8)) else ((sr01Edge.f x0 x261000).bind fun t261 => (if t261 = true then ((sr01Edge.f x0 (wrap64 (x261000 + x6))).bind fun t262 => (sr21Apply.j2 k x0 x6 (!t262) x261000 x261001 x261002)) else (sr21Apply.j2 k x0 x6 true x261000 x261001 x261002)))
def sr21Apply.j2 : Nat → ByteArray → Int → Bool → Int → ByteArray → ByteArray → Option (ByteArray × Int)
 | 0, _, _, _, _, _, _ => none
 | k + 1, x0, x6, x42, x261000, x261001, x261002 => if x42 = true then (some ((⟨#[]⟩ : ByteArray), 4)) else ((sr01Valid.f k x261001).bind fun t263 => (if t263 = true then ((sr01Valid.f k x261002).bind fun t264 => (sr21Apply.j3 k x0 x6 (!t264) x261000 x261001 x261002)) else (sr21Apply.j3 k x0 x6 true x261000 x261001 x261002)))
def sr21Apply.j3 : Nat → ByteArray → Int → Bool → Int → ByteArray → ByteArray → Option (ByteArray × Int)
 | 0, _, _, _, _, _, _ => none
 | k + 1, x0, x6, x57, x261000, x261001, x261002 => if x57 = true then (some ((⟨#[]⟩ : ByteArray), 5)) else (if (wrap64 ((wrap64 ((x0.size : Int) - x6)) + (x261002.size : Int))) > 4096 then (some ((⟨#[]⟩ : ByteArray), 6)) else (if 0 ≤ x261000 then (if x261000 ≤ (x0.size : Int) then (if (x0.extract 0 (x261000 : Int).toNat).size + x261002.size ≤ 9223372036854775807 then (if 0 ≤ (wrap64 (x261000 + x6)) then (if (wrap64 (x261000 + x6)) ≤ (x0.size : Int) then (if ((x0.extract 0 (x261000 : Int).toNat) ++ x261002).size + (x0.extract ((wrap64 (x261000 + x6)) : Int).toNat x0.size).size ≤ 9223372036854775807 then (some (((x0.extract 0 (x261000 : Int).toNat) ++ x261002) ++ (x0.extract ((wrap64 (x261000 + x6)) : Int).toNat x0.size), 0)) else (none)) else (none)) else (none)) else (none)) else (none)) else (none)))
end
def sr21Apply.f (k : Nat) (a0 : ByteArray) (a1_0 : Int) (a1_1 : ByteArray) (a1_2 : ByteArray) : Option (ByteArray × Int) := if a1_0 < 0 then (sr21Apply.j0 k a0 (a1_1.size : Int) true a1_0 a1_1 a1_2) else (sr21Apply.j0 k a0 (a1_1.size : Int) (decide (a1_0 > (a0.size : Int))) a1_0 a1_1 a1_2)
set_option maxHeartbeats 8000000 in
set_option maxRecDepth 100000 in
theorem sr21Apply.calls (k : Nat) (a0 : ByteArray) (a1_0 : Int) (a1_1 : ByteArray) (a1_2 : ByteArray) (r1 : ByteArray) (r2 : Int) (w : World) (h : sr21Apply.f k a0 a1_0 a1_1 a1_2 = some (r1, r2)) :
  Calls Try.prog 81 #[.string a0, .agg #[.int .i64 a1_0, .string a1_1, .string a1_2]] w fun e w' => e = .returned (.tuple #[.string r1, .int .i64 r2]) ∧ Below w.heap.size w w' := by
 have hu88 := Try.underlying88
 have HB := aS_ (Below.refl w.heap.size w)
 have H : (if a1_0 < 0 then (sr21Apply.j0 k a0 (a1_1.size : Int) true a1_0 a1_1 a1_2) else (sr21Apply.j0 k a0 (a1_1.size : Int) (decide (a1_0 > (a0.size : Int))) a1_0 a1_1 a1_2)) = some (r1, r2) := h
 clear h
 have HC3 := aS_ H
 clear H
 go_enter Try.func81, Try.ntmps81
 go_upto_region 2 with (first | ((with_reducible refine gate_dst (N := 3) rfl ?_); (try (refine gate_guard (by rfl) ?_; dsimp only)); refine bx_ 3 #[.int .i64 a1_0, .string a1_1, .string a1_2] 88 ?_; intro gb260 hg w4 hbox hb; have BK260 := aS_ (hbox); have GW260 := ge_ hg (wk HB.out); have GE260 := ge_ hg (wk HB.out); replace HB := bw_ HB hb; clear hb hbox hg; obtain ⟨hcz5_0, hcz5_1, hcz5_2, hfz5_0, hfz5_1, hfz5_2⟩ := c3_ BK260.out))
 repeat (go_quiet (first | ((with_reducible refine gate_dst (N := 3) rfl ?_); (try (refine gate_guard (by rfl) ?_; dsimp only)); refine bx_ 3 #[.int .i64 a1_0, .string a1_1, .string a1_2] 88 ?_; intro gb260 hg w4 hbox hb; have BK260 := aS_ (hbox); have GW260 := ge_ hg (wk HB.out); have GE260 := ge_ hg (wk HB.out); replace HB := bw_ HB hb; clear hb hbox hg; obtain ⟨hcz5_0, hcz5_1, hcz5_2, hfz5_0, hfz5_1, hfz5_2⟩ := c3_ BK260.out)); go_upto_region 2 with (first | ((with_reducible refine gate_dst (N := 3) rfl ?_); (try (refine gate_guard (by rfl) ?_; dsimp only)); refine bx_ 3 #[.int .i64 a1_0, .string a1_1, .string a1_2] 88 ?_; intro gb260 hg w4 hbox hb; have BK260 := aS_ (hbox); have GW260 := ge_ hg (wk HB.out); have GE260 := ge_ hg (wk HB.out); replace HB := bw_ HB hb; clear hb hbox hg; obtain ⟨hcz5_0, hcz5_1, hcz5_2, hfz5_0, hfz5_1, hfz5_2⟩ := c3_ BK260.out)))
 (try simp only [Act.put, List.setIfInBounds_toArray, List.set_cons_zero, List.set_cons_succ])
 go_cut [10] (fun v10 wc => ∃ (kq : Nat) (x10_2 : Bool), v10 = .bool x10_2 ∧ Aside0 (sr21Apply.j0 kq a0 (a1_1.size : Int) x10_2 a1_0 a1_1 a1_2 = some (r1, r2)) ∧ Aside0 (kq ≤ k) ∧ Aside0 (wc.heap[gb260]? = some (.cells #[.int .i64 a1_0, .string a1_1, .string a1_2] 88 (0, 0))) ∧ Aside0 (Below w.heap.size w wc))
 case first =>
  have H := HC3.out
  clear HC3
  by_cases c6 : a1_0 < 0
  ·rw [if_pos c6] at H
   have c6b0 := decide_eq_true c6
   clear c6
   (first | rw [c6b0] | (simp only [i64_w, i32_w]; rw [c6b0]) | skip)
   have H' := aS_ H
   clear H
   obtain ⟨hcz7_0, hcz7_1, hcz7_2, hfz7_0, hfz7_1, hfz7_2⟩ := c3_ BK260.out
   go_wp2
   repeat (go_quiet (fail); try go_wp2)
   go_meet
   case rel => exact ⟨_, (true), t0, H', ⟨t3⟩, ⟨bq BK260.out⟩, ⟨wk HB.out⟩⟩
  ·rw [if_neg c6] at H
   have c6b0 := decide_eq_false c6
   clear c6
   (first | rw [c6b0] | (simp only [i64_w, i32_w]; rw [c6b0]) | skip)
   have H' := aS_ H
   clear H
   obtain ⟨hcz8_0, hcz8_1, hcz8_2, hfz8_0, hfz8_1, hfz8_2⟩ := c3_ BK260.out
   go_wp2
   repeat (go_quiet (fail); try go_wp2)
   go_meet
   case rel => exact ⟨_, (decide (a1_0 > (a0.size : Int))), t0, H', ⟨t3⟩, ⟨bq BK260.out⟩, ⟨wk HB.out⟩⟩
 case rest =>
  clear HC3
  try clear p2
  try clear c6
  try clear c6b0
  try clear c8
  try clear hcz5_0 hcz5_1 hcz5_2 hcz7_0 hcz7_1 hcz7_2 hcz8_0 hcz8_1 hcz8_2 hfz5_0 hfz5_1 hfz5_2 hfz7_0 hfz7_1 hfz7_2 hfz8_0 hfz8_1 hfz8_2
  obtain ⟨kq, x10_2, rfl, HA, HJ2, BK260, HB⟩ := hcut
  cases kq with
  | zero => exact absurd HA.out (by simp [sr21Apply.j0])
  | succ kj2 =>
   have H := HA.out
   clear HA
   simp only [sr21Apply.j0] at H
   by_cases c9 : x10_2 = true
   ·subst c9
    rw [if_pos rfl] at H
    simp only [Option.some.injEq, Prod.mk.injEq] at H
    obtain ⟨rfl, rfl⟩ := H
    go_wp2
    repeat (go_quiet (fail); try go_wp2)
    go_ret2
    exact ⟨t1, wk HB.out⟩
   ·replace c9 := Bool.eq_false_iff.mpr c9
    subst c9
    rw [if_neg Bool.false_ne_true] at H
    have HC10 := aS_ H
    clear H
    go_upto_region 4 with (fail)
    repeat (go_quiet (fail); go_upto_region 4 with (fail))
    go_cut [21] (fun v21 wc => ∃ (kq : Nat) (x21_9 : Bool), v21 = .bool x21_9 ∧ Aside0 (sr21Apply.j1 kq a0 (a1_1.size : Int) x21_9 a1_0 a1_1 a1_2 = some (r1, r2)) ∧ Aside0 (kq ≤ kj2) ∧ Aside0 (wc.heap[gb260]? = some (.cells #[.int .i64 a1_0, .string a1_1, .string a1_2] 88 (0, 0))) ∧ Aside0 (Below w.heap.size w wc))
    case first =>
     have H := HC10.out
     clear HC10
     by_cases c11 : (a1_1.size : Int) > (wrap64 ((a0.size : Int) - a1_0))
     ·rw [if_pos c11] at H
      have c11b0 := decide_eq_true c11
      clear c11
      (first | rw [c11b0] | (simp only [i64_w, i32_w]; rw [c11b0]) | skip)
      have H' := aS_ H
      clear H
      obtain ⟨hcz12_0, hcz12_1, hcz12_2, hfz12_0, hfz12_1, hfz12_2⟩ := c3_ BK260.out
      try have c11b0w0 := by have h_ := c11b0; rw [show wrap64 ((a0.size : Int) - a1_0) = (a0.size : Int) - a1_0 from by unfold wrap64; omega] at h_; exact h_
      go_wp2
      repeat (go_quiet (fail); try go_wp2)
      go_meet
      case rel => exact ⟨_, (true), t0, H', ⟨by have := HJ2.out; first | omega | exact Nat.le_refl _⟩, ⟨bq BK260.out⟩, ⟨wk HB.out⟩⟩
     ·rw [if_neg c11] at H
      have c11b0 := decide_eq_false c11
      clear c11
      (first | rw [c11b0] | (simp only [i64_w, i32_w]; rw [c11b0]) | skip)
      by_cases c13 : 0 ≤ a1_0
      ·rw [if_pos c13] at H
       have c13b0 := eq_true c13
       have c13b1 := decide_eq_true c13
       clear c13
       by_cases c14 : a1_0 ≤ (wrap64 (a1_0 + (a1_1.size : Int)))
       ·rw [if_pos c14] at H
        have c14b0 := eq_true c14
        have c14b1 := decide_eq_true c14
        by_cases c15 : (wrap64 (a1_0 + (a1_1.size : Int))) ≤ (a0.size : Int)
        ·rw [if_pos c15] at H
         have c15b0 := eq_true c15
         have c15b1 := decide_eq_true c15
         have H' := aS_ H
         clear H
         obtain ⟨hcz16_0, hcz16_1, hcz16_2, hfz16_0, hfz16_1, hfz16_2⟩ := c3_ BK260.out
         try have c11b0w0 := by have h_ := c11b0; rw [show wrap64 ((a0.size : Int) - a1_0) = (a0.size : Int) - a1_0 from by unfold wrap64; omega] at h_; exact h_
         try have c14b0w0 := by have h_ := c14b0; rw [show wrap64 (a1_0 + (a1_1.size : Int)) = a1_0 + (a1_1.size : Int) from by unfold wrap64; omega] at h_; exact h_
         try have c14b1w0 := by have h_ := c14b1; rw [show wrap64 (a1_0 + (a1_1.size : Int)) = a1_0 + (a1_1.size : Int) from by unfold wrap64; omega] at h_; exact h_
         try have c14w0 := by have h_ := c14; rw [show wrap64 (a1_0 + (a1_1.size : Int)) = a1_0 + (a1_1.size : Int) from by unfold wrap64; omega] at h_; exact h_
         try have c15b0w0 := by have h_ := c15b0; rw [show wrap64 (a1_0 + (a1_1.size : Int)) = a1_0 + (a1_1.size : Int) from by unfold wrap64; omega] at h_; exact h_
         try have c15b1w0 := by have h_ := c15b1; rw [show wrap64 (a1_0 + (a1_1.size : Int)) = a1_0 + (a1_1.size : Int) from by unfold wrap64; omega] at h_; exact h_
         try have c15w0 := by have h_ := c15; rw [show wrap64 (a1_0 + (a1_1.size : Int)) = a1_0 + (a1_1.size : Int) from by unfold wrap64; omega] at h_; exact h_
         go_wp2
         repeat (go_quiet (fail); try go_wp2)
         go_meet
         case rel => exact ⟨_, (((a0.extract (a1_0 : Int).toNat ((wrap64 (a1_0 + (a1_1.size : Int))) : Int).toNat).toList != a1_1.toList)), t0, H', ⟨by have := HJ2.out; first | omega | exact Nat.le_refl _⟩, ⟨bq BK260.out⟩, ⟨wk HB.out⟩⟩
        ·rw [if_neg c15] at H
         exact absurd H (by simp)
       ·rw [if_neg c14] at H
        exact absurd H (by simp)
      ·rw [if_neg c13] at H
       exact absurd H (by simp)
    case rest =>
     clear HC10
     try clear c1
     try clear p2
     try clear c6
     try clear c6b0
     try clear p6
     try clear c8
     try clear c9
     try clear c11
     try clear c11b0
     try clear c13
     try clear c13b0
     try clear c13b1
     try clear c14
     try clear c14b0
     try clear c14b1
     try clear c15
     try clear c15b0
     try clear c15b1
     try clear hcz12_0 hcz12_1 hcz12_2 hcz16_0 hcz16_1 hcz16_2 hcz5_0 hcz5_1 hcz5_2 hcz7_0 hcz7_1 hcz7_2 hcz8_0 hcz8_1 hcz8_2 hfz12_0 hfz12_1 hfz12_2 hfz16_0 hfz16_1 hfz16_2 hfz5_0 hfz5_1 hfz5_2 hfz7_0 hfz7_1 hfz7_2 hfz8_0 hfz8_1 hfz8_2
     try clear p2
     obtain ⟨kq, x21_9, rfl, HA, HJ9, BK260, HB⟩ := hcut
     cases kq with
     | zero => exact absurd HA.out (by simp [sr21Apply.j1])
     | succ kj9 =>
      have H := HA.out
      clear HA
      simp only [sr21Apply.j1] at H
      by_cases c17 : x21_9 = true
      ·subst c17
       rw [if_pos rfl] at H
       simp only [Option.some.injEq, Prod.mk.injEq] at H
       obtain ⟨rfl, rfl⟩ := H
       go_wp2
       repeat (go_quiet (fail); try go_wp2)
       go_ret2
       exact ⟨t1, wk HB.out⟩
      ·replace c17 := Bool.eq_false_iff.mpr c17
       subst c17
       rw [if_neg Bool.false_ne_true] at H
       have HC18 := aS_ H
       clear H
       go_upto_region 6 with (fail)
       repeat (go_quiet (fail); go_upto_region 6 with (fail))
       go_cut [42] (fun v42 wc => ∃ (kq : Nat) (x42_17 : Bool), v42 = .bool x42_17 ∧ Aside0 (sr21Apply.j2 kq a0 (a1_1.size : Int) x42_17 a1_0 a1_1 a1_2 = some (r1, r2)) ∧ Aside0 (kq ≤ kj9) ∧ Aside0 (wc.heap[gb260]? = some (.cells #[.int .i64 a1_0, .string a1_1, .string a1_2] 88 (0, 0))) ∧ Aside0 (Below w.heap.size w wc))
       case first =>
        have H := HC18.out
        clear HC18
        replace H := Option.bind_eq_some_iff.mp H
        obtain ⟨t261, A190, H⟩ := H
        try dsimp only at H
        have A19 := aS_ A190
        clear A190
        by_cases c20 : t261 = true
        ·subst c20
         rw [if_pos rfl] at H
         replace H := Option.bind_eq_some_iff.mp H
         obtain ⟨t262, A210, H⟩ := H
         try dsimp only at H
         have A21 := aS_ A210
         clear A210
         have H' := aS_ H
         clear H
         obtain ⟨hcz22_0, hcz22_1, hcz22_2, hfz22_0, hfz22_1, hfz22_2⟩ := c3_ BK260.out
         go_wp2_with (first | (go_at_call 78; (with_reducible refine (sr01Edge.calls a0 a1_0 true _ A19.out).mono ?_); rintro e w' ⟨rfl, ⟨nd, rfl⟩⟩; (try first | exact ⟨rfl, _, World.drewN_drewN _ _ _⟩ | exact ⟨rfl, _, Eq.trans (World.drewN_drewN _ _ _) (congrArg (World.drewN _) (Nat.add_assoc _ _ _))⟩)) | (go_at_call 78; (with_reducible refine (sr01Edge.calls a0 (wrap64 (a1_0 + (a1_1.size : Int))) t262 _ A21.out).mono ?_); rintro e w' ⟨rfl, ⟨nd, rfl⟩⟩; (try first | exact ⟨rfl, _, World.drewN_drewN _ _ _⟩ | exact ⟨rfl, _, Eq.trans (World.drewN_drewN _ _ _) (congrArg (World.drewN _) (Nat.add_assoc _ _ _))⟩)))
         repeat (go_quiet (first | (go_at_call 78; (with_reducible refine (sr01Edge.calls a0 a1_0 true _ A19.out).mono ?_); rintro e w' ⟨rfl, ⟨nd, rfl⟩⟩; (try first | exact ⟨rfl, _, World.drewN_drewN _ _ _⟩ | exact ⟨rfl, _, Eq.trans (World.drewN_drewN _ _ _) (congrArg (World.drewN _) (Nat.add_assoc _ _ _))⟩)) | (go_at_call 78; (with_reducible refine (sr01Edge.calls a0 (wrap64 (a1_0 + (a1_1.size : Int))) t262 _ A21.out).mono ?_); rintro e w' ⟨rfl, ⟨nd, rfl⟩⟩; (try first | exact ⟨rfl, _, World.drewN_drewN _ _ _⟩ | exact ⟨rfl, _, Eq.trans (World.drewN_drewN _ _ _) (congrArg (World.drewN _) (Nat.add_assoc _ _ _))⟩))); try go_wp2_with (first | (go_at_call 78; (with_reducible refine (sr01Edge.calls a0 a1_0 true _ A19.out).mono ?_); rintro e w' ⟨rfl, ⟨nd, rfl⟩⟩; (try first | exact ⟨rfl, _, World.drewN_drewN _ _ _⟩ | exact ⟨rfl, _, Eq.trans (World.drewN_drewN _ _ _) (congrArg (World.drewN _) (Nat.add_assoc _ _ _))⟩)) | (go_at_call 78; (with_reducible refine (sr01Edge.calls a0 (wrap64 (a1_0 + (a1_1.size : Int))) t262 _ A21.out).mono ?_); rintro e w' ⟨rfl, ⟨nd, rfl⟩⟩; (try first | exact ⟨rfl, _, World.drewN_drewN _ _ _⟩ | exact ⟨rfl, _, Eq.trans (World.drewN_drewN _ _ _) (congrArg (World.drewN _) (Nat.add_assoc _ _ _))⟩))))
         go_meet
         case rel => exact ⟨_, (!t262), t0, H', ⟨by have := HJ2.out; have := HJ9.out; first | omega | exact Nat.le_refl _⟩, ⟨bq BK260.out⟩, ⟨wk HB.out⟩⟩
        ·replace c20 := Bool.eq_false_iff.mpr c20
         subst c20
         rw [if_neg Bool.false_ne_true] at H
         have H' := aS_ H
         clear H
         obtain ⟨hcz23_0, hcz23_1, hcz23_2, hfz23_0, hfz23_1, hfz23_2⟩ := c3_ BK260.out
         go_wp2_with (first | (go_at_call 78; (with_reducible refine (sr01Edge.calls a0 a1_0 false _ A19.out).mono ?_); rintro e w' ⟨rfl, ⟨nd, rfl⟩⟩; (try first | exact ⟨rfl, _, World.drewN_drewN _ _ _⟩ | exact ⟨rfl, _, Eq.trans (World.drewN_drewN _ _ _) (congrArg (World.drewN _) (Nat.add_assoc _ _ _))⟩)))
         repeat (go_quiet (first | (go_at_call 78; (with_reducible refine (sr01Edge.calls a0 a1_0 false _ A19.out).mono ?_); rintro e w' ⟨rfl, ⟨nd, rfl⟩⟩; (try first | exact ⟨rfl, _, World.drewN_drewN _ _ _⟩ | exact ⟨rfl, _, Eq.trans (World.drewN_drewN _ _ _) (congrArg (World.drewN _) (Nat.add_assoc _ _ _))⟩))); try go_wp2_with (first | (go_at_call 78; (with_reducible refine (sr01Edge.calls a0 a1_0 false _ A19.out).mono ?_); rintro e w' ⟨rfl, ⟨nd, rfl⟩⟩; (try first | exact ⟨rfl, _, World.drewN_drewN _ _ _⟩ | exact ⟨rfl, _, Eq.trans (World.drewN_drewN _ _ _) (congrArg (World.drewN _) (Nat.add_assoc _ _ _))⟩))))
         go_meet
         case rel => exact ⟨_, (true), t0, H', ⟨by have := HJ2.out; have := HJ9.out; first | omega | exact Nat.le_refl _⟩, ⟨bq BK260.out⟩, ⟨wk HB.out⟩⟩
       case rest =>
        clear HC18
        try clear c1
        try clear c2
        try clear p2
        try clear c6
        try clear c6b0
        try clear p6
        try clear c8
        try clear c9
        try clear c11
        try clear c11b0
        try clear c13
        try clear c13b0
        try clear c13b1
        try clear c14
        try clear c14b0
        try clear c14b1
        try clear c15
        try clear c15b0
        try clear c15b1
        try clear c17
        try clear c20
        try clear hcz12_0 hcz12_1 hcz12_2 hcz16_0 hcz16_1 hcz16_2 hcz22_0 hcz22_1 hcz22_2 hcz23_0 hcz23_1 hcz23_2 hcz5_0 hcz5_1 hcz5_2 hcz7_0 hcz7_1 hcz7_2 hcz8_0 hcz8_1 hcz8_2 hfz12_0 hfz12_1 hfz12_2 hfz16_0 hfz16_1 hfz16_2 hfz22_0 hfz22_1 hfz22_2 hfz23_0 hfz23_1 hfz23_2 hfz5_0 hfz5_1 hfz5_2 hfz7_0 hfz7_1 hfz7_2 hfz8_0 hfz8_1 hfz8_2
        try clear p2
        try clear p6
        obtain ⟨kq, x42_17, rfl, HA, HJ17, BK260, HB⟩ := hcut
        cases kq with
        | zero => exact absurd HA.out (by simp [sr21Apply.j2])
        | succ kj17 =>
         have H := HA.out
         clear HA
         simp only [sr21Apply.j2] at H
         by_cases c24 : x42_17 = true
         ·subst c24
          rw [if_pos rfl] at H
          simp only [Option.some.injEq, Prod.mk.injEq] at H
          obtain ⟨rfl, rfl⟩ := H
          go_wp2
          repeat (go_quiet (fail); try go_wp2)
          go_ret2
          exact ⟨t1, wk HB.out⟩
         ·replace c24 := Bool.eq_false_iff.mpr c24
          subst c24
          rw [if_neg Bool.false_ne_true] at H
          have HC25 := aS_ H
          clear H
          go_upto_region 8 with (fail)
          repeat (go_quiet (fail); go_upto_region 8 with (fail))
          go_cut [57] (fun v57 wc => ∃ (kq : Nat) (x57_24 : Bool), v57 = .bool x57_24 ∧ Aside0 (sr21Apply.j3 kq a0 (a1_1.size : Int) x57_24 a1_0 a1_1 a1_2 = some (r1, r2)) ∧ Aside0 (kq ≤ kj17) ∧ Aside0 (wc.heap[gb260]? = some (.cells #[.int .i64 a1_0, .string a1_1, .string a1_2] 88 (0, 0))) ∧ Aside0 (Below w.heap.size w wc))
          case first =>
           have H := HC25.out
           clear HC25
           replace H := Option.bind_eq_some_iff.mp H
           obtain ⟨t263, A260, H⟩ := H
           try dsimp only at H
           have A26 := aS_ A260
           clear A260
           by_cases c27 : t263 = true
           ·subst c27
            rw [if_pos rfl] at H
            replace H := Option.bind_eq_some_iff.mp H
            obtain ⟨t264, A280, H⟩ := H
            try dsimp only at H
            have A28 := aS_ A280
            clear A280
            have H' := aS_ H
            clear H
            obtain ⟨hcz29_0, hcz29_1, hcz29_2, hfz29_0, hfz29_1, hfz29_2⟩ := c3_ BK260.out
            go_wp2_with (first | (go_at_call 48; (with_reducible refine (sr01Valid.calls kj17 a1_1 true _ A26.out).mono ?_); rintro e w30 ⟨rfl, hb⟩; replace BK260 := bb_ BK260 hb; replace HB := bw_ HB hb; try clear hb; obtain ⟨hcz31_0, hcz31_1, hcz31_2, hfz31_0, hfz31_1, hfz31_2⟩ := c3_ BK260.out) | (go_at_call 48; (with_reducible refine (sr01Valid.calls kj17 a1_2 t264 _ A28.out).mono ?_); rintro e w32 ⟨rfl, hb⟩; replace BK260 := bb_ BK260 hb; replace HB := bw_ HB hb; try clear hb))
            repeat (go_quiet (first | (go_at_call 48; (with_reducible refine (sr01Valid.calls kj17 a1_1 true _ A26.out).mono ?_); rintro e w30 ⟨rfl, hb⟩; replace BK260 := bb_ BK260 hb; replace HB := bw_ HB hb; try clear hb; obtain ⟨hcz31_0, hcz31_1, hcz31_2, hfz31_0, hfz31_1, hfz31_2⟩ := c3_ BK260.out) | (go_at_call 48; (with_reducible refine (sr01Valid.calls kj17 a1_2 t264 _ A28.out).mono ?_); rintro e w32 ⟨rfl, hb⟩; replace BK260 := bb_ BK260 hb; replace HB := bw_ HB hb; try clear hb)); try go_wp2_with (first | (go_at_call 48; (with_reducible refine (sr01Valid.calls kj17 a1_1 true _ A26.out).mono ?_); rintro e w30 ⟨rfl, hb⟩; replace BK260 := bb_ BK260 hb; replace HB := bw_ HB hb; try clear hb; obtain ⟨hcz31_0, hcz31_1, hcz31_2, hfz31_0, hfz31_1, hfz31_2⟩ := c3_ BK260.out) | (go_at_call 48; (with_reducible refine (sr01Valid.calls kj17 a1_2 t264 _ A28.out).mono ?_); rintro e w32 ⟨rfl, hb⟩; replace BK260 := bb_ BK260 hb; replace HB := bw_ HB hb; try clear hb)))
            go_meet
            case rel => exact ⟨_, (!t264), t0, H', ⟨by have := HJ2.out; have := HJ9.out; have := HJ17.out; first | omega | exact Nat.le_refl _⟩, ⟨bq BK260.out⟩, ⟨wk HB.out⟩⟩
           ·replace c27 := Bool.eq_false_iff.mpr c27
            subst c27
            rw [if_neg Bool.false_ne_true] at H
            have H' := aS_ H
            clear H
            obtain ⟨hcz33_0, hcz33_1, hcz33_2, hfz33_0, hfz33_1, hfz33_2⟩ := c3_ BK260.out
            go_wp2_with (first | (go_at_call 48; (with_reducible refine (sr01Valid.calls kj17 a1_1 false _ A26.out).mono ?_); rintro e w34 ⟨rfl, hb⟩; replace BK260 := bb_ BK260 hb; replace HB := bw_ HB hb; try clear hb))
            repeat (go_quiet (first | (go_at_call 48; (with_reducible refine (sr01Valid.calls kj17 a1_1 false _ A26.out).mono ?_); rintro e w34 ⟨rfl, hb⟩; replace BK260 := bb_ BK260 hb; replace HB := bw_ HB hb; try clear hb)); try go_wp2_with (first | (go_at_call 48; (with_reducible refine (sr01Valid.calls kj17 a1_1 false _ A26.out).mono ?_); rintro e w34 ⟨rfl, hb⟩; replace BK260 := bb_ BK260 hb; replace HB := bw_ HB hb; try clear hb)))
            go_meet
            case rel => exact ⟨_, (true), t0, H', ⟨by have := HJ2.out; have := HJ9.out; have := HJ17.out; first | omega | exact Nat.le_refl _⟩, ⟨bq BK260.out⟩, ⟨wk HB.out⟩⟩
          case rest =>
           clear HC25
           try clear c1
           try clear c2
           try clear p2
           try clear c6
           try clear c6b0
           try clear p6
           try clear c8
           try clear c9
           try clear c11
           try clear c11b0
           try clear c13
           try clear c13b0
           try clear c13b1
           try clear c14
           try clear c14b0
           try clear c14b1
           try clear c15
           try clear c15b0
           try clear c15b1
           try clear c17
           try clear c20
           try clear c24
           try clear c27
           try clear hcz12_0 hcz12_1 hcz12_2 hcz16_0 hcz16_1 hcz16_2 hcz22_0 hcz22_1 hcz22_2 hcz23_0 hcz23_1 hcz23_2 hcz29_0 hcz29_1 hcz29_2 hcz31_0 hcz31_1 hcz31_2 hcz33_0 hcz33_1 hcz33_2 hcz5_0 hcz5_1 hcz5_2 hcz7_0 hcz7_1 hcz7_2 hcz8_0 hcz8_1 hcz8_2 hfz12_0 hfz12_1 hfz12_2 hfz16_0 hfz16_1 hfz16_2 hfz22_0 hfz22_1 hfz22_2 hfz23_0 hfz23_1 hfz23_2 hfz29_0 hfz29_1 hfz29_2 hfz31_0 hfz31_1 hfz31_2 hfz33_0 hfz33_1 hfz33_2 hfz5_0 hfz5_1 hfz5_2 hfz7_0 hfz7_1 hfz7_2 hfz8_0 hfz8_1 hfz8_2
           try clear p2
           try clear p6
           obtain ⟨kq, x57_24, rfl, HA, HJ24, BK260, HB⟩ := hcut
           cases kq with
           | zero => exact absurd HA.out (by simp [sr21Apply.j3])
           | succ kj24 =>
            have H := HA.out
            clear HA
            simp only [sr21Apply.j3] at H
            by_cases c35 : x57_24 = true
            ·subst c35
             rw [if_pos rfl] at H
             simp only [Option.some.injEq, Prod.mk.injEq] at H
             obtain ⟨rfl, rfl⟩ := H
             go_wp2
             repeat (go_quiet (fail); try go_wp2)
             go_ret2
             exact ⟨t1, wk HB.out⟩
            ·replace c35 := Bool.eq_false_iff.mpr c35
             subst c35
             rw [if_neg Bool.false_ne_true] at H
             by_cases c36 : (wrap64 ((wrap64 ((a0.size : Int) - (a1_1.size : Int))) + (a1_2.size : Int))) > 4096
             ·rw [if_pos c36] at H
              have c36b0 := decide_eq_true c36
              clear c36
              simp only [Option.some.injEq, Prod.mk.injEq] at H
              obtain ⟨rfl, rfl⟩ := H
              obtain ⟨hcz37_0, hcz37_1, hcz37_2, hfz37_0, hfz37_1, hfz37_2⟩ := c3_ BK260.out
              try have c36b0w0 := by have h_ := c36b0; rw [show wrap64 ((a0.size : Int) - (a1_1.size : Int)) = (a0.size : Int) - (a1_1.size : Int) from by unfold wrap64; omega] at h_; exact h_
              go_wp2
              repeat (go_quiet (fail); try go_wp2)
              go_ret2
              exact ⟨t1, wk HB.out⟩
             ·rw [if_neg c36] at H
              have c36b0 := decide_eq_false c36
              clear c36
              by_cases c38 : 0 ≤ a1_0
              ·rw [if_pos c38] at H
               have c38b0 := eq_true c38
               have c38b1 := decide_eq_true c38
               clear c38
               by_cases c39 : a1_0 ≤ (a0.size : Int)
               ·rw [if_pos c39] at H
                have c39b0 := eq_true c39
                have c39b1 := decide_eq_true c39
                clear c39
                by_cases c40 : (a0.extract 0 (a1_0 : Int).toNat).size + a1_2.size ≤ 9223372036854775807
                ·rw [if_pos c40] at H
                 have c40b0 := eq_true c40
                 have c40b1 := decide_eq_true c40
                 try have c40b2 : (9223372036854775807 < (a0.extract 0 (a1_0 : Int).toNat).size + a1_2.size) = False := eq_false (Nat.not_lt.2 c40)
                 try have c40b3 : (9223372036854775807 < (a0.extract 0 (a1_0 : Int).toNat).size + a1_2.size) = False := eq_false (by have h_ := c40; (try simp only [ByteArray.size_append] at h_); (try simp only [ByteArray.size_extract] at h_); (try simp only [decide_eq_true_eq] at *); omega)
                 obtain ⟨ji41, hji41⟩ : ∃ j_ : Int, (wrap64 (a1_0 + (a1_1.size : Int))) = j_ := ⟨_, rfl⟩
                 replace H : (if 0 ≤ (ji41) then (if (ji41) ≤ (a0.size : Int) then (if ((a0.extract 0 (a1_0 : Int).toNat) ++ a1_2).size + (a0.extract ((ji41) : Int).toNat a0.size).size ≤ 9223372036854775807 then (some (((a0.extract 0 (a1_0 : Int).toNat) ++ a1_2) ++ (a0.extract ((ji41) : Int).toNat a0.size), 0)) else (none)) else (none)) else (none)) = some (r1, r2) := by first | (rw [hji41] at H; exact H) | (simp only [hji41] at H ⊢; exact H)
                 have hji41w : (IntKind.i64.wrap (a1_0 + (a1_1.size : Int))) = ji41 := (i64_w _).trans hji41
                 by_cases c42 : 0 ≤ (ji41)
                 ·rw [if_pos c42] at H
                  have c42b0 := eq_true c42
                  have c42b1 := decide_eq_true c42
                  clear c42
                  by_cases c43 : (ji41) ≤ (a0.size : Int)
                  ·rw [if_pos c43] at H
                   have c43b0 := eq_true c43
                   have c43b1 := decide_eq_true c43
                   clear c43
                   by_cases c44 : ((a0.extract 0 (a1_0 : Int).toNat) ++ a1_2).size + (a0.extract ((ji41) : Int).toNat a0.size).size ≤ 9223372036854775807
                   ·rw [if_pos c44] at H
                    have c44b0 := eq_true c44
                    have c44b1 := decide_eq_true c44
                    try have c44b2 : (9223372036854775807 < ((a0.extract 0 (a1_0 : Int).toNat) ++ a1_2).size + (a0.extract ((ji41) : Int).toNat a0.size).size) = False := eq_false (Nat.not_lt.2 c44)
                    try have c44b3 : (9223372036854775807 < (a0.extract 0 (a1_0 : Int).toNat).size + a1_2.size + (a0.extract ((ji41) : Int).toNat a0.size).size) = False := eq_false (by have h_ := c44; (try simp only [ByteArray.size_append] at h_); (try simp only [ByteArray.size_extract] at h_); (try simp only [decide_eq_true_eq] at *); omega)
                    simp only [Option.some.injEq, Prod.mk.injEq] at H
                    obtain ⟨rfl, rfl⟩ := H
                    obtain ⟨hcz45_0, hcz45_1, hcz45_2, hfz45_0, hfz45_1, hfz45_2⟩ := c3_ BK260.out
                    try have c36b0w0 := by have h_ := c36b0; rw [show wrap64 ((a0.size : Int) - (a1_1.size : Int)) = (a0.size : Int) - (a1_1.size : Int) from by unfold wrap64; omega] at h_; exact h_
                    go_wp2
                    repeat (go_quiet (fail); try go_wp2)
                    go_ret2
                    exact ⟨by first | rfl | (simp [errW_none, errW_some] <;> rfl) | (simp only [← hji41]; first | rfl | (simp [errW_none, errW_some] <;> rfl)) | (simp [*, errW_none, errW_some] <;> rfl), wk HB.out⟩
                   ·rw [if_neg c44] at H
                    exact absurd H (by simp)
                  ·rw [if_neg c43] at H
                   exact absurd H (by simp)
                 ·rw [if_neg c42] at H
                  exact absurd H (by simp)
                ·rw [if_neg c40] at H
                 exact absurd H (by simp)
               ·rw [if_neg c39] at H
                exact absurd H (by simp)
              ·rw [if_neg c38] at H
               exact absurd H (by simp)
/-! ### sr23Run: function 53 -/
def sr23Run.l0 : Nat → ByteArray → Int → List (S88) → Option (ByteArray × Int)
 | 0, _, _, _ => none
 | k + 1, x0, x6, x266000 => if x6 < (x266000.length : Int) then (if 0 ≤ x6 then ((sr21Apply.f k x0 ((rd_T88 x266000 x6).f0) ((rd_T88 x266000 x6).f1) ((rd_T88 x266000 x6).f2)).bind fun bt267 => (if bt267.2 = 0 then (sr23Run.l0 k bt267.1 (wrap64 (x6 + 1)) x266000) else (some ((⟨#[]⟩ : ByteArray), bt267.2)))) else (none)) else (some (x0, 0))
def sr23Run.f (k : Nat) (a0 : ByteArray) (l1_0 : List (S88)) : Option (ByteArray × Int) := sr23Run.l0 k a0 0 l1_0
set_option maxHeartbeats 8000000 in
set_option maxRecDepth 100000 in
theorem sr23Run.calls (k : Nat) (a0 : ByteArray) (A1_0 : Option Addr) (c1_0 : Nat) (l1_0 : List (S88)) (r1 : ByteArray) (r2 : Int) (w : World) (hr1_0 : Kd.C k88 w A1_0 l1_0.length l1_0) (hc1_0 : l1_0.length ≤ c1_0) (h : sr23Run.f k a0 l1_0 = some (r1, r2)) :
  Calls Try.prog 53 #[.string a0, .agg #[.slice A1_0 l1_0.length c1_0]] w fun e w' => e = .returned (.tuple #[.string r1, .int .i64 r2]) ∧ Below w.heap.size w w' := by
 have hu38 := Try.underlying38
 have hu88 := Try.underlying88
 have HR1_0 := aS_ hr1_0
 have HC1_0 := aS_ hc1_0
 clear hr1_0 hc1_0
 have HB := aS_ (Below.refl w.heap.size w)
 have H : (sr23Run.l0 k a0 0 l1_0) = some (r1, r2) := h
 clear h
 have H' := aS_ H
 clear H
 go_enter Try.func53, Try.ntmps53
 go_wp2_with (first | (refine bx_ 3 #[.slice A1_0 l1_0.length c1_0] 38 ?_; intro gb265 hg w3 hbox hb; have BK265 := aS_ (hbox); have GW265 := ge_ hg (wk HB.out); have GE265 := ge_ hg (wk HB.out); replace HB := bw_ HB hb; clear hb hbox hg))
 go_loopg [0, 6] k (fun kq v0 v6 w' => ∃ (x0_1 : ByteArray) (x6_1 : Int), v0 = .string x0_1 ∧ v6 = .int .i64 x6_1 ∧ Aside0 (sr23Run.l0 kq x0_1 x6_1 l1_0 = some (r1, r2)) ∧ Aside0 (kq ≤ k) ∧ Aside0 (w'.heap[gb265]? = some (.cells #[(.slice A1_0 l1_0.length c1_0)] 38 (0, 0))) ∧ Aside0 (Below w.heap.size w w'))
 case atStart => exact ⟨(a0), (0), t0, t0, H', ⟨Nat.le_refl _⟩, ⟨bq BK265.out⟩, ⟨wk HB.out⟩⟩
 case round =>
  clear H'
  try clear c1
  try clear p2
  obtain ⟨x0_1, x6_1, rfl, rfl, HA, HK1, BK265, HB⟩ := hrel
  cases gk with
  | zero => exact absurd HA.out (by simp [sr23Run.l0])
  | succ k1 =>
   have H := HA.out
   clear HA
   simp only [sr23Run.l0] at H
   by_cases c4 : x6_1 < (l1_0.length : Int)
   ·rw [if_pos c4] at H
    have c4b0 := decide_eq_true c4
    clear c4
    by_cases c5 : 0 ≤ x6_1
    ·rw [if_pos c5] at H
     have c5b0 := decide_eq_true c5
     clear c5
     replace H := Option.bind_eq_some_iff.mp H
     obtain ⟨⟨t267, t268⟩, A60, H⟩ := H
     try dsimp only at H
     have A6 := aS_ A60
     clear A60
     by_cases c7 : t268 = 0
     ·rw [if_pos c7] at H
      have c7b0 := beq_iff_eq.mpr c7
      have c7b1 := bne_eq_false_iff_eq.mpr c7
      clear c7
      have H' := aS_ H
      clear H
      obtain ⟨hcz8_0, hfz8_0⟩ := c1_ BK265.out
      have p266 : 0 ≤ (x6_1 : Int) := of_decide_eq_true (by first | (with_reducible assumption) | assumption)
      have q266 : x6_1 < (l1_0.length : Int) := of_decide_eq_true (by first | (with_reducible assumption) | assumption)
      obtain ⟨ad266, e266, hx266_0, hx266_1, hx266_2⟩ := at_T88 HR1_0.out x6_1 p266 q266
      cases e266
      replace hx266_0 := (HB.out.cell (World.block_lt_of_cell? w _ hx266_0)).trans hx266_0
      replace hx266_1 := (HB.out.cell (World.block_lt_of_cell? w _ hx266_1)).trans hx266_1
      replace hx266_2 := (HB.out.cell (World.block_lt_of_cell? w _ hx266_2)).trans hx266_2
      replace p266 := eq_true p266
      replace q266 := eq_true q266
      go_wp2_with (first | (refine cl_ (some 23) Try.func81 #[.string x0_1, .agg #[.int .i64 ((rd_T88 l1_0 x6_1).f0), .string ((rd_T88 l1_0 x6_1).f1), .string ((rd_T88 l1_0 x6_1).f2)]] ?_; (with_reducible refine (sr21Apply.calls k1 x0_1 ((rd_T88 l1_0 x6_1).f0) ((rd_T88 l1_0 x6_1).f1) ((rd_T88 l1_0 x6_1).f2) t267 t268 _ A6.out).mono ?_); rintro e w9 ⟨rfl, hb⟩; refine ⟨_, rfl, ?_⟩; replace BK265 := bb_ BK265 hb; replace HB := bw_ HB hb; try clear hb))
      go_roundg k1
      case measure => have := HK1.out; omega
      case rel => exact ⟨(t267), (wrap64 (x6_1 + 1)), t0, t0, H', ⟨t2 HK1⟩, ⟨bq BK265.out⟩, ⟨wk HB.out⟩⟩
     ·rw [if_neg c7] at H
      have c7b0 := beq_eq_false_iff_ne.mpr c7
      have c7b1 := bne_iff_ne.mpr c7
      simp only [Option.some.injEq, Prod.mk.injEq] at H
      obtain ⟨rfl, rfl⟩ := H
      obtain ⟨hcz10_0, hfz10_0⟩ := c1_ BK265.out
      have p266 : 0 ≤ (x6_1 : Int) := of_decide_eq_true (by first | (with_reducible assumption) | assumption)
      have q266 : x6_1 < (l1_0.length : Int) := of_decide_eq_true (by first | (with_reducible assumption) | assumption)
      obtain ⟨ad266, e266, hx266_0, hx266_1, hx266_2⟩ := at_T88 HR1_0.out x6_1 p266 q266
      cases e266
      replace hx266_0 := (HB.out.cell (World.block_lt_of_cell? w _ hx266_0)).trans hx266_0
      replace hx266_1 := (HB.out.cell (World.block_lt_of_cell? w _ hx266_1)).trans hx266_1
      replace hx266_2 := (HB.out.cell (World.block_lt_of_cell? w _ hx266_2)).trans hx266_2
      replace p266 := eq_true p266
      replace q266 := eq_true q266
      go_wp2_with (first | (refine cl_ (some 23) Try.func81 #[.string x0_1, .agg #[.int .i64 ((rd_T88 l1_0 x6_1).f0), .string ((rd_T88 l1_0 x6_1).f1), .string ((rd_T88 l1_0 x6_1).f2)]] ?_; (with_reducible refine (sr21Apply.calls k1 x0_1 ((rd_T88 l1_0 x6_1).f0) ((rd_T88 l1_0 x6_1).f1) ((rd_T88 l1_0 x6_1).f2) t267 t268 _ A6.out).mono ?_); rintro e w11 ⟨rfl, hb⟩; refine ⟨_, rfl, ?_⟩; replace BK265 := bb_ BK265 hb; replace HB := bw_ HB hb; try clear hb))
      go_ret2
      exact ⟨t1, wk HB.out⟩
    ·rw [if_neg c5] at H
     exact absurd H (by simp)
   ·rw [if_neg c4] at H
    have c4b0 := decide_eq_false c4
    clear c4
    simp only [Option.some.injEq, Prod.mk.injEq] at H
    obtain ⟨rfl, rfl⟩ := H
    obtain ⟨hcz12_0, hfz12_0⟩ := c1_ BK265.out
    go_wp2
    go_ret2
    exact ⟨t1, wk HB.out⟩
end Go.Proofs.Ytnndanfghlnpfaa.P
