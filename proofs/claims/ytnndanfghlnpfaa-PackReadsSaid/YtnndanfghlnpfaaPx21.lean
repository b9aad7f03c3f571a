import Derived.Test.YtnndanfghlnpfaaPx0
import Derived.Test.YtnndanfghlnpfaaPx3
import Derived.Test.YtnndanfghlnpfaaPx9
import Derived.Test.YtnndanfghlnpfaaPx12
import Derived.Test.YtnndanfghlnpfaaPx18
namespace Go.Proofs.Ytnndanfghlnpfaa.P
open Go.RowKit Go.Proofs.YtnndanfghlnpfaaW.PrintWords Go.Proofs.YtnndanfghlnpfaaW.PrintLast Go.Proofs.YtnndanfghlnpfaaW.PrintMore
attribute [local go_sem] max2_int min2_int max_two min_two max_three min_three max_four min_four   -- for this text's walks alone
set_option linter.unusedVariables false
set_option linter.unusedSimpArgs false
/-! ### sr03get: function 85 -/
mutual
def sr03get.j0 : Nat → ByteArray → Int → Int → Bool → Option (Int × Bool)
 | 0, _, _, _, _ => none
 | k + 1, x0, x1, x2, x19 => if x19 = true then (some (0, false)) else (sr03get.l0 k x0 x1 0 (wrap64 (x2 - 1)))
def sr03get.l0 : Nat → ByteArray → Int → Int → Int → Option (Int × Bool)
 | 0, _, _, _, _ => none
 | k + 1, x0, x1, x8, x9 => if x9 ≥ 0 then (if 0 ≤ (wrap64 (x1 + x9)) then (if (wrap64 (x1 + x9)) < (x0.size : Int) then (sr03get.l0 k x0 x1 (wrap64 ((wrap64 (256 * x8)) + (wrap64 (bt x0 (wrap64 (x1 + x9)))))) (wrap64 (x9 - 1))) else (none)) else (none)) else (some (x8, true))
end
def sr03get.f (k : Nat) (a0 : ByteArray) (a1 : Int) (a2 : Int) : Option (Int × Bool) := if a1 < 0 then (sr03get.j0 k a0 a1 a2 true) else (sr03get.j0 k a0 a1 a2 (decide (a1 > (wrap64 ((a0.size : Int) - a2)))))
set_option maxHeartbeats 8000000 in
set_option maxRecDepth 100000 in
theorem sr03get.calls (k : Nat) (a0 : ByteArray) (a1 : Int) (a2 : Int) (r1 : Int) (r2 : Bool) (w : World) (h : sr03get.f k a0 a1 a2 = some (r1, r2)) :
  Calls Try.prog 85 #[.string a0, .int .i64 a1, .int .i64 a2] w fun e w' => e = .returned (.tuple #[.int .i64 r1, .bool r2]) ∧ Drawn0 w w' := by
 have H : (if a1 < 0 then (sr03get.j0 k a0 a1 a2 true) else (sr03get.j0 k a0 a1 a2 (decide (a1 > (wrap64 ((a0.size : Int) - a2)))))) = some (r1, r2) := h
 clear h
 have HC4 := aS_ H
 clear H
 go_enter Try.func85, Try.ntmps85
 go_upto_region 1 with (fail)
 go_cut [19] (fun v19 wc => ∃ (kq : Nat) (x19_3 : Bool), v19 = .bool x19_3 ∧ Aside0 (sr03get.j0 kq a0 a1 a2 x19_3 = some (r1, r2)) ∧ Aside0 (kq ≤ k) ∧ Drawn0 w wc)
 case first =>
  have H := HC4.out
  clear HC4
  by_cases c5 : a1 < 0
  ·rw [if_pos c5] at H
   have c5b0 := decide_eq_true c5
   clear c5
   (first | rw [c5b0] | (simp only [i64_w, i32_w]; rw [c5b0]) | skip)
   have H' := aS_ H
   clear H
   go_wp2
   go_meet
   case rel => exact ⟨_, (true), t0, H', ⟨t3⟩, by repeat (first | exact Drawn0.refl _ | apply Drawn0.step)⟩
  ·rw [if_neg c5] at H
   have c5b0 := decide_eq_false c5
   clear c5
   (first | rw [c5b0] | (simp only [i64_w, i32_w]; rw [c5b0]) | skip)
   have H' := aS_ H
   clear H
   go_wp2
   go_meet
   case rel => exact ⟨_, (decide (a1 > (wrap64 ((a0.size : Int) - a2)))), t0, H', ⟨t3⟩, by repeat (first | exact Drawn0.refl _ | apply Drawn0.step)⟩
 case rest =>
  clear HC4
  try clear p2
  try clear c5
  try clear c5b0
  obtain ⟨kq, x19_3, rfl, HA, HJ3, ⟨mc3, rfl⟩⟩ := hcut
  cases kq with
  | zero => exact absurd HA.out (by simp [sr03get.j0])
  | succ kj3 =>
   have H := HA.out
   clear HA
   simp only [sr03get.j0] at H
   by_cases c6 : x19_3 = true
   ·subst c6
    rw [if_pos rfl] at H
    simp only [Option.some.injEq, Prod.mk.injEq] at H
    obtain ⟨rfl, rfl⟩ := H
    go_wp2
    go_ret2
    exact ⟨by first | rfl | (simp; done) | (simp [*]; done), by repeat (first | exact Drawn0.refl _ | apply Drawn0.step)⟩
   ·replace c6 := Bool.eq_false_iff.mpr c6
    subst c6
    rw [if_neg Bool.false_ne_true] at H
    have H' := aS_ H
    clear H
    go_wp2
    go_loopg [8, 9] kj3 (fun kq v8 v9 w' => ∃ (x8_2 : Int) (x9_2 : Int), v8 = .int .i64 x8_2 ∧ v9 = .int .i64 x9_2 ∧ Aside0 (sr03get.l0 kq a0 a1 x8_2 x9_2 = some (r1, r2)) ∧ Aside0 (kq ≤ kj3) ∧ Drawn0 w w')
    case atStart => exact ⟨(0), (wrap64 (a2 - 1)), t0, t0, H', ⟨Nat.le_refl _⟩, by repeat (first | exact Drawn0.refl _ | apply Drawn0.step)⟩
    case round =>
     clear H'
     try clear p2
     try clear c3
     try clear c5
     try clear c5b0
     try clear c6
     try clear p6
     try clear p2
     obtain ⟨x8_2, x9_2, rfl, rfl, HA, HK2, ⟨m2, rfl⟩⟩ := hrel
     cases gk with
     | zero => exact absurd HA.out (by simp [sr03get.l0])
     | succ k2 =>
      have H := HA.out
      clear HA
      simp only [sr03get.l0] at H
      by_cases c7 : x9_2 ≥ 0
      ·rw [if_pos c7] at H
       have c7b0 := decide_eq_true c7
       clear c7
       obtain ⟨ji8, hji8⟩ : ∃ j_ : Int, (wrap64 (a1 + x9_2)) = j_ := ⟨_, rfl⟩
       replace H : (if 0 ≤ (ji8) then (if (ji8) < (a0.size : Int) then (sr03get.l0 k2 a0 a1 (wrap64 ((wrap64 (256 * x8_2)) + (wrap64 (bt a0 (ji8))))) (wrap64 (x9_2 - 1))) else (none)) else (none)) = some (r1, r2) := by first | (rw [hji8] at H; exact H) | (simp only [hji8] at H ⊢; exact H)
       have hji8w : (IntKind.i64.wrap (a1 + x9_2)) = ji8 := (i64_w _).trans hji8
       by_cases c9 : 0 ≤ (ji8)
       ·rw [if_pos c9] at H
        have c9b0 := decide_eq_true c9
        clear c9
        by_cases c10 : (ji8) < (a0.size : Int)
        ·rw [if_pos c10] at H
         have c10b0 := decide_eq_true c10
         clear c10
         have H' := aS_ H
         clear H
         have p11 : 0 ≤ ((ji8) : Int) := of_decide_eq_true (by first | (with_reducible assumption) | assumption)
         have q11 : (ji8) < (a0.size : Int) := of_decide_eq_true (by first | (with_reducible assumption) | assumption)
         have hx11 := bt_at a0 (ji8)
         replace p11 := eq_true p11
         replace q11 := eq_true q11
         go_wp2
         go_roundg k2
         case measure => have := HJ3.out; have := HK2.out; omega
         case rel => exact ⟨(wrap64 ((wrap64 (256 * x8_2)) + (wrap64 (bt a0 (ji8))))), (wrap64 (x9_2 - 1)), (by first | rfl | (simp; done) | (simp only [← hji8] <;> (first | rfl | simp)) | (simp [*]; done)), t0, H', ⟨by have := HJ3.out; have := HK2.out; omega⟩, by repeat (first | exact Drawn0.refl _ | apply Drawn0.step)⟩
        ·rw [if_neg c10] at H
         exact absurd H (by simp)
       ·rw [if_neg c9] at H
        exact absurd H (by simp)
      ·rw [if_neg c7] at H
       have c7b0 := decide_eq_false c7
       clear c7
       simp only [Option.some.injEq, Prod.mk.injEq] at H
       obtain ⟨rfl, rfl⟩ := H
       go_wp2
       go_ret2
       exact ⟨by first | rfl | (simp; done) | (simp [*]; done), by repeat (first | exact Drawn0.refl _ | apply Drawn0.step)⟩
/-! ### sr03Get32: function 63 -/
def sr03Get32.f (k : Nat) (a0 : ByteArray) (a1 : Int) : Option (Int × Bool) := (sr03get.f k a0 a1 4).bind fun bt343 => (some (bt343.1, bt343.2))
set_option maxHeartbeats 8000000 in
set_option maxRecDepth 100000 in
theorem sr03Get32.calls (k : Nat) (a0 : ByteArray) (a1 : Int) (r1 : Int) (r2 : Bool) (w : World) (h : sr03Get32.f k a0 a1 = some (r1, r2)) :
  Calls Try.prog 63 #[.string a0, .int .i64 a1] w fun e w' => e = .returned (.tuple #[.int .i64 r1, .bool r2]) ∧ Drawn0 w w' := by
 have H : ((sr03get.f k a0 a1 4).bind fun bt343 => (some (bt343.1, bt343.2))) = some (r1, r2) := h
 clear h
 replace H := Option.bind_eq_some_iff.mp H
 obtain ⟨⟨t343, t344⟩, A30, H⟩ := H
 try dsimp only at H
 have A3 := aS_ A30
 clear A30
 simp only [Option.some.injEq, Prod.mk.injEq] at H
 obtain ⟨rfl, rfl⟩ := H
 go_enter Try.func63, Try.ntmps63
 go_wp2_with (first | (refine cl_ (some 8) Try.func85 #[.string a0, .int .i64 a1, .int .i64 4] ?_; (with_reducible refine (sr03get.calls k a0 a1 4 t343 t344 _ A3.out).mono ?_); rintro e w' ⟨rfl, ⟨nd, rfl⟩⟩; refine ⟨_, rfl, ?_⟩))
 go_ret2
 exact ⟨by first | rfl | (simp; done) | (simp [*]; done), by repeat (first | exact Drawn0.refl _ | apply Drawn0.step)⟩
/-! ### sr03Get16: function 64 -/
def sr03Get16.f (k : Nat) (a0 : ByteArray) (a1 : Int) : Option (Int × Bool) := (sr03get.f k a0 a1 2).bind fun bt345 => (some (bt345.1, bt345.2))
set_option maxHeartbeats 8000000 in
set_option maxRecDepth 100000 in
theorem sr03Get16.calls (k : Nat) (a0 : ByteArray) (a1 : Int) (r1 : Int) (r2 : Bool) (w : World) (h : sr03Get16.f k a0 a1 = some (r1, r2)) :
  Calls Try.prog 64 #[.string a0, .int .i64 a1] w fun e w' => e = .returned (.tuple #[.int .i64 r1, .bool r2]) ∧ Drawn0 w w' := by
 have H : ((sr03get.f k a0 a1 2).bind fun bt345 => (some (bt345.1, bt345.2))) = some (r1, r2) := h
 clear h
 replace H := Option.bind_eq_some_iff.mp H
 obtain ⟨⟨t345, t346⟩, A30, H⟩ := H
 try dsimp only at H
 have A3 := aS_ A30
 clear A30
 simp only [Option.some.injEq, Prod.mk.injEq] at H
 obtain ⟨rfl, rfl⟩ := H
 go_enter Try.func64, Try.ntmps64
 go_wp2_with (first | (refine cl_ (some 8) Try.func85 #[.string a0, .int .i64 a1, .int .i64 2] ?_; (with_reducible refine (sr03get.calls k a0 a1 2 t345 t346 _ A3.out).mono ?_); rintro e w' ⟨rfl, ⟨nd, rfl⟩⟩; refine ⟨_, rfl, ?_⟩))
 go_ret2
 exact ⟨by first | rfl | (simp; done) | (simp [*]; done), by repeat (first | exact Drawn0.refl _ | apply Drawn0.step)⟩
/-! ### sr28num: function 30 -/
def sr28num.f (k : Nat) (a0_0 : ByteArray) (a0_1 : Int) (a0_2 : Int) (a1 : Int) : Option (ByteArray × Int × Int × Int) := if a0_2 = 0 then ((sr03Get32.f k a0_0 a0_1).bind fun bt349 => (if a1 = 2 then ((sr03Get16.f k a0_0 a0_1).bind fun bt351 => (if bt351.2 = true then (some (a0_0, wrap64 (a0_1 + a1), a0_2, bt351.1)) else (some (a0_0, a0_1, 18, 0)))) else (if bt349.2 = true then (some (a0_0, wrap64 (a0_1 + a1), a0_2, bt349.1)) else (some (a0_0, a0_1, 18, 0))))) else (some (a0_0, a0_1, a0_2, 0))
set_option maxHeartbeats 8000000 in
set_option maxRecDepth 100000 in
theorem sr28num.calls (k : Nat) (a0_0 : ByteArray) (a0_1 : Int) (a0_2 : Int) (a1 : Int) (r1 : ByteArray) (r2 : Int) (r3 : Int) (r4 : Int) (w : World) (h : sr28num.f k a0_0 a0_1 a0_2 a1 = some (r1, r2, r3, r4)) :
  Calls Try.prog 30 #[.agg #[.string a0_0, .int .i64 a0_1, .int .i64 a0_2], .int .i64 a1] w fun e w' => e = .returned (.tuple #[.agg #[.string r1, .int .i64 r2, .int .i64 r3], .int .i64 r4]) ∧ Below w.heap.size w w' := by
 have hu64 := Try.underlying64
 have HB := aS_ (Below.refl w.heap.size w)
 have H : (if a0_2 = 0 then ((sr03Get32.f k a0_0 a0_1).bind fun bt349 => (if a1 = 2 then ((sr03Get16.f k a0_0 a0_1).bind fun bt351 => (if bt351.2 = true then (some (a0_0, wrap64 (a0_1 + a1), a0_2, bt351.1)) else (some (a0_0, a0_1, 18, 0)))) else (if bt349.2 = true then (some (a0_0, wrap64 (a0_1 + a1), a0_2, bt349.1)) else (some (a0_0, a0_1, 18, 0))))) else (some (a0_0, a0_1, a0_2, 0))) = some (r1, r2, r3, r4) := h
 clear h
 by_cases c3 : a0_2 = 0
 ·rw [if_pos c3] at H
  have c3b0 := beq_iff_eq.mpr c3
  have c3b1 := bne_eq_false_iff_eq.mpr c3
  clear c3
  replace H := Option.bind_eq_some_iff.mp H
  obtain ⟨⟨t349, t350⟩, A40, H⟩ := H
  try dsimp only at H
  have A4 := aS_ A40
  clear A40
  by_cases c5 : a1 = 2
  ·rw [if_pos c5] at H
   have c5b0 := beq_iff_eq.mpr c5
   have c5b1 := bne_eq_false_iff_eq.mpr c5
   clear c5
   replace H := Option.bind_eq_some_iff.mp H
   obtain ⟨⟨t351, t352⟩, A60, H⟩ := H
   try dsimp only at H
   have A6 := aS_ A60
   clear A60
   by_cases c7 : t352 = true
   ·subst c7
    rw [if_pos rfl] at H
    simp only [Option.some.injEq, Prod.mk.injEq] at H
    obtain ⟨rfl, rfl, rfl, rfl⟩ := H
    go_enter Try.func30, Try.ntmps30
    go_wp2_with (first | (refine bx_ 2 #[.string a0_0, .int .i64 a0_1, .int .i64 a0_2] 64 ?_; intro gb347 hg w8 hbox hb; have BK347 := aS_ (hbox); have GW347 := ge_ hg (wk HB.out); have GE347 := ge_ hg (wk HB.out); replace HB := bw_ HB hb; clear hb hbox hg) | (refine bx_ 4 #[.string (⟨#[]⟩ : ByteArray), .int .i64 0, .int .i64 0] 64 ?_; intro gb348 hg w9 hbox hb; have BK348 := aS_ (hbox); have GW348 := ge_ hg (wk HB.out); have GE348 := ge_ hg (wk HB.out); replace HB := bw_ HB hb; have NB347_348 := nq_ hg (bk BK347.out); replace BK347 := bb_ BK347 hb; have NB348_347 := nr_ NB347_348; clear hb hbox hg; have hnb10 := NB347_348.out; have hnc10 := NB348_347.out; obtain ⟨hcz11_0, hcz11_1, hcz11_2, hfz11_0, hfz11_1, hfz11_2⟩ := c3_ BK347.out) | (refine cl_ (some 17) Try.func63 #[.string a0_0, .int .i64 a0_1] ?_; (with_reducible refine (sr03Get32.calls k a0_0 a0_1 t349 t350 _ A4.out).mono ?_); rintro e w' ⟨rfl, ⟨nd, rfl⟩⟩; refine ⟨_, rfl, ?_⟩; (try (rw [drewN_self w9]; generalize hq_ : World.drewN w9 _ = w9; have n0_ : Aside0 (w9.heap[gb347]? = some (.cells #[.string a0_0, .int .i64 a0_1, .int .i64 a0_2] 64 (0, 0))) := ⟨by rw [← hq_]; exact (bk BK347.out)⟩; have n1_ : Aside0 (w9.heap[gb348]? = some (.cells #[.string (⟨#[]⟩ : ByteArray), .int .i64 0, .int .i64 0] 64 (0, 0))) := ⟨by rw [← hq_]; exact (bk BK348.out)⟩; have n2_ : Aside0 (Below w.heap.size w w9) := ⟨by rw [← hq_]; exact (wk HB.out)⟩; clear BK347 BK348 HB hq_; have BK347 := n0_; have BK348 := n1_; have HB := n2_; clear n0_ n1_ n2_; have hkz_347_0 := (blk_cell BK347.out 0).trans rfl; have hkf_347_0 := blk_frozen BK347.out 0; have hkz_347_1 := (blk_cell BK347.out 1).trans rfl; have hkf_347_1 := blk_frozen BK347.out 1; have hkz_347_2 := (blk_cell BK347.out 2).trans rfl; have hkf_347_2 := blk_frozen BK347.out 2; have hkz_348_0 := (blk_cell BK348.out 0).trans rfl; have hkf_348_0 := blk_frozen BK348.out 0; have hkz_348_1 := (blk_cell BK348.out 1).trans rfl; have hkf_348_1 := blk_frozen BK348.out 1; have hkz_348_2 := (blk_cell BK348.out 2).trans rfl; have hkf_348_2 := blk_frozen BK348.out 2))) | (refine cl_ (some 27) Try.func64 #[.string a0_0, .int .i64 a0_1] ?_; (with_reducible refine (sr03Get16.calls k a0_0 a0_1 t351 true _ A6.out).mono ?_); rintro e w' ⟨rfl, ⟨nd, rfl⟩⟩; refine ⟨_, rfl, ?_⟩; (try (rw [drewN_self w9]; generalize hq_ : World.drewN w9 _ = w9; have n0_ : Aside0 (w9.heap[gb347]? = some (.cells #[.string a0_0, .int .i64 a0_1, .int .i64 a0_2] 64 (0, 0))) := ⟨by rw [← hq_]; exact (bk BK347.out)⟩; have n1_ : Aside0 (w9.heap[gb348]? = some (.cells #[.string (⟨#[]⟩ : ByteArray), .int .i64 0, .int .i64 0] 64 (0, 0))) := ⟨by rw [← hq_]; exact (bk BK348.out)⟩; have n2_ : Aside0 (Below w.heap.size w w9) := ⟨by rw [← hq_]; exact (wk HB.out)⟩; clear BK347 BK348 HB hq_; have BK347 := n0_; have BK348 := n1_; have HB := n2_; clear n0_ n1_ n2_; have hkz_347_0 := (blk_cell BK347.out 0).trans rfl; have hkf_347_0 := blk_frozen BK347.out 0; have hkz_347_1 := (blk_cell BK347.out 1).trans rfl; have hkf_347_1 := blk_frozen BK347.out 1; have hkz_347_2 := (blk_cell BK347.out 2).trans rfl; have hkf_347_2 := blk_frozen BK347.out 2; have hkz_348_0 := (blk_cell BK348.out 0).trans rfl; have hkf_348_0 := blk_frozen BK348.out 0; have hkz_348_1 := (blk_cell BK348.out 1).trans rfl; have hkf_348_1 := blk_frozen BK348.out 1; have hkz_348_2 := (blk_cell BK348.out 2).trans rfl; have hkf_348_2 := blk_frozen BK348.out 2)); obtain ⟨hcz12_0, hcz12_1, hcz12_2, hfz12_0, hfz12_1, hfz12_2⟩ := c3_ BK348.out))
    refine bodyPost_ret (results_ct rfl _ _ gb348 64 #[.string a0_0, .int .i64 (wrap64 (a0_1 + a1)), .int .i64 a0_2] (0, 0) _ rfl (bp BK348.out) Try.underlying64 rfl (by kernel_rfl)) rfl ?_
    exact ⟨t1, wk HB.out⟩
   ·replace c7 := Bool.eq_false_iff.mpr c7
    subst c7
    rw [if_neg Bool.false_ne_true] at H
    simp only [Option.some.injEq, Prod.mk.injEq] at H
    obtain ⟨rfl, rfl, rfl, rfl⟩ := H
    go_enter Try.func30, Try.ntmps30
    go_wp2_with (first | (refine bx_ 2 #[.string a0_0, .int .i64 a0_1, .int .i64 a0_2] 64 ?_; intro gb347 hg w13 hbox hb; have BK347 := aS_ (hbox); have GW347 := ge_ hg (wk HB.out); have GE347 := ge_ hg (wk HB.out); replace HB := bw_ HB hb; clear hb hbox hg) | (refine bx_ 4 #[.string (⟨#[]⟩ : ByteArray), .int .i64 0, .int .i64 0] 64 ?_; intro gb348 hg w14 hbox hb; have BK348 := aS_ (hbox); have GW348 := ge_ hg (wk HB.out); have GE348 := ge_ hg (wk HB.out); replace HB := bw_ HB hb; have NB347_348 := nq_ hg (bk BK347.out); replace BK347 := bb_ BK347 hb; have NB348_347 := nr_ NB347_348; clear hb hbox hg; have hnb15 := NB347_348.out; have hnc15 := NB348_347.out; obtain ⟨hcz16_0, hcz16_1, hcz16_2, hfz16_0, hfz16_1, hfz16_2⟩ := c3_ BK347.out) | (refine cl_ (some 17) Try.func63 #[.string a0_0, .int .i64 a0_1] ?_; (with_reducible refine (sr03Get32.calls k a0_0 a0_1 t349 t350 _ A4.out).mono ?_); rintro e w' ⟨rfl, ⟨nd, rfl⟩⟩; refine ⟨_, rfl, ?_⟩; (try (rw [drewN_self w14]; generalize hq_ : World.drewN w14 _ = w14; have n0_ : Aside0 (w14.heap[gb347]? = some (.cells #[.string a0_0, .int .i64 a0_1, .int .i64 a0_2] 64 (0, 0))) := ⟨by rw [← hq_]; exact (bk BK347.out)⟩; have n1_ : Aside0 (w14.heap[gb348]? = some (.cells #[.string (⟨#[]⟩ : ByteArray), .int .i64 0, .int .i64 0] 64 (0, 0))) := ⟨by rw [← hq_]; exact (bk BK348.out)⟩; have n2_ : Aside0 (Below w.heap.size w w14) := ⟨by rw [← hq_]; exact (wk HB.out)⟩; clear BK347 BK348 HB hq_; have BK347 := n0_; have BK348 := n1_; have HB := n2_; clear n0_ n1_ n2_; have hkz_347_0 := (blk_cell BK347.out 0).trans rfl; have hkf_347_0 := blk_frozen BK347.out 0; have hkz_347_1 := (blk_cell BK347.out 1).trans rfl; have hkf_347_1 := blk_frozen BK347.out 1; have hkz_347_2 := (blk_cell BK347.out 2).trans rfl; have hkf_347_2 := blk_frozen BK347.out 2; have hkz_348_0 := (blk_cell BK348.out 0).trans rfl; have hkf_348_0 := blk_frozen BK348.out 0; have hkz_348_1 := (blk_cell BK348.out 1).trans rfl; have hkf_348_1 := blk_frozen BK348.out 1; have hkz_348_2 := (blk_cell BK348.out 2).trans rfl; have hkf_348_2 := blk_frozen BK348.out 2))) | (refine cl_ (some 27) Try.func64 #[.string a0_0, .int .i64 a0_1] ?_; (with_reducible refine (sr03Get16.calls k a0_0 a0_1 t351 false _ A6.out).mono ?_); rintro e w' ⟨rfl, ⟨nd, rfl⟩⟩; refine ⟨_, rfl, ?_⟩; (try (rw [drewN_self w14]; generalize hq_ : World.drewN w14 _ = w14; have n0_ : Aside0 (w14.heap[gb347]? = some (.cells #[.string a0_0, .int .i64 a0_1, .int .i64 a0_2] 64 (0, 0))) := ⟨by rw [← hq_]; exact (bk BK347.out)⟩; have n1_ : Aside0 (w14.heap[gb348]? = some (.cells #[.string (⟨#[]⟩ : ByteArray), .int .i64 0, .int .i64 0] 64 (0, 0))) := ⟨by rw [← hq_]; exact (bk BK348.out)⟩; have n2_ : Aside0 (Below w.heap.size w w14) := ⟨by rw [← hq_]; exact (wk HB.out)⟩; clear BK347 BK348 HB hq_; have BK347 := n0_; have BK348 := n1_; have HB := n2_; clear n0_ n1_ n2_; have hkz_347_0 := (blk_cell BK347.out 0).trans rfl; have hkf_347_0 := blk_frozen BK347.out 0; have hkz_347_1 := (blk_cell BK347.out 1).trans rfl; have hkf_347_1 := blk_frozen BK347.out 1; have hkz_347_2 := (blk_cell BK347.out 2).trans rfl; have hkf_347_2 := blk_frozen BK347.out 2; have hkz_348_0 := (blk_cell BK348.out 0).trans rfl; have hkf_348_0 := blk_frozen BK348.out 0; have hkz_348_1 := (blk_cell BK348.out 1).trans rfl; have hkf_348_1 := blk_frozen BK348.out 1; have hkz_348_2 := (blk_cell BK348.out 2).trans rfl; have hkf_348_2 := blk_frozen BK348.out 2)); obtain ⟨hcz17_0, hcz17_1, hcz17_2, hfz17_0, hfz17_1, hfz17_2⟩ := c3_ BK348.out))
    refine bodyPost_ret (results_ct rfl _ _ gb348 64 #[.string a0_0, .int .i64 a0_1, .int .i64 18] (0, 0) _ rfl (bp BK348.out) Try.underlying64 rfl (by kernel_rfl)) rfl ?_
    exact ⟨t1, wk HB.out⟩
  ·rw [if_neg c5] at H
   have c5b0 := beq_eq_false_iff_ne.mpr c5
   have c5b1 := bne_iff_ne.mpr c5
   by_cases c18 : t350 = true
   ·subst c18
    rw [if_pos rfl] at H
    simp only [Option.some.injEq, Prod.mk.injEq] at H
    obtain ⟨rfl, rfl, rfl, rfl⟩ := H
    go_enter Try.func30, Try.ntmps30
    go_wp2_with (first | (refine bx_ 2 #[.string a0_0, .int .i64 a0_1, .int .i64 a0_2] 64 ?_; intro gb347 hg w19 hbox hb; have BK347 := aS_ (hbox); have GW347 := ge_ hg (wk HB.out); have GE347 := ge_ hg (wk HB.out); replace HB := bw_ HB hb; clear hb hbox hg) | (refine bx_ 4 #[.string (⟨#[]⟩ : ByteArray), .int .i64 0, .int .i64 0] 64 ?_; intro gb348 hg w20 hbox hb; have BK348 := aS_ (hbox); have GW348 := ge_ hg (wk HB.out); have GE348 := ge_ hg (wk HB.out); replace HB := bw_ HB hb; have NB347_348 := nq_ hg (bk BK347.out); replace BK347 := bb_ BK347 hb; have NB348_347 := nr_ NB347_348; clear hb hbox hg; have hnb21 := NB347_348.out; have hnc21 := NB348_347.out; obtain ⟨hcz22_0, hcz22_1, hcz22_2, hfz22_0, hfz22_1, hfz22_2⟩ := c3_ BK347.out) | (refine cl_ (some 17) Try.func63 #[.string a0_0, .int .i64 a0_1] ?_; (with_reducible refine (sr03Get32.calls k a0_0 a0_1 t349 true _ A4.out).mono ?_); rintro e w' ⟨rfl, ⟨nd, rfl⟩⟩; refine ⟨_, rfl, ?_⟩; (try (rw [drewN_self w20]; generalize hq_ : World.drewN w20 _ = w20; have n0_ : Aside0 (w20.heap[gb347]? = some (.cells #[.string a0_0, .int .i64 a0_1, .int .i64 a0_2] 64 (0, 0))) := ⟨by rw [← hq_]; exact (bk BK347.out)⟩; have n1_ : Aside0 (w20.heap[gb348]? = some (.cells #[.string (⟨#[]⟩ : ByteArray), .int .i64 0, .int .i64 0] 64 (0, 0))) := ⟨by rw [← hq_]; exact (bk BK348.out)⟩; have n2_ : Aside0 (Below w.heap.size w w20) := ⟨by rw [← hq_]; exact (wk HB.out)⟩; clear BK347 BK348 HB hq_; have BK347 := n0_; have BK348 := n1_; have HB := n2_; clear n0_ n1_ n2_; have hkz_347_0 := (blk_cell BK347.out 0).trans rfl; have hkf_347_0 := blk_frozen BK347.out 0; have hkz_347_1 := (blk_cell BK347.out 1).trans rfl; have hkf_347_1 := blk_frozen BK347.out 1; have hkz_347_2 := (blk_cell BK347.out 2).trans rfl; have hkf_347_2 := blk_frozen BK347.out 2; have hkz_348_0 := (blk_cell BK348.out 0).trans rfl; have hkf_348_0 := blk_frozen BK348.out 0; have hkz_348_1 := (blk_cell BK348.out 1).trans rfl; have hkf_348_1 := blk_frozen BK348.out 1; have hkz_348_2 := (blk_cell BK348.out 2).trans rfl; have hkf_348_2 := blk_frozen BK348.out 2)); obtain ⟨hcz23_0, hcz23_1, hcz23_2, hfz23_0, hfz23_1, hfz23_2⟩ := c3_ BK348.out))
    refine bodyPost_ret (results_ct rfl _ _ gb348 64 #[.string a0_0, .int .i64 (wrap64 (a0_1 + a1)), .int .i64 a0_2] (0, 0) _ rfl (bp BK348.out) Try.underlying64 rfl (by kernel_rfl)) rfl ?_
    exact ⟨t1, wk HB.out⟩
   ·replace c18 := Bool.eq_false_iff.mpr c18
    subst c18
    rw [if_neg Bool.false_ne_true] at H
    simp only [Option.some.injEq, Prod.mk.injEq] at H
    obtain ⟨rfl, rfl, rfl, rfl⟩ := H
    go_enter Try.func30, Try.ntmps30
    go_wp2_with (first | (refine bx_ 2 #[.string a0_0, .int .i64 a0_1, .int .i64 a0_2] 64 ?_; intro gb347 hg w24 hbox hb; have BK347 := aS_ (hbox); have GW347 := ge_ hg (wk HB.out); have GE347 := ge_ hg (wk HB.out); replace HB := bw_ HB hb; clear hb hbox hg) | (refine bx_ 4 #[.string (⟨#[]⟩ : ByteArray), .int .i64 0, .int .i64 0] 64 ?_; intro gb348 hg w25 hbox hb; have BK348 := aS_ (hbox); have GW348 := ge_ hg (wk HB.out); have GE348 := ge_ hg (wk HB.out); replace HB := bw_ HB hb; have NB347_348 := nq_ hg (bk BK347.out); replace BK347 := bb_ BK347 hb; have NB348_347 := nr_ NB347_348; clear hb hbox hg; have hnb26 := NB347_348.out; have hnc26 := NB348_347.out; obtain ⟨hcz27_0, hcz27_1, hcz27_2, hfz27_0, hfz27_1, hfz27_2⟩ := c3_ BK347.out) | (refine cl_ (some 17) Try.func63 #[.string a0_0, .int .i64 a0_1] ?_; (with_reducible refine (sr03Get32.calls k a0_0 a0_1 t349 false _ A4.out).mono ?_); rintro e w' ⟨rfl, ⟨nd, rfl⟩⟩; refine ⟨_, rfl, ?_⟩; (try (rw [drewN_self w25]; generalize hq_ : World.drewN w25 _ = w25; have n0_ : Aside0 (w25.heap[gb347]? = some (.cells #[.string a0_0, .int .i64 a0_1, .int .i64 a0_2] 64 (0, 0))) := ⟨by rw [← hq_]; exact (bk BK347.out)⟩; have n1_ : Aside0 (w25.heap[gb348]? = some (.cells #[.string (⟨#[]⟩ : ByteArray), .int .i64 0, .int .i64 0] 64 (0, 0))) := ⟨by rw [← hq_]; exact (bk BK348.out)⟩; have n2_ : Aside0 (Below w.heap.size w w25) := ⟨by rw [← hq_]; exact (wk HB.out)⟩; clear BK347 BK348 HB hq_; have BK347 := n0_; have BK348 := n1_; have HB := n2_; clear n0_ n1_ n2_; have hkz_347_0 := (blk_cell BK347.out 0).trans rfl; have hkf_347_0 := blk_frozen BK347.out 0; have hkz_347_1 := (blk_cell BK347.out 1).trans rfl; have hkf_347_1 := blk_frozen BK347.out 1; have hkz_347_2 := (blk_cell BK347.out 2).trans rfl; have hkf_347_2 := blk_frozen BK347.out 2; have hkz_348_0 := (blk_cell BK348.out 0).trans rfl; have hkf_348_0 := blk_frozen BK348.out 0; have hkz_348_1 := (blk_cell BK348.out 1).trans rfl; have hkf_348_1 := blk_frozen BK348.out 1; have hkz_348_2 := (blk_cell BK348.out 2).trans rfl; have hkf_348_2 := blk_frozen BK348.out 2)); obtain ⟨hcz28_0, hcz28_1, hcz28_2, hfz28_0, hfz28_1, hfz28_2⟩ := c3_ BK348.out))
    refine bodyPost_ret (results_ct rfl _ _ gb348 64 #[.string a0_0, .int .i64 a0_1, .int .i64 18] (0, 0) _ rfl (bp BK348.out) Try.underlying64 rfl (by kernel_rfl)) rfl ?_
    exact ⟨t1, wk HB.out⟩
 ·rw [if_neg c3] at H
  have c3b0 := beq_eq_false_iff_ne.mpr c3
  have c3b1 := bne_iff_ne.mpr c3
  simp only [Option.some.injEq, Prod.mk.injEq] at H
  obtain ⟨rfl, rfl, rfl, rfl⟩ := H
  go_enter Try.func30, Try.ntmps30
  go_wp2_with (first | (refine bx_ 2 #[.string a0_0, .int .i64 a0_1, .int .i64 a0_2] 64 ?_; intro gb347 hg w29 hbox hb; have BK347 := aS_ (hbox); have GW347 := ge_ hg (wk HB.out); have GE347 := ge_ hg (wk HB.out); replace HB := bw_ HB hb; clear hb hbox hg) | (refine bx_ 4 #[.string (⟨#[]⟩ : ByteArray), .int .i64 0, .int .i64 0] 64 ?_; intro gb348 hg w30 hbox hb; have BK348 := aS_ (hbox); have GW348 := ge_ hg (wk HB.out); have GE348 := ge_ hg (wk HB.out); replace HB := bw_ HB hb; have NB347_348 := nq_ hg (bk BK347.out); replace BK347 := bb_ BK347 hb; have NB348_347 := nr_ NB347_348; clear hb hbox hg; have hnb31 := NB347_348.out; have hnc31 := NB348_347.out; obtain ⟨hcz32_0, hcz32_1, hcz32_2, hfz32_0, hfz32_1, hfz32_2⟩ := c3_ BK347.out; obtain ⟨hcz33_0, hcz33_1, hcz33_2, hfz33_0, hfz33_1, hfz33_2⟩ := c3_ BK348.out))
  refine bodyPost_ret (results_ct rfl _ _ gb348 64 #[.string a0_0, .int .i64 a0_1, .int .i64 a0_2] (0, 0) _ rfl (bp BK348.out) Try.underlying64 rfl (by kernel_rfl)) rfl ?_
  exact ⟨t1, wk HB.out⟩
/-! ### sr28read: function 29 -/
def sr28read.f (k : Nat) (a0_0 : ByteArray) (a0_1 : Int) (a0_2 : Int) : Option (ByteArray × Int × Int × ByteArray) := (sr28num.f k a0_0 a0_1 a0_2 4).bind fun bt355 => (if bt355.2.2.1 = 0 then (if bt355.2.2.2 > (wrap64 ((bt355.1.size : Int) - bt355.2.1)) then (some (bt355.1, bt355.2.1, 18, (⟨#[]⟩ : ByteArray))) else (if 0 ≤ bt355.2.1 then (if bt355.2.1 ≤ (wrap64 (bt355.2.1 + bt355.2.2.2)) then (if (wrap64 (bt355.2.1 + bt355.2.2.2)) ≤ (bt355.1.size : Int) then (some (bt355.1, wrap64 (bt355.2.1 + bt355.2.2.2), bt355.2.2.1, bt355.1.extract (bt355.2.1 : Int).toNat ((wrap64 (bt355.2.1 + bt355.2.2.2)) : Int).toNat)) else (none)) else (none)) else (none))) else (some (bt355.1, bt355.2.1, bt355.2.2.1, (⟨#[]⟩ : ByteArray))))
theorem cell_again_stylusref28_read (W : World) (g j : Nat) (v : Value) : (W.setCell ⟨g, j, none⟩ v).cell? ⟨g, j, none⟩ = Option.map (fun _ => v) (W.cell? ⟨g, j, none⟩) := by
 unfold World.setCell World.cell?
 simp only [Array.getElem?_modify, if_pos]
 cases W.heap[g]? with
 | none => rfl
 | some o =>
  cases o with
  | cells c e f =>
   by_cases h : j < c.size
   ·simp [h]
   ·simp [h]
  | _ => simp
set_option maxHeartbeats 8000000 in
set_option maxRecDepth 100000 in
theorem sr28read.calls (k : Nat) (a0_0 : ByteArray) (a0_1 : Int) (a0_2 : Int) (r1 : ByteArray) (r2 : Int) (r3 : Int) (r4 : ByteArray) (w : World) (h : sr28read.f k a0_0 a0_1 a0_2 = some (r1, r2, r3, r4)) :
  Calls Try.prog 29 #[.agg #[.string a0_0, .int .i64 a0_1, .int .i64 a0_2]] w fun e w' => e = .returned (.tuple #[.agg #[.string r1, .int .i64 r2, .int .i64 r3], .string r4]) ∧ Below w.heap.size w w' := by
 have hdd_ := cell_again_stylusref28_read
 have hmm_ : ∀ (u v : Value), Option.map (fun _ => v) (some u) = some v := fun _ _ => rfl
 have hu64 := Try.underlying64
 have HB := aS_ (Below.refl w.heap.size w)
 have H : ((sr28num.f k a0_0 a0_1 a0_2 4).bind fun bt355 => (if bt355.2.2.1 = 0 then (if bt355.2.2.2 > (wrap64 ((bt355.1.size : Int) - bt355.2.1)) then (some (bt355.1, bt355.2.1, 18, (⟨#[]⟩ : ByteArray))) else (if 0 ≤ bt355.2.1 then (if bt355.2.1 ≤ (wrap64 (bt355.2.1 + bt355.2.2.2)) then (if (wrap64 (bt355.2.1 + bt355.2.2.2)) ≤ (bt355.1.size : Int) then (some (bt355.1, wrap64 (bt355.2.1 + bt355.2.2.2), bt355.2.2.1, bt355.1.extract (bt355.2.1 : Int).toNat ((wrap64 (bt355.2.1 + bt355.2.2.2)) : Int).toNat)) else (none)) else (none)) else (none))) else (some (bt355.1, bt355.2.1, bt355.2.2.1, (⟨#[]⟩ : ByteArray))))) = some (r1, r2, r3, r4) := h
 clear h
 replace H := Option.bind_eq_some_iff.mp H
 obtain ⟨⟨t355, t356, t357, t358⟩, A20, H⟩ := H
 try dsimp only at H
 have A2 := aS_ A20
 clear A20
 by_cases c3 : t357 = 0
 ·rw [if_pos c3] at H
  have c3b0 := beq_iff_eq.mpr c3
  have c3b1 := bne_eq_false_iff_eq.mpr c3
  clear c3
  by_cases c4 : t358 > (wrap64 ((t355.size : Int) - t356))
  ·rw [if_pos c4] at H
   have c4b0 := decide_eq_true c4
   clear c4
   simp only [Option.some.injEq, Prod.mk.injEq] at H
   obtain ⟨rfl, rfl, rfl, rfl⟩ := H
   go_enter Try.func29, Try.ntmps29
   try have c4b0w0 := by have h_ := c4b0; rw [show wrap64 ((t355.size : Int) - t356) = (t355.size : Int) - t356 from by unfold wrap64; omega] at h_; exact h_
   go_wp2_with (first | (refine bx_ 1 #[.string a0_0, .int .i64 a0_1, .int .i64 a0_2] 64 ?_; intro gb353 hg w5 hbox hb; have BK353 := aS_ (hbox); have GW353 := ge_ hg (wk HB.out); have GE353 := ge_ hg (wk HB.out); replace HB := bw_ HB hb; clear hb hbox hg) | (refine bx_ 2 #[.string (⟨#[]⟩ : ByteArray), .int .i64 0, .int .i64 0] 64 ?_; intro gb354 hg w6 hbox hb; have BK354 := aS_ (hbox); have GW354 := ge_ hg (wk HB.out); have GE354 := ge_ hg (wk HB.out); replace HB := bw_ HB hb; have NB353_354 := nq_ hg (bk BK353.out); replace BK353 := bb_ BK353 hb; have NB354_353 := nr_ NB353_354; clear hb hbox hg; have hnb7 := NB353_354.out; have hnc7 := NB354_353.out; obtain ⟨hcz8_0, hcz8_1, hcz8_2, hfz8_0, hfz8_1, hfz8_2⟩ := c3_ BK353.out) | (refine cl_ (some 8) Try.func30 #[.agg #[.string a0_0, .int .i64 a0_1, .int .i64 a0_2], .int .i64 4] ?_; (with_reducible refine (sr28num.calls k a0_0 a0_1 a0_2 4 t355 t356 t357 t358 _ A2.out).mono ?_); rintro e w9 ⟨rfl, hb⟩; refine ⟨_, rfl, ?_⟩; replace BK353 := bb_ BK353 hb; replace BK354 := bb_ BK354 hb; replace HB := bw_ HB hb; try clear hb; obtain ⟨hcz10_0, hcz10_1, hcz10_2, hfz10_0, hfz10_1, hfz10_2⟩ := c3_ BK353.out; obtain ⟨hcz11_0, hcz11_1, hcz11_2, hfz11_0, hfz11_1, hfz11_2⟩ := c3_ BK354.out))
   refine bodyPost_ret (results_ct rfl _ _ gb354 64 #[.string t355, .int .i64 t356, .int .i64 18] (0, 0) _ rfl (bp BK354.out) Try.underlying64 rfl (by kernel_rfl)) rfl ?_
   exact ⟨t1, wk HB.out⟩
  ·rw [if_neg c4] at H
   have c4b0 := decide_eq_false c4
   clear c4
   by_cases c12 : 0 ≤ t356
   ·rw [if_pos c12] at H
    have c12b0 := eq_true c12
    have c12b1 := decide_eq_true c12
    clear c12
    by_cases c13 : t356 ≤ (wrap64 (t356 + t358))
    ·rw [if_pos c13] at H
     have c13b0 := eq_true c13
     have c13b1 := decide_eq_true c13
     by_cases c14 : (wrap64 (t356 + t358)) ≤ (t355.size : Int)
     ·rw [if_pos c14] at H
      have c14b0 := eq_true c14
      have c14b1 := decide_eq_true c14
      simp only [Option.some.injEq, Prod.mk.injEq] at H
      obtain ⟨rfl, rfl, rfl, rfl⟩ := H
      go_enter Try.func29, Try.ntmps29
      try have c4b0w0 := by have h_ := c4b0; rw [show wrap64 ((t355.size : Int) - t356) = (t355.size : Int) - t356 from by unfold wrap64; omega] at h_; exact h_
      go_wp2_with (first | (refine bx_ 1 #[.string a0_0, .int .i64 a0_1, .int .i64 a0_2] 64 ?_; intro gb353 hg w15 hbox hb; have BK353 := aS_ (hbox); have GW353 := ge_ hg (wk HB.out); have GE353 := ge_ hg (wk HB.out); replace HB := bw_ HB hb; clear hb hbox hg) | (refine bx_ 2 #[.string (⟨#[]⟩ : ByteArray), .int .i64 0, .int .i64 0] 64 ?_; intro gb354 hg w16 hbox hb; have BK354 := aS_ (hbox); have GW354 := ge_ hg (wk HB.out); have GE354 := ge_ hg (wk HB.out); replace HB := bw_ HB hb; have NB353_354 := nq_ hg (bk BK353.out); replace BK353 := bb_ BK353 hb; have NB354_353 := nr_ NB353_354; clear hb hbox hg; have hnb17 := NB353_354.out; have hnc17 := NB354_353.out; obtain ⟨hcz18_0, hcz18_1, hcz18_2, hfz18_0, hfz18_1, hfz18_2⟩ := c3_ BK353.out) | (refine cl_ (some 8) Try.func30 #[.agg #[.string a0_0, .int .i64 a0_1, .int .i64 a0_2], .int .i64 4] ?_; (with_reducible refine (sr28num.calls k a0_0 a0_1 a0_2 4 t355 t356 t357 t358 _ A2.out).mono ?_); rintro e w19 ⟨rfl, hb⟩; refine ⟨_, rfl, ?_⟩; replace BK353 := bb_ BK353 hb; replace BK354 := bb_ BK354 hb; replace HB := bw_ HB hb; try clear hb; obtain ⟨hcz20_0, hcz20_1, hcz20_2, hfz20_0, hfz20_1, hfz20_2⟩ := c3_ BK353.out; obtain ⟨hcz21_0, hcz21_1, hcz21_2, hfz21_0, hfz21_1, hfz21_2⟩ := c3_ BK354.out))
      refine bodyPost_ret (results_ct rfl _ _ gb354 64 #[.string t355, .int .i64 (wrap64 (t356 + t358)), .int .i64 t357] (0, 0) _ rfl (bp BK354.out) Try.underlying64 rfl (by kernel_rfl)) rfl ?_
      exact ⟨t1, wk HB.out⟩
     ·rw [if_neg c14] at H
      exact absurd H (by simp)
    ·rw [if_neg c13] at H
     exact absurd H (by simp)
   ·rw [if_neg c12] at H
    exact absurd H (by simp)
 ·rw [if_neg c3] at H
  have c3b0 := beq_eq_false_iff_ne.mpr c3
  have c3b1 := bne_iff_ne.mpr c3
  simp only [Option.some.injEq, Prod.mk.injEq] at H
  obtain ⟨rfl, rfl, rfl, rfl⟩ := H
  go_enter Try.func29, Try.ntmps29
  go_wp2_with (first | (refine bx_ 1 #[.string a0_0, .int .i64 a0_1, .int .i64 a0_2] 64 ?_; intro gb353 hg w22 hbox hb; have BK353 := aS_ (hbox); have GW353 := ge_ hg (wk HB.out); have GE353 := ge_ hg (wk HB.out); replace HB := bw_ HB hb; clear hb hbox hg) | (refine bx_ 2 #[.string (⟨#[]⟩ : ByteArray), .int .i64 0, .int .i64 0] 64 ?_; intro gb354 hg w23 hbox hb; have BK354 := aS_ (hbox); have GW354 := ge_ hg (wk HB.out); have GE354 := ge_ hg (wk HB.out); replace HB := bw_ HB hb; have NB353_354 := nq_ hg (bk BK353.out); replace BK353 := bb_ BK353 hb; have NB354_353 := nr_ NB353_354; clear hb hbox hg; have hnb24 := NB353_354.out; have hnc24 := NB354_353.out; obtain ⟨hcz25_0, hcz25_1, hcz25_2, hfz25_0, hfz25_1, hfz25_2⟩ := c3_ BK353.out) | (refine cl_ (some 8) Try.func30 #[.agg #[.string a0_0, .int .i64 a0_1, .int .i64 a0_2], .int .i64 4] ?_; (with_reducible refine (sr28num.calls k a0_0 a0_1 a0_2 4 t355 t356 t357 t358 _ A2.out).mono ?_); rintro e w26 ⟨rfl, hb⟩; refine ⟨_, rfl, ?_⟩; replace BK353 := bb_ BK353 hb; replace BK354 := bb_ BK354 hb; replace HB := bw_ HB hb; try clear hb; obtain ⟨hcz27_0, hcz27_1, hcz27_2, hfz27_0, hfz27_1, hfz27_2⟩ := c3_ BK353.out; obtain ⟨hcz28_0, hcz28_1, hcz28_2, hfz28_0, hfz28_1, hfz28_2⟩ := c3_ BK354.out))
  refine bodyPost_ret (results_ct rfl _ _ gb354 64 #[.string t355, .int .i64 t356, .int .i64 t357] (0, 0) _ rfl (bp BK354.out) Try.underlying64 rfl (by kernel_rfl)) rfl ?_
  exact ⟨t1, wk HB.out⟩
/-! ### sr28list: function 32 -/
mutual
def sr28list.l0 : Nat → List (S88) → Int → Int → ByteArray → Int → Int → Option (ByteArray × Int × Int × (List (S88)))
 | 0, _, _, _, _, _, _ => none
 | k + 1, x4, x5, x6, x360000, x360001, x360002 => if x6 < x5 then (sr28list.j1 k x4 x5 x6 (x360002 == 0) x360000 x360001 x360002) else (sr28list.j1 k x4 x5 x6 false x360000 x360001 x360002)
def sr28list.j1 : Nat → List (S88) → Int → Int → Bool → ByteArray → Int → Int → Option (ByteArray × Int × Int × (List (S88)))
 | 0, _, _, _, _, _, _, _ => none
 | k + 1, x4, x5, x6, x20, x360000, x360001, x360002 => if x20 = true then ((sr28num.f k x360000 x360001 x360002 4).bind fun bt366 => ((sr28read.f k bt366.1 bt366.2.1 bt366.2.2.1).bind fun bt370 => ((sr28read.f k bt370.1 bt370.2.1 bt370.2.2.1).bind fun bt374 => (if x4.length < 3518437208883 then (sr28list.l0 k (x4 ++ [(⟨bt366.2.2.2, bt370.2.2.2, bt374.2.2.2⟩ : S88)]) x5 (wrap64 (x6 + 1)) bt374.1 bt374.2.1 bt374.2.2.1) else (none))))) else (some (x360000, x360001, x360002, x4))
end
def sr28list.f (k : Nat) (a0_0 : ByteArray) (a0_1 : Int) (a0_2 : Int) : Option (ByteArray × Int × Int × (List (S88))) := (sr28num.f k a0_0 a0_1 a0_2 2).bind fun bt361 => (sr28list.l0 k ([] : List (S88)) bt361.2.2.2 0 bt361.1 bt361.2.1 bt361.2.2.1)
set_option maxHeartbeats 8000000 in
set_option maxRecDepth 100000 in
theorem sr28list.calls (k : Nat) (a0_0 : ByteArray) (a0_1 : Int) (a0_2 : Int) (r1 : ByteArray) (r2 : Int) (r3 : Int) (r4 : List (S88)) (w : World) (h : sr28list.f k a0_0 a0_1 a0_2 = some (r1, r2, r3, r4)) :
  Calls Try.prog 32 #[.agg #[.string a0_0, .int .i64 a0_1, .int .i64 a0_2]] w fun e w' => ∃ v3_ : Value, e = .returned (.tuple #[.agg #[.string r1, .int .i64 r2, .int .i64 r3], v3_]) ∧ Kd.R k88 88 w' w.heap.size (fun _ => True) v3_ r4 ∧ Below w.heap.size w w' := by
 have hu64 := Try.underlying64
 have hu88 := Try.underlying88
 have HB := aS_ (Below.refl w.heap.size w)
 have H : ((sr28num.f k a0_0 a0_1 a0_2 2).bind fun bt361 => (sr28list.l0 k ([] : List (S88)) bt361.2.2.2 0 bt361.1 bt361.2.1 bt361.2.2.1)) = some (r1, r2, r3, r4) := h
 clear h
 replace H := Option.bind_eq_some_iff.mp H
 obtain ⟨⟨t361, t362, t363, t364⟩, A20, H⟩ := H
 try dsimp only at H
 have A2 := aS_ A20
 clear A20
 have H' := aS_ H
 clear H
 go_enter Try.func32, Try.ntmps32
 go_wp2_with (first | (refine bx_ 1 #[.string a0_0, .int .i64 a0_1, .int .i64 a0_2] 64 ?_; intro gb359 hg w3 hbox hb; have BK359 := aS_ (hbox); have GW359 := ge_ hg (wk HB.out); have GE359 := ge_ hg (wk HB.out); replace HB := bw_ HB hb; clear hb hbox hg) | (refine bx_ 2 #[.string (⟨#[]⟩ : ByteArray), .int .i64 0, .int .i64 0] 64 ?_; intro gb360 hg w4 hbox hb; have BK360 := aS_ (hbox); have GW360 := ge_ hg (wk HB.out); have GE360 := ge_ hg (wk HB.out); replace HB := bw_ HB hb; have NB359_360 := nq_ hg (bk BK359.out); replace BK359 := bb_ BK359 hb; have NB360_359 := nr_ NB359_360; clear hb hbox hg; have hnb5 := NB359_360.out; have hnc5 := NB360_359.out; obtain ⟨hcz6_0, hcz6_1, hcz6_2, hfz6_0, hfz6_1, hfz6_2⟩ := c3_ BK359.out) | (refine cl_ (some 10) Try.func30 #[.agg #[.string a0_0, .int .i64 a0_1, .int .i64 a0_2], .int .i64 2] ?_; (with_reducible refine (sr28num.calls k a0_0 a0_1 a0_2 2 t361 t362 t363 t364 _ A2.out).mono ?_); rintro e w7 ⟨rfl, hb⟩; refine ⟨_, rfl, ?_⟩; replace BK359 := bb_ BK359 hb; replace BK360 := bb_ BK360 hb; replace HB := bw_ HB hb; try clear hb; obtain ⟨hcz8_0, hcz8_1, hcz8_2, hfz8_0, hfz8_1, hfz8_2⟩ := c3_ BK359.out))
 go_loopg [4, 6] k (fun kq v4 v6 w' => ∃ (x4_1 : List (S88)) (x6_1 : Int) (x360000_1 : ByteArray) (x360001_1 : Int) (x360002_1 : Int), v6 = .int .i64 x6_1 ∧ Aside0 (sr28list.l0 kq x4_1 t364 x6_1 x360000_1 x360001_1 x360002_1 = some (r1, r2, r3, r4)) ∧ Aside0 (kq ≤ k) ∧ Aside0 (Kd.R k88 88 w' w.heap.size (fun _ => True) v4 x4_1) ∧ Aside0 (w'.heap[gb359]? = some (.cells #[.string x360000_1, .int .i64 x360001_1, .int .i64 x360002_1] 64 (0, 0))) ∧ Aside0 (w'.heap[gb360]? = some (.cells #[.string (⟨#[]⟩ : ByteArray), .int .i64 0, .int .i64 0] 64 (0, 0))) ∧ Aside0 (Below w.heap.size w w'))
 case atStart => exact ⟨(([] : List (S88))), (0), (t361), (t362), (t363), t0, H', ⟨Nat.le_refl _⟩, ⟨by first | exact Kd.R_nil _ _ _ _ _ | exact Kd.N_nil _ _ _ _ _ | exact Kd.V_nil _ _ _ _ _ | exact Kd.Q_nil _ _ _ _ _ | exact Kd.S_nil _ _ _ _ _⟩, ⟨bp BK359.out⟩, ⟨bq BK360.out⟩, ⟨wk HB.out⟩⟩
 case round =>
  clear H'
  try clear p2
  try clear c3
  try clear c5
  try clear hcz6_0 hcz6_1 hcz6_2 hcz8_0 hcz8_1 hcz8_2 hfz6_0 hfz6_1 hfz6_2 hfz8_0 hfz8_1 hfz8_2
  obtain ⟨x4_1, x6_1, x360000_1, x360001_1, x360002_1, rfl, HA, HK1, HO_4, BK359, BK360, HB⟩ := hrel
  cases gk with
  | zero => exact absurd HA.out (by simp [sr28list.l0])
  | succ k1 =>
   have H := HA.out
   clear HA
   simp only [sr28list.l0] at H
   have HC9 := aS_ H
   clear H
   go_upto_region 4 with (fail)
   go_cut [20] (fun v20 wc => ∃ (kq : Nat) (x20_8 : Bool), v20 = .bool x20_8 ∧ Aside0 (sr28list.j1 kq x4_1 t364 x6_1 x20_8 x360000_1 x360001_1 x360002_1 = some (r1, r2, r3, r4)) ∧ Aside0 (kq ≤ k1) ∧ Aside0 (Kd.R k88 88 wc w.heap.size (fun _ => True) u4 x4_1) ∧ Aside0 (wc.heap[gb359]? = some (.cells #[.string x360000_1, .int .i64 x360001_1, .int .i64 x360002_1] 64 (0, 0))) ∧ Aside0 (wc.heap[gb360]? = some (.cells #[.string (⟨#[]⟩ : ByteArray), .int .i64 0, .int .i64 0] 64 (0, 0))) ∧ Aside0 (Below w.heap.size w wc))
   case first =>
    have H := HC9.out
    clear HC9
    by_cases c10 : x6_1 < t364
    ·rw [if_pos c10] at H
     have c10b0 := decide_eq_true c10
     clear c10
     (first | rw [c10b0] | (simp only [i64_w, i32_w]; rw [c10b0]) | skip)
     have H' := aS_ H
     clear H
     have hnb11 := NB359_360.out
     have hnc11 := NB360_359.out
     obtain ⟨hcz12_0, hcz12_1, hcz12_2, hfz12_0, hfz12_1, hfz12_2⟩ := c3_ BK359.out
     go_wp2
     go_meet
     case rel => exact ⟨_, ((x360002_1 == 0)), t0, H', ⟨t2 HK1⟩, ⟨rk HO_4.out⟩, ⟨bq BK359.out⟩, ⟨bq BK360.out⟩, ⟨wk HB.out⟩⟩
    ·rw [if_neg c10] at H
     have c10b0 := decide_eq_false c10
     clear c10
     (first | rw [c10b0] | (simp only [i64_w, i32_w]; rw [c10b0]) | skip)
     have H' := aS_ H
     clear H
     go_wp2
     go_meet
     case rel => exact ⟨_, (false), t0, H', ⟨t2 HK1⟩, ⟨rk HO_4.out⟩, ⟨bq BK359.out⟩, ⟨bq BK360.out⟩, ⟨wk HB.out⟩⟩
   case rest =>
    clear HC9
    try clear c1
    try clear p2
    try clear c3
    try clear c5
    try clear c10
    try clear c10b0
    try clear c11
    try clear hcz12_0 hcz12_1 hcz12_2 hcz6_0 hcz6_1 hcz6_2 hcz8_0 hcz8_1 hcz8_2 hfz12_0 hfz12_1 hfz12_2 hfz6_0 hfz6_1 hfz6_2 hfz8_0 hfz8_1 hfz8_2
    try clear p2
    obtain ⟨kq, x20_8, rfl, HA, HJ8, HO_4, BK359, BK360, HB⟩ := hcut
    cases kq with
    | zero => exact absurd HA.out (by simp [sr28list.j1])
    | succ kj8 =>
     have H := HA.out
     clear HA
     simp only [sr28list.j1] at H
     by_cases c13 : x20_8 = true
     ·subst c13
      rw [if_pos rfl] at H
      replace H := Option.bind_eq_some_iff.mp H
      obtain ⟨⟨t366, t367, t368, t369⟩, A140, H⟩ := H
      try dsimp only at H
      have A14 := aS_ A140
      clear A140
      replace H := Option.bind_eq_some_iff.mp H
      obtain ⟨⟨t370, t371, t372, t373⟩, A150, H⟩ := H
      try dsimp only at H
      have A15 := aS_ A150
      clear A150
      replace H := Option.bind_eq_some_iff.mp H
      obtain ⟨⟨t374, t375, t376, t377⟩, A160, H⟩ := H
      try dsimp only at H
      have A16 := aS_ A160
      clear A160
      by_cases c17 : x4_1.length < 3518437208883
      ·rw [if_pos c17] at H
       have LMc17 := aS_ c17
       clear c17
       obtain ⟨y378, hy378⟩ : ∃ y_ : List (S88), y_ = (x4_1 ++ [(⟨t369, t373, t377⟩ : S88)]) := ⟨_, rfl⟩
       replace H : (sr28list.l0 kj8 y378 t364 (wrap64 (x6_1 + 1)) t374 t375 t376) = some (r1, r2, r3, r4) := by first | (rw [hy378]; with_reducible exact H) | (have H2_ := (Option.bind_some _ _).symm.trans H; rw [hy378]; with_reducible exact H2_) | (have H2_ := (Option.bind_some _ _).symm.trans H; with_reducible exact H2_) | with_reducible exact H | (rw [hy378]; exact H) | exact H
       have Ny378 := aS_ hy378
       clear hy378
       have H' := aS_ H
       clear H
       go_wp2_with (first | (refine bx_ 7 #[.int .i64 0, .string (⟨#[]⟩ : ByteArray), .string (⟨#[]⟩ : ByteArray)] 88 ?_; intro gb365 hg w18 hbox hb; replace HO_4 := aS_ (Kd.R_below (Kd.R_elderB (rk HO_4.out) gb365 (Nat.le_of_eq hg.symm)) hb); have BK365 := aS_ (hbox); have GW365 := ge_ hg (wk HB.out); have GE365 := ge_ hg (wk HB.out); replace HB := bw_ HB hb; have NB359_365 := nq_ hg (bk BK359.out); replace BK359 := bb_ BK359 hb; have NB365_359 := nr_ NB359_365; have NB360_365 := nq_ hg (bk BK360.out); replace BK360 := bb_ BK360 hb; have NB365_360 := nr_ NB360_365; clear hb hbox hg; have hnb19 := NB359_360.out; have hnc19 := NB360_359.out; have hnb20 := NB359_365.out; have hnc20 := NB365_359.out; obtain ⟨hcz21_0, hcz21_1, hcz21_2, hfz21_0, hfz21_1, hfz21_2⟩ := c3_ BK359.out) | (refine cl_ (some 25) Try.func30 #[.agg #[.string x360000_1, .int .i64 x360001_1, .int .i64 x360002_1], .int .i64 4] ?_; (with_reducible refine (sr28num.calls kj8 x360000_1 x360001_1 x360002_1 4 t366 t367 t368 t369 _ A14.out).mono ?_); rintro e w22 ⟨rfl, hb⟩; refine ⟨_, rfl, ?_⟩; replace HO_4 := rb_ HO_4 hb; replace BK359 := bb_ BK359 hb; replace BK360 := bb_ BK360 hb; replace BK365 := bb_ BK365 hb; replace HB := bw_ HB hb; try clear hb; obtain ⟨hcz23_0, hcz23_1, hcz23_2, hfz23_0, hfz23_1, hfz23_2⟩ := c3_ BK359.out; have hnb24 := NB365_360.out; have hnc24 := NB360_365.out; obtain ⟨hcz25_0, hcz25_1, hcz25_2, hfz25_0, hfz25_1, hfz25_2⟩ := c3_ BK365.out) | (refine cl_ (some 31) Try.func29 #[.agg #[.string t366, .int .i64 t367, .int .i64 t368]] ?_; (with_reducible refine (sr28read.calls kj8 t366 t367 t368 t370 t371 t372 t373 _ A15.out).mono ?_); rintro e w26 ⟨rfl, hb⟩; refine ⟨_, rfl, ?_⟩; replace HO_4 := aS_ (Kd.R_below (by (with_reducible repeat (first | apply Kd.R_alloc | apply Kd.R_drewN | apply Kd.R_drew)); exact (Kd.R_mono (Kd.R_mono (Kd.R_far (p := ⟨gb365, 0, none⟩) (Kd.R_far (p := ⟨gb359, 2, none⟩) (Kd.R_far (p := ⟨gb359, 1, none⟩) (Kd.R_far (p := ⟨gb359, 0, none⟩) (Kd.R_mono (Kd.R_types HO_4.out BK359.out (by decide)) (fun k_ hk => (⟨hk, hk.1.2⟩ : _ ∧ k_ ≠ gb365))) (fun _ hk => hk.1.2) (.string t366)) (fun _ hk => hk.1.2) (.int .i64 t367)) (fun _ hk => hk.1.2) (.int .i64 t368)) (fun _ hk => hk.2) (.int .i64 t369)) (fun _ h_ => h_.1)) (fun _ h_ => h_.1))) hb); replace BK359 := aS_ (blk_below (g := gb359) (o := .cells #[.string t366, .int .i64 t367, .int .i64 t368] 64 (0, 0)) (bp BK359.out) hb); replace BK360 := aS_ (blk_below (bq BK360.out) hb); replace BK365 := aS_ (blk_below (g := gb365) (o := .cells #[.int .i64 t369, .string (⟨#[]⟩ : ByteArray), .string (⟨#[]⟩ : ByteArray)] 88 (0, 0)) (bp BK365.out) hb); replace HB := bw_ HB hb; try clear hb; obtain ⟨hcz27_0, hcz27_1, hcz27_2, hfz27_0, hfz27_1, hfz27_2⟩ := c3_ BK359.out; obtain ⟨hcz28_0, hcz28_1, hcz28_2, hfz28_0, hfz28_1, hfz28_2⟩ := c3_ BK365.out) | (refine cl_ (some 37) Try.func29 #[.agg #[.string t370, .int .i64 t371, .int .i64 t372]] ?_; (with_reducible refine (sr28read.calls kj8 t370 t371 t372 t374 t375 t376 t377 _ A16.out).mono ?_); rintro e w29 ⟨rfl, hb⟩; refine ⟨_, rfl, ?_⟩; replace HO_4 := aS_ (Kd.R_below (by (with_reducible repeat (first | apply Kd.R_alloc | apply Kd.R_drewN | apply Kd.R_drew)); exact (Kd.R_mono (Kd.R_mono (Kd.R_far (p := ⟨gb365, 1, none⟩) (Kd.R_far (p := ⟨gb359, 2, none⟩) (Kd.R_far (p := ⟨gb359, 1, none⟩) (Kd.R_far (p := ⟨gb359, 0, none⟩) (Kd.R_mono (Kd.R_types HO_4.out BK359.out (by decide)) (fun k_ hk => (⟨hk, hk.1.2⟩ : _ ∧ k_ ≠ gb365))) (fun _ hk => hk.1.2) (.string t370)) (fun _ hk => hk.1.2) (.int .i64 t371)) (fun _ hk => hk.1.2) (.int .i64 t372)) (fun _ hk => hk.2) (.string t373)) (fun _ h_ => h_.1)) (fun _ h_ => h_.1))) hb); replace BK359 := aS_ (blk_below (g := gb359) (o := .cells #[.string t370, .int .i64 t371, .int .i64 t372] 64 (0, 0)) (bp BK359.out) hb); replace BK360 := aS_ (blk_below (bq BK360.out) hb); replace BK365 := aS_ (blk_below (g := gb365) (o := .cells #[.int .i64 t369, .string t373, .string (⟨#[]⟩ : ByteArray)] 88 (0, 0)) (bp BK365.out) hb); replace HB := bw_ HB hb; try clear hb; obtain ⟨hcz30_0, hcz30_1, hcz30_2, hfz30_0, hfz30_1, hfz30_2⟩ := c3_ BK359.out; obtain ⟨hcz31_0, hcz31_1, hcz31_2, hfz31_0, hfz31_1, hfz31_2⟩ := c3_ BK365.out) | ((with_reducible refine gate_builtin (b := .append) (xs := #[.tmp 41, .tmp 43]) rfl ?_); at_builtin; refine Kd.R_append k88 (w0 := w) w.heap.size rfl (.tmp 41) (.tmp 43) 24 88 (.agg #[(.int .i64 0), (.string ⟨#[]⟩), (.string ⟨#[]⟩)]) 40 rfl Try.underlying24 info88 rfl (by decide) (by omega) u4 x4_1 (⟨t369, t373, t377⟩ : S88) [.int .i64 t369, .string t373, .string t377] (fun k_ => k_ ≠ gb365) (fun _ => False) rfl (by first | (go_simp; done) | (go_simp; rfl)) ?aP (fun _ hk => hk.elim) ?aF ?aO ?aB ?aS ?aL ?_; (case aP => exact k88_mkM _ _ _ (⟨t369, t373, t377⟩ : S88)); (case aB => exact (wk HB.out)); (case aF => exact (fun k_ hk => Kd.freshB (g := gb365) (o := .cells #[.int .i64 t369, .string t373, .string t377] 88 (0, 0)) (bp BK365.out) k_ hk)); (case aO => exact (by (with_reducible repeat (first | apply Kd.R_alloc | apply Kd.R_drewN | apply Kd.R_drew)); exact Kd.R_mono (Kd.R_far (p := ⟨gb365, 2, none⟩) (Kd.R_far (p := ⟨gb359, 2, none⟩) (Kd.R_far (p := ⟨gb359, 1, none⟩) (Kd.R_far (p := ⟨gb359, 0, none⟩) (Kd.R_mono (Kd.R_types HO_4.out BK359.out (by decide)) (fun k_ hk => (⟨hk, hk.1.2⟩ : _ ∧ k_ ≠ gb365))) (fun _ hk => hk.1.2) (.string t374)) (fun _ hk => hk.1.2) (.int .i64 t375)) (fun _ hk => hk.1.2) (.int .i64 t376)) (fun _ hk => hk.2) (.string t377)) (fun _ hk => hk.1.1.2))); (case aS => exact (below_size (wk HB.out))); (case aL => have := LMc17.out; omega); intro v379 w32 ho hb hg hat; rw [← Ny378.out] at ho; have n0_ := aS_ (blk_grown (g := gb359) (o := .cells #[.string t374, .int .i64 t375, .int .i64 t376] 64 (0, 0)) (bp BK359.out) hg (Kd.R_ne HO_4.out BK359.out (by decide))); have n1_ := aS_ (blk_grown (g := gb360) (o := .cells #[.string (⟨#[]⟩ : ByteArray), .int .i64 0, .int .i64 0] 64 (0, 0)) (bq BK360.out) hg (Kd.R_ne HO_4.out BK360.out (by decide))); have n2_ := aS_ (blk_grown (g := gb365) (o := .cells #[.int .i64 t369, .string t373, .string t377] 88 (0, 0)) (bp BK365.out) hg (Kd.R_away HO_4.out (fun _ hk => hk.2))); have n3_ := aS_ (hb); have n4_ := aS_ (ho); clear BK359; clear BK360; clear BK365; clear HB; clear HO_4; have BK359 := n0_; have BK360 := n1_; have BK365 := n2_; have HB := n3_; have HO380 := n4_; clear n0_ n1_ n2_ n3_ n4_; clear ho hb hg hat))
       go_roundg kj8
       case measure => have := HK1.out; have := HJ8.out; omega
       case rel => exact ⟨(y378), (wrap64 (x6_1 + 1)), (t374), (t375), (t376), t0, H', ⟨by have := HK1.out; have := HJ8.out; omega⟩, ⟨by (with_reducible repeat (first | apply Kd.R_alloc | apply Kd.R_drewN | apply Kd.R_drew)); exact Kd.R_mono HO380.out (fun _ hk => trivial)⟩, ⟨bq BK359.out⟩, ⟨bq BK360.out⟩, ⟨wk HB.out⟩⟩
      ·rw [if_neg c17] at H
       exact absurd H (by simp)
     ·replace c13 := Bool.eq_false_iff.mpr c13
      subst c13
      rw [if_neg Bool.false_ne_true] at H
      simp only [Option.some.injEq, Prod.mk.injEq] at H
      obtain ⟨rfl, rfl, rfl, rfl⟩ := H
      have hnb33 := NB359_360.out
      have hnc33 := NB360_359.out
      obtain ⟨hcz34_0, hcz34_1, hcz34_2, hfz34_0, hfz34_1, hfz34_2⟩ := c3_ BK359.out
      obtain ⟨hcz35_0, hcz35_1, hcz35_2, hfz35_0, hfz35_1, hfz35_2⟩ := c3_ BK360.out
      go_wp2
      refine bodyPost_ret (results_ct rfl _ _ gb360 64 #[.string x360000_1, .int .i64 x360001_1, .int .i64 x360002_1] (0, 0) _ rfl (bp BK360.out) Try.underlying64 rfl (by kernel_rfl)) rfl ?_
      exact ⟨_, t1, by (with_reducible repeat (first | apply Kd.R_alloc | apply Kd.R_drewN | apply Kd.R_drew)); exact Kd.R_mono (Kd.R_far (p := ⟨gb360, 2, none⟩) (Kd.R_far (p := ⟨gb360, 1, none⟩) (Kd.R_far (p := ⟨gb360, 0, none⟩) (Kd.R_types HO_4.out BK360.out (by decide)) (fun _ hk => hk.2) (.string x360000_1)) (fun _ hk => hk.2) (.int .i64 x360001_1)) (fun _ hk => hk.2) (.int .i64 x360002_1)) (fun _ hk => trivial), wk HB.out⟩
end Go.Proofs.Ytnndanfghlnpfaa.P
