-- Laid by a program of this session (wip/tools/fork_print.py over the kit's print) out of Lean's print of the translation. Lean checks it.
import Derived.Test.YtbcokholddlpbaaPx0
namespace Go.Proofs.Ytbcokholddlpbaa.P
open Go.RowKit Go.Proofs.YtbcokholddlpbaaW.PrintWords Go.Proofs.YtbcokholddlpbaaW.PrintLast Go.Proofs.YtbcokholddlpbaaW.PrintMore
attribute [local go_sem] max2_int min2_int max_two min_two max_three min_three max_four min_four   -- for this text's walks alone
set_option linter.unusedVariables false
set_option linter.unusedSimpArgs false

/-! ### styluslaw24_few: function 5 -/
mutual
def styluslaw24_few.l0 : Nat → List (S28) → Int → Option (Bool)
  | 0, _, _ => none
  | k + 1, x0, x3 => if x3 < (x0.length : Int) then (if 0 ≤ x3 then (if (((rd_T28 x0 x3).f0).length : Int) > 40 then (some false) else (styluslaw24_few.l1 k x0 x3 0)) else (none)) else (some true)
def styluslaw24_few.l1 : Nat → List (S28) → Int → Int → Option (Bool)
  | 0, _, _, _ => none
  | k + 1, x0, x3, x4 => if 0 ≤ x3 then (if x3 < (x0.length : Int) then (if x4 < (((rd_T28 x0 x3).f0).length : Int) then (if 0 ≤ x4 then (if (((rd_T38 ((rd_T28 x0 x3).f0) x4).f1).size : Int) > 300 then (some false) else (if (((rd_T38 ((rd_T28 x0 x3).f0) x4).f2).size : Int) > 300 then (some false) else (styluslaw24_few.l1 k x0 x3 (wrap64 (x4 + 1))))) else (none)) else (styluslaw24_few.l0 k x0 (wrap64 (x3 + 1)))) else (none)) else (none)
end
def styluslaw24_few.f (k : Nat) (l0 : List (S28)) : Option (Bool) := if (l0.length : Int) > 20 then (some false) else (styluslaw24_few.l0 k l0 0)
theorem styluslaw24_few.mono_l : ∀ k, (∀ y0 y1, LeO (styluslaw24_few.l0 k y0 y1) (styluslaw24_few.l0 (k + 1) y0 y1)) ∧ (∀ y0 y1 y2, LeO (styluslaw24_few.l1 k y0 y1 y2) (styluslaw24_few.l1 (k + 1) y0 y1 y2))
  | 0 => ⟨fun _ _ r h => by simp [styluslaw24_few.l0] at h, fun _ _ _ r h => by simp [styluslaw24_few.l1] at h⟩
  | k + 1 => by
    obtain ⟨ih0, ih1⟩ := styluslaw24_few.mono_l k
    refine ⟨?_, ?_⟩
    · intro y0 y1
      unfold styluslaw24_few.l0
      repeat' first
      | (with_reducible exact ih0 _ _)
      | (with_reducible exact ih1 _ _ _)
      | (with_reducible exact LeO.refl _)
      | (with_reducible exact LeO.none _)
      | (with_reducible refine LeO.ite ?_ ?_)
      | (with_reducible refine LeO.bind ?_ (fun _ => ?_))
      | exact ih0 _ _
      | exact ih1 _ _ _
      | exact LeO.none _
      | refine LeO.ite ?_ ?_
      | refine LeO.bind ?_ (fun _ => ?_)
    · intro y0 y1 y2
      unfold styluslaw24_few.l1
      repeat' first
      | (with_reducible exact ih0 _ _)
      | (with_reducible exact ih1 _ _ _)
      | (with_reducible exact LeO.refl _)
      | (with_reducible exact LeO.none _)
      | (with_reducible refine LeO.ite ?_ ?_)
      | (with_reducible refine LeO.bind ?_ (fun _ => ?_))
      | exact ih0 _ _
      | exact ih1 _ _ _
      | exact LeO.none _
      | refine LeO.ite ?_ ?_
      | refine LeO.bind ?_ (fun _ => ?_)
theorem styluslaw24_few.mono : ∀ a0 k, LeO (styluslaw24_few.f k a0) (styluslaw24_few.f (k + 1) a0) := by
  intro a0 k
  obtain ⟨ih0, ih1⟩ := styluslaw24_few.mono_l k
  unfold styluslaw24_few.f
  repeat' first
      | (with_reducible exact ih0 _ _)
      | (with_reducible exact ih1 _ _ _)
      | (with_reducible exact LeO.refl _)
      | (with_reducible exact LeO.none _)
      | (with_reducible refine LeO.ite ?_ ?_)
      | (with_reducible refine LeO.bind ?_ (fun _ => ?_))
      | exact ih0 _ _
      | exact ih1 _ _ _
      | exact LeO.none _
      | refine LeO.ite ?_ ?_
      | refine LeO.bind ?_ (fun _ => ?_)
set_option maxHeartbeats 8000000 in
set_option maxRecDepth 100000 in
theorem styluslaw24_few.calls (k : Nat) (A0 : Option Addr) (c0 : Nat) (l0 : List (S28)) (r : Bool) (w : World) (hr0 : Kd.C k28 w A0 l0.length l0) (hc0 : l0.length ≤ c0) (h : styluslaw24_few.f k l0 = some r) :
    Calls Try.prog 5 #[.slice A0 l0.length c0] w fun e w' => e = .returned (.bool r) ∧ Drawn0 w w' := by
  have HR0 := Aside0.mk hr0
  have HC0 := Aside0.mk hc0
  clear hr0 hc0
  have H : (if (l0.length : Int) > 20 then (some false) else (styluslaw24_few.l0 k l0 0)) = some r := h
  clear h
  by_cases c2 : (l0.length : Int) > 20
  · rw [if_pos c2] at H
    have c2b0 : decide (20 < (l0.length : Int)) = true := decide_eq_true c2
    have c2b1 : decide (20 < l0.length) = true := decide_eq_true (by omega)
    clear c2
    obtain rfl := Option.some.inj H
    go_enter Try.func5, Try.ntmps5
    go_wp2
    go_ret
    exact ⟨by first | rfl | (simp; done) | (simp [*]; done), by repeat (first | exact Drawn0.refl _ | apply Drawn0.step)⟩
  · rw [if_neg c2] at H
    have c2b0 : decide (20 < (l0.length : Int)) = false := decide_eq_false c2
    have c2b1 : decide (20 < l0.length) = false := decide_eq_false (by omega)
    clear c2
    have H' := Aside0.mk H
    clear H
    go_enter Try.func5, Try.ntmps5
    go_wp2
    go_loopg [3] k (fun kq v3 w' => ∃ (x3_1 : Int), v3 = .int .i64 x3_1 ∧ Aside0 (styluslaw24_few.l0 kq l0 x3_1 = some r) ∧ Aside0 (kq ≤ k) ∧ Drawn0 w w')
    case atStart => exact ⟨(0), (by first | rfl | (simp; done) | (simp [*]; done)), H', ⟨Nat.le_refl _⟩, by repeat (first | exact Drawn0.refl _ | apply Drawn0.step)⟩
    case round =>
      clear H'
      try clear c2
      try clear c2b0
      try clear c2b1
      try clear p2
      obtain ⟨x3_1, rfl, HA, HK1, ⟨m1, rfl⟩⟩ := hrel
      cases gk with
      | zero => exact absurd HA.out (by simp [styluslaw24_few.l0])
      | succ k1 =>
        have H := HA.out
        clear HA
        simp only [styluslaw24_few.l0] at H
        by_cases c3 : x3_1 < (l0.length : Int)
        · rw [if_pos c3] at H
          have c3b0 : decide (x3_1 < (l0.length : Int)) = true := decide_eq_true c3
          clear c3
          by_cases c4 : 0 ≤ x3_1
          · rw [if_pos c4] at H
            have c4b0 : decide (0 ≤ x3_1) = true := decide_eq_true c4
            clear c4
            by_cases c5 : (((rd_T28 l0 x3_1).f0).length : Int) > 40
            · rw [if_pos c5] at H
              have c5b0 : decide (40 < (((rd_T28 l0 x3_1).f0).length : Int)) = true := decide_eq_true c5
              have c5b1 : decide (40 < ((rd_T28 l0 x3_1).f0).length) = true := decide_eq_true (by omega)
              clear c5
              obtain rfl := Option.some.inj H
              have p101 : 0 ≤ (x3_1 : Int) := of_decide_eq_true (by first | (with_reducible assumption) | assumption)
              have q101 : x3_1 < (l0.length : Int) := of_decide_eq_true (by first | (with_reducible assumption) | assumption)
              obtain ⟨ad101, A101_0, c101_0, e101, hx101_0, hl101_0, hi101_0⟩ := at_T28 HR0.out x3_1 p101 q101
              cases e101
              have HR101_0 := Aside0.mk hi101_0
              have HC101_0 := Aside0.mk hl101_0
              clear hi101_0 hl101_0
              replace p101 := eq_true p101
              replace q101 := eq_true q101
              go_wp2
              go_ret
              exact ⟨by first | rfl | (simp; done) | (simp [*]; done), by repeat (first | exact Drawn0.refl _ | apply Drawn0.step)⟩
            · rw [if_neg c5] at H
              have c5b0 : decide (40 < (((rd_T28 l0 x3_1).f0).length : Int)) = false := decide_eq_false c5
              have c5b1 : decide (40 < ((rd_T28 l0 x3_1).f0).length) = false := decide_eq_false (by omega)
              clear c5
              have H' := Aside0.mk H
              clear H
              have p101 : 0 ≤ (x3_1 : Int) := of_decide_eq_true (by first | (with_reducible assumption) | assumption)
              have q101 : x3_1 < (l0.length : Int) := of_decide_eq_true (by first | (with_reducible assumption) | assumption)
              obtain ⟨ad101, A101_0, c101_0, e101, hx101_0, hl101_0, hi101_0⟩ := at_T28 HR0.out x3_1 p101 q101
              cases e101
              have HR101_0 := Aside0.mk hi101_0
              have HC101_0 := Aside0.mk hl101_0
              clear hi101_0 hl101_0
              replace p101 := eq_true p101
              replace q101 := eq_true q101
              go_wp2
              go_loopg [4] k1 (fun kq v4 w' => ∃ (x4_2 : Int), v4 = .int .i64 x4_2 ∧ Aside0 (styluslaw24_few.l1 kq l0 x3_1 x4_2 = some r) ∧ Aside0 (kq ≤ k1) ∧ Drawn0 w w')
              case atStart => exact ⟨(0), (by first | rfl | (simp; done) | (simp [*]; done)), H', ⟨Nat.le_refl _⟩, by repeat (first | exact Drawn0.refl _ | apply Drawn0.step)⟩
              case round =>
                clear H'
                try clear c1
                try clear p1
                try clear q1
                try clear hx1
                try clear c2
                try clear c2b0
                try clear c2b1
                try clear p2
                try clear c3
                try clear c3b0
                try clear c4
                try clear c4b0
                try clear c5
                try clear c5b0
                try clear c5b1
                try clear hx101_0
                try clear p101
                try clear p2
                try clear q101
                obtain ⟨x4_2, rfl, HA, HK2, ⟨m2, rfl⟩⟩ := hrel
                cases gk with
                | zero => exact absurd HA.out (by simp [styluslaw24_few.l1])
                | succ k2 =>
                  have H := HA.out
                  clear HA
                  simp only [styluslaw24_few.l1] at H
                  by_cases c6 : 0 ≤ x3_1
                  · rw [if_pos c6] at H
                    have c6b0 : decide (0 ≤ x3_1) = true := decide_eq_true c6
                    clear c6
                    by_cases c7 : x3_1 < (l0.length : Int)
                    · rw [if_pos c7] at H
                      have c7b0 : decide (x3_1 < (l0.length : Int)) = true := decide_eq_true c7
                      clear c7
                      by_cases c8 : x4_2 < (((rd_T28 l0 x3_1).f0).length : Int)
                      · rw [if_pos c8] at H
                        have c8b0 : decide (x4_2 < (((rd_T28 l0 x3_1).f0).length : Int)) = true := decide_eq_true c8
                        clear c8
                        by_cases c9 : 0 ≤ x4_2
                        · rw [if_pos c9] at H
                          have c9b0 : decide (0 ≤ x4_2) = true := decide_eq_true c9
                          clear c9
                          by_cases c10 : (((rd_T38 ((rd_T28 l0 x3_1).f0) x4_2).f1).size : Int) > 300
                          · rw [if_pos c10] at H
                            have c10b0 : decide (300 < (((rd_T38 ((rd_T28 l0 x3_1).f0) x4_2).f1).size : Int)) = true := decide_eq_true c10
                            have c10b1 : decide (300 < ((rd_T38 ((rd_T28 l0 x3_1).f0) x4_2).f1).size) = true := decide_eq_true (by omega)
                            clear c10
                            obtain rfl := Option.some.inj H
                            have p102 : 0 ≤ (x3_1 : Int) := of_decide_eq_true (by first | (with_reducible assumption) | assumption)
                            have q102 : x3_1 < (l0.length : Int) := of_decide_eq_true (by first | (with_reducible assumption) | assumption)
                            obtain ⟨ad102, A102_0, c102_0, e102, hx102_0, hl102_0, hi102_0⟩ := at_T28 HR0.out x3_1 p102 q102
                            obtain rfl : ad101 = ad102 := (by injection e102)
                            have HR102_0 := Aside0.mk hi102_0
                            have HC102_0 := Aside0.mk hl102_0
                            clear hi102_0 hl102_0
                            replace p102 := eq_true p102
                            replace q102 := eq_true q102
                            have p103 : 0 ≤ (x3_1 : Int) := of_decide_eq_true (by first | (with_reducible assumption) | assumption)
                            have q103 : x3_1 < (l0.length : Int) := of_decide_eq_true (by first | (with_reducible assumption) | assumption)
                            obtain ⟨ad103, A103_0, c103_0, e103, hx103_0, hl103_0, hi103_0⟩ := at_T28 HR0.out x3_1 p103 q103
                            obtain rfl : ad101 = ad103 := (by injection e103)
                            have HR103_0 := Aside0.mk hi103_0
                            have HC103_0 := Aside0.mk hl103_0
                            clear hi103_0 hl103_0
                            replace p103 := eq_true p103
                            replace q103 := eq_true q103
                            have ea_ := Option.some.inj (hx102_0.symm.trans hx103_0)
                            injection ea_ with ea_ en_ ec_
                            subst ea_
                            subst ec_
                            clear en_
                            have p104 : 0 ≤ (x4_2 : Int) := of_decide_eq_true (by first | (with_reducible assumption) | assumption)
                            have q104 : x4_2 < (((rd_T28 l0 x3_1).f0).length : Int) := of_decide_eq_true (by first | (with_reducible assumption) | assumption)
                            obtain ⟨ad104, e104, hx104_0, hx104_1, hx104_2⟩ := at_T38 HR103_0.out x4_2 p104 q104
                            cases e104
                            replace p104 := eq_true p104
                            replace q104 := eq_true q104
                            go_wp2
                            go_ret
                            exact ⟨by first | rfl | (simp; done) | (simp [*]; done), by repeat (first | exact Drawn0.refl _ | apply Drawn0.step)⟩
                          · rw [if_neg c10] at H
                            have c10b0 : decide (300 < (((rd_T38 ((rd_T28 l0 x3_1).f0) x4_2).f1).size : Int)) = false := decide_eq_false c10
                            have c10b1 : decide (300 < ((rd_T38 ((rd_T28 l0 x3_1).f0) x4_2).f1).size) = false := decide_eq_false (by omega)
                            clear c10
                            by_cases c11 : (((rd_T38 ((rd_T28 l0 x3_1).f0) x4_2).f2).size : Int) > 300
                            · rw [if_pos c11] at H
                              have c11b0 : decide (300 < (((rd_T38 ((rd_T28 l0 x3_1).f0) x4_2).f2).size : Int)) = true := decide_eq_true c11
                              have c11b1 : decide (300 < ((rd_T38 ((rd_T28 l0 x3_1).f0) x4_2).f2).size) = true := decide_eq_true (by omega)
                              clear c11
                              obtain rfl := Option.some.inj H
                              have p102 : 0 ≤ (x3_1 : Int) := of_decide_eq_true (by first | (with_reducible assumption) | assumption)
                              have q102 : x3_1 < (l0.length : Int) := of_decide_eq_true (by first | (with_reducible assumption) | assumption)
                              obtain ⟨ad102, A102_0, c102_0, e102, hx102_0, hl102_0, hi102_0⟩ := at_T28 HR0.out x3_1 p102 q102
                              obtain rfl : ad101 = ad102 := (by injection e102)
                              have HR102_0 := Aside0.mk hi102_0
                              have HC102_0 := Aside0.mk hl102_0
                              clear hi102_0 hl102_0
                              replace p102 := eq_true p102
                              replace q102 := eq_true q102
                              have p103 : 0 ≤ (x3_1 : Int) := of_decide_eq_true (by first | (with_reducible assumption) | assumption)
                              have q103 : x3_1 < (l0.length : Int) := of_decide_eq_true (by first | (with_reducible assumption) | assumption)
                              obtain ⟨ad103, A103_0, c103_0, e103, hx103_0, hl103_0, hi103_0⟩ := at_T28 HR0.out x3_1 p103 q103
                              obtain rfl : ad101 = ad103 := (by injection e103)
                              have HR103_0 := Aside0.mk hi103_0
                              have HC103_0 := Aside0.mk hl103_0
                              clear hi103_0 hl103_0
                              replace p103 := eq_true p103
                              replace q103 := eq_true q103
                              have ea_ := Option.some.inj (hx102_0.symm.trans hx103_0)
                              injection ea_ with ea_ en_ ec_
                              subst ea_
                              subst ec_
                              clear en_
                              have p104 : 0 ≤ (x4_2 : Int) := of_decide_eq_true (by first | (with_reducible assumption) | assumption)
                              have q104 : x4_2 < (((rd_T28 l0 x3_1).f0).length : Int) := of_decide_eq_true (by first | (with_reducible assumption) | assumption)
                              obtain ⟨ad104, e104, hx104_0, hx104_1, hx104_2⟩ := at_T38 HR103_0.out x4_2 p104 q104
                              cases e104
                              replace p104 := eq_true p104
                              replace q104 := eq_true q104
                              have p105 : 0 ≤ (x3_1 : Int) := of_decide_eq_true (by first | (with_reducible assumption) | assumption)
                              have q105 : x3_1 < (l0.length : Int) := of_decide_eq_true (by first | (with_reducible assumption) | assumption)
                              obtain ⟨ad105, A105_0, c105_0, e105, hx105_0, hl105_0, hi105_0⟩ := at_T28 HR0.out x3_1 p105 q105
                              obtain rfl : ad101 = ad105 := (by injection e105)
                              have HR105_0 := Aside0.mk hi105_0
                              have HC105_0 := Aside0.mk hl105_0
                              clear hi105_0 hl105_0
                              replace p105 := eq_true p105
                              replace q105 := eq_true q105
                              have ea_ := Option.some.inj (hx102_0.symm.trans hx105_0)
                              injection ea_ with ea_ en_ ec_
                              subst ea_
                              subst ec_
                              clear en_
                              have p106 : 0 ≤ (x4_2 : Int) := of_decide_eq_true (by first | (with_reducible assumption) | assumption)
                              have q106 : x4_2 < (((rd_T28 l0 x3_1).f0).length : Int) := of_decide_eq_true (by first | (with_reducible assumption) | assumption)
                              obtain ⟨ad106, e106, hx106_0, hx106_1, hx106_2⟩ := at_T38 HR105_0.out x4_2 p106 q106
                              cases e106
                              replace p106 := eq_true p106
                              replace q106 := eq_true q106
                              go_wp2
                              go_ret
                              exact ⟨by first | rfl | (simp; done) | (simp [*]; done), by repeat (first | exact Drawn0.refl _ | apply Drawn0.step)⟩
                            · rw [if_neg c11] at H
                              have c11b0 : decide (300 < (((rd_T38 ((rd_T28 l0 x3_1).f0) x4_2).f2).size : Int)) = false := decide_eq_false c11
                              have c11b1 : decide (300 < ((rd_T38 ((rd_T28 l0 x3_1).f0) x4_2).f2).size) = false := decide_eq_false (by omega)
                              clear c11
                              have H' := Aside0.mk H
                              clear H
                              have p102 : 0 ≤ (x3_1 : Int) := of_decide_eq_true (by first | (with_reducible assumption) | assumption)
                              have q102 : x3_1 < (l0.length : Int) := of_decide_eq_true (by first | (with_reducible assumption) | assumption)
                              obtain ⟨ad102, A102_0, c102_0, e102, hx102_0, hl102_0, hi102_0⟩ := at_T28 HR0.out x3_1 p102 q102
                              obtain rfl : ad101 = ad102 := (by injection e102)
                              have HR102_0 := Aside0.mk hi102_0
                              have HC102_0 := Aside0.mk hl102_0
                              clear hi102_0 hl102_0
                              replace p102 := eq_true p102
                              replace q102 := eq_true q102
                              have p103 : 0 ≤ (x3_1 : Int) := of_decide_eq_true (by first | (with_reducible assumption) | assumption)
                              have q103 : x3_1 < (l0.length : Int) := of_decide_eq_true (by first | (with_reducible assumption) | assumption)
                              obtain ⟨ad103, A103_0, c103_0, e103, hx103_0, hl103_0, hi103_0⟩ := at_T28 HR0.out x3_1 p103 q103
                              obtain rfl : ad101 = ad103 := (by injection e103)
                              have HR103_0 := Aside0.mk hi103_0
                              have HC103_0 := Aside0.mk hl103_0
                              clear hi103_0 hl103_0
                              replace p103 := eq_true p103
                              replace q103 := eq_true q103
                              have ea_ := Option.some.inj (hx102_0.symm.trans hx103_0)
                              injection ea_ with ea_ en_ ec_
                              subst ea_
                              subst ec_
                              clear en_
                              have p104 : 0 ≤ (x4_2 : Int) := of_decide_eq_true (by first | (with_reducible assumption) | assumption)
                              have q104 : x4_2 < (((rd_T28 l0 x3_1).f0).length : Int) := of_decide_eq_true (by first | (with_reducible assumption) | assumption)
                              obtain ⟨ad104, e104, hx104_0, hx104_1, hx104_2⟩ := at_T38 HR103_0.out x4_2 p104 q104
                              cases e104
                              replace p104 := eq_true p104
                              replace q104 := eq_true q104
                              have p105 : 0 ≤ (x3_1 : Int) := of_decide_eq_true (by first | (with_reducible assumption) | assumption)
                              have q105 : x3_1 < (l0.length : Int) := of_decide_eq_true (by first | (with_reducible assumption) | assumption)
                              obtain ⟨ad105, A105_0, c105_0, e105, hx105_0, hl105_0, hi105_0⟩ := at_T28 HR0.out x3_1 p105 q105
                              obtain rfl : ad101 = ad105 := (by injection e105)
                              have HR105_0 := Aside0.mk hi105_0
                              have HC105_0 := Aside0.mk hl105_0
                              clear hi105_0 hl105_0
                              replace p105 := eq_true p105
                              replace q105 := eq_true q105
                              have ea_ := Option.some.inj (hx102_0.symm.trans hx105_0)
                              injection ea_ with ea_ en_ ec_
                              subst ea_
                              subst ec_
                              clear en_
                              have p106 : 0 ≤ (x4_2 : Int) := of_decide_eq_true (by first | (with_reducible assumption) | assumption)
                              have q106 : x4_2 < (((rd_T28 l0 x3_1).f0).length : Int) := of_decide_eq_true (by first | (with_reducible assumption) | assumption)
                              obtain ⟨ad106, e106, hx106_0, hx106_1, hx106_2⟩ := at_T38 HR105_0.out x4_2 p106 q106
                              cases e106
                              replace p106 := eq_true p106
                              replace q106 := eq_true q106
                              go_wp2
                              go_roundg k2
                              case measure => have := HK1.out; have := HK2.out; omega
                              case rel => exact ⟨(wrap64 (x4_2 + 1)), (by first | rfl | (simp; done) | (simp [*]; done)), H', ⟨by have := HK1.out; have := HK2.out; omega⟩, by repeat (first | exact Drawn0.refl _ | apply Drawn0.step)⟩
                        · rw [if_neg c9] at H
                          exact absurd H (by simp)
                      · rw [if_neg c8] at H
                        have c8b0 : decide (x4_2 < (((rd_T28 l0 x3_1).f0).length : Int)) = false := decide_eq_false c8
                        clear c8
                        have H' := Aside0.mk H
                        clear H
                        have p102 : 0 ≤ (x3_1 : Int) := of_decide_eq_true (by first | (with_reducible assumption) | assumption)
                        have q102 : x3_1 < (l0.length : Int) := of_decide_eq_true (by first | (with_reducible assumption) | assumption)
                        obtain ⟨ad102, A102_0, c102_0, e102, hx102_0, hl102_0, hi102_0⟩ := at_T28 HR0.out x3_1 p102 q102
                        obtain rfl : ad101 = ad102 := (by injection e102)
                        have HR102_0 := Aside0.mk hi102_0
                        have HC102_0 := Aside0.mk hl102_0
                        clear hi102_0 hl102_0
                        replace p102 := eq_true p102
                        replace q102 := eq_true q102
                        go_wp2
                        go_roundg k2
                        case measure => have := HK1.out; have := HK2.out; omega
                        case rel => exact ⟨(wrap64 (x3_1 + 1)), (by first | rfl | (simp; done) | (simp [*]; done)), H', ⟨by have := HK1.out; have := HK2.out; omega⟩, by repeat (first | exact Drawn0.refl _ | apply Drawn0.step)⟩
                    · rw [if_neg c7] at H
                      exact absurd H (by simp)
                  · rw [if_neg c6] at H
                    exact absurd H (by simp)
          · rw [if_neg c4] at H
            exact absurd H (by simp)
        · rw [if_neg c3] at H
          have c3b0 : decide (x3_1 < (l0.length : Int)) = false := decide_eq_false c3
          clear c3
          obtain rfl := Option.some.inj H
          go_wp2
          go_ret
          exact ⟨by first | rfl | (simp; done) | (simp [*]; done), by repeat (first | exact Drawn0.refl _ | apply Drawn0.step)⟩

/-- A state of type 48 at block g of W; what its slices lead to came in by w0. -/
def IsS48 (w0 W : World) (g : Nat) (f0 : List (S28)) (f1 : Int) : Prop := ∃ A0 c0, W.heap[g]? = some (.cells #[.slice A0 f0.length c0, .int .i64 f1] 48 (0, 0)) ∧ w0.heap.size ≤ g ∧ Kd.C k28 w0 A0 f0.length f0
theorem IsS48.grown {w0 W : World} {g : Nat} {f0 : List (S28)} {f1 : Int} {W1 : World} {row : Option Nat} (h : IsS48 w0 W g f0 f1) (hw : W.grownBy W1 row) (hne : some g ≠ row) : IsS48 w0 W1 g f0 f1 := by
  obtain ⟨A0, c0, hb, hg, hr0⟩ := h
  exact ⟨A0, c0, blk_grown hb hw hne, hg, hr0⟩
theorem IsS48.own_neN {w0 W : World} {g : Nat} {f0 : List (S28)} {f1 : Int} {α : Type} {d : Kd α} {e : Nat} {base : Nat} {ok : Nat → Prop} {v : Value} {xs : List α} (h : IsS48 w0 W g f0 f1) (ho : Kd.N d e W base ok v xs) (ht : e ≠ 48) : some g ≠ v.ownBlock := by
  obtain ⟨A0, c0, hb, hg, hr0⟩ := h
  exact Kd.N_ne ho hb ht
theorem IsS48.fresh {w0 W : World} {g : Nat} {f0 : List (S28)} {f1 : Int} (h : IsS48 w0 W g f0 f1) : ∀ k, W.heap.size ≤ k → k ≠ g := by
  obtain ⟨A0, c0, hb, hg, hr0⟩ := h
  exact Kd.freshB hb
theorem IsS48.kept {w0 W : World} {g : Nat} {f0 : List (S28)} {f1 : Int} {W1 : World} {S : Nat → Prop} (h : IsS48 w0 W g f0 f1) (hk : Kept W W1 S) (hne : ¬ S g) : IsS48 w0 W1 g f0 f1 := by
  obtain ⟨A0, c0, hb, hg, hr0⟩ := h
  exact ⟨A0, c0, blk_kept hb hk hne, hg, hr0⟩
theorem IsS48.below {w0 W : World} {g : Nat} {f0 : List (S28)} {f1 : Int} {W1 : World} (h : IsS48 w0 W g f0 f1) (hw : Below W.heap.size W W1) : IsS48 w0 W1 g f0 f1 := h.grown (grown_of_below hw none) (by simp)
theorem IsS48.alloc {w0 W : World} {g : Nat} {f0 : List (S28)} {f1 : Int} (h : IsS48 w0 W g f0 f1) (o : Obj) : IsS48 w0 (W.alloc o) g f0 f1 := h.below (below_alloc (Below.refl _ _) o)
theorem IsS48.drewN {w0 W : World} {g : Nat} {f0 : List (S28)} {f1 : Int} (h : IsS48 w0 W g f0 f1) (m : Nat) : IsS48 w0 (W.drewN m) g f0 f1 := h
theorem IsS48.drew {w0 W : World} {g : Nat} {f0 : List (S28)} {f1 : Int} (h : IsS48 w0 W g f0 f1) : IsS48 w0 W.drew g f0 f1 := h
theorem IsS48.at_ {w0 W : World} {g : Nat} {f0 : List (S28)} {f1 : Int} {w' : World} {m : Nat} (hq : W.drewN m = w') (h : IsS48 w0 W g f0 f1) : IsS48 w0 w' g f0 f1 := by subst hq; exact IsS48.drewN h m
theorem IsS48.apart {w0 W : World} {g : Nat} {f0 : List (S28)} {f1 : Int} {α : Type} {d : Kd α} {e : Nat} {base : Nat} {ok : Nat → Prop} {v : Value} {xs : List α} (h : IsS48 w0 W g f0 f1) (ho : d.R e W base ok v xs) (ht : ∀ q, q ∈ e :: d.E → q ≠ 48) : d.R e W base (fun k => ok k ∧ k ≠ g) v xs := by
  obtain ⟨A0, c0, hb, hg, hr0⟩ := h
  exact Kd.R_types ho hb ht
theorem IsS48.own_ne {w0 W : World} {g : Nat} {f0 : List (S28)} {f1 : Int} {α : Type} {d : Kd α} {e : Nat} {base : Nat} {ok : Nat → Prop} {v : Value} {xs : List α} (h : IsS48 w0 W g f0 f1) (ho : d.R e W base ok v xs) (ht : e ≠ 48) : some g ≠ v.ownBlock := by
  obtain ⟨A0, c0, hb, hg, hr0⟩ := h
  exact Kd.R_ne ho hb ht
theorem IsS48.apartQ {w0 W : World} {g : Nat} {f0 : List (S28)} {f1 : Int} {α : Type} {d : Kd α} {e : Nat} {base : Nat} {ok : Nat → Prop} {v : Value} {xs : List α} (h : IsS48 w0 W g f0 f1) (ho : d.Q e W base ok v xs) (ht : ∀ q, q ∈ e :: d.E → q ≠ 48) : d.Q e W base (fun k => ok k ∧ k ≠ g) v xs := by
  obtain ⟨A0, c0, hb, hg, hr0⟩ := h
  exact Kd.Q_types ho hb ht
theorem IsS48.own_neQ {w0 W : World} {g : Nat} {f0 : List (S28)} {f1 : Int} {α : Type} {d : Kd α} {e : Nat} {base : Nat} {ok : Nat → Prop} {v : Value} {xs : List α} (h : IsS48 w0 W g f0 f1) (ho : d.Q e W base ok v xs) (ht : e ≠ 48) : some g ≠ v.ownBlock := by
  obtain ⟨A0, c0, hb, hg, hr0⟩ := h
  exact Kd.Q_ne ho hb ht
theorem IsS48.apartS {w0 W : World} {g : Nat} {f0 : List (S28)} {f1 : Int} {α : Type} {d : Kd α} {e : Nat} {base : Nat} {ok : Nat → Prop} {v : Value} {xs : List α} (h : IsS48 w0 W g f0 f1) (ho : d.S e W base ok v xs) (ht : ∀ q, q ∈ e :: d.E → q ≠ 48) : d.S e W base (fun k => ok k ∧ k ≠ g) v xs := by
  obtain ⟨A0, c0, hb, hg, hr0⟩ := h
  exact Kd.S_types ho hb ht
theorem IsS48.own_neS {w0 W : World} {g : Nat} {f0 : List (S28)} {f1 : Int} {α : Type} {d : Kd α} {e : Nat} {base : Nat} {ok : Nat → Prop} {v : Value} {xs : List α} (h : IsS48 w0 W g f0 f1) (ho : d.S e W base ok v xs) (ht : e ≠ 48) : some g ≠ v.ownBlock := by
  obtain ⟨A0, c0, hb, hg, hr0⟩ := h
  exact Kd.S_ne ho hb ht
theorem IsS48.lt {w0 W : World} {g : Nat} {f0 : List (S28)} {f1 : Int} (h : IsS48 w0 W g f0 f1) : g < W.heap.size := by
  obtain ⟨A0, c0, hb, hg, hr0⟩ := h
  exact blk_lt hb
theorem IsS48.ge {w0 W : World} {g : Nat} {f0 : List (S28)} {f1 : Int} (h : IsS48 w0 W g f0 f1) : w0.heap.size ≤ g := by
  obtain ⟨A0, c0, hb, hg, hr0⟩ := h
  exact hg
theorem IsS48.ne_blk {w0 W : World} {g : Nat} {f0 : List (S28)} {f1 : Int} {a : Nat} {cs : Array Value} {t : TypeId} {fr : Nat × Nat} (h : IsS48 w0 W g f0 f1) (hb2 : W.heap[a]? = some (.cells cs t fr)) (ht : t ≠ 48) : g ≠ a := by
  obtain ⟨A0, c0, hb, hg, hr0⟩ := h
  rintro rfl
  rw [hb] at hb2
  injection hb2 with hb2
  injection hb2 with _ ht2
  exact ht ht2.symm
theorem IsS48.far {w0 W : World} {g : Nat} {f0 : List (S28)} {f1 : Int} {p : Addr} (h : IsS48 w0 W g f0 f1) (hne : g ≠ p.block) (u : Value) : IsS48 w0 (W.setCell p u) g f0 f1 := by
  obtain ⟨A0, c0, hb, hg, hr0⟩ := h
  exact ⟨A0, c0, blk_far hb hne u, hg, hr0⟩
theorem cellS48_0 {W : World} {g : Nat} {A0 : Option Addr} {c0 : Nat} {f0 : List (S28)} {f1 : Int} (h : W.heap[g]? = some (.cells #[.slice A0 f0.length c0, .int .i64 f1] 48 (0, 0))) : W.cell? ⟨g, 0, none⟩ = some (.slice A0 f0.length c0) := (blk_cell h 0).trans rfl
theorem cellS48_1 {W : World} {g : Nat} {A0 : Option Addr} {c0 : Nat} {f0 : List (S28)} {f1 : Int} (h : W.heap[g]? = some (.cells #[.slice A0 f0.length c0, .int .i64 f1] 48 (0, 0))) : W.cell? ⟨g, 1, none⟩ = some (.int .i64 f1) := (blk_cell h 1).trans rfl
theorem IsS48.set_1 {w0 W : World} {g : Nat} {f0 : List (S28)} {f1 : Int} (h : IsS48 w0 W g f0 f1) (x : Int) : IsS48 w0 (W.setCell ⟨g, 1, none⟩ (.int .i64 x)) g f0 x := by
  obtain ⟨A0, c0, hb, hg, hr0⟩ := h
  exact ⟨A0, c0, by simpa using blk_set hb 1 (.int .i64 x), hg, hr0⟩
theorem IsS48.new (w0 W : World) (A0 : Option Addr) (c0 : Nat) (f0 : List (S28)) (f1 : Int) (hB : Below w0.heap.size w0 W) (hr0 : Kd.C k28 w0 A0 f0.length f0) : IsS48 w0 (W.alloc (.cells #[.slice A0 f0.length c0, .int .i64 f1] 48)) W.heap.size f0 f1 := ⟨A0, c0, by simpa using heap_alloc_new W _, hB.size, hr0⟩

/-! ### stack_steps: function 24 -/
def stack_steps.f (l0 : List (S28)) : Option ((List (S28)) × Int) := some (l0, 16)
set_option maxHeartbeats 8000000 in
set_option maxRecDepth 100000 in
theorem stack_steps.calls (A0 : Option Addr) (c0 : Nat) (l0 : List (S28)) (r1 : List (S28)) (r2 : Int) (w0 w : World) (hB : Below w0.heap.size w0 w) (hr0 : Kd.C k28 w0 A0 l0.length l0) (hc0 : l0.length ≤ c0) (h : stack_steps.f l0 = some (r1, r2)) :
    Calls Try.prog 24 #[.slice A0 l0.length c0] w fun e w' => ∃ g_ : Nat, e = .returned (.pointer (some ⟨g_, 0, none⟩)) ∧ IsS48 w0 w' g_ r1 r2 ∧ Below w0.heap.size w0 w' ∧ Below w.heap.size w w' := by
  have hu48 := Try.underlying48
  have HR0 := Aside0.mk hr0
  have HC0 := Aside0.mk hc0
  clear hr0 hc0
  have HBW := Aside0.mk (Below.refl w.heap.size w)
  have HW0 := Aside0.mk hB.size
  have HB := Aside0.mk hB
  clear hB
  have H : (some (l0, 16)) = some (r1, r2) := h
  clear h
  simp only [Option.some.injEq, Prod.mk.injEq] at H
  obtain ⟨rfl, rfl⟩ := H
  go_enter Try.func24, Try.ntmps24
  go_wp2_with (first | ((with_reducible refine gate_dst (N := 5) rfl ?_); refine box_event ?hg (N := 5) ?hd (cs := #[.slice A0 l0.length c0, .int .i64 16]) (t := 48) ?hr ?_; (case hd => rfl); (case hg => rfl); (case hr => first | (go_simp; done) | (go_simp; rfl)); intro gb107 hg w2 hbox hb; have n0_ := Aside0.mk (below_step HBW.out hb); have n1_ := Aside0.mk (below_step (by repeat (first | (with_reducible first | exact HB.out | apply below_alloc | apply pw_below_drewN | apply below_drew1) | exact HB.out)) hb); have n2_ := Aside0.mk (hbox); have n3_ := Aside0.mk ((by rw [hg]; exact (below_size (by repeat (first | (with_reducible first | exact HBW.out | apply below_alloc | apply pw_below_drewN | apply below_drew1) | exact HBW.out))) : w.heap.size ≤ gb107)); have n4_ := Aside0.mk ((Nat.le_trans HW0.out (by rw [hg]; exact (below_size (by repeat (first | (with_reducible first | exact HBW.out | apply below_alloc | apply pw_below_drewN | apply below_drew1) | exact HBW.out))) : w.heap.size ≤ gb107) : w0.heap.size ≤ gb107)); clear HBW; clear HB; have HBW := n0_; have HB := n1_; have BK107 := n2_; have GW107 := n3_; have GE107 := n4_; clear n0_ n1_ n2_ n3_ n4_; clear hb hbox hg))
  go_ret
  exact ⟨_, rfl, (show IsS48 w0 _ gb107 l0 16 from ⟨_, _, by (with_reducible repeat (first | refine blk_drewN ?_ _ | refine blk_drew ?_ | refine blk_alloc ?_ _)); exact BK107.out, GE107.out, HR0.out⟩), by repeat (first | (with_reducible first | exact HB.out | apply below_alloc | apply pw_below_drewN | apply below_drew1 | refine below_set ?_ GE107.out) | exact HB.out), by repeat (first | (with_reducible first | exact HBW.out | apply below_alloc | apply pw_below_drewN | apply below_drew1 | refine below_set ?_ GW107.out) | exact HBW.out)⟩

/-! ### slices_Clone__api_Step_api_Step: function 27 -/
-- slices.Clone of steps: a row of its own, of elements that share what they lead to
def slices_Clone__api_Step_api_Step.f (l : List S28) : Option (List S28) := if l.length ≤ 100000 then some l else none
theorem heap_Step : Kd.Heap k28 := Kd.heap_iso _ (Kd.heap_slice _ (Kd.heap_iso _ (Kd.heap_pair (Kd.heap_int _) (Kd.heap_pair Kd.heap_string Kd.heap_string))))
set_option maxHeartbeats 8000000 in
set_option maxRecDepth 100000 in
theorem slices_Clone__api_Step_api_Step.own (P : Nat → Prop) (A0 : Option Addr) (c0 : Nat) (l0 : List S28) (w : World) (hF : Kd.F k28 w P A0 l0.length l0) (hP : ∀ k, P k → k < w.heap.size) (hl : l0.length ≤ 100000) :
    Calls Try.prog 27 #[.slice A0 l0.length c0] w fun e w' => ∃ v0_ : Value, e = .returned v0_ ∧ Kd.N k28 28 w' w.heap.size (fun k => P k ∨ w.heap.size ≤ k) v0_ l0 ∧ Below w.heap.size w w' := by
  have HF := Aside0.mk hF
  have HP := Aside0.mk hP
  have HL := Aside0.mk hl
  cases A0 with
  | none =>
    have h0 : l0 = [] := by
      rcases Nat.eq_zero_or_pos l0.length with h0 | h0
      · exact List.eq_nil_of_length_eq_zero h0
      · obtain ⟨ad, h, _⟩ := (Kd.F_now hF).2.2 h0
        cases h
    clear hF hl hP
    have hq : ∀ (n c : Nat) (W : World), (binOp .eql 22 (.slice none n c) (.slice none 0 0)).run Try.prog W = .ok (.bool true) W := fun n c W => by kernel_rfl
    go_enter Try.func27, Try.ntmps27
    go_wp2_with fail
    go_ret
    rw [h0]
    exact ⟨_, rfl, Kd.N_nil _ _ _ _ _, Below.refl _ _⟩
  | some ad =>
    clear hF hl hP
    have hq : ∀ (n c : Nat) (W : World), (binOp .eql 22 (.slice (some ad) n c) (.slice none 0 0)).run Try.prog W = .ok (.bool false) W := fun n c W => by kernel_rfl
    go_enter Try.func27, Try.ntmps27
    go_wp2_with (first
      | ((with_reducible refine gate_dst (N := 5) rfl ?_); refine Kd.R_lit k28 (w0 := w) w.heap.size 28 ?hg (N := 5) ?hd (xs := ([] : List S28)) (inner := []) (ok := fun k => P k ∨ w.heap.size ≤ k) (okp := fun k => P k ∨ w.heap.size ≤ k) ?hr ?hp (fun _ hk => hk) (.inr (Nat.le_refl _)) (Below.refl _ _) (Nat.le_refl _) (by simp) ?_; (case hd => rfl); (case hg => rfl); (case hr => first | (go_simp; done) | (go_simp; rfl)); (case hp => exact (Reps.none _ _)); intro v5 w2 ho hb hg_ hnew_; have HO := Aside0.mk (Kd.R_N ho); have HB := Aside0.mk hb; clear hg_ ho hb)
      | ((with_reducible refine gate_builtin (b := .append) (xs := #[.tmp 5, .tmp 6]) rfl ?_); (try (refine gate_guard (by rfl) ?_; dsimp only)); at_builtin; refine Kd.N_append_rows k28 (w0 := w) w.heap.size rfl (.tmp 5) (.tmp 6) 22 28 (.agg #[.slice none 0 0]) 24 rfl Try.underlying22 info28 rfl (by decide) (by omega) v5 [] l0 (some ad) l0.length c0 (fun k => P k ∨ w.heap.size ≤ k) P rfl rfl HO.out (Kd.F_below HF.out HB.out) (fun k hk => ⟨.inl hk, fun e => by obtain ⟨b_, hb_, hle_⟩ := hnew_; rw [hb_] at e; injection e with e; have := HP.out k hk; omega⟩) (fun k hk => .inr (Nat.le_trans HB.out.size hk)) HB.out HB.out.size (by have := HL.out; simp only [List.length_nil]; omega) ?_; intro v7 w3 hN hb3 hg3 hat3; clear hg3 hat3))
    go_ret
    exact ⟨_, rfl, hN, hb3⟩
theorem slices_Clone__api_Step_api_Step.calls (A0 : Option Addr) (c0 : Nat) (l0 : List S28) (r : List S28) (w : World) (hr0 : Kd.C k28 w A0 l0.length l0) (_ : l0.length ≤ c0) (h : slices_Clone__api_Step_api_Step.f l0 = some r) :
    Calls Try.prog 27 #[.slice A0 l0.length c0] w fun e w' => ∃ v0_ : Value, e = .returned v0_ ∧ Kd.N k28 28 w' w.heap.size (fun k => k < w.heap.size ∨ w.heap.size ≤ k) v0_ r ∧ Below w.heap.size w w' := by
  unfold slices_Clone__api_Step_api_Step.f at h
  by_cases hl : l0.length ≤ 100000
  · rw [if_pos hl] at h
    obtain rfl := Option.some.inj h
    exact slices_Clone__api_Step_api_Step.own _ A0 c0 l0 w (Kd.C_F heap_Step hr0) (fun _ h => h) hl
  · rw [if_neg hl] at h
    cases h

/-! ### stack_pile_api_Step_push: function 25 -/
-- NEEDS slices.Clone[[]stylus/api.Step,stylus/api.Step]
-- a pile's push: its row is copied, and the step put behind it
def stack_top (l : List S28) : List S28 := if 16 < l.length then l.drop (l.length - 16) else l
theorem push_one {W : World} {b cx : Nat} {Ax : Option Addr} {lx : List S38} {ok : Nat → Prop} (hb : W.heap[b]? = some (.cells #[.slice Ax lx.length cx] 28 (0, 0))) (hf : Kd.F k38 W ok Ax lx.length lx) (hc : lx.length ≤ cx) :
    Kd.F k28 W (fun k => ok k ∨ k = b) (some ⟨b, 0, none⟩) 1 [⟨lx⟩] := by
  intro W' hW
  have hb' : W'.heap[b]? = some (.cells #[.slice Ax lx.length cx] 28 (0, 0)) := (hW b (.inr rfl) (blk_lt hb)).trans hb
  refine ⟨rfl, by decide, fun _ => ⟨_, rfl, fun j p hj => ?_⟩⟩
  cases j with
  | succ j => simp at hj
  | zero =>
    simp only [List.getElem?_cons_zero, Option.some.injEq] at hj
    subst hj
    refine ⟨[.slice Ax lx.length cx], rfl, ⟨Ax, cx, rfl, hc, hf W' (fun k hk hlt => hW k (.inl hk) hlt)⟩, fun i u hi => ?_⟩
    rw [add_plain]
    simp only [Nat.zero_mul, Nat.zero_add]
    rw [blk_cell hb' i]
    simpa using hi
theorem push_le {w : World} (wc : World) (h : Below w.heap.size w wc) : w.heap.size ≤ wc.heap.size := h.size
theorem push_ne (wc : World) (o : Obj) (h : (wc.alloc o).drew.heap.size ≤ wc.heap.size) : False := by
  have : wc.heap.size < (wc.alloc o).drew.heap.size := by simp
  omega
theorem push_old {W w w0 : World} {e : Nat} {ok : Nat → Prop} {v : Value} {l : List S28} (h : Kd.N k28 e W w.heap.size ok v l) (h0 : w0.heap.size ≤ w.heap.size) {k : Nat} (hk : k < w0.heap.size) (he : some k = v.ownBlock) : False := by
  have := Kd.N_base h k he.symm
  omega
theorem push_own {W w : World} {e : Nat} {ok : Nat → Prop} {v : Value} {l : List S28} {g : Nat} (h : Kd.N k28 e W w.heap.size ok v l) (hg : g < w.heap.size) (he : v.ownBlock = some g) : False := by
  have := Kd.N_base h g he
  omega
theorem push_okp {W w w0 : World} {e b : Nat} {ok : Nat → Prop} {v : Value} {l : List S28} (h : Kd.N k28 e W w.heap.size ok v l) (h0 : w0.heap.size ≤ w.heap.size) (hle : w.heap.size ≤ b) (hne : some b ≠ v.ownBlock) :
    ∀ k, (k < w0.heap.size ∨ k = b) → (k < w0.heap.size ∨ w.heap.size ≤ k) ∧ some k ≠ v.ownBlock := by
  intro k hk
  rcases hk with hk | rfl
  · exact ⟨.inl hk, fun e => push_old h h0 hk e⟩
  · exact ⟨.inr hle, hne⟩
theorem push_keep {w w6 : World} {g : Nat} (h : Below w.heap.size w w6) (hg : g < w.heap.size) (u : Value) : Below g w (w6.setCell ⟨g, 0, none⟩ u) := (h.mono (Nat.le_of_lt hg)).setCell (p := ⟨g, 0, none⟩) (Nat.le_refl _) u
theorem push_keep2 {w w7 : World} {g : Nat} (h : Below g w w7) (u : Value) : Below g w (w7.setCell ⟨g, 0, none⟩ u) := h.setCell (p := ⟨g, 0, none⟩) (Nat.le_refl _) u
theorem stack_cut (W : World) (A : Option Addr) (n c m : Nat) (h : m ≤ n) (hc : n ≤ c) : (Instr.slice 22 (.slice A n c) (some (.int .i64 (m : Int))) none none).run Try.prog W = .ok (.slice (if c = m then A else A.map (·.add (m * k28.sz))) (n - m) (c - m)) W := by
  have hu := Try.underlying22
  have hz : k28.sz = 1 := rfl
  have h2 : m ≤ c := Nat.le_trans h hc
  by_cases z : c = m <;> simp [Instr.slice, Instr.sliceBounds, Instr.sliceBound, asIntOf, hu, h, h2, z, hz]
theorem push_apart {w0 w : World} {g : Nat} (_ : w0.heap.size ≤ w.heap.size) (h1 : w0.heap.size ≤ g) (h2 : g < w.heap.size) : ∀ k, (k < w0.heap.size ∨ w.heap.size ≤ k) → k ≠ g := by omega
theorem push_keep' {w w7 : World} {g : Nat} (h : Below g w w7) (n : Nat) : Below g w (w7.drewN n) := pw_below_drewN h n
set_option maxHeartbeats 8000000 in
set_option maxRecDepth 100000 in
theorem stack_pile_api_Step_push.own (g : Nat) (A : Option Addr) (c : Nat) (l : List S28) (Ax : Option Addr) (cx : Nat) (lx : List S38) (w0 w : World) (hb0 : Below w0.heap.size w0 w) (hg0 : w0.heap.size ≤ g)
    (hg : w.heap[g]? = some (.cells #[.slice A l.length c, .int .i64 16] 48 (0, 0))) (hC : Kd.C k28 w0 A l.length l) (_ : l.length ≤ c) (hX : Kd.C k38 w0 Ax lx.length lx) (hcx : lx.length ≤ cx) (hl : l.length ≤ 1000) :
    Calls Try.prog 25 #[.pointer (some ⟨g, 0, none⟩), .agg #[.slice Ax lx.length cx]] w fun e w' => (∃ v, e = .returned v) ∧ (∃ A' c', w'.heap[g]? = some (.cells #[.slice A' (stack_top (l ++ [⟨lx⟩])).length c', .int .i64 16] 48 (0, 0)) ∧ (stack_top (l ++ [⟨lx⟩])).length ≤ c' ∧ Kd.C k28 w' A' (stack_top (l ++ [⟨lx⟩])).length (stack_top (l ++ [⟨lx⟩])) ∧
      (l.length < 16 → Kd.N k28 28 w' w.heap.size (fun k => k < w0.heap.size ∨ w.heap.size ≤ k) (.slice A' (stack_top (l ++ [⟨lx⟩])).length c') (stack_top (l ++ [⟨lx⟩])))) ∧ Below g w w' := by
  have huS := Try.underlying28
  have huP := Try.underlying48
  have HF := Aside0.mk (Kd.C_F heap_Step hC)
  have HX := Aside0.mk (Kd.C_F (Kd.heap_iso _ (Kd.heap_pair (Kd.heap_int _) (Kd.heap_pair Kd.heap_string Kd.heap_string)) : Kd.Heap k38) hX)
  have HCX := Aside0.mk hcx
  have HL := Aside0.mk hl
  have HGW := Aside0.mk (blk_lt hg)
  have HG0 := Aside0.mk (hb0.size)
  have HG1 := Aside0.mk hg0
  have HKG := Aside0.mk hg
  have HH0 := Aside0.mk hb0
  clear hC hX hcx hl hg hb0 hg0
  go_enter Try.func25, Try.ntmps25
  go_upto_region 0 with fail
  go_cut [3] (fun v3 wx => v3 = .pointer (some ⟨w.heap.size, 0, none⟩) ∧ Aside0 (wx.heap[g]? = some (.cells #[.slice A l.length c, .int .i64 16] 48 (0, 0)) ∧ wx.heap[w.heap.size]? = some (.cells #[.slice Ax lx.length cx] 28 (0, 0)) ∧ Below w.heap.size w wx ∧ Below w0.heap.size w0 wx))
  case first =>
    go_wp2_with fail
    go_meet
    exact ⟨rfl, ⟨blk_alloc HKG.out _, heap_alloc_new _ _, below_alloc (Below.refl _ _) _, below_alloc HH0.out _⟩⟩
  obtain ⟨rfl, hcut⟩ := hcut
  have KG := Aside0.mk hcut.out.1
  have KX := Aside0.mk hcut.out.2.1
  have KB := Aside0.mk hcut.out.2.2.1
  have KB0 := Aside0.mk hcut.out.2.2.1
  have H0 := Aside0.mk hcut.out.2.2.2
  clear hcut HKG HH0
  go_upto_region 1 with fail
  refine start_ (n := 12) (S := fun w' => w'.cell? ⟨g, 0, none⟩ = some (.slice A l.length c) ∧ w'.cell? ⟨w.heap.size, 0, none⟩ = some (.slice Ax lx.length cx)) (ds := [8, 11]) #[false, false, false, false, false, false, false, false, false, false, false, false] (by kernel_rfl) rfl rfl ⟨(blk_cell (blk_drew KG.out) 0).trans rfl, (blk_cell (blk_drew KX.out) 0).trans rfl⟩ (fun hHeld => ?_)
  refine pure_ (i := 0) (N := some 5) (v := ?_) (a' := ?_) #[true, false, false, false, false, false, false, false, false, false, false, false] rfl rfl (by kernel_rfl) (fun _ _ _ h => h) (Or.inl ⟨by rfl, ?_⟩) ?_ ?_
  rotate_left
  · intro w'
    go_simp
    with_reducible rfl
  rotate_left
  · simp only [Act.put, List.setIfInBounds_toArray, List.set_cons_zero, List.set_cons_succ, i64_w, i32_w]
    rfl
  refine pure_ (i := 1) (N := some 6) (v := ?_) (a' := ?_) #[true, true, false, false, false, false, false, false, false, false, false, false] rfl rfl (by kernel_rfl) (fun _ _ _ h => h) (Or.inl ⟨by rfl, ?_⟩) ?_ ?_
  rotate_left
  · intro w'
    go_simp
    with_reducible rfl
  rotate_left
  · simp only [Act.put, List.setIfInBounds_toArray, List.set_cons_zero, List.set_cons_succ, i64_w, i32_w]
    rfl
  refine pure_ (i := 2) (N := some 7) (v := ?_) (a' := ?_) #[true, true, true, false, false, false, false, false, false, false, false, false] rfl rfl (by kernel_rfl) (fun _ _ _ h => h) (Or.inl ⟨by rfl, ?_⟩) ?_ ?_
  rotate_left
  · intro w'
    go_simp
    with_reducible rfl
  rotate_left
  · simp only [Act.put, List.setIfInBounds_toArray, List.set_cons_zero, List.set_cons_succ, i64_w, i32_w]
    rfl
  refine pure_ (i := 3) (N := some 8) (v := ?_) (a' := ?_) #[true, true, true, true, false, false, false, false, false, false, false, false] rfl rfl (by kernel_rfl) (fun _ _ _ h => h) (Or.inl ⟨by rfl, ?_⟩) ?_ ?_
  rotate_left
  · intro w'
    go_simp
    with_reducible rfl
  rotate_left
  · simp only [Act.put, List.setIfInBounds_toArray, List.set_cons_zero, List.set_cons_succ, i64_w, i32_w]
    rfl
  refine take_ (i := 4) (N := some 9) (v := ?_) (a' := ?_) #[true, true, true, true, true, false, false, false, false, false, false, false] rfl rfl (by kernel_rfl) (fun _ _ _ h => h) (Or.inl ⟨by rfl, ?_⟩) hHeld ?_ ?_
  rotate_left
  · rintro w' ⟨s0, s1⟩
    go_simp
    with_reducible rfl
  rotate_left
  · simp only [Act.put, List.setIfInBounds_toArray, List.set_cons_zero, List.set_cons_succ, i64_w, i32_w]
    rfl
  refine take_ (i := 6) (N := some 11) (v := ?_) (a' := ?_) #[true, true, true, true, true, false, true, false, false, false, false, false] rfl rfl (by kernel_rfl) (fun _ _ _ h => h) (Or.inl ⟨by rfl, ?_⟩) hHeld ?_ ?_
  rotate_left
  · rintro w' ⟨s0, s1⟩
    go_simp
    with_reducible rfl
  rotate_left
  · simp only [Act.put, List.setIfInBounds_toArray, List.set_cons_zero, List.set_cons_succ, i64_w, i32_w]
    rfl
  refine join_ (σ := Value × Value) 4 #[true, true, true, true, true, true, true, true, false, false, false, false] (fun s_ => [(10, s_.1), (12, s_.2)]) (fun s_ w' => (w'.cell? ⟨g, 0, none⟩ = some (.slice A l.length c) ∧ w'.cell? ⟨w.heap.size, 0, none⟩ = some (.slice Ax lx.length cx)) ∧ Aside0 (w'.heap[g]? = some (.cells #[.slice A l.length c, .int .i64 16] 48 (0, 0)) ∧ w'.heap[w.heap.size]? = some (.cells #[.slice Ax lx.length cx] 28 (0, 0)) ∧ Below w.heap.size w w' ∧ Below w0.heap.size w0 w' ∧ Kd.N k28 28 w' w.heap.size (fun k => k < w0.heap.size ∨ w.heap.size ≤ k) s_.1 l ∧ ∃ b, s_.2 = .slice (some ⟨b, 0, none⟩) 1 1 ∧ w'.heap[b]? = some (.cells #[.slice Ax lx.length cx] 28 (0, 0)) ∧ w.heap.size ≤ b ∧ some b ≠ s_.1.ownBlock)) ?_ ?_
  rotate_left
  · intro hCont
    refine two_ (i := 5) (j := 7) (Ni := some 10) (Nj := some 12) #[true, true, true, true, true, true, true, false, false, false, false, false] #[true, true, true, true, true, false, true, true, false, false, false, false] rfl rfl rfl rfl (by kernel_rfl) (by decide) (by decide) (fun K hK => ?_) (fun K hK => ?_)
    · skip
      refine goes_ Try.func27 (by kernel_rfl) rfl #[.slice A l.length c] (by rfl) rfl rfl (by (try simp only [List.map_toArray, List.map_cons, List.map_nil]); first | done | rfl) ?_
      with_reducible refine (slices_Clone__api_Step_api_Step.own (fun k => k < w0.heap.size) A c l _ (Kd.F_below HF.out (below_drew H0.out)) (fun k hk => Nat.lt_of_lt_of_le hk (below_drew H0.out).size) (by have := HL.out; omega)).mono ?_
      rintro e w5 ⟨v10, rfl, hN, hb⟩
      refine ⟨_, rfl, ?_⟩
      have KG := Aside0.mk (blk_below (blk_drew KG.out) hb)
      have KX := Aside0.mk (blk_below (blk_drew KX.out) hb)
      have hle := (below_drew KB.out).size
      have HN := Aside0.mk (Kd.N_mono (ok' := (fun k => k < w0.heap.size ∨ w.heap.size ≤ k)) (Kd.N_lower hN (by have := hle; omega)) (fun k hk => hk.imp id (fun h => Nat.le_trans (by have := hle; omega) h)))
      have HNB := Aside0.mk (Kd.N_base hN)
      have KB := Aside0.mk (below_step (below_drew KB.out) hb)
      have H0 := Aside0.mk (below_step (below_drew H0.out) hb)
      have HB5 := Aside0.mk hb
      clear hN hb
      refine hK.out _ _ ⟨(blk_cell (KG.out) 0).trans rfl, (blk_cell (KX.out) 0).trans rfl⟩ (fun hHeld => ?_)
      clear hK K
      refine norm_ (a' := ?_) ?_ ?_
      rotate_left
      · show Act.put _ (some 10) _ = _
        simp only [Act.put, List.setIfInBounds_toArray, List.set_cons_zero, List.set_cons_succ, i64_w, i32_w]
        rfl
      refine one_ (i := 7) (N := some 12) #[true, true, true, true, true, true, true, true, false, false, false, false] rfl rfl (by kernel_rfl) (by decide) (fun K hK => ?_)
      refine value_ (w1 := ?_) (v := ?_) (by rfl) rfl ?_ ?_
      rotate_left 2
      · go_simp
        constructor
        · rfl
        · rfl
      refine hK.out _ _ ⟨(blk_cell (blk_alloc KG.out _) 0).trans rfl, (blk_cell (blk_alloc KX.out _) 0).trans rfl⟩ (fun hHeld => ?_)
      clear hK K
      refine norm_ (a' := ?_) ?_ ?_
      rotate_left
      · show Act.put _ (some 12) _ = _
        simp only [Act.put, List.setIfInBounds_toArray, List.set_cons_zero, List.set_cons_succ, i64_w, i32_w]
        rfl
      exact norm_ (by simp only [putAll, Act.put, List.setIfInBounds_toArray, List.set_cons_zero, List.set_cons_succ]) (hCont (v10, .slice (some ⟨w5.heap.size, 0, none⟩) 1 1) _ ⟨hHeld, ⟨blk_alloc KG.out _, blk_alloc KX.out _, below_alloc KB.out _, below_alloc H0.out _, Kd.N_alloc HN.out _, _, rfl, heap_alloc_new _ _, KB.out.size, fun e => Nat.lt_irrefl _ (Kd.N_lt HN.out _ e.symm)⟩⟩)
    · skip
      refine value_ (w1 := ?_) (v := ?_) (by rfl) rfl ?_ ?_
      rotate_left 2
      · go_simp
        constructor
        · rfl
        · rfl
      refine hK.out _ _ ⟨(blk_cell (blk_alloc (blk_drew KG.out) _) 0).trans rfl, (blk_cell (blk_alloc (blk_drew KX.out) _) 0).trans rfl⟩ (fun hHeld => ?_)
      clear hK K
      refine norm_ (a' := ?_) ?_ ?_
      rotate_left
      · show Act.put _ (some 12) _ = _
        simp only [Act.put, List.setIfInBounds_toArray, List.set_cons_zero, List.set_cons_succ, i64_w, i32_w]
        rfl
      refine one_ (i := 5) (N := some 10) #[true, true, true, true, true, true, true, true, false, false, false, false] rfl rfl (by kernel_rfl) (by decide) (fun K hK => ?_)
      refine goes_ Try.func27 (by kernel_rfl) rfl #[.slice A l.length c] (by rfl) rfl rfl (by (try simp only [List.map_toArray, List.map_cons, List.map_nil]); first | done | rfl) ?_
      with_reducible refine (slices_Clone__api_Step_api_Step.own (fun k => k < w0.heap.size) A c l _ (Kd.F_below HF.out (below_drew (below_alloc H0.out _))) (fun k hk => Nat.lt_of_lt_of_le hk (below_drew (below_alloc H0.out _)).size) (by have := HL.out; omega)).mono ?_
      rintro e w5 ⟨v10, rfl, hN, hb⟩
      refine ⟨_, rfl, ?_⟩
      have KN := Aside0.mk (blk_below (blk_drew (heap_alloc_new wc _)) hb)
      have KG := Aside0.mk (blk_below (blk_drew (blk_alloc KG.out _)) hb)
      have KX := Aside0.mk (blk_below (blk_drew (blk_alloc KX.out _)) hb)
      have hle := (below_drew (below_alloc KB.out (.cells #[.slice Ax lx.length cx] 28 (0, 0)))).size
      have HN := Aside0.mk (Kd.N_mono (ok' := (fun k => k < w0.heap.size ∨ w.heap.size ≤ k)) (Kd.N_lower hN (by have := hle; omega)) (fun k hk => hk.imp id (fun h => Nat.le_trans (by have := hle; omega) h)))
      have HNB := Aside0.mk (Kd.N_base hN)
      have KB := Aside0.mk (below_step (below_drew (below_alloc KB.out _)) hb)
      have H0 := Aside0.mk (below_step (below_drew (below_alloc H0.out _)) hb)
      clear hN hb
      refine hK.out _ _ ⟨(blk_cell (KG.out) 0).trans rfl, (blk_cell (KX.out) 0).trans rfl⟩ (fun hHeld => ?_)
      clear hK K
      refine norm_ (a' := ?_) ?_ ?_
      rotate_left
      · show Act.put _ (some 10) _ = _
        simp only [Act.put, List.setIfInBounds_toArray, List.set_cons_zero, List.set_cons_succ, i64_w, i32_w]
        rfl
      exact norm_ (by simp only [putAll, Act.put, List.setIfInBounds_toArray, List.set_cons_zero, List.set_cons_succ]) (hCont (v10, .slice (some ⟨wc.heap.size, 0, none⟩) 1 1) _ ⟨hHeld, ⟨KG.out, KX.out, KB.out, H0.out, HN.out, _, rfl, KN.out, push_le wc KB0.out, fun e => push_ne wc (.cells #[.slice Ax lx.length cx] 28 (0, 0)) (HNB.out _ e.symm)⟩⟩)
  rintro ⟨v10, v12⟩ w5 ⟨hS_, hF_⟩
  obtain ⟨g0, g1, g2, g3, g4, b, rfl, g6, g7, g8⟩ := hF_.out
  clear KG KX KB H0 hF_
  have KG := Aside0.mk g0
  have KX := Aside0.mk g1
  have KB := Aside0.mk g2
  have H0 := Aside0.mk g3
  have HN := Aside0.mk g4
  have KN := Aside0.mk g6
  have HLE := Aside0.mk g7
  have HNE := Aside0.mk g8
  clear g0 g1 g2 g3 g4 g6 g7 g8
  have hHeld := hS_
  clear hS_
  refine norm_ (a' := ?_) ?_ ?_
  rotate_left
  · simp only [putAll, Act.put, List.setIfInBounds_toArray, List.set_cons_zero, List.set_cons_succ]
    rfl
  refine last_ (i := 8) (N := some 13) #[true, true, true, true, true, true, true, true, true, false, false, false] rfl rfl (by kernel_rfl) (by decide) (fun K hK => ?_)
  refine Kd.N_append_rows_step k28 (w0 := w) w.heap.size (by rfl) (.tmp 10) (.tmp 12) 22 28 (.agg #[.slice none 0 0]) 24 rfl Try.underlying22 info28 rfl (by decide) (by omega) v10 l [⟨lx⟩] (some ⟨b, 0, none⟩) 1 1 (fun k => k < w0.heap.size ∨ w.heap.size ≤ k) (fun k => k < w0.heap.size ∨ k = b) rfl rfl HN.out (push_one KN.out (Kd.F_below HX.out H0.out) HCX.out) (push_okp HN.out HG0.out HLE.out HNE.out) (fun k hk => .inr (Nat.le_trans KB.out.size hk)) KB.out KB.out.size (by have := HL.out; omega) ?_
  intro v13 w6 hN6 hb6 hg6 hat6
  have KG := Aside0.mk (blk_grown KG.out hg6 (fun e => push_own HN.out HGW.out e.symm))
  have HN6 := Aside0.mk hN6
  have KB6 := Aside0.mk hb6
  clear hN6 hb6 hg6 hat6
  refine hK.out _ _ ?_
  clear hK K
  refine norm_ (a' := ?_) ?_ ?_
  rotate_left
  · show Act.put _ (some 13) _ = _
    simp only [Act.put, List.setIfInBounds_toArray, List.set_cons_zero, List.set_cons_succ, i64_w, i32_w]
    rfl
  refine pure_ (i := 9) (N := some 14) (v := ?_) (a' := ?_) #[true, true, true, true, true, true, true, true, true, true, false, false] rfl rfl (by kernel_rfl) (fun _ _ _ h => h) (Or.inl ⟨by rfl, ?_⟩) ?_ ?_
  rotate_left
  · intro w'
    go_simp
    with_reducible rfl
  rotate_left
  · simp only [Act.put, List.setIfInBounds_toArray, List.set_cons_zero, List.set_cons_succ, i64_w, i32_w]
    rfl
  refine pure_ (i := 10) (N := some 15) (v := ?_) (a' := ?_) #[true, true, true, true, true, true, true, true, true, true, true, false] rfl rfl (by kernel_rfl) (fun _ _ _ h => h) (Or.inl ⟨by rfl, ?_⟩) ?_ ?_
  rotate_left
  · intro w'
    go_simp
    with_reducible rfl
  rotate_left
  · simp only [Act.put, List.setIfInBounds_toArray, List.set_cons_zero, List.set_cons_succ, i64_w, i32_w]
    rfl
  refine last_ (i := 11) (N := none) #[true, true, true, true, true, true, true, true, true, true, true, true] rfl rfl (by kernel_rfl) (by decide) (fun K hK => ?_)
  have hs_ := (blk_cell KG.out 0).trans rfl
  have hf_ := blk_frozen KG.out 0
  obtain ⟨A13, c13, rfl⟩ := Kd.N_slice HN6.out
  refine skip_ (w1 := ?_) (by rfl) rfl ?_ ?_
  rotate_left
  · go_simp
    rfl
  refine hK.out _ _ ?_
  clear hK K
  refine done_ (by kernel_rfl) ?_
  have hN7 := Kd.N_far HN6.out (p := ⟨g, 0, none⟩) (push_apart HG0.out HG1.out HGW.out) (.slice A13 (l.length + 1) c13)
  have KG7 := Aside0.mk (blk_put (cs' := #[.slice A13 (l.length + 1) c13, .int .i64 16]) KG.out 0 (.slice A13 (l.length + 1) c13) rfl)
  have HK7 := Aside0.mk (push_keep (g := g) KB6.out HGW.out (.slice A13 (l.length + 1) c13))
  have hr7 := Kd.N_reads' hN7
  have HC7 := Aside0.mk (Kd.N_F hN7)
  have HN7 := Aside0.mk hN7
  have HLT := Aside0.mk (show (l ++ [(⟨lx⟩ : S28)]).length = l.length + 1 by simp)
  have HD7 := Aside0.mk hr7.2.1
  have hLl : l.length + 1 = (l ++ [(⟨lx⟩ : S28)]).length := by simp
  have HLL := Aside0.mk (show (l ++ [(⟨lx⟩ : S28)]).length ≤ 1001 by have := HL.out; simp; omega)
  clear hN7 hr7 hHeld hs_ hf_ HN6 HN KG KX KB KN H0 HLE HNE KB6 HF HX HCX KB0
  generalize w6.setCell ⟨g, 0, none⟩ (.slice A13 (l.length + 1) c13) = w7 at KG7 HK7 HC7 HN7 ⊢
  rw [hLl] at KG7
  clear hLl
  generalize hLe : l ++ [(⟨lx⟩ : S28)] = L at *
  have HLe := Aside0.mk hLe
  clear hLe
  have h70 := (blk_cell KG7.out 0).trans rfl
  have h71 := (blk_cell KG7.out 1).trans rfl
  go_upto_region 2 with fail
  go_cut [4] (fun v4 wx => v4 = .int .i64 (wrap64 ((L.length : Int) - 16)) ∧ Aside0 (∃ nd, wx = w7.drewN nd))
  case first =>
    go_quiet (fail)
    go_wp2_with fail
    go_meet
    exact ⟨rfl, ⟨_, rfl⟩⟩
  obtain ⟨rfl, ⟨nd, rfl⟩⟩ := hcut
  have KG8 := Aside0.mk (blk_drewN KG7.out nd)
  have HK8 := Aside0.mk (push_keep' HK7.out nd)
  have HC8 := Aside0.mk (Kd.F_drewN HC7.out nd)
  have HN8 := Aside0.mk (Kd.N_drewN HN7.out nd)
  clear h70 h71 KG7 HK7 HC7 HN7
  generalize w7.drewN nd = w8 at *
  have hw : wrap64 ((L.length : Int) - 16) = (L.length : Int) - 16 := by have := HLL.out; unfold wrap64; omega
  by_cases c1 : 16 < L.length
  · have hm : (L.length : Int) - 16 = ((L.length - 16 : Nat) : Int) := by omega
    have hst : stack_top L = L.drop (L.length - 16) := if_pos c1
    have hC9 := Kd.F_cut HC8.out (show L.length - 16 ≤ L.length by omega) HD7.out
    have hle : L.length - 16 ≤ L.length := by omega
    have hp : 0 < L.length - 16 := by omega
    have hd : (L.drop (L.length - 16)).length = L.length - (L.length - 16) := List.length_drop
    rw [hw, hm]
    rw [hd] at hC9
    generalize L.length - 16 = m at *
    have c1b : decide (0 < (m : Int)) = true := decide_eq_true (by omega)
    have c1c : decide (0 < m) = true := decide_eq_true hp
    have c1d : decide (16 < (L.length : Int)) = true := decide_eq_true (by omega)
    have c1e : decide (16 < L.length) = true := decide_eq_true c1
    have hsl : ∀ W, (Instr.slice 22 (.slice A13 L.length c13) (some (.int .i64 (m : Int))) none none).run Try.prog W = .ok (.slice (if c13 = m then A13 else A13.map (·.add (m * k28.sz))) (L.length - m) (c13 - m)) W := fun W => stack_cut W A13 L.length c13 m hle HD7.out
    have h80 := (blk_cell KG8.out 0).trans rfl
    have f80 := blk_frozen KG8.out 0
    have HS9 := Aside0.mk hC9
    have HST := Aside0.mk hst
    have HD := Aside0.mk hd
    have HLE := Aside0.mk hle
    have HP := Aside0.mk c1
    clear hw hm hC9 hst hd hle hp c1
    generalize (if c13 = m then A13 else A13.map (·.add (m * k28.sz))) = A14 at *
    go_wp2_with fail
    go_end0
    rw [HLe.out, HST.out, HD.out]
    exact ⟨⟨_, rfl⟩, ⟨_, _, blk_put (cs' := #[.slice A14 (L.length - m) (c13 - m), .int .i64 16]) KG8.out 0 (.slice A14 (L.length - m) (c13 - m)) rfl, by have := HD7.out; omega, Kd.F_now (Kd.F_far HS9.out (p := ⟨g, 0, none⟩) (push_apart HG0.out HG1.out HGW.out) _), fun h_ => absurd h_ (by have := HLT.out; have := HP.out; omega)⟩, push_keep2 HK8.out _⟩
  · have c1b : decide (0 < (L.length : Int) - 16) = false := decide_eq_false (by omega)
    have c1d : decide (16 < (L.length : Int)) = false := decide_eq_false (by omega)
    have c1e : decide (16 < L.length) = false := decide_eq_false c1
    have hst : stack_top L = L := if_neg c1
    have HST := Aside0.mk hst
    clear hst c1
    go_wp2_with fail
    go_end0
    rw [HLe.out, HST.out]
    exact ⟨⟨_, rfl⟩, ⟨_, _, KG8.out, HD7.out, Kd.F_now HC8.out, fun _ => HN8.out⟩, HK8.out⟩

end Go.Proofs.Ytbcokholddlpbaa.P
