import Derived.Test.YtkbhnkagiaghnaaDoorPx0
import Derived.Test.YtkbhnkagiaghnaaDoorPx9
import Derived.Test.YtkbhnkagiaghnaaDoorPx10
namespace Go.Proofs.YtkbhnkagiaghnaaDoor.P
open Go.RowKit Go.Proofs.YtkbhnkagiaghnaaDoorW.PrintWords Go.Proofs.YtkbhnkagiaghnaaDoorW.PrintLast Go.Proofs.YtkbhnkagiaghnaaDoorW.PrintMore
attribute [local go_sem] max2_int min2_int max_two min_two max_three min_three max_four min_four   -- for this text's walks alone
set_option linter.unusedVariables false
set_option linter.unusedSimpArgs false
/-! ### stylusref51_Cut: function 22 -/
def stylusref51_Cut.l0 : Nat → ByteArray → List ByteArray → Int → Int → Option (List ByteArray)
 | 0, _, _, _, _ => none
 | k + 1, x0, x3, x4, x5 => if x5 < (x0.size : Int) then (if 0 ≤ x5 then (if (bt x0 x5) = 10 then (if 0 ≤ x4 then (if x4 ≤ (wrap64 (x5 + 1)) then (if (wrap64 (x5 + 1)) ≤ (x0.size : Int) then (if x3.length < 8796093022208 then (stylusref51_Cut.l0 k x0 (x3 ++ [x0.extract (x4 : Int).toNat ((wrap64 (x5 + 1)) : Int).toNat]) (wrap64 (x5 + 1)) (wrap64 (x5 + 1))) else (none)) else (none)) else (none)) else (none)) else (stylusref51_Cut.l0 k x0 x3 x4 (wrap64 (x5 + 1)))) else (none)) else (if x4 < (x0.size : Int) then (if 0 ≤ x4 then (if x4 ≤ (x0.size : Int) then (if x3.length < 8796093022208 then (some (x3 ++ [x0.extract (x4 : Int).toNat x0.size])) else (none)) else (none)) else (none)) else (some x3))
def stylusref51_Cut.f (k : Nat) (a0 : ByteArray) : Option (List ByteArray) := stylusref51_Cut.l0 k a0 ([] : List ByteArray) 0 0
set_option maxHeartbeats 8000000 in
set_option maxRecDepth 100000 in
theorem stylusref51_Cut.calls (k : Nat) (a0 : ByteArray) (r : List ByteArray) (w : World) (h : stylusref51_Cut.f k a0 = some r) :
  Calls Tryd.prog 22 #[.string a0] w fun e w' => ∃ v0_ : Value, e = .returned (v0_) ∧ Kd.R Kd.string 9 w' w.heap.size (fun _ => True) v0_ r ∧ Below w.heap.size w w' := by
 have HB := Aside0.mk (Below.refl w.heap.size w)
 have H : (stylusref51_Cut.l0 k a0 ([] : List ByteArray) 0 0) = some r := h
 clear h
 have H' := Aside0.mk H
 clear H
 go_enter Tryd.func22, Tryd.ntmps22
 go_wp2
 go_loopg [3, 4, 5] k (fun kq v3 v4 v5 w' => ∃ (x3_1 : List ByteArray) (x4_1 : Int) (x5_1 : Int), v4 = .int .i64 x4_1 ∧ v5 = .int .i64 x5_1 ∧ Aside0 (stylusref51_Cut.l0 kq a0 x3_1 x4_1 x5_1 = some r) ∧ Aside0 (kq ≤ k) ∧ Aside0 (Kd.R Kd.string 9 w' w.heap.size (fun _ => True) v3 x3_1) ∧ Aside0 (Below w.heap.size w w'))
 case atStart => exact ⟨(([] : List ByteArray)), (0), (0), (by first | rfl | (simp; done) | (simp [*]; done)), (by first | rfl | (simp; done) | (simp [*]; done)), H', ⟨Nat.le_refl _⟩, ⟨by first | exact Kd.R_nil _ _ _ _ _ | exact Kd.N_nil _ _ _ _ _ | exact Kd.V_nil _ _ _ _ _ | exact Kd.Q_nil _ _ _ _ _ | exact Kd.S_nil _ _ _ _ _⟩, ⟨by repeat (first | (with_reducible first | exact HB.out | apply below_alloc | apply pw_below_drewN | apply below_drew1) | exact HB.out)⟩⟩
 case round =>
  clear H'
  obtain ⟨x3_1, x4_1, x5_1, rfl, rfl, HA, HK1, HO_3, HB⟩ := hrel
  cases gk with
  | zero => exact absurd HA.out (by simp [stylusref51_Cut.l0])
  | succ k1 =>
   have H := HA.out
   clear HA
   simp only [stylusref51_Cut.l0] at H
   by_cases c2 : x5_1 < (a0.size : Int)
   ·rw [if_pos c2] at H
    have c2b0 : decide (x5_1 < (a0.size : Int)) = true := decide_eq_true c2
    clear c2
    by_cases c3 : 0 ≤ x5_1
    ·rw [if_pos c3] at H
     have c3b0 : decide (0 ≤ x5_1) = true := decide_eq_true c3
     clear c3
     by_cases c5 : (bt a0 x5_1) = 10
     ·rw [if_pos c5] at H
      have c5b0 : ((bt a0 x5_1) == 10) = true := beq_iff_eq.mpr c5
      have c5b1 : ((bt a0 x5_1) != 10) = false := bne_eq_false_iff_eq.mpr c5
      clear c5
      by_cases c6 : 0 ≤ x4_1
      ·rw [if_pos c6] at H
       have c6b0 := eq_true c6
       have c6b1 : decide (0 ≤ x4_1) = true := decide_eq_true c6
       clear c6
       by_cases c7 : x4_1 ≤ (wrap64 (x5_1 + 1))
       ·rw [if_pos c7] at H
        have c7b0 := eq_true c7
        have c7b1 : decide (x4_1 ≤ (wrap64 (x5_1 + 1))) = true := decide_eq_true c7
        by_cases c8 : (wrap64 (x5_1 + 1)) ≤ (a0.size : Int)
        ·rw [if_pos c8] at H
         have c8b0 := eq_true c8
         have c8b1 : decide ((wrap64 (x5_1 + 1)) ≤ (a0.size : Int)) = true := decide_eq_true c8
         by_cases c9 : x3_1.length < 8796093022208
         ·rw [if_pos c9] at H
          have LMc9 := Aside0.mk c9
          clear c9
          obtain ⟨y237, hy237⟩ : ∃ y_ : List ByteArray, y_ = (x3_1 ++ [a0.extract (x4_1 : Int).toNat ((wrap64 (x5_1 + 1)) : Int).toNat]) := ⟨_, rfl⟩
          replace H : (stylusref51_Cut.l0 k1 a0 y237 (wrap64 (x5_1 + 1)) (wrap64 (x5_1 + 1))) = some r := by first | (rw [hy237]; with_reducible exact H) | (have H2_ := (Option.bind_some _ _).symm.trans H; rw [hy237]; with_reducible exact H2_) | (have H2_ := (Option.bind_some _ _).symm.trans H; with_reducible exact H2_) | with_reducible exact H | (rw [hy237]; exact H) | exact H
          have Ny237 := Aside0.mk hy237
          clear hy237
          have H' := Aside0.mk H
          clear H
          have p4 : 0 ≤ (x5_1 : Int) := of_decide_eq_true (by first | (with_reducible assumption) | assumption)
          have q4 : x5_1 < (a0.size : Int) := of_decide_eq_true (by first | (with_reducible assumption) | assumption)
          have hx4 := bt_at a0 x5_1
          replace p4 := eq_true p4
          replace q4 := eq_true q4
          go_wp2_with (first | ((with_reducible refine gate_builtin (b := .append) (xs := #[.tmp 16, .tmp 22]) rfl ?_); at_builtin; refine Kd.R_append Kd.string (w0 := w) w.heap.size rfl (.tmp 16) (.tmp 22) 22 9 (.string ⟨#[]⟩) 16 rfl Tryd.underlying22 info9 rfl (by decide) (by omega) u3 x3_1 (a0.extract (x4_1 : Int).toNat ((wrap64 (x5_1 + 1)) : Int).toNat) [.string (a0.extract (x4_1 : Int).toNat ((wrap64 (x5_1 + 1)) : Int).toNat)] (fun _ => True) (fun _ => False) rfl rfl ?aP (fun _ hk => hk.elim) ?aF ?aO ?aB ?aS ?aL ?_; (case aP => exact rfl); (case aB => exact (by repeat (first | (with_reducible first | exact HB.out | apply below_alloc | apply pw_below_drewN | apply below_drew1) | exact HB.out))); (case aF => exact (fun _ _ => trivial)); (case aO => exact (by (with_reducible repeat (first | apply Kd.R_alloc | apply Kd.R_drewN | apply Kd.R_drew)); exact HO_3.out)); (case aS => exact (below_size (by repeat (first | (with_reducible first | exact HB.out | apply below_alloc | apply pw_below_drewN | apply below_drew1) | exact HB.out)))); (case aL => have := LMc9.out; omega); intro v238 w10 ho hb hg hat; rw [← Ny237.out] at ho; have n0_ := Aside0.mk (hb); have n1_ := Aside0.mk (ho); clear HB; clear HO_3; have HB := n0_; have HO239 := n1_; clear n0_ n1_; clear ho hb hg hat))
          go_roundg k1
          case measure => have := HK1.out; omega
          case rel => exact ⟨(y237), (wrap64 (x5_1 + 1)), (wrap64 (x5_1 + 1)), (by first | rfl | (simp; done) | (simp [*]; done)), (by first | rfl | (simp; done) | (simp [*]; done)), H', ⟨by have := HK1.out; omega⟩, ⟨by (with_reducible repeat (first | apply Kd.R_alloc | apply Kd.R_drewN | apply Kd.R_drew)); exact HO239.out⟩, ⟨by repeat (first | (with_reducible first | exact HB.out | apply below_alloc | apply pw_below_drewN | apply below_drew1) | exact HB.out)⟩⟩
         ·rw [if_neg c9] at H
          exact absurd H (by simp)
        ·rw [if_neg c8] at H
         exact absurd H (by simp)
       ·rw [if_neg c7] at H
        exact absurd H (by simp)
      ·rw [if_neg c6] at H
       exact absurd H (by simp)
     ·rw [if_neg c5] at H
      have c5b0 : ((bt a0 x5_1) == 10) = false := beq_eq_false_iff_ne.mpr c5
      have c5b1 : ((bt a0 x5_1) != 10) = true := bne_iff_ne.mpr c5
      have H' := Aside0.mk H
      clear H
      have p4 : 0 ≤ (x5_1 : Int) := of_decide_eq_true (by first | (with_reducible assumption) | assumption)
      have q4 : x5_1 < (a0.size : Int) := of_decide_eq_true (by first | (with_reducible assumption) | assumption)
      have hx4 := bt_at a0 x5_1
      replace p4 := eq_true p4
      replace q4 := eq_true q4
      go_wp2
      go_roundg k1
      case measure => have := HK1.out; omega
      case rel => exact ⟨(x3_1), (x4_1), (wrap64 (x5_1 + 1)), (by first | rfl | (simp; done) | (simp [*]; done)), (by first | rfl | (simp; done) | (simp [*]; done)), H', ⟨by have := HK1.out; omega⟩, ⟨by (with_reducible repeat (first | apply Kd.R_alloc | apply Kd.R_drewN | apply Kd.R_drew)); exact HO_3.out⟩, ⟨by repeat (first | (with_reducible first | exact HB.out | apply below_alloc | apply pw_below_drewN | apply below_drew1) | exact HB.out)⟩⟩
    ·rw [if_neg c3] at H
     exact absurd H (by simp)
   ·rw [if_neg c2] at H
    have c2b0 : decide (x5_1 < (a0.size : Int)) = false := decide_eq_false c2
    clear c2
    by_cases c11 : x4_1 < (a0.size : Int)
    ·rw [if_pos c11] at H
     have c11b0 : decide (x4_1 < (a0.size : Int)) = true := decide_eq_true c11
     clear c11
     by_cases c12 : 0 ≤ x4_1
     ·rw [if_pos c12] at H
      have c12b0 := eq_true c12
      have c12b1 : decide (0 ≤ x4_1) = true := decide_eq_true c12
      clear c12
      by_cases c13 : x4_1 ≤ (a0.size : Int)
      ·rw [if_pos c13] at H
       have c13b0 := eq_true c13
       have c13b1 : decide (x4_1 ≤ (a0.size : Int)) = true := decide_eq_true c13
       clear c13
       by_cases c14 : x3_1.length < 8796093022208
       ·rw [if_pos c14] at H
        have LMc14 := Aside0.mk c14
        clear c14
        obtain ⟨y240, hy240⟩ : ∃ y_ : List ByteArray, y_ = (x3_1 ++ [a0.extract (x4_1 : Int).toNat a0.size]) := ⟨_, rfl⟩
        replace H : (some y240) = some r := by first | (rw [hy240]; with_reducible exact H) | (have H2_ := (Option.bind_some _ _).symm.trans H; rw [hy240]; with_reducible exact H2_) | (have H2_ := (Option.bind_some _ _).symm.trans H; with_reducible exact H2_) | with_reducible exact H | (rw [hy240]; exact H) | exact H
        have Ny240 := Aside0.mk hy240
        clear hy240
        obtain rfl := Option.some.inj H
        go_wp2_with (first | ((with_reducible refine gate_builtin (b := .append) (xs := #[.tmp 30, .tmp 34]) rfl ?_); at_builtin; refine Kd.R_append Kd.string (w0 := w) w.heap.size rfl (.tmp 30) (.tmp 34) 22 9 (.string ⟨#[]⟩) 16 rfl Tryd.underlying22 info9 rfl (by decide) (by omega) u3 x3_1 (a0.extract (x4_1 : Int).toNat a0.size) [.string (a0.extract (x4_1 : Int).toNat a0.size)] (fun _ => True) (fun _ => False) rfl rfl ?aP (fun _ hk => hk.elim) ?aF ?aO ?aB ?aS ?aL ?_; (case aP => exact rfl); (case aB => exact (by repeat (first | (with_reducible first | exact HB.out | apply below_alloc | apply pw_below_drewN | apply below_drew1) | exact HB.out))); (case aF => exact (fun _ _ => trivial)); (case aO => exact (by (with_reducible repeat (first | apply Kd.R_alloc | apply Kd.R_drewN | apply Kd.R_drew)); exact HO_3.out)); (case aS => exact (below_size (by repeat (first | (with_reducible first | exact HB.out | apply below_alloc | apply pw_below_drewN | apply below_drew1) | exact HB.out)))); (case aL => have := LMc14.out; omega); intro v241 w15 ho hb hg hat; rw [← Ny240.out] at ho; have n0_ := Aside0.mk (hb); have n1_ := Aside0.mk (ho); clear HB; clear HO_3; have HB := n0_; have HO242 := n1_; clear n0_ n1_; clear ho hb hg hat))
        go_ret
        exact ⟨_, by first | rfl | (simp [errW_none, errW_some] <;> rfl) | (simp [*, errW_none, errW_some] <;> rfl), by (with_reducible repeat (first | apply Kd.R_alloc | apply Kd.R_drewN | apply Kd.R_drew)); exact HO242.out, by repeat (first | (with_reducible first | exact HB.out | apply below_alloc | apply pw_below_drewN | apply below_drew1) | exact HB.out)⟩
       ·rw [if_neg c14] at H
        exact absurd H (by simp)
      ·rw [if_neg c13] at H
       exact absurd H (by simp)
     ·rw [if_neg c12] at H
      exact absurd H (by simp)
    ·rw [if_neg c11] at H
     have c11b0 : decide (x4_1 < (a0.size : Int)) = false := decide_eq_false c11
     clear c11
     obtain rfl := Option.some.inj H
     go_wp2
     go_ret
     exact ⟨_, by first | rfl | (simp [errW_none, errW_some] <;> rfl) | (simp [*, errW_none, errW_some] <;> rfl), by (with_reducible repeat (first | apply Kd.R_alloc | apply Kd.R_drewN | apply Kd.R_drew)); exact HO_3.out, by repeat (first | (with_reducible first | exact HB.out | apply below_alloc | apply pw_below_drewN | apply below_drew1) | exact HB.out)⟩
/-! ### stylusref52_text: function 23 -/
def stylusref52_text.l0 : Nat → List ByteArray → ByteArray → Int → Option (ByteArray)
 | 0, _, _, _ => none
 | k + 1, x0, x3, x4 => if x4 < (x0.length : Int) then (if 0 ≤ x4 then (if x3.size + (rdOf ByteArray.empty x0 x4).size ≤ 9223372036854775807 then (stylusref52_text.l0 k x0 (x3 ++ (rdOf ByteArray.empty x0 x4)) (wrap64 (x4 + 1))) else (none)) else (none)) else (some x3)
def stylusref52_text.f (k : Nat) (l0 : List ByteArray) : Option (ByteArray) := stylusref52_text.l0 k l0 (⟨#[]⟩ : ByteArray) 0
theorem stylusref52_text.mono_l : ∀ k, (∀ y0 y1 y2, LeO (stylusref52_text.l0 k y0 y1 y2) (stylusref52_text.l0 (k + 1) y0 y1 y2))
 | 0 => fun _ _ _ r h => by simp [stylusref52_text.l0] at h
 | k + 1 => by
  have ih0 := stylusref52_text.mono_l k
  ·intro y0 y1 y2
   unfold stylusref52_text.l0
   repeat' first
   | (with_reducible exact ih0 _ _ _)
   | (with_reducible exact LeO.refl _)
   | (with_reducible exact LeO.none _)
   | (with_reducible refine LeO.ite ?_ ?_)
   | (with_reducible refine LeO.bind ?_ (fun _ => ?_))
   | exact ih0 _ _ _
   | exact LeO.none _
   | refine LeO.ite ?_ ?_
   | refine LeO.bind ?_ (fun _ => ?_)
theorem stylusref52_text.mono : ∀ a0 k, LeO (stylusref52_text.f k a0) (stylusref52_text.f (k + 1) a0) := by
 intro a0 k
 have ih0 := stylusref52_text.mono_l k
 unfold stylusref52_text.f
 repeat' first
   | (with_reducible exact ih0 _ _ _)
   | (with_reducible exact LeO.refl _)
   | (with_reducible exact LeO.none _)
   | (with_reducible refine LeO.ite ?_ ?_)
   | (with_reducible refine LeO.bind ?_ (fun _ => ?_))
   | exact ih0 _ _ _
   | exact LeO.none _
   | refine LeO.ite ?_ ?_
   | refine LeO.bind ?_ (fun _ => ?_)
set_option maxHeartbeats 8000000 in
set_option maxRecDepth 100000 in
theorem stylusref52_text.calls (k : Nat) (A0 : Option Addr) (c0 : Nat) (l0 : List ByteArray) (r : ByteArray) (w : World) (hr0 : Kd.C Kd.string w A0 l0.length l0) (hc0 : l0.length ≤ c0) (h : stylusref52_text.f k l0 = some r) :
  Calls Tryd.prog 23 #[.slice A0 l0.length c0] w fun e w' => e = .returned (.string r) ∧ Drawn0 w w' := by
 have HR0 := Aside0.mk hr0
 have HC0 := Aside0.mk hc0
 clear hr0 hc0
 have H : (stylusref52_text.l0 k l0 (⟨#[]⟩ : ByteArray) 0) = some r := h
 clear h
 have H' := Aside0.mk H
 clear H
 go_enter Tryd.func23, Tryd.ntmps23
 go_wp2
 go_loopg [3, 4] k (fun kq v3 v4 w' => ∃ (x3_1 : ByteArray) (x4_1 : Int), v3 = .string x3_1 ∧ v4 = .int .i64 x4_1 ∧ Aside0 (stylusref52_text.l0 kq l0 x3_1 x4_1 = some r) ∧ Aside0 (kq ≤ k) ∧ Drawn0 w w')
 case atStart => exact ⟨((⟨#[]⟩ : ByteArray)), (0), (by first | rfl | (simp; done) | (simp [*]; done)), (by first | rfl | (simp; done) | (simp [*]; done)), H', ⟨Nat.le_refl _⟩, by repeat (first | exact Drawn0.refl _ | apply Drawn0.step)⟩
 case round =>
  clear H'
  obtain ⟨x3_1, x4_1, rfl, rfl, HA, HK1, ⟨m1, rfl⟩⟩ := hrel
  cases gk with
  | zero => exact absurd HA.out (by simp [stylusref52_text.l0])
  | succ k1 =>
   have H := HA.out
   clear HA
   simp only [stylusref52_text.l0] at H
   by_cases c2 : x4_1 < (l0.length : Int)
   ·rw [if_pos c2] at H
    have c2b0 : decide (x4_1 < (l0.length : Int)) = true := decide_eq_true c2
    clear c2
    by_cases c3 : 0 ≤ x4_1
    ·rw [if_pos c3] at H
     have c3b0 : decide (0 ≤ x4_1) = true := decide_eq_true c3
     clear c3
     by_cases c4 : x3_1.size + (rdOf ByteArray.empty l0 x4_1).size ≤ 9223372036854775807
     ·rw [if_pos c4] at H
      have c4b0 := eq_true c4
      have c4b1 : decide (x3_1.size + (rdOf ByteArray.empty l0 x4_1).size ≤ 9223372036854775807) = true := decide_eq_true c4
      try have c4b2 : (9223372036854775807 < x3_1.size + (rdOf ByteArray.empty l0 x4_1).size) = False := eq_false (Nat.not_lt.2 c4)
      have H' := Aside0.mk H
      clear H
      have p243 : 0 ≤ (x4_1 : Int) := of_decide_eq_true (by first | (with_reducible assumption) | assumption)
      have q243 : x4_1 < (l0.length : Int) := of_decide_eq_true (by first | (with_reducible assumption) | assumption)
      obtain ⟨ad243, e243, hx243_0⟩ := Kd.at_string HR0.out x4_1 p243 q243
      cases e243
      replace p243 := eq_true p243
      replace q243 := eq_true q243
      go_wp2
      go_roundg k1
      case measure => have := HK1.out; omega
      case rel => exact ⟨(x3_1 ++ (rdOf ByteArray.empty l0 x4_1)), (wrap64 (x4_1 + 1)), (by first | rfl | (simp; done) | (simp [*]; done)), (by first | rfl | (simp; done) | (simp [*]; done)), H', ⟨by have := HK1.out; omega⟩, by repeat (first | exact Drawn0.refl _ | apply Drawn0.step)⟩
     ·rw [if_neg c4] at H
      exact absurd H (by simp)
    ·rw [if_neg c3] at H
     exact absurd H (by simp)
   ·rw [if_neg c2] at H
    have c2b0 : decide (x4_1 < (l0.length : Int)) = false := decide_eq_false c2
    clear c2
    obtain rfl := Option.some.inj H
    go_wp2
    go_ret
    exact ⟨by first | rfl | (simp; done) | (simp [*]; done), by repeat (first | exact Drawn0.refl _ | apply Drawn0.step)⟩
/-! ### stylusref52_ended: function 24 -/
def stylusref52_ended.l0 : Nat → List ByteArray → ByteArray → Int → Option (ByteArray)
 | 0, _, _, _ => none
 | k + 1, x0, x3, x4 => if x4 < (x0.length : Int) then (if 0 ≤ x4 then (if x3.size + (rdOf ByteArray.empty x0 x4).size ≤ 9223372036854775807 then (if (rdOf ByteArray.empty x0 x4).toList = ([] : List UInt8) then (if (x3 ++ (rdOf ByteArray.empty x0 x4)).size + 1 ≤ 9223372036854775807 then (stylusref52_ended.l0 k x0 ((x3 ++ (rdOf ByteArray.empty x0 x4)) ++ (⟨#[10]⟩ : ByteArray)) (wrap64 (x4 + 1))) else (none)) else (if 0 ≤ (wrap64 (((rdOf ByteArray.empty x0 x4).size : Int) - 1)) then (if (wrap64 (((rdOf ByteArray.empty x0 x4).size : Int) - 1)) < ((rdOf ByteArray.empty x0 x4).size : Int) then (if (bt (rdOf ByteArray.empty x0 x4) (wrap64 (((rdOf ByteArray.empty x0 x4).size : Int) - 1))) = 10 then (stylusref52_ended.l0 k x0 (x3 ++ (rdOf ByteArray.empty x0 x4)) (wrap64 (x4 + 1))) else (if (x3 ++ (rdOf ByteArray.empty x0 x4)).size + 1 ≤ 9223372036854775807 then (stylusref52_ended.l0 k x0 ((x3 ++ (rdOf ByteArray.empty x0 x4)) ++ (⟨#[10]⟩ : ByteArray)) (wrap64 (x4 + 1))) else (none))) else (none)) else (none))) else (none)) else (none)) else (some x3)
def stylusref52_ended.f (k : Nat) (l0 : List ByteArray) : Option (ByteArray) := stylusref52_ended.l0 k l0 (⟨#[]⟩ : ByteArray) 0
theorem stylusref52_ended.mono_l : ∀ k, (∀ y0 y1 y2, LeO (stylusref52_ended.l0 k y0 y1 y2) (stylusref52_ended.l0 (k + 1) y0 y1 y2))
 | 0 => fun _ _ _ r h => by simp [stylusref52_ended.l0] at h
 | k + 1 => by
  have ih0 := stylusref52_ended.mono_l k
  ·intro y0 y1 y2
   unfold stylusref52_ended.l0
   repeat' first
   | (with_reducible exact ih0 _ _ _)
   | (with_reducible exact LeO.refl _)
   | (with_reducible exact LeO.none _)
   | (with_reducible refine LeO.ite ?_ ?_)
   | (with_reducible refine LeO.bind ?_ (fun _ => ?_))
   | exact ih0 _ _ _
   | exact LeO.none _
   | refine LeO.ite ?_ ?_
   | refine LeO.bind ?_ (fun _ => ?_)
theorem stylusref52_ended.mono : ∀ a0 k, LeO (stylusref52_ended.f k a0) (stylusref52_ended.f (k + 1) a0) := by
 intro a0 k
 have ih0 := stylusref52_ended.mono_l k
 unfold stylusref52_ended.f
 repeat' first
   | (with_reducible exact ih0 _ _ _)
   | (with_reducible exact LeO.refl _)
   | (with_reducible exact LeO.none _)
   | (with_reducible refine LeO.ite ?_ ?_)
   | (with_reducible refine LeO.bind ?_ (fun _ => ?_))
   | exact ih0 _ _ _
   | exact LeO.none _
   | refine LeO.ite ?_ ?_
   | refine LeO.bind ?_ (fun _ => ?_)
set_option maxHeartbeats 8000000 in
set_option maxRecDepth 100000 in
theorem stylusref52_ended.calls (k : Nat) (A0 : Option Addr) (c0 : Nat) (l0 : List ByteArray) (r : ByteArray) (w : World) (hr0 : Kd.C Kd.string w A0 l0.length l0) (hc0 : l0.length ≤ c0) (h : stylusref52_ended.f k l0 = some r) :
  Calls Tryd.prog 24 #[.slice A0 l0.length c0] w fun e w' => e = .returned (.string r) ∧ Drawn0 w w' := by
 have HR0 := Aside0.mk hr0
 have HC0 := Aside0.mk hc0
 clear hr0 hc0
 have H : (stylusref52_ended.l0 k l0 (⟨#[]⟩ : ByteArray) 0) = some r := h
 clear h
 have H' := Aside0.mk H
 clear H
 go_enter Tryd.func24, Tryd.ntmps24
 go_wp2
 repeat (go_quiet (fail); try go_wp2)
 go_loopg [3, 4] k (fun kq v3 v4 w' => ∃ (x3_1 : ByteArray) (x4_1 : Int), v3 = .string x3_1 ∧ v4 = .int .i64 x4_1 ∧ Aside0 (stylusref52_ended.l0 kq l0 x3_1 x4_1 = some r) ∧ Aside0 (kq ≤ k) ∧ Drawn0 w w')
 case atStart => exact ⟨((⟨#[]⟩ : ByteArray)), (0), (by first | rfl | (simp; done) | (simp [*]; done)), (by first | rfl | (simp; done) | (simp [*]; done)), H', ⟨Nat.le_refl _⟩, by repeat (first | exact Drawn0.refl _ | apply Drawn0.step)⟩
 case round =>
  clear H'
  obtain ⟨x3_1, x4_1, rfl, rfl, HA, HK1, ⟨m1, rfl⟩⟩ := hrel
  cases gk with
  | zero => exact absurd HA.out (by simp [stylusref52_ended.l0])
  | succ k1 =>
   have H := HA.out
   clear HA
   simp only [stylusref52_ended.l0] at H
   by_cases c2 : x4_1 < (l0.length : Int)
   ·rw [if_pos c2] at H
    have c2b0 : decide (x4_1 < (l0.length : Int)) = true := decide_eq_true c2
    clear c2
    by_cases c3 : 0 ≤ x4_1
    ·rw [if_pos c3] at H
     have c3b0 : decide (0 ≤ x4_1) = true := decide_eq_true c3
     clear c3
     by_cases c4 : x3_1.size + (rdOf ByteArray.empty l0 x4_1).size ≤ 9223372036854775807
     ·rw [if_pos c4] at H
      have c4b0 := eq_true c4
      have c4b1 : decide (x3_1.size + (rdOf ByteArray.empty l0 x4_1).size ≤ 9223372036854775807) = true := decide_eq_true c4
      try have c4b2 : (9223372036854775807 < x3_1.size + (rdOf ByteArray.empty l0 x4_1).size) = False := eq_false (Nat.not_lt.2 c4)
      by_cases c5 : (rdOf ByteArray.empty l0 x4_1).toList = ([] : List UInt8)
      ·rw [if_pos c5] at H
       have c5b0 : ((rdOf ByteArray.empty l0 x4_1).toList == ([] : List UInt8)) = true := beq_iff_eq.mpr c5
       have c5b1 : ((rdOf ByteArray.empty l0 x4_1).toList != ([] : List UInt8)) = false := bne_eq_false_iff_eq.mpr c5
       clear c5
       by_cases c6 : (x3_1 ++ (rdOf ByteArray.empty l0 x4_1)).size + 1 ≤ 9223372036854775807
       ·rw [if_pos c6] at H
        have c6b0 := eq_true c6
        have c6b1 : decide ((x3_1 ++ (rdOf ByteArray.empty l0 x4_1)).size + 1 ≤ 9223372036854775807) = true := decide_eq_true c6
        try have c6b2 : (9223372036854775807 < (x3_1 ++ (rdOf ByteArray.empty l0 x4_1)).size + 1) = False := eq_false (Nat.not_lt.2 c6)
        try have c6b3 : (9223372036854775807 < x3_1.size + (rdOf ByteArray.empty l0 x4_1).size + 1) = False := eq_false (by have h_ := c6; simp only [ByteArray.size_append] at h_; omega)
        have H' := Aside0.mk H
        clear H
        have p244 : 0 ≤ (x4_1 : Int) := of_decide_eq_true (by first | (with_reducible assumption) | assumption)
        have q244 : x4_1 < (l0.length : Int) := of_decide_eq_true (by first | (with_reducible assumption) | assumption)
        obtain ⟨ad244, e244, hx244_0⟩ := Kd.at_string HR0.out x4_1 p244 q244
        cases e244
        replace p244 := eq_true p244
        replace q244 := eq_true q244
        have p245 : 0 ≤ (x4_1 : Int) := of_decide_eq_true (by first | (with_reducible assumption) | assumption)
        have q245 : x4_1 < (l0.length : Int) := of_decide_eq_true (by first | (with_reducible assumption) | assumption)
        obtain ⟨ad245, e245, hx245_0⟩ := Kd.at_string HR0.out x4_1 p245 q245
        obtain rfl : ad244 = ad245 := (by injection e245)
        replace p245 := eq_true p245
        replace q245 := eq_true q245
        go_wp2
        repeat (go_quiet (fail); try go_wp2)
        go_roundg k1
        case measure => have := HK1.out; omega
        case rel => exact ⟨((x3_1 ++ (rdOf ByteArray.empty l0 x4_1)) ++ (⟨#[10]⟩ : ByteArray)), (wrap64 (x4_1 + 1)), (by first | rfl | (simp; done) | (simp [*]; done)), (by first | rfl | (simp; done) | (simp [*]; done)), H', ⟨by have := HK1.out; omega⟩, by repeat (first | exact Drawn0.refl _ | apply Drawn0.step)⟩
       ·rw [if_neg c6] at H
        exact absurd H (by simp)
      ·rw [if_neg c5] at H
       have c5b0 : ((rdOf ByteArray.empty l0 x4_1).toList == ([] : List UInt8)) = false := beq_eq_false_iff_ne.mpr c5
       have c5b1 : ((rdOf ByteArray.empty l0 x4_1).toList != ([] : List UInt8)) = true := bne_iff_ne.mpr c5
       obtain ⟨ji7, hji7⟩ : ∃ j_ : Int, (wrap64 (((rdOf ByteArray.empty l0 x4_1).size : Int) - 1)) = j_ := ⟨_, rfl⟩
       replace H : (if 0 ≤ (ji7) then (if (ji7) < ((rdOf ByteArray.empty l0 x4_1).size : Int) then (if (bt (rdOf ByteArray.empty l0 x4_1) (ji7)) = 10 then (stylusref52_ended.l0 k1 l0 (x3_1 ++ (rdOf ByteArray.empty l0 x4_1)) (wrap64 (x4_1 + 1))) else (if (x3_1 ++ (rdOf ByteArray.empty l0 x4_1)).size + 1 ≤ 9223372036854775807 then (stylusref52_ended.l0 k1 l0 ((x3_1 ++ (rdOf ByteArray.empty l0 x4_1)) ++ (⟨#[10]⟩ : ByteArray)) (wrap64 (x4_1 + 1))) else (none))) else (none)) else (none)) = some r := by first | (rw [hji7] at H; exact H) | (simp only [hji7] at H ⊢; exact H)
       have hji7w : (IntKind.i64.wrap (((rdOf ByteArray.empty l0 x4_1).size : Int) - 1)) = ji7 := (i64_w _).trans hji7
       by_cases c8 : 0 ≤ (ji7)
       ·rw [if_pos c8] at H
        have c8b0 : decide (0 ≤ (ji7)) = true := decide_eq_true c8
        clear c8
        by_cases c9 : (ji7) < ((rdOf ByteArray.empty l0 x4_1).size : Int)
        ·rw [if_pos c9] at H
         have c9b0 : decide ((ji7) < ((rdOf ByteArray.empty l0 x4_1).size : Int)) = true := decide_eq_true c9
         clear c9
         by_cases c11 : (bt (rdOf ByteArray.empty l0 x4_1) (ji7)) = 10
         ·rw [if_pos c11] at H
          have c11b0 : ((bt (rdOf ByteArray.empty l0 x4_1) (ji7)) == 10) = true := beq_iff_eq.mpr c11
          have c11b1 : ((bt (rdOf ByteArray.empty l0 x4_1) (ji7)) != 10) = false := bne_eq_false_iff_eq.mpr c11
          clear c11
          have H' := Aside0.mk H
          clear H
          have p244 : 0 ≤ (x4_1 : Int) := of_decide_eq_true (by first | (with_reducible assumption) | assumption)
          have q244 : x4_1 < (l0.length : Int) := of_decide_eq_true (by first | (with_reducible assumption) | assumption)
          obtain ⟨ad244, e244, hx244_0⟩ := Kd.at_string HR0.out x4_1 p244 q244
          cases e244
          replace p244 := eq_true p244
          replace q244 := eq_true q244
          have p245 : 0 ≤ (x4_1 : Int) := of_decide_eq_true (by first | (with_reducible assumption) | assumption)
          have q245 : x4_1 < (l0.length : Int) := of_decide_eq_true (by first | (with_reducible assumption) | assumption)
          obtain ⟨ad245, e245, hx245_0⟩ := Kd.at_string HR0.out x4_1 p245 q245
          obtain rfl : ad244 = ad245 := (by injection e245)
          replace p245 := eq_true p245
          replace q245 := eq_true q245
          have p246 : 0 ≤ (x4_1 : Int) := of_decide_eq_true (by first | (with_reducible assumption) | assumption)
          have q246 : x4_1 < (l0.length : Int) := of_decide_eq_true (by first | (with_reducible assumption) | assumption)
          obtain ⟨ad246, e246, hx246_0⟩ := Kd.at_string HR0.out x4_1 p246 q246
          obtain rfl : ad244 = ad246 := (by injection e246)
          replace p246 := eq_true p246
          replace q246 := eq_true q246
          have p247 : 0 ≤ (x4_1 : Int) := of_decide_eq_true (by first | (with_reducible assumption) | assumption)
          have q247 : x4_1 < (l0.length : Int) := of_decide_eq_true (by first | (with_reducible assumption) | assumption)
          obtain ⟨ad247, e247, hx247_0⟩ := Kd.at_string HR0.out x4_1 p247 q247
          obtain rfl : ad244 = ad247 := (by injection e247)
          replace p247 := eq_true p247
          replace q247 := eq_true q247
          have p10 : 0 ≤ ((ji7) : Int) := of_decide_eq_true (by first | (with_reducible assumption) | assumption)
          have q10 : (ji7) < ((rdOf ByteArray.empty l0 x4_1).size : Int) := of_decide_eq_true (by first | (with_reducible assumption) | assumption)
          have hx10 := bt_at (rdOf ByteArray.empty l0 x4_1) (ji7)
          replace p10 := eq_true p10
          replace q10 := eq_true q10
          go_wp2
          repeat (go_quiet (fail); try go_wp2)
          go_roundg k1
          case measure => have := HK1.out; omega
          case rel => exact ⟨(x3_1 ++ (rdOf ByteArray.empty l0 x4_1)), (wrap64 (x4_1 + 1)), (by first | rfl | (simp; done) | (simp [*]; done)), (by first | rfl | (simp; done) | (simp [*]; done)), H', ⟨by have := HK1.out; omega⟩, by repeat (first | exact Drawn0.refl _ | apply Drawn0.step)⟩
         ·rw [if_neg c11] at H
          have c11b0 : ((bt (rdOf ByteArray.empty l0 x4_1) (ji7)) == 10) = false := beq_eq_false_iff_ne.mpr c11
          have c11b1 : ((bt (rdOf ByteArray.empty l0 x4_1) (ji7)) != 10) = true := bne_iff_ne.mpr c11
          by_cases c12 : (x3_1 ++ (rdOf ByteArray.empty l0 x4_1)).size + 1 ≤ 9223372036854775807
          ·rw [if_pos c12] at H
           have c12b0 := eq_true c12
           have c12b1 : decide ((x3_1 ++ (rdOf ByteArray.empty l0 x4_1)).size + 1 ≤ 9223372036854775807) = true := decide_eq_true c12
           try have c12b2 : (9223372036854775807 < (x3_1 ++ (rdOf ByteArray.empty l0 x4_1)).size + 1) = False := eq_false (Nat.not_lt.2 c12)
           try have c12b3 : (9223372036854775807 < x3_1.size + (rdOf ByteArray.empty l0 x4_1).size + 1) = False := eq_false (by have h_ := c12; simp only [ByteArray.size_append] at h_; omega)
           have H' := Aside0.mk H
           clear H
           have p244 : 0 ≤ (x4_1 : Int) := of_decide_eq_true (by first | (with_reducible assumption) | assumption)
           have q244 : x4_1 < (l0.length : Int) := of_decide_eq_true (by first | (with_reducible assumption) | assumption)
           obtain ⟨ad244, e244, hx244_0⟩ := Kd.at_string HR0.out x4_1 p244 q244
           cases e244
           replace p244 := eq_true p244
           replace q244 := eq_true q244
           have p245 : 0 ≤ (x4_1 : Int) := of_decide_eq_true (by first | (with_reducible assumption) | assumption)
           have q245 : x4_1 < (l0.length : Int) := of_decide_eq_true (by first | (with_reducible assumption) | assumption)
           obtain ⟨ad245, e245, hx245_0⟩ := Kd.at_string HR0.out x4_1 p245 q245
           obtain rfl : ad244 = ad245 := (by injection e245)
           replace p245 := eq_true p245
           replace q245 := eq_true q245
           have p246 : 0 ≤ (x4_1 : Int) := of_decide_eq_true (by first | (with_reducible assumption) | assumption)
           have q246 : x4_1 < (l0.length : Int) := of_decide_eq_true (by first | (with_reducible assumption) | assumption)
           obtain ⟨ad246, e246, hx246_0⟩ := Kd.at_string HR0.out x4_1 p246 q246
           obtain rfl : ad244 = ad246 := (by injection e246)
           replace p246 := eq_true p246
           replace q246 := eq_true q246
           have p247 : 0 ≤ (x4_1 : Int) := of_decide_eq_true (by first | (with_reducible assumption) | assumption)
           have q247 : x4_1 < (l0.length : Int) := of_decide_eq_true (by first | (with_reducible assumption) | assumption)
           obtain ⟨ad247, e247, hx247_0⟩ := Kd.at_string HR0.out x4_1 p247 q247
           obtain rfl : ad244 = ad247 := (by injection e247)
           replace p247 := eq_true p247
           replace q247 := eq_true q247
           have p10 : 0 ≤ ((ji7) : Int) := of_decide_eq_true (by first | (with_reducible assumption) | assumption)
           have q10 : (ji7) < ((rdOf ByteArray.empty l0 x4_1).size : Int) := of_decide_eq_true (by first | (with_reducible assumption) | assumption)
           have hx10 := bt_at (rdOf ByteArray.empty l0 x4_1) (ji7)
           replace p10 := eq_true p10
           replace q10 := eq_true q10
           go_wp2
           repeat (go_quiet (fail); try go_wp2)
           go_roundg k1
           case measure => have := HK1.out; omega
           case rel => exact ⟨((x3_1 ++ (rdOf ByteArray.empty l0 x4_1)) ++ (⟨#[10]⟩ : ByteArray)), (wrap64 (x4_1 + 1)), (by first | rfl | (simp; done) | (simp [*]; done)), (by first | rfl | (simp; done) | (simp [*]; done)), H', ⟨by have := HK1.out; omega⟩, by repeat (first | exact Drawn0.refl _ | apply Drawn0.step)⟩
          ·rw [if_neg c12] at H
           exact absurd H (by simp)
        ·rw [if_neg c9] at H
         exact absurd H (by simp)
       ·rw [if_neg c8] at H
        exact absurd H (by simp)
     ·rw [if_neg c4] at H
      exact absurd H (by simp)
    ·rw [if_neg c3] at H
     exact absurd H (by simp)
   ·rw [if_neg c2] at H
    have c2b0 : decide (x4_1 < (l0.length : Int)) = false := decide_eq_false c2
    clear c2
    obtain rfl := Option.some.inj H
    go_wp2
    repeat (go_quiet (fail); try go_wp2)
    go_ret
    exact ⟨by first | rfl | (simp; done) | (simp [*]; done), by repeat (first | exact Drawn0.refl _ | apply Drawn0.step)⟩
/-! ### stylusref52_Merge: function 12 -/
def rmL1 : ByteArray := ⟨#[60, 60, 60, 60, 60, 60, 60, 10]⟩
def rmL2 : ByteArray := ⟨#[61, 61, 61, 61, 61, 61, 61, 10]⟩
def rmL3 : ByteArray := ⟨#[62, 62, 62, 62, 62, 62, 62, 10]⟩
def rmQ (k : Nat) (p : S31) : Option Bool := if p.f3 = true then some true else (stylusref51_Texts.f k p.f1 p.f2).bind fun e => if e = true then some true else stylusref51_Texts.f k p.f2 p.f0
def rmOne (k : Nat) (p : S31) (o : ByteArray) (t : Int) : Option (ByteArray × Int) :=
 (rmQ k p).bind fun q => if q = true then (stylusref52_text.f k p.f1).bind fun s => if o.size + s.size ≤ 1099511627776 then some (o ++ s, t) else none
 else (stylusref51_Texts.f k p.f1 p.f0).bind fun q2 => if q2 = true then (stylusref52_text.f k p.f2).bind fun s => if o.size + s.size ≤ 1099511627776 then some (o ++ s, t) else none
 else (stylusref52_ended.f k p.f1).bind fun s1 => (stylusref52_ended.f k p.f2).bind fun s2 => if o.size + s1.size + s2.size + 24 ≤ 1099511627776 ∧ 0 ≤ t ∧ t ≤ 1000000 then some (((((o ++ rmL1) ++ s1) ++ rmL2) ++ s2) ++ rmL3, t + 1) else none
def rmGo (k : Nat) : List S31 → ByteArray → Int → Option (ByteArray × Int)
 | [], o, t => some (o, t)
 | p :: l, o, t => (rmOne k p o t).bind fun x => rmGo k l x.1 x.2
theorem rmQ.mono (k : Nat) (p : S31) : LeO (rmQ k p) (rmQ (k + 1) p) := LeO.ite (LeO.refl _) (LeO.bind (stylusref51_Texts.mono _ _ _) fun _ => LeO.ite (LeO.refl _) (stylusref51_Texts.mono _ _ _))
theorem rmOne.mono (k : Nat) (p : S31) (o : ByteArray) (t : Int) : LeO (rmOne k p o t) (rmOne (k + 1) p o t) :=
 LeO.bind (rmQ.mono k p) fun _ => LeO.ite (LeO.bind (stylusref52_text.mono _ _) fun _ => LeO.refl _) (LeO.bind (stylusref51_Texts.mono _ _ _) fun _ => LeO.ite (LeO.bind (stylusref52_text.mono _ _) fun _ => LeO.refl _) (LeO.bind (stylusref52_ended.mono _ _) fun _ => LeO.bind (stylusref52_ended.mono _ _) fun _ => LeO.refl _))
theorem rmGo.mono (k : Nat) : ∀ l o t, LeO (rmGo k l o t) (rmGo (k + 1) l o t)
 | [], _, _ => LeO.refl _
 | _ :: l, _, _ => LeO.bind (rmOne.mono _ _ _ _) fun _ => rmGo.mono k l _ _
def stylusref52_Merge.f (k : Nat) (a0 : ByteArray) (a1 : ByteArray) (a2 : ByteArray) : Option (ByteArray × Int) :=
 (stylusref51_Cut.f k a0).bind fun x => (stylusref51_Cut.f k a1).bind fun y => (stylusref51_Cut.f k a2).bind fun z => (stylusref52_Pieces.f k x y z).bind fun l => if l.length ≤ 1000 then rmGo k l ByteArray.empty 0 else none
theorem rm_drop (l : List S31) (i : Nat) (h : i < l.length) : l.drop i = rd_T31 l (i : Int) :: l.drop (i + 1) := by
 rw [List.drop_eq_getElem_cons h]
 simp [rd_T31, List.getD_eq_getElem?_getD, List.getElem?_eq_getElem h]
set_option maxHeartbeats 16000000 in
set_option maxRecDepth 100000 in
theorem stylusref52_Merge.calls (k : Nat) (a0 : ByteArray) (a1 : ByteArray) (a2 : ByteArray) (r1 : ByteArray) (r2 : Int) (w : World) (h : stylusref52_Merge.f k a0 a1 a2 = some (r1, r2)) :
  Calls Tryd.prog 12 #[.string a0, .string a1, .string a2] w fun e w' => e = .returned (.tuple #[.string r1, .int .i64 r2]) ∧ Below w.heap.size w w' := by
 have huP := Tryd.underlying31
 unfold stylusref52_Merge.f at h
 obtain ⟨x, hx, h⟩ := Option.bind_eq_some_iff.mp h
 obtain ⟨y, hy, h⟩ := Option.bind_eq_some_iff.mp h
 obtain ⟨z, hz, h⟩ := Option.bind_eq_some_iff.mp h
 obtain ⟨l, hl, h⟩ := Option.bind_eq_some_iff.mp h
 split at h
 rotate_left
 ·cases h
 rename_i hll
 have HX := Aside0.mk hx
 have HY := Aside0.mk hy
 have HZ := Aside0.mk hz
 have HL := Aside0.mk hl
 have HLL := Aside0.mk hll
 have HGO := Aside0.mk h
 clear h hx hy hz hl hll
 go_enter Tryd.func12, Tryd.ntmps12
 go_wp2_with (first
  | (go_at_call 22; (with_reducible refine (stylusref51_Cut.calls k a0 x _ HX.out).mono ?_); rintro e W1 ⟨v1, rfl, hR, hb⟩; obtain ⟨A1, c1, rfl⟩ := Kd.R_slice hR; have HR1 := Aside0.mk hR; have HB1 := Aside0.mk hb; clear hR hb HX)
  | (go_at_call 22; (with_reducible refine (stylusref51_Cut.calls k a1 y _ HY.out).mono ?_); rintro e W2 ⟨v2, rfl, hR, hb⟩; obtain ⟨A2, c2, rfl⟩ := Kd.R_slice hR; have HR2 := Aside0.mk hR; have HB2 := Aside0.mk (below_step HB1.out hb); have HK2 := Aside0.mk hb; clear hR hb HY)
  | (go_at_call 22; (with_reducible refine (stylusref51_Cut.calls k a2 z _ HZ.out).mono ?_); rintro e W3 ⟨v3, rfl, hR, hb⟩; obtain ⟨A3, c3, rfl⟩ := Kd.R_slice hR; have HR3 := Aside0.mk hR; have HB3 := Aside0.mk (below_step HB2.out hb); have HK3 := Aside0.mk hb; clear hR hb HZ)
  | (go_at_call 9; (with_reducible refine (stylusref52_Pieces.calls k (fun _ => True) A1 c1 x (fun _ => True) A2 c2 y (fun _ => True) A3 c3 z l _ (Kd.V_below (Kd.V_below (Kd.R_V HR1.out) HK2.out) HK3.out) (Kd.V_below (Kd.R_V HR2.out) HK3.out) (Kd.R_V HR3.out) HL.out).mono ?_); rintro e W4 ⟨v4, rfl, hN, hb⟩; obtain ⟨A4, c4, rfl⟩ := Kd.N_slice hN; have HN := Aside0.mk (Kd.N_reads' hN).2.2; have HB4 := Aside0.mk (below_step HB3.out hb); clear hN hb))
 clear HR1 HR2 HR3 HB1 HB2 HB3 HK2 HK3 HL
 go_loopg [9, 10, 11] l.length (fun kq v9 v10 v11 wx => ∃ (i : Nat) (oq : ByteArray) (t : Int), v9 = .string oq ∧ v10 = .int .i64 t ∧ v11 = .int .i64 (i : Int) ∧ Aside0 (i + kq = l.length) ∧ Aside0 (rmGo k (l.drop i) oq t = some (r1, r2)) ∧ Aside0 (Kd.C k31 wx A4 l.length l) ∧ Aside0 (Below w.heap.size w wx))
 case atStart => exact ⟨0, ByteArray.empty, 0, rfl, rfl, rfl, ⟨Nat.zero_add _⟩, HGO, HN, HB4⟩
 case round =>
  clear HGO HN HB4
  obtain ⟨i, oq, t, rfl, rfl, rfl, HI, HQ, HN, HB⟩ := hrel
  cases gk with
  | zero =>
   obtain rfl : i = l.length := by have := HI.out; omega
   have c0 : decide ((l.length : Int) < (l.length : Int)) = false := decide_eq_false (by omega)
   have hq := HQ.out
   rw [List.drop_length, rmGo] at hq
   simp only [Option.some.injEq, Prod.mk.injEq] at hq
   obtain ⟨rfl, rfl⟩ := hq
   clear HQ
   go_wp2
   go_ret2
   exact ⟨rfl, HB.out⟩
  | succ k1 =>
   have hi : i < l.length := by have := HI.out; omega
   have c0 : decide ((i : Int) < (l.length : Int)) = true := decide_eq_true (by omega)
   have hq := HQ.out
   rw [rm_drop l i hi, rmGo] at hq
   have p0 : (0 : Int) ≤ (i : Int) := by omega
   have q0 : (i : Int) < (l.length : Int) := by omega
   obtain ⟨ad, A0, c0_, A1, c1, A2, c2, e0, hy0, hy1, hy2, hy3, l0, g0, l1, g1, l2, g2⟩ := at_T31 HN.out (i : Int) p0 q0
   cases e0
   obtain ⟨⟨f0, f1, f2, f3⟩, hx⟩ : ∃ x, rd_T31 l (i : Int) = x := ⟨_, rfl⟩
   rw [hx] at hq hy0 hy1 hy2 hy3 l0 g0 l1 g1 l2 g2
   dsimp only at hq hy0 hy1 hy2 hy3 l0 g0 l1 g1 l2 g2
   simp only [Int.toNat_natCast] at hy0 hy1 hy2 hy3
   clear hx
   obtain ⟨⟨o2, t2⟩, hone, hq⟩ := Option.bind_eq_some_iff.mp hq
   dsimp only at hq
   have HQ2 := Aside0.mk hq
   obtain ⟨q, hQ, hone⟩ := Option.bind_eq_some_iff.mp hone
   unfold rmQ at hQ
   dsimp only at hQ hone
   clear hq HQ
   have cT : ∀ r W, Below wr.heap.size wr W → stylusref51_Texts.f k f1 f2 = some r → Calls Tryd.prog 10 #[.slice A1 f1.length c1, .slice A2 f2.length c2] W fun e w' => e = .returned (.bool r) ∧ Drawn0 W w' := fun r W hb h => stylusref51_Texts.calls k A1 c1 f1 A2 c2 f2 r W (Kd.C_below g1 hb) l1 (Kd.C_below g2 hb) l2 h
   have cU : ∀ r W, Below wr.heap.size wr W → stylusref51_Texts.f k f2 f0 = some r → Calls Tryd.prog 10 #[.slice A2 f2.length c2, .slice A0 f0.length c0_] W fun e w' => e = .returned (.bool r) ∧ Drawn0 W w' := fun r W hb h => stylusref51_Texts.calls k A2 c2 f2 A0 c0_ f0 r W (Kd.C_below g2 hb) l2 (Kd.C_below g0 hb) l0 h
   have cV : ∀ r W, Below wr.heap.size wr W → stylusref51_Texts.f k f1 f0 = some r → Calls Tryd.prog 10 #[.slice A1 f1.length c1, .slice A0 f0.length c0_] W fun e w' => e = .returned (.bool r) ∧ Drawn0 W w' := fun r W hb h => stylusref51_Texts.calls k A1 c1 f1 A0 c0_ f0 r W (Kd.C_below g1 hb) l1 (Kd.C_below g0 hb) l0 h
   have cX : ∀ r W, Below wr.heap.size wr W → stylusref52_text.f k f1 = some r → Calls Tryd.prog 23 #[.slice A1 f1.length c1] W fun e w' => e = .returned (.string r) ∧ Drawn0 W w' := fun r W hb h => stylusref52_text.calls k A1 c1 f1 r W (Kd.C_below g1 hb) l1 h
   have cY : ∀ r W, Below wr.heap.size wr W → stylusref52_text.f k f2 = some r → Calls Tryd.prog 23 #[.slice A2 f2.length c2] W fun e w' => e = .returned (.string r) ∧ Drawn0 W w' := fun r W hb h => stylusref52_text.calls k A2 c2 f2 r W (Kd.C_below g2 hb) l2 h
   have cE : ∀ r W, Below wr.heap.size wr W → stylusref52_ended.f k f1 = some r → Calls Tryd.prog 24 #[.slice A1 f1.length c1] W fun e w' => e = .returned (.string r) ∧ Drawn0 W w' := fun r W hb h => stylusref52_ended.calls k A1 c1 f1 r W (Kd.C_below g1 hb) l1 h
   have cF : ∀ r W, Below wr.heap.size wr W → stylusref52_ended.f k f2 = some r → Calls Tryd.prog 24 #[.slice A2 f2.length c2] W fun e w' => e = .returned (.string r) ∧ Drawn0 W w' := fun r W hb h => stylusref52_ended.calls k A2 c2 f2 r W (Kd.C_below g2 hb) l2 h
   clear g0 g1 g2 l0 l1 l2
   obtain ⟨n0, hn0⟩ : ∃ n, f0.length = n := ⟨_, rfl⟩
   obtain ⟨n1, hn1⟩ : ∃ n, f1.length = n := ⟨_, rfl⟩
   obtain ⟨n2, hn2⟩ : ∃ n, f2.length = n := ⟨_, rfl⟩
   rw [hn1, hn2] at cT
   rw [hn0, hn2] at cU
   rw [hn0, hn1] at cV
   rw [hn1] at cX cE
   rw [hn2] at cY cF
   rw [hn0] at hy0
   rw [hn1] at hy1
   rw [hn2] at hy2
   have CT := Aside0.mk cT
   have CU := Aside0.mk cU
   have CV := Aside0.mk cV
   have CX := Aside0.mk cX
   have CY := Aside0.mk cY
   have CE := Aside0.mk cE
   have CF := Aside0.mk cF
   have HQ' := Aside0.mk hQ
   have HONE := Aside0.mk hone
   clear hn0 hn1 hn2 cT cU cV cX cY cE cF hQ hone
   go_upto_region 9 with fail
   have KT := Aside0.mk (heap_alloc_new wr (.cells #[.slice A0 n0 c0_, .slice A1 n1 c1, .slice A2 n2 c2, .bool f3] 31))
   have HN1 := Aside0.mk (Kd.C_below HN.out (below_alloc (Below.refl wr.heap.size wr) (.cells #[.slice A0 n0 c0_, .slice A1 n1 c1, .slice A2 n2 c2, .bool f3] 31)))
   have HBa := Aside0.mk (below_alloc (Below.refl wr.heap.size wr) (.cells #[.slice A0 n0 c0_, .slice A1 n1 c1, .slice A2 n2 c2, .bool f3] 31))
   have HB1 := Aside0.mk (below_alloc HB.out (.cells #[.slice A0 n0 c0_, .slice A1 n1 c1, .slice A2 n2 c2, .bool f3] 31))
   obtain ⟨Wc, hWc⟩ : ∃ Z : World, wr.alloc (.cells #[.slice A0 n0 c0_, .slice A1 n1 c1, .slice A2 n2 c2, .bool f3] 31) = Z := ⟨_, rfl⟩
   rw [hWc] at KT HN1 HBa HB1 ⊢
   obtain ⟨gt, hgt⟩ : ∃ g, wr.heap.size = g := ⟨_, rfl⟩
   rw [hgt] at KT ⊢
   clear hWc hgt hy0 hy1 hy2 hy3
   have t0 := (blk_cell KT.out 0).trans rfl
   have t1 := (blk_cell KT.out 1).trans rfl
   have t2 := (blk_cell KT.out 2).trans rfl
   have t3 := (blk_cell KT.out 3).trans rfl
   have ws : wrap64 ((i : Int) + 1) = ((i + 1 : Nat) : Int) := by
    have := HI.out
    have := HLL.out
    unfold wrap64
    omega
   go_cut [44] (fun v44 wx => v44 = .bool q ∧ Aside0 (∃ m, wx = Wc.drewN m))
   case first =>
    have hQ := HQ'.out
    cases f3 with
    | true =>
     rw [if_pos rfl] at hQ
     obtain rfl := Option.some.inj hQ
     go_wp2_with fail
     go_meet
     exact ⟨rfl, ⟨0, rfl⟩⟩
    | false =>
     rw [if_neg (by decide)] at hQ
     obtain ⟨e1, hE1, hQ⟩ := Option.bind_eq_some_iff.mp hQ
     cases e1 with
     | true =>
      rw [if_pos rfl] at hQ
      obtain rfl := Option.some.inj hQ
      have HE1 := Aside0.mk hE1
      clear hE1 hQ
      go_wp2_with (go_at_call 10; (with_reducible refine (CT.out true _ HBa.out HE1.out).mono ?_); rintro e w3 ⟨rfl, ⟨nd, rfl⟩⟩)
      go_meet
      exact ⟨rfl, ⟨_, rfl⟩⟩
     | false =>
      rw [if_neg (by decide)] at hQ
      have HE1 := Aside0.mk hE1
      have HE2 := Aside0.mk hQ
      clear hE1 hQ
      go_wp2_with (first
       | (go_at_call 10; (with_reducible refine (CT.out false _ HBa.out HE1.out).mono ?_); rintro e w3 ⟨rfl, ⟨nd, rfl⟩⟩)
       | (go_at_call 10; (with_reducible refine (CU.out q _ (pw_below_drewN HBa.out _) HE2.out).mono ?_); rintro e w3 ⟨rfl, ⟨nd2, rfl⟩⟩))
      go_meet
      exact ⟨rfl, ⟨_, rfl⟩⟩
   obtain ⟨rfl, HMm⟩ := hcut
   obtain ⟨m, rfl⟩ := HMm.out
   clear HMm HQ'
   have KT := Aside0.mk (show (Wc.drewN m).heap[gt]? = some (.cells #[.slice A0 n0 c0_, .slice A1 n1 c1, .slice A2 n2 c2, .bool f3] 31 (0, 0)) from blk_drewN KT.out m)
   have HBm := Aside0.mk (pw_below_drewN HBa.out m)
   have HN1 := Aside0.mk (Kd.C_drewN HN1.out m)
   have HB1 := Aside0.mk (pw_below_drewN HB1.out m)
   obtain ⟨Wd, hWd⟩ : ∃ Z : World, Wc.drewN m = Z := ⟨_, rfl⟩
   rw [hWd] at KT HBm HN1 HB1 ⊢
   clear hWd t0 t1 t2 t3 HBa
   have t0 := (blk_cell KT.out 0).trans rfl
   have t1 := (blk_cell KT.out 1).trans rfl
   have t2 := (blk_cell KT.out 2).trans rfl
   have hone := HONE.out
   clear HONE
   cases q with
   | true =>
    rw [if_pos rfl] at hone
    obtain ⟨s, hs, hone⟩ := Option.bind_eq_some_iff.mp hone
    split at hone
    rotate_left
    ·cases hone
    rename_i hbd
    simp only [Option.some.injEq, Prod.mk.injEq] at hone
    obtain ⟨rfl, rfl⟩ := hone
    have HS := Aside0.mk hs
    have b3 : (9223372036854775807 < oq.size + s.size) = False := eq_false (by omega)
    clear hs hbd
    go_wp2_with (go_at_call 23; (with_reducible refine (CX.out s _ HBm.out HS.out).mono ?_); rintro e w3 ⟨rfl, ⟨nd, rfl⟩⟩)
    go_roundg k1
    case measure => omega
    case rel => exact ⟨i + 1, _, _, rfl, by first | rfl | rw [wt], by first | rfl | rw [ws], ⟨by have := HI.out; omega⟩, HQ2, ⟨Kd.C_below HN1.out (by repeat (first | exact Below.refl _ _ | apply pw_below_drewN | apply below_drew1))⟩, ⟨by repeat (first | exact HB1.out | apply pw_below_drewN | apply below_drew1)⟩⟩
   | false =>
    rw [if_neg (by decide)] at hone
    obtain ⟨q2, hq2, hone⟩ := Option.bind_eq_some_iff.mp hone
    have HQ3 := Aside0.mk hq2
    clear hq2
    cases q2 with
    | true =>
     rw [if_pos rfl] at hone
     obtain ⟨s, hs, hone⟩ := Option.bind_eq_some_iff.mp hone
     split at hone
     rotate_left
     ·cases hone
     rename_i hbd
     simp only [Option.some.injEq, Prod.mk.injEq] at hone
     obtain ⟨rfl, rfl⟩ := hone
     have HS := Aside0.mk hs
     have b3 : (9223372036854775807 < oq.size + s.size) = False := eq_false (by omega)
     clear hs hbd
     go_wp2_with (first
      | (go_at_call 10; (with_reducible refine (CV.out true _ HBm.out HQ3.out).mono ?_); rintro e w3 ⟨rfl, ⟨nd, rfl⟩⟩)
      | (go_at_call 23; (with_reducible refine (CY.out s _ (pw_below_drewN HBm.out _) HS.out).mono ?_); rintro e w3 ⟨rfl, ⟨nd2, rfl⟩⟩))
     go_roundg k1
     case measure => omega
     case rel => exact ⟨i + 1, _, _, rfl, by first | rfl | rw [wt], by first | rfl | rw [ws], ⟨by have := HI.out; omega⟩, HQ2, ⟨Kd.C_below HN1.out (by repeat (first | exact Below.refl _ _ | apply pw_below_drewN | apply below_drew1))⟩, ⟨by repeat (first | exact HB1.out | apply pw_below_drewN | apply below_drew1)⟩⟩
    | false =>
     rw [if_neg (by decide)] at hone
     obtain ⟨s1, hs1, hone⟩ := Option.bind_eq_some_iff.mp hone
     obtain ⟨s2, hs2, hone⟩ := Option.bind_eq_some_iff.mp hone
     split at hone
     rotate_left
     ·cases hone
     rename_i hbd
     simp only [Option.some.injEq, Prod.mk.injEq] at hone
     obtain ⟨rfl, rfl⟩ := hone
     have HS1 := Aside0.mk hs1
     have HS2 := Aside0.mk hs2
     have HBD := Aside0.mk hbd
     clear hs1 hs2 hbd
     go_upto_region 7 with (go_at_call 10; (with_reducible refine (CV.out false _ HBm.out HQ3.out).mono ?_); rintro e w3 ⟨rfl, ⟨nd, rfl⟩⟩)
     have KT := Aside0.mk (show (Wd.drewN nd).heap[gt]? = some (.cells #[.slice A0 n0 c0_, .slice A1 n1 c1, .slice A2 n2 c2, .bool f3] 31 (0, 0)) from blk_drewN KT.out nd)
     have HBm := Aside0.mk (pw_below_drewN HBm.out nd)
     have HN1 := Aside0.mk (Kd.C_drewN HN1.out nd)
     have HB1 := Aside0.mk (pw_below_drewN HB1.out nd)
     obtain ⟨We, hWe⟩ : ∃ Z : World, Wd.drewN nd = Z := ⟨_, rfl⟩
     rw [hWe] at KT HBm HN1 HB1 ⊢
     clear hWe t0 t1 t2
     have hl1 : ByteArray.size (⟨#[60, 60, 60, 60, 60, 60, 60, 10]⟩ : ByteArray) = 8 := rfl
     have hl2 : ByteArray.size (⟨#[61, 61, 61, 61, 61, 61, 61, 10]⟩ : ByteArray) = 8 := rfl
     have hl3 : ByteArray.size (⟨#[62, 62, 62, 62, 62, 62, 62, 10]⟩ : ByteArray) = 8 := rfl
     have hz := HBD.out
     have b1 : (9223372036854775807 < oq.size + 8) = False := eq_false (by omega)
     have b2 : (9223372036854775807 < oq.size + 8 + s1.size) = False := eq_false (by omega)
     have b3 : (9223372036854775807 < oq.size + 8 + s1.size + 8) = False := eq_false (by omega)
     have b4 : (9223372036854775807 < oq.size + 8 + s1.size + 8 + s2.size) = False := eq_false (by omega)
     have b5 : (9223372036854775807 < oq.size + 8 + s1.size + 8 + s2.size + 8) = False := eq_false (by omega)
     have HZ := Aside0.mk hz
     clear hz
     refine start_ (n := 13) (S := fun w' => w'.cell? ⟨gt, 1, none⟩ = some (.slice A1 n1 c1) ∧ w'.cell? ⟨gt, 2, none⟩ = some (.slice A2 n2 c2)) (ds := []) #[false, false, false, false, false, false, false, false, false, false, false, false, false] (by kernel_rfl) rfl rfl ⟨(blk_cell (blk_drew KT.out) 1).trans rfl, (blk_cell (blk_drew KT.out) 2).trans rfl⟩ (fun hHeld => ?_)
     refine pure_ (i := 0) (N := some 30) (v := ?_) (a' := ?_) #[true, false, false, false, false, false, false, false, false, false, false, false, false] rfl rfl (by kernel_rfl) (fun _ _ _ h => h) (Or.inl ⟨by rfl, ?_⟩) ?_ ?_
     rotate_left
     ·intro w'
      go_simp
      with_reducible rfl
     rotate_left
     ·simp only [Act.put, List.setIfInBounds_toArray, List.set_cons_zero, List.set_cons_succ, i64_w, i32_w]
      rfl
     refine pure_ (i := 1) (N := some 31) (v := ?_) (a' := ?_) #[true, true, false, false, false, false, false, false, false, false, false, false, false] rfl rfl (by kernel_rfl) (fun _ _ _ h => h) (Or.inl ⟨by rfl, ?_⟩) ?_ ?_
     rotate_left
     ·intro w'
      go_simp
      with_reducible rfl
     rotate_left
     ·simp only [Act.put, List.setIfInBounds_toArray, List.set_cons_zero, List.set_cons_succ, i64_w, i32_w]
      rfl
     refine pure_ (i := 2) (N := some 32) (v := ?_) (a' := ?_) #[true, true, true, false, false, false, false, false, false, false, false, false, false] rfl rfl (by kernel_rfl) (fun _ _ _ h => h) (Or.inl ⟨by rfl, ?_⟩) ?_ ?_
     rotate_left
     ·intro w'
      go_simp
      with_reducible rfl
     rotate_left
     ·simp only [Act.put, List.setIfInBounds_toArray, List.set_cons_zero, List.set_cons_succ, i64_w, i32_w]
      rfl
     refine pure_ (i := 7) (N := some 37) (v := ?_) (a' := ?_) #[true, true, true, false, false, false, false, true, false, false, false, false, false] rfl rfl (by kernel_rfl) (fun _ _ _ h => h) (Or.inl ⟨by rfl, ?_⟩) ?_ ?_
     rotate_left
     ·intro w'
      go_simp
      with_reducible rfl
     rotate_left
     ·simp only [Act.put, List.setIfInBounds_toArray, List.set_cons_zero, List.set_cons_succ, i64_w, i32_w]
      rfl
     refine take_ (i := 3) (N := some 33) (v := ?_) (a' := ?_) #[true, true, true, true, false, false, false, true, false, false, false, false, false] rfl rfl (by kernel_rfl) (fun _ _ _ h => h) (Or.inl ⟨by rfl, ?_⟩) hHeld ?_ ?_
     rotate_left
     ·rintro w' ⟨s0, s1⟩
      go_simp
      with_reducible rfl
     rotate_left
     ·simp only [Act.put, List.setIfInBounds_toArray, List.set_cons_zero, List.set_cons_succ, i64_w, i32_w]
      rfl
     refine take_ (i := 8) (N := some 38) (v := ?_) (a' := ?_) #[true, true, true, true, false, false, false, true, true, false, false, false, false] rfl rfl (by kernel_rfl) (fun _ _ _ h => h) (Or.inl ⟨by rfl, ?_⟩) hHeld ?_ ?_
     rotate_left
     ·rintro w' ⟨s0, s1⟩
      go_simp
      with_reducible rfl
     rotate_left
     ·simp only [Act.put, List.setIfInBounds_toArray, List.set_cons_zero, List.set_cons_succ, i64_w, i32_w]
      rfl
     refine one_ (i := 4) (N := some 34) #[true, true, true, true, true, false, false, true, true, false, false, false, false] rfl rfl (by kernel_rfl) (by decide) (fun K hK => ?_)
     refine goes_ Tryd.func24 (by kernel_rfl) rfl #[.slice A1 n1 c1] (by rfl) rfl rfl (by simp only [List.map_toArray, List.map_cons, List.map_nil]; rfl) ?_
     with_reducible refine (CE.out s1 _ (below_drew HBm.out) HS1.out).mono ?_
     rintro e w3 ⟨rfl, ⟨nd, rfl⟩⟩
     refine ⟨_, rfl, ?_⟩
     refine hK.out _ _ ⟨(blk_cell (blk_drewN (blk_drew KT.out) _) 1).trans rfl, (blk_cell (blk_drewN (blk_drew KT.out) _) 2).trans rfl⟩ (fun hHeld => ?_)
     clear hK K
     refine norm_ (a' := ?_) ?_ ?_
     rotate_left
     ·show Act.put _ (some 34) _ = _
      simp only [Act.put, List.setIfInBounds_toArray, List.set_cons_zero, List.set_cons_succ, i64_w, i32_w]
      rfl
     refine pure_ (i := 5) (N := some 35) (v := ?_) (a' := ?_) #[true, true, true, true, true, true, false, true, true, false, false, false, false] rfl rfl (by kernel_rfl) (fun _ _ _ h => h) (Or.inl ⟨by rfl, ?_⟩) ?_ ?_
     rotate_left
     ·intro w'
      go_simp
      with_reducible rfl
     rotate_left
     ·simp only [Act.put, List.setIfInBounds_toArray, List.set_cons_zero, List.set_cons_succ, i64_w, i32_w]
      rfl
     refine pure_ (i := 6) (N := some 36) (v := ?_) (a' := ?_) #[true, true, true, true, true, true, true, true, true, false, false, false, false] rfl rfl (by kernel_rfl) (fun _ _ _ h => h) (Or.inl ⟨by rfl, ?_⟩) ?_ ?_
     rotate_left
     ·intro w'
      go_simp
      with_reducible rfl
     rotate_left
     ·simp only [Act.put, List.setIfInBounds_toArray, List.set_cons_zero, List.set_cons_succ, i64_w, i32_w]
      rfl
     refine one_ (i := 9) (N := some 39) #[true, true, true, true, true, true, true, true, true, true, false, false, false] rfl rfl (by kernel_rfl) (by decide) (fun K hK => ?_)
     refine goes_ Tryd.func24 (by kernel_rfl) rfl #[.slice A2 n2 c2] (by rfl) rfl rfl (by simp only [List.map_toArray, List.map_cons, List.map_nil]; rfl) ?_
     with_reducible refine (CF.out s2 _ (pw_below_drewN (below_drew HBm.out) _) HS2.out).mono ?_
     rintro e w3 ⟨rfl, ⟨nd2, rfl⟩⟩
     refine ⟨_, rfl, ?_⟩
     refine hK.out _ _ ⟨(blk_cell (blk_drewN (blk_drewN (blk_drew KT.out) _) _) 1).trans rfl, (blk_cell (blk_drewN (blk_drewN (blk_drew KT.out) _) _) 2).trans rfl⟩ (fun hHeld => ?_)
     clear hK K
     refine norm_ (a' := ?_) ?_ ?_
     rotate_left
     ·show Act.put _ (some 39) _ = _
      simp only [Act.put, List.setIfInBounds_toArray, List.set_cons_zero, List.set_cons_succ, i64_w, i32_w]
      rfl
     refine pure_ (i := 10) (N := some 40) (v := ?_) (a' := ?_) #[true, true, true, true, true, true, true, true, true, true, true, false, false] rfl rfl (by kernel_rfl) (fun _ _ _ h => h) (Or.inl ⟨by rfl, ?_⟩) ?_ ?_
     rotate_left
     ·intro w'
      go_simp
      with_reducible rfl
     rotate_left
     ·simp only [Act.put, List.setIfInBounds_toArray, List.set_cons_zero, List.set_cons_succ, i64_w, i32_w]
      rfl
     refine pure_ (i := 11) (N := some 41) (v := ?_) (a' := ?_) #[true, true, true, true, true, true, true, true, true, true, true, true, false] rfl rfl (by kernel_rfl) (fun _ _ _ h => h) (Or.inl ⟨by rfl, ?_⟩) ?_ ?_
     rotate_left
     ·intro w'
      go_simp
      with_reducible rfl
     rotate_left
     ·simp only [Act.put, List.setIfInBounds_toArray, List.set_cons_zero, List.set_cons_succ, i64_w, i32_w]
      rfl
     refine pure_ (i := 12) (N := some 9) (v := ?_) (a' := ?_) #[true, true, true, true, true, true, true, true, true, true, true, true, true] rfl rfl (by kernel_rfl) (fun _ _ _ h => h) (Or.inl ⟨by rfl, ?_⟩) ?_ ?_
     rotate_left
     ·intro w'
      go_simp
      with_reducible rfl
     rotate_left
     ·simp only [Act.put, List.setIfInBounds_toArray, List.set_cons_zero, List.set_cons_succ, i64_w, i32_w]
      rfl
     refine done_ (by kernel_rfl) ?_
     have wt : wrap64 (t + 1) = t + 1 := by
      have := HBD.out
      unfold wrap64
      omega
     go_wp2_with fail
     go_roundg k1
     case measure => omega
     case rel => exact ⟨i + 1, _, _, by first | rfl | (simp only [rmL1, rmL2, rmL3]), by first | rfl | rw [wt], by first | rfl | rw [ws], ⟨by have := HI.out; omega⟩, HQ2, ⟨Kd.C_below HN1.out (by repeat (first | exact Below.refl _ _ | apply pw_below_drewN | apply below_drew1))⟩, ⟨by repeat (first | exact HB1.out | apply pw_below_drewN | apply below_drew1)⟩⟩
end Go.Proofs.YtkbhnkagiaghnaaDoor.P
