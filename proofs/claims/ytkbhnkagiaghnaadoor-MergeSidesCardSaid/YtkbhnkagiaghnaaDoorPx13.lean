import Derived.Test.YtkbhnkagiaghnaaDoorPx0
import Derived.Test.YtkbhnkagiaghnaaDoorPx6
import Derived.Test.YtkbhnkagiaghnaaDoorPx12
namespace Go.Proofs.YtkbhnkagiaghnaaDoor.P
open Go.RowKit Go.Proofs.YtkbhnkagiaghnaaDoorW.PrintWords Go.Proofs.YtkbhnkagiaghnaaDoorW.PrintLast Go.Proofs.YtkbhnkagiaghnaaDoorW.PrintMore
attribute [local go_sem] max2_int min2_int max_two min_two max_three min_three max_four min_four   -- for this text's walks alone
set_option linter.unusedVariables false
set_option linter.unusedSimpArgs false
/-! ### styluslaw52_MergeSides: function 5 -/
def styluslaw52_MergeSides.j0 : Nat → ByteArray → ByteArray → ByteArray → Bool → Option (Bool)
 | 0, _, _, _, _ => none
 | k + 1, x0, x1, x2, x29 => if x29 = true then ((styluslaw52_lives.f).bind fun t254 => (some t254)) else ((merge_Merge.f k x0 x0 x1).bind fun bt255 => ((merge_Merge.f k x0 x1 x0).bind fun bt257 => ((merge_Merge.f k x0 x1 x1).bind fun bt259 => ((merge_Merge.f k x0 x1 x2).bind fun bt261 => ((merge_Merge.f k x0 x2 x1).bind fun bt263 => (if bt255.1.toList = x1.toList then (if bt257.1.toList = x1.toList then (if bt259.1.toList = x1.toList then (if (wrap64 ((wrap64 (bt255.2 + bt257.2)) + bt259.2)) = 0 then (if bt261.2 = bt263.2 then ((styluslaw52_lives.f).bind fun t265 => (some t265)) else (none)) else (none)) else (none)) else (none)) else (none)))))))
def styluslaw52_MergeSides.f (k : Nat) (a0 : ByteArray) (a1 : ByteArray) (a2 : ByteArray) : Option (Bool) := if (a0.size : Int) > 200 then (styluslaw52_MergeSides.j0 k a0 a1 a2 true) else (if (a1.size : Int) > 200 then (styluslaw52_MergeSides.j0 k a0 a1 a2 true) else (styluslaw52_MergeSides.j0 k a0 a1 a2 (decide ((a2.size : Int) > 200))))
set_option maxHeartbeats 8000000 in
set_option maxRecDepth 100000 in
theorem styluslaw52_MergeSides.calls (k : Nat) (a0 : ByteArray) (a1 : ByteArray) (a2 : ByteArray) (r : Bool) (w : World) (h : styluslaw52_MergeSides.f k a0 a1 a2 = some r) :
  Calls Tryd.prog 5 #[.string a0, .string a1, .string a2] w fun e w' => e = .returned (.bool r) ∧ Below w.heap.size w w' := by
 have HB := Aside0.mk (Below.refl w.heap.size w)
 have H : (if (a0.size : Int) > 200 then (styluslaw52_MergeSides.j0 k a0 a1 a2 true) else (if (a1.size : Int) > 200 then (styluslaw52_MergeSides.j0 k a0 a1 a2 true) else (styluslaw52_MergeSides.j0 k a0 a1 a2 (decide ((a2.size : Int) > 200))))) = some r := h
 clear h
 have HC4 := Aside0.mk H
 clear H
 go_enter Tryd.func5, Tryd.ntmps5
 go_upto_region 1 with (fail)
 go_cut [29] (fun v29 wc => ∃ (kq : Nat) (x29_3 : Bool), v29 = .bool x29_3 ∧ Aside0 (styluslaw52_MergeSides.j0 kq a0 a1 a2 x29_3 = some r) ∧ Aside0 (kq ≤ k) ∧ Aside0 (Below w.heap.size w wc))
 case first =>
  have H := HC4.out
  clear HC4
  by_cases c5 : (a0.size : Int) > 200
  ·rw [if_pos c5] at H
   have c5b0 : decide (200 < (a0.size : Int)) = true := decide_eq_true c5
   have c5b1 : decide (200 < a0.size) = true := decide_eq_true (by omega)
   clear c5
   (first | rw [c5b0] | (simp only [i64_w, i32_w]; rw [c5b0]) | skip)
   have H' := Aside0.mk H
   clear H
   go_wp2
   go_meet
   case rel => exact ⟨_, (true), (by first | rfl | (simp; done) | (simp [*]; done)), H', ⟨by first | omega | exact Nat.le_refl _⟩, ⟨by repeat (first | (with_reducible first | exact HB.out | apply below_alloc | apply pw_below_drewN | apply below_drew1) | exact HB.out)⟩⟩
  ·rw [if_neg c5] at H
   have c5b0 : decide (200 < (a0.size : Int)) = false := decide_eq_false c5
   have c5b1 : decide (200 < a0.size) = false := decide_eq_false (by omega)
   clear c5
   (first | rw [c5b0] | (simp only [i64_w, i32_w]; rw [c5b0]) | skip)
   by_cases c6 : (a1.size : Int) > 200
   ·rw [if_pos c6] at H
    have c6b0 : decide (200 < (a1.size : Int)) = true := decide_eq_true c6
    have c6b1 : decide (200 < a1.size) = true := decide_eq_true (by omega)
    clear c6
    have H' := Aside0.mk H
    clear H
    go_wp2
    go_meet
    case rel => exact ⟨_, (true), (by first | rfl | (simp; done) | (simp [*]; done)), H', ⟨by first | omega | exact Nat.le_refl _⟩, ⟨by repeat (first | (with_reducible first | exact HB.out | apply below_alloc | apply pw_below_drewN | apply below_drew1) | exact HB.out)⟩⟩
   ·rw [if_neg c6] at H
    have c6b0 : decide (200 < (a1.size : Int)) = false := decide_eq_false c6
    have c6b1 : decide (200 < a1.size) = false := decide_eq_false (by omega)
    clear c6
    have H' := Aside0.mk H
    clear H
    go_wp2
    go_meet
    case rel => exact ⟨_, (decide ((a2.size : Int) > 200)), (by first | rfl | (simp; done) | (simp [*]; done)), H', ⟨by first | omega | exact Nat.le_refl _⟩, ⟨by repeat (first | (with_reducible first | exact HB.out | apply below_alloc | apply pw_below_drewN | apply below_drew1) | exact HB.out)⟩⟩
 case rest =>
  clear HC4
  try clear p2
  try clear c5
  try clear c5b0
  try clear c5b1
  try clear c6
  try clear c6b0
  try clear c6b1
  obtain ⟨kq, x29_3, rfl, HA, HJ3, HB⟩ := hcut
  cases kq with
  | zero => exact absurd HA.out (by simp [styluslaw52_MergeSides.j0])
  | succ kj3 =>
   have H := HA.out
   clear HA
   simp only [styluslaw52_MergeSides.j0] at H
   by_cases c7 : x29_3 = true
   ·subst c7
    have H1 : ((styluslaw52_lives.f).bind fun t254 => (some t254)) = some r := by rw [if_pos rfl] at H; exact H
    clear H
    have H := H1
    clear H1
    replace H := Option.bind_eq_some_iff.mp H
    obtain ⟨t254, A80, H⟩ := H
    replace H : (some t254) = some r := H
    have A8 := Aside0.mk A80
    clear A80
    obtain rfl := Option.some.inj H
    go_wp2_with (first | ((with_reducible refine gate_callee (f := 7) rfl ?_); refine goesL_ (some 30) rfl rfl Tryd.func7 (by kernel_rfl) rfl #[] rfl (by (try simp only [List.map_toArray, List.map_cons, List.map_nil]); first | done | rfl | (simp only [List.length_drop, List.length_take]; rfl)) ?_; (with_reducible refine (styluslaw52_lives.calls  t254 _ A8.out).mono ?_); rintro e w9 ⟨rfl, hb⟩; refine ⟨_, rfl, ?_⟩; have n0_ := Aside0.mk (below_step (by repeat (first | (with_reducible first | exact HB.out | apply below_alloc | apply pw_below_drewN | apply below_drew1) | exact HB.out)) hb); clear HB; have HB := n0_; clear n0_; (try clear hb); (try clear hb2); (try clear hk); (try clear hi)))
    go_ret
    exact ⟨by first | rfl | (simp [errW_none, errW_some] <;> rfl) | (simp [*, errW_none, errW_some] <;> rfl), by repeat (first | (with_reducible first | exact HB.out | apply below_alloc | apply pw_below_drewN | apply below_drew1) | exact HB.out)⟩
   ·replace c7 := Bool.eq_false_iff.mpr c7
    subst c7
    have H1 : ((merge_Merge.f kj3 a0 a0 a1).bind fun bt255 => ((merge_Merge.f kj3 a0 a1 a0).bind fun bt257 => ((merge_Merge.f kj3 a0 a1 a1).bind fun bt259 => ((merge_Merge.f kj3 a0 a1 a2).bind fun bt261 => ((merge_Merge.f kj3 a0 a2 a1).bind fun bt263 => (if bt255.1.toList = a1.toList then (if bt257.1.toList = a1.toList then (if bt259.1.toList = a1.toList then (if (wrap64 ((wrap64 (bt255.2 + bt257.2)) + bt259.2)) = 0 then (if bt261.2 = bt263.2 then ((styluslaw52_lives.f).bind fun t265 => (some t265)) else (none)) else (none)) else (none)) else (none)) else (none))))))) = some r := by rw [if_neg (show ¬ (false = true) by decide)] at H; exact H
    clear H
    have H := H1
    clear H1
    replace H := Option.bind_eq_some_iff.mp H
    obtain ⟨⟨t255, t256⟩, A100, H⟩ := H
    replace H : ((merge_Merge.f kj3 a0 a1 a0).bind fun bt257 => ((merge_Merge.f kj3 a0 a1 a1).bind fun bt259 => ((merge_Merge.f kj3 a0 a1 a2).bind fun bt261 => ((merge_Merge.f kj3 a0 a2 a1).bind fun bt263 => (if t255.toList = a1.toList then (if bt257.1.toList = a1.toList then (if bt259.1.toList = a1.toList then (if (wrap64 ((wrap64 (t256 + bt257.2)) + bt259.2)) = 0 then (if bt261.2 = bt263.2 then ((styluslaw52_lives.f).bind fun t265 => (some t265)) else (none)) else (none)) else (none)) else (none)) else (none)))))) = some r := H
    have A10 := Aside0.mk A100
    clear A100
    replace H := Option.bind_eq_some_iff.mp H
    obtain ⟨⟨t257, t258⟩, A110, H⟩ := H
    replace H : ((merge_Merge.f kj3 a0 a1 a1).bind fun bt259 => ((merge_Merge.f kj3 a0 a1 a2).bind fun bt261 => ((merge_Merge.f kj3 a0 a2 a1).bind fun bt263 => (if t255.toList = a1.toList then (if t257.toList = a1.toList then (if bt259.1.toList = a1.toList then (if (wrap64 ((wrap64 (t256 + t258)) + bt259.2)) = 0 then (if bt261.2 = bt263.2 then ((styluslaw52_lives.f).bind fun t265 => (some t265)) else (none)) else (none)) else (none)) else (none)) else (none))))) = some r := H
    have A11 := Aside0.mk A110
    clear A110
    replace H := Option.bind_eq_some_iff.mp H
    obtain ⟨⟨t259, t260⟩, A120, H⟩ := H
    replace H : ((merge_Merge.f kj3 a0 a1 a2).bind fun bt261 => ((merge_Merge.f kj3 a0 a2 a1).bind fun bt263 => (if t255.toList = a1.toList then (if t257.toList = a1.toList then (if t259.toList = a1.toList then (if (wrap64 ((wrap64 (t256 + t258)) + t260)) = 0 then (if bt261.2 = bt263.2 then ((styluslaw52_lives.f).bind fun t265 => (some t265)) else (none)) else (none)) else (none)) else (none)) else (none)))) = some r := H
    have A12 := Aside0.mk A120
    clear A120
    replace H := Option.bind_eq_some_iff.mp H
    obtain ⟨⟨t261, t262⟩, A130, H⟩ := H
    replace H : ((merge_Merge.f kj3 a0 a2 a1).bind fun bt263 => (if t255.toList = a1.toList then (if t257.toList = a1.toList then (if t259.toList = a1.toList then (if (wrap64 ((wrap64 (t256 + t258)) + t260)) = 0 then (if t262 = bt263.2 then ((styluslaw52_lives.f).bind fun t265 => (some t265)) else (none)) else (none)) else (none)) else (none)) else (none))) = some r := H
    have A13 := Aside0.mk A130
    clear A130
    replace H := Option.bind_eq_some_iff.mp H
    obtain ⟨⟨t263, t264⟩, A140, H⟩ := H
    replace H : (if t255.toList = a1.toList then (if t257.toList = a1.toList then (if t259.toList = a1.toList then (if (wrap64 ((wrap64 (t256 + t258)) + t260)) = 0 then (if t262 = t264 then ((styluslaw52_lives.f).bind fun t265 => (some t265)) else (none)) else (none)) else (none)) else (none)) else (none)) = some r := H
    have A14 := Aside0.mk A140
    clear A140
    by_cases c15 : t255.toList = a1.toList
    ·rw [if_pos c15] at H
     have c15b0 : (t255.toList == a1.toList) = true := beq_iff_eq.mpr c15
     have c15b1 : (t255.toList != a1.toList) = false := bne_eq_false_iff_eq.mpr c15
     clear c15
     by_cases c16 : t257.toList = a1.toList
     ·rw [if_pos c16] at H
      have c16b0 : (t257.toList == a1.toList) = true := beq_iff_eq.mpr c16
      have c16b1 : (t257.toList != a1.toList) = false := bne_eq_false_iff_eq.mpr c16
      clear c16
      by_cases c17 : t259.toList = a1.toList
      ·rw [if_pos c17] at H
       have c17b0 : (t259.toList == a1.toList) = true := beq_iff_eq.mpr c17
       have c17b1 : (t259.toList != a1.toList) = false := bne_eq_false_iff_eq.mpr c17
       clear c17
       by_cases c18 : (wrap64 ((wrap64 (t256 + t258)) + t260)) = 0
       ·rw [if_pos c18] at H
        have c18b0 : ((wrap64 ((wrap64 (t256 + t258)) + t260)) == 0) = true := beq_iff_eq.mpr c18
        have c18b1 : ((wrap64 ((wrap64 (t256 + t258)) + t260)) != 0) = false := bne_eq_false_iff_eq.mpr c18
        clear c18
        by_cases c19 : t262 = t264
        ·rw [if_pos c19] at H
         have c19b0 : (t262 == t264) = true := beq_iff_eq.mpr c19
         have c19b1 : (t262 != t264) = false := bne_eq_false_iff_eq.mpr c19
         clear c19
         replace H := Option.bind_eq_some_iff.mp H
         obtain ⟨t265, A200, H⟩ := H
         replace H : (some t265) = some r := H
         have A20 := Aside0.mk A200
         clear A200
         obtain rfl := Option.some.inj H
         go_wp2_with (first | ((with_reducible refine gate_callee (f := 11) rfl ?_); refine goesL_ (some 35) rfl rfl Tryd.func11 (by kernel_rfl) rfl #[.string a0, .string a0, .string a1] rfl (by (try simp only [List.map_toArray, List.map_cons, List.map_nil]); first | done | rfl | (simp only [List.length_drop, List.length_take]; rfl)) ?_; (with_reducible refine (merge_Merge.calls kj3 a0 a0 a1 t255 t256 _ A10.out).mono ?_); rintro e w21 ⟨rfl, hb⟩; refine ⟨_, rfl, ?_⟩; have n0_ := Aside0.mk (below_step (by repeat (first | (with_reducible first | exact HB.out | apply below_alloc | apply pw_below_drewN | apply below_drew1) | exact HB.out)) hb); clear HB; have HB := n0_; clear n0_; (try clear hb); (try clear hb2); (try clear hk); (try clear hi)) | ((with_reducible refine gate_callee (f := 11) rfl ?_); refine goesL_ (some 42) rfl rfl Tryd.func11 (by kernel_rfl) rfl #[.string a0, .string a1, .string a0] rfl (by (try simp only [List.map_toArray, List.map_cons, List.map_nil]); first | done | rfl | (simp only [List.length_drop, List.length_take]; rfl)) ?_; (with_reducible refine (merge_Merge.calls kj3 a0 a1 a0 t257 t258 _ A11.out).mono ?_); rintro e w22 ⟨rfl, hb⟩; refine ⟨_, rfl, ?_⟩; have n0_ := Aside0.mk (below_step (by repeat (first | (with_reducible first | exact HB.out | apply below_alloc | apply pw_below_drewN | apply below_drew1) | exact HB.out)) hb); clear HB; have HB := n0_; clear n0_; (try clear hb); (try clear hb2); (try clear hk); (try clear hi)) | ((with_reducible refine gate_callee (f := 11) rfl ?_); refine goesL_ (some 49) rfl rfl Tryd.func11 (by kernel_rfl) rfl #[.string a0, .string a1, .string a1] rfl (by (try simp only [List.map_toArray, List.map_cons, List.map_nil]); first | done | rfl | (simp only [List.length_drop, List.length_take]; rfl)) ?_; (with_reducible refine (merge_Merge.calls kj3 a0 a1 a1 t259 t260 _ A12.out).mono ?_); rintro e w23 ⟨rfl, hb⟩; refine ⟨_, rfl, ?_⟩; have n0_ := Aside0.mk (below_step (by repeat (first | (with_reducible first | exact HB.out | apply below_alloc | apply pw_below_drewN | apply below_drew1) | exact HB.out)) hb); clear HB; have HB := n0_; clear n0_; (try clear hb); (try clear hb2); (try clear hk); (try clear hi)) | ((with_reducible refine gate_callee (f := 11) rfl ?_); refine goesL_ (some 56) rfl rfl Tryd.func11 (by kernel_rfl) rfl #[.string a0, .string a1, .string a2] rfl (by (try simp only [List.map_toArray, List.map_cons, List.map_nil]); first | done | rfl | (simp only [List.length_drop, List.length_take]; rfl)) ?_; (with_reducible refine (merge_Merge.calls kj3 a0 a1 a2 t261 t262 _ A13.out).mono ?_); rintro e w24 ⟨rfl, hb⟩; refine ⟨_, rfl, ?_⟩; have n0_ := Aside0.mk (below_step (by repeat (first | (with_reducible first | exact HB.out | apply below_alloc | apply pw_below_drewN | apply below_drew1) | exact HB.out)) hb); clear HB; have HB := n0_; clear n0_; (try clear hb); (try clear hb2); (try clear hk); (try clear hi)) | ((with_reducible refine gate_callee (f := 11) rfl ?_); refine goesL_ (some 63) rfl rfl Tryd.func11 (by kernel_rfl) rfl #[.string a0, .string a2, .string a1] rfl (by (try simp only [List.map_toArray, List.map_cons, List.map_nil]); first | done | rfl | (simp only [List.length_drop, List.length_take]; rfl)) ?_; (with_reducible refine (merge_Merge.calls kj3 a0 a2 a1 t263 t264 _ A14.out).mono ?_); rintro e w25 ⟨rfl, hb⟩; refine ⟨_, rfl, ?_⟩; have n0_ := Aside0.mk (below_step (by repeat (first | (with_reducible first | exact HB.out | apply below_alloc | apply pw_below_drewN | apply below_drew1) | exact HB.out)) hb); clear HB; have HB := n0_; clear n0_; (try clear hb); (try clear hb2); (try clear hk); (try clear hi)) | (go_at_call 7; (with_reducible refine (styluslaw52_lives.calls  t265 _ A20.out).mono ?_); rintro e w26 ⟨rfl, hb⟩; have n0_ := Aside0.mk (below_step (by repeat (first | (with_reducible first | exact HB.out | apply below_alloc | apply pw_below_drewN | apply below_drew1) | exact HB.out)) hb); clear HB; have HB := n0_; clear n0_; (try clear hb); (try clear hb2); (try clear hk); (try clear hi)))
         go_ret
         exact ⟨by first | rfl | (simp [errW_none, errW_some] <;> rfl) | (simp [*, errW_none, errW_some] <;> rfl), by repeat (first | (with_reducible first | exact HB.out | apply below_alloc | apply pw_below_drewN | apply below_drew1) | exact HB.out)⟩
        ·rw [if_neg c19] at H
         exact absurd H (by simp)
       ·rw [if_neg c18] at H
        exact absurd H (by simp)
      ·rw [if_neg c17] at H
       exact absurd H (by simp)
     ·rw [if_neg c16] at H
      exact absurd H (by simp)
    ·rw [if_neg c15] at H
     exact absurd H (by simp)
/-- THE ONE PURE STATEMENT of styluslaw52_MergeSides: yours. -/
def styluslaw52_MergeSides.Pure : Prop := ∀ (a0 : ByteArray) (a1 : ByteArray) (a2 : ByteArray), a0.size ≤ 140737488351232 → a1.size ≤ 140737488351232 → a2.size ≤ 140737488351232 → ∃ k, styluslaw52_MergeSides.f k a0 a1 a2 = some true
theorem styluslaw52_MergeSides.walk (P : styluslaw52_MergeSides.Pure) (a0 : ByteArray) (a1 : ByteArray) (a2 : ByteArray) (w : World) (w0 : a0.size ≤ 140737488351232) (w1 : a1.size ≤ 140737488351232) (w2 : a2.size ≤ 140737488351232) :
  Calls Tryd.prog 5 #[.string a0, .string a1, .string a2] w fun e w' => e = .returned (.bool true) ∧ Below w.heap.size w w' := by
 obtain ⟨k, h⟩ := P a0 a1 a2 w0 w1 w2
 refine (styluslaw52_MergeSides.calls k a0 a1 a2 true w h).mono ?_
 rintro e w' ⟨rfl, hd⟩
 exact ⟨rfl, hd⟩
end Go.Proofs.YtkbhnkagiaghnaaDoor.P
